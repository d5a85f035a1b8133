/-
  The plain mathematics of wheels' teeth: greatest common divisors, when teeth meet again, and which teeth one strikes. No program in sight.
-/
import Derived.Below
namespace Go.Proofs.Ytjmegnbjacndpaa.Teeth
end Go.Proofs.Ytjmegnbjacndpaa.Teeth
