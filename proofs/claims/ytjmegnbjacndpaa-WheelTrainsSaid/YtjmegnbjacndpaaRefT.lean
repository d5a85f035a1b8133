/-
  The reference's ratio of a train, or the error.
-/
import Derived.Test.YtjmegnbjacndpaaRefR
namespace Go.Proofs.Ytjmegnbjacndpaa
open Go.RowKit Go.Maps
section
variable {w x y : World} {A : Option Addr} {n c : Nat}
end
end Go.Proofs.Ytjmegnbjacndpaa
