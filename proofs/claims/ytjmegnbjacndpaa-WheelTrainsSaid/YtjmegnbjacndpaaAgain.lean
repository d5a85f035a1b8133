/-
  After how many turns a train stands as at first.
-/
import Derived.Test.YtjmegnbjacndpaaHunts
namespace Go.Proofs.Ytjmegnbjacndpaa
open Go.RowKit Go.Maps
section
variable {w x y : World} {A : Option Addr} {n c : Nat} {r s : Int}
end
end Go.Proofs.Ytjmegnbjacndpaa
