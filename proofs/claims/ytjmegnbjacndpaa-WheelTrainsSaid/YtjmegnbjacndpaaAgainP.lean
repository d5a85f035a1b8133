/-
  After how many turns a train stands as at first: the walk.
-/
import Derived.Test.YtjmegnbjacndpaaAgain
namespace Go.Proofs.Ytjmegnbjacndpaa
open Go.RowKit Go.Maps
end Go.Proofs.Ytjmegnbjacndpaa
