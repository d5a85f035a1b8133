/-
  The reference: after how many turns a train stands as at first: the walk.
-/
import Derived.Test.YtjmegnbjacndpaaRefA
namespace Go.Proofs.Ytjmegnbjacndpaa
open Go.RowKit Go.Maps
end Go.Proofs.Ytjmegnbjacndpaa
