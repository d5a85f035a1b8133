/-
  The reference: whether all pairs hunt.
-/
import Derived.Test.YtjmegnbjacndpaaRefT
namespace Go.Proofs.Ytjmegnbjacndpaa
open Go.RowKit Go.Maps
end Go.Proofs.Ytjmegnbjacndpaa
