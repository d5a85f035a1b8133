/-
  Whether all pairs of a train hunt.
-/
import Derived.Test.YtjmegnbjacndpaaTop
namespace Go.Proofs.Ytjmegnbjacndpaa
open Go.RowKit Go.Maps
end Go.Proofs.Ytjmegnbjacndpaa
