/-
  The reference: after how many turns a train stands as at first.
-/
import Derived.Test.YtjmegnbjacndpaaRefS
namespace Go.Proofs.Ytjmegnbjacndpaa
open Go.RowKit Go.Maps
theorem Okay.take {n : Nat} {ts : List Int} {l : List (Int × Int)} (h : Okay n ts l) (k : Nat) : Okay n ts (l.take k) := by
  refine ⟨?_, h.teeth, fun i D V hi => h.one i D V ?_⟩
  · have := h.len; rw [List.length_take]; omega
  · rw [List.getElem?_take] at hi
    split at hi
    · exact hi
    · cases hi
end Go.Proofs.Ytjmegnbjacndpaa
