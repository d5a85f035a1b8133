/-
  The ratio of a train, or the error.
-/
import Derived.Test.YtjmegnbjacndpaaStarted
namespace Go.Proofs.Ytjmegnbjacndpaa
open Go.RowKit Go.Maps
theorem blk2 {w w1 : World} {o1 o2 : Obj} (hb : Below ((w.alloc o1).alloc o2).heap.size ((w.alloc o1).alloc o2) w1) : w1.heap[w.heap.size]? = some o1 ∧ w1.heap[w.heap.size + 1]? = some o2 := by
  refine ⟨(hb.block _ (by simp; omega)).trans ?_, (hb.block _ (by simp)).trans ?_⟩
  · rw [heap_lt_alloc _ _ _ (by simp)]; exact (MapKept.heap_alloc w _).1
  · simpa using (MapKept.heap_alloc (w.alloc o1) o2).1
end Go.Proofs.Ytjmegnbjacndpaa
