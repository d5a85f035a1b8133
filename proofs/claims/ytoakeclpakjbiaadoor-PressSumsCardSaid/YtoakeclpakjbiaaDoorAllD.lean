/-
  What all of a kind can be, and its error: what the program's side and the reference's share.
-/
import Derived.Test.YtoakeclpakjbiaaDoorCut
import Derived.Test.YtoakeclpakjbiaaDoorRTr
import Derived.Test.YtoakeclpakjbiaaDoorLead
namespace Go.Proofs.YtoakeclpakjbiaaDoor
open Go.RowKit
set_option linter.unusedVariables false
set_option linter.unusedSimpArgs false
theorem hasHolds {ps : List PR} {ws : List WE} (h : ValidF ps ws) (ht : hasT ps ws = true) : Holds ps.length (rowsT ps ws) (upP (toT ps) (rowsT ps ws)) := by
  unfold hasT at ht
  rw [holdsB_P, holdsP_iff (fun i hi => by have := rows_zero h i ws.length; rw [List.take_length] at this; rw [this]; simp [Ne])] at ht
  exact ht
/-- The error of a press, and of a kind that is asked of all. -/
def allE (ps : List PR) (ws : List WE) (k : Int) : Int := if validP ps ws then if rng 1 5 k then if hasT ps ws then 0 else 8 else 2 else 20
theorem allE_ok {ps : List PR} {ws : List WE} {k : Int} (h : allE ps ws k = 0) : validP ps ws = true ∧ 1 ≤ k ∧ k ≤ 5 ∧ hasT ps ws = true := by
  unfold allE at h
  cases hv : validP ps ws with
  | false => rw [hv] at h; simp at h
  | true =>
    rw [hv, if_pos rfl] at h
    cases hk : rng 1 5 k with
    | false => rw [hk] at h; simp at h
    | true =>
      rw [hk, if_pos rfl] at h
      cases ht : hasT ps ws with
      | false => rw [ht] at h; simp at h
      | true => exact ⟨rfl, (rng_iff hk).1, (rng_iff hk).2, rfl⟩
/-- What all of a kind can be. -/
def allS (ps : List PR) (ws : List WE) (k : Int) : Sp := if allE ps ws k = 0 then (-(grt (toT ps) (rowsT ps ws) k.toNat (-1) ps.length), grt (toT ps) (rowsT ps ws) k.toNat 1 ps.length) else (0, 0)
/-- The copy of the argument, and the first result. -/
structure PA (w : World) (A A' : Option Addr) (n c n' c' : Nat) (z : World) : Prop where
  b0 : z.heap[w.heap.size]? = some (.cells #[.slice A n c, .slice A' n' c'] 25 (0, 0))
  b1 : z.heap[w.heap.size + 1]? = some (.cells #[.int .i64 0, .int .i64 0] 44 (0, 0))
  bel : Below w.heap.size w z
section
variable {w z y : World} {A A' : Option Addr} {n c n' c' : Nat}
theorem PA.size (h : PA w A A' n c n' c' z) : w.heap.size + 2 ≤ z.heap.size := (Array.getElem?_eq_some_iff.1 h.b1).1
theorem PA.below (h : PA w A A' n c n' c' z) (hb : Below z.heap.size z y) : PA w A A' n c n' c' y :=
  ⟨keepO hb h.b0, keepO hb h.b1, below_via h.bel (by have := h.size; omega) hb⟩
theorem PA.cells (h : PA w A A' n c n' c' z) : z.cell? ⟨w.heap.size, 0, none⟩ = some (.slice A n c) ∧ z.cell? ⟨w.heap.size, 1, none⟩ = some (.slice A' n' c') := by
  obtain ⟨a, b, -, -⟩ := two_facts h.b0
  exact ⟨a, b⟩
theorem PA.start (w : World) (A A' : Option Addr) (n c n' c' : Nat) : PA w A A' n c n' c' ((w.alloc (.cells #[.slice A n c, .slice A' n' c'] 25)).alloc (.cells #[.int .i64 0, .int .i64 0] 44)) := by
  have h1 := heap_alloc_new (w.alloc (.cells #[.slice A n c, .slice A' n' c'] 25)) (.cells #[.int .i64 0, .int .i64 0] 44)
  simp only [World.size_alloc] at h1
  refine ⟨?_, h1, ((Below.refl _ _).alloc (Nat.le_refl _) _).alloc (by simp) _⟩
  rw [heap_lt_alloc' _ _ _ (by simp)]; exact heap_alloc_new w _
end
theorem rows_In1 {ps : List PR} {ws : List WE} (h : ValidF ps ws) (i : Nat) : In1 (rowsT ps ws i) := fun k _ => by
  have := h.inr ws.length i k
  rw [List.take_length] at this
  exact this
end Go.Proofs.YtoakeclpakjbiaaDoor
