/-
  The walk of a press in which parings go elsewhere.
-/
import Derived.Test.YtoakeclpakjbiaaDoorPRec
import Derived.Test.YtoakeclpakjbiaaDoorRowOf
import Derived.Lib.SliceRun
import Derived.Test.YtoakeclpakjbiaaDoorApp0
import Derived.Test.YtoakeclpakjbiaaDoorTk
import Derived.Test.YtoakeclpakjbiaaDoorPPress
namespace Go.Proofs.YtoakeclpakjbiaaDoor
open Go.RowKit
set_option linter.unusedVariables false
set_option linter.unusedSimpArgs false
end Go.Proofs.YtoakeclpakjbiaaDoor

namespace Go.Proofs.YtoakeclpakjbiaaDoor
open Go.RowKit
set_option linter.unusedVariables false
set_option linter.unusedSimpArgs false
section
variable {w : World} {gb cap n : Nat} {ty : TypeId} {F : Nat → WE}
end
/-- Those that are kept of the first ones stand ahead, those that were not looked at where they stood. -/
structure Kept (p : WE → Bool) (ws : List WE) (i j : Nat) (F : Nat → WE) : Prop where
  len : ((ws.take j).filter fun x => !p x).length = i
  ahead : ∀ k x, ((ws.take j).filter fun x => !p x)[k]? = some x → F k = x
  behind : ∀ k x, j ≤ k → ws[k]? = some x → F k = x
  lt : i < j
section
variable {p : WE → Bool} {ws : List WE} {i j : Nat} {F : Nat → WE} {x : WE}
theorem Kept.skip (h : Kept p ws i j F) (hx : ws[j]? = some x) (hp : p x = true) : Kept p ws i (j + 1) F := by
  have e : (ws.take (j + 1)).filter (fun x => !p x) = (ws.take j).filter fun x => !p x := by
    rw [List.take_add_one, hx, List.filter_append]; simp [hp]
  have := h.lt
  exact ⟨by rw [e]; exact h.len, fun k y hy => h.ahead k y (by rw [← e]; exact hy), fun k y hk => h.behind k y (by omega), by omega⟩
theorem Kept.keep (h : Kept p ws i j F) (hx : ws[j]? = some x) (hp : p x = false) : Kept p ws (i + 1) (j + 1) (fun k => if k = i then x else F k) := by
  have e : (ws.take (j + 1)).filter (fun x => !p x) = ((ws.take j).filter fun x => !p x) ++ [x] := by
    rw [List.take_add_one, hx, List.filter_append]; simp [hp]
  have hl := h.lt
  have hlen := h.len
  refine ⟨by rw [e]; simp [hlen], fun k y hy => ?_, fun k y hk hy => ?_, by omega⟩
  · rw [e] at hy
    by_cases hki : k = i
    · subst hki
      rw [List.getElem?_append_right (by omega), hlen] at hy
      simp at hy
      simp [hy]
    · have hk : k < ((ws.take j).filter fun x => !p x).length := by
        have := (List.getElem?_eq_some_iff.1 hy).1
        simp at this; omega
      rw [List.getElem?_append_left hk] at hy
      simp only [hki, if_false]
      exact h.ahead k y hy
  · have : k ≠ i := by omega
    simp only [this, if_false]
    exact h.behind k y (by omega) hy
theorem Kept.start {k0 : Nat} (hno : ∀ j y, j < k0 → ws[j]? = some y → p y = false) (hx : ws[k0]? = some x) (hp : p x = true) (hF : ∀ k y, ws[k]? = some y → F k = y) : Kept p ws k0 (k0 + 1) F := by
  have hk := (List.getElem?_eq_some_iff.1 hx).1
  have e0 : (ws.take k0).filter (fun x => !p x) = ws.take k0 := by
    rw [List.filter_eq_self]
    intro y hy
    obtain ⟨j, hj⟩ := List.getElem?_of_mem hy
    have hjk : j < k0 := by have := (List.getElem?_eq_some_iff.1 hj).1; simp at this; omega
    rw [List.getElem?_take_of_lt hjk] at hj
    simp [hno j y hjk hj]
  have e : (ws.take (k0 + 1)).filter (fun x => !p x) = ws.take k0 := by
    rw [List.take_add_one, hx, List.filter_append, e0]; simp [hp]
  refine ⟨by rw [e]; simp; omega, fun k y hy => ?_, fun k y hk hy => hF k y hy, by omega⟩
  rw [e] at hy
  have hjk : k < k0 := by have := (List.getElem?_eq_some_iff.1 hy).1; simp at this; omega
  rw [List.getElem?_take_of_lt hjk] at hy
  exact hF k y hy
end
end Go.Proofs.YtoakeclpakjbiaaDoor

namespace Go.Proofs.YtoakeclpakjbiaaDoor
open Go.RowKit
set_option linter.unusedVariables false
theorem pgs_one (l : List PR) : ∀ u ∈ pgs l, u.oneCell' = true := by
  intro u hu
  simp only [pgs, List.mem_flatMap] at hu
  obtain ⟨a, _, h⟩ := hu
  simp [pgc] at h
  rcases h with rfl | rfl | rfl | rfl <;> rfl
theorem wgs_one (l : List WE) : ∀ u ∈ wgs l, u.oneCell' = true := by
  intro u hu
  simp only [wgs, List.mem_flatMap] at hu
  obtain ⟨a, _, h⟩ := hu
  simp [wgc] at h
  rcases h with rfl | rfl | rfl | rfl | rfl <;> rfl
theorem info_int : (Tryd.prog.info? 3).map (fun i => (i.zero, i.size, i.bytes)) = some (some (.int .i64 0), 1, 8) := by kernel_rfl
theorem info_pg : (Tryd.prog.info? 87).map (fun i => (i.zero, i.size, i.bytes)) = some (some (.agg #[.int .i64 0, .int .i64 0, .int .i64 0, .int .i64 0]), 4, 32) := by kernel_rfl
theorem info_wg : (Tryd.prog.info? 76).map (fun i => (i.zero, i.size, i.bytes)) = some (some (.agg #[.int .i64 0, .int .i64 0, .int .i64 0, .int .i64 0, .int .i64 0]), 5, 40) := by kernel_rfl
end Go.Proofs.YtoakeclpakjbiaaDoor

namespace Go.Proofs.YtoakeclpakjbiaaDoor
open Go.RowKit
set_option linter.unusedVariables false
set_option linter.unusedSimpArgs false
theorem own_val {w : World} {base : Nat} {e : TypeId} {size n : Nat} {v : Value} {xs : List Value} (h : w.ownsRow base e size v n xs) : ∃ A c, v = .slice A n c := by
  rcases h.2 with ⟨rfl, rfl⟩ | ⟨g, cap, cur, rfl, _⟩
  · exact ⟨_, _, rfl⟩
  · exact ⟨_, _, rfl⟩
theorem own_below {w w' : World} {base : Nat} {e : TypeId} {size n : Nat} {v : Value} {xs : List Value} (h : w.ownsRow base e size v n xs) (hb : Below w.heap.size w w') : w'.ownsRow base e size v n xs := by
  refine ⟨h.1, ?_⟩
  rcases h.2 with h0 | ⟨g1, cap', cur, h1, h2, h3, h4⟩
  · exact .inl h0
  · exact .inr ⟨g1, cap', cur, h1, h2, (hb.block g1 (Array.getElem?_eq_some_iff.1 h3).1).trans h3, h4⟩
end Go.Proofs.YtoakeclpakjbiaaDoor

namespace Go.Proofs.YtoakeclpakjbiaaDoor
open Go.RowKit
set_option linter.unusedVariables false
set_option linter.unusedSimpArgs false
/-- A press of the call's own, and an error, are returned. -/
def Res (base : Nat) (R : (List PR × List WE) × Int) (e : Ending) (w' : World) : Prop := ∃ A1 n1 c1 A2 n2 c2, e = .returned (.tuple #[.agg #[.slice A1 n1 c1, .slice A2 n2 c2], .int .i64 R.2]) ∧
  w'.ownsRow base 87 4 (.slice A1 n1 c1) n1 (pgs R.1.1) ∧ w'.ownsRow base 76 5 (.slice A2 n2 c2) n2 (wgs R.1.2)
theorem Res.nil {base : Nat} {e : Int} {w' : World} {R : (List PR × List WE) × Int} (h : R = (([], []), e)) : Res base R (.returned (.tuple #[.agg #[.slice none 0 0, .slice none 0 0], .int .i64 e])) w' := by
  subst h
  exact ⟨none, 0, 0, none, 0, 0, rfl, World.ownsRow_nil _ _ _ _, World.ownsRow_nil _ _ _ _⟩
/-- What stands in each world behind the copies of the arguments. -/
structure PB (w wb : World) (A A' : Option Addr) (n c n' c' : Nat) (ps : List PR) (ws : List WE) (z : World) : Prop where
  b0 : z.heap[w.heap.size]? = some (.cells #[.slice A n c, .slice A' n' c'] 25 (0, 0))
  b1 : z.heap[w.heap.size + 1]? = some (.cells #[.slice none 0 0, .slice none 0 0] 25 (0, 0))
  bel : Below w.heap.size w z
  size : w.heap.size + 2 ≤ z.heap.size
  rp : Reads z z.heap.size 4 A n (pgs ps)
  rw_ : Reads z z.heap.size 5 A' n' (wgs ws)
  laid : Laid z
section
variable {w wb z y : World} {A A' : Option Addr} {n c n' c' : Nat} {ps : List PR} {ws : List WE}
theorem PB.below (h : PB w wb A A' n c n' c' ps ws z) (hb : Below z.heap.size z y) : PB w wb A A' n c n' c' ps ws y := by
  have hs := h.size
  have hs2 := hb.size
  exact ⟨keepO hb h.b0, keepO hb h.b1, below_via h.bel (by omega) hb, by omega, (h.rp.below hb).more hs2, (h.rw_.below hb).more hs2, h.laid.below hb h.laid.2.2.2⟩
theorem PB.start (hwb : wb = (w.alloc (.cells #[.slice A n c, .slice A' n' c'] 25)).alloc (.cells #[.slice none 0 0, .slice none 0 0] 25))
    (hR : Reads w w.heap.size 4 A n (pgs ps)) (hW : Reads w w.heap.size 5 A' n' (wgs ws)) (hL : Laid w) : PB w wb A A' n c n' c' ps ws wb := by
  have hb : Below w.heap.size w wb := by rw [hwb]; exact ((Below.refl _ _).alloc (Nat.le_refl _) _).alloc (by simp) _
  refine ⟨?_, ?_, hb, by rw [hwb]; simp, (hR.below hb).more hb.size, (hW.below hb).more hb.size, hL.below hb hL.2.2.2⟩
  · rw [hwb, heap_lt_alloc' _ _ _ (by simp)]; exact heap_alloc_new w _
  · rw [hwb]
    have := heap_alloc_new (w.alloc (.cells #[.slice A n c, .slice A' n' c'] 25)) (.cells #[.slice none 0 0, .slice none 0 0] 25)
    simpa using this
end
theorem set_back {y : World} {b : Nat} {t : TypeId} {v0 v1 : Value} (h : y.heap[b]? = some (.cells #[v0, v1] t (0, 0))) (u0 u1 : Value) :
    ((y.setCell ⟨b, 0, none⟩ u0).setCell ⟨b, 1, none⟩ u1).cell? ⟨b, 0, none⟩ = some u0 ∧ ((y.setCell ⟨b, 0, none⟩ u0).setCell ⟨b, 1, none⟩ u1).cell? ⟨b, 1, none⟩ = some u1 := by
  obtain ⟨h0, h1, -, -⟩ := two_facts (set_two y b t u0 u1 _ _ h)
  exact ⟨h0, h1⟩
theorem below_two {B : Nat} {a y : World} (h : Below B a y) {b : Nat} (hb : B ≤ b) (u0 u1 : Value) : Below B a ((y.setCell ⟨b, 0, none⟩ u0).setCell ⟨b, 1, none⟩ u1) := (h.setCell hb u0).setCell hb u1
section
variable {w : World} {gb cap n : Nat} {ty : TypeId} {F : Nat → PR}
end
end Go.Proofs.YtoakeclpakjbiaaDoor
