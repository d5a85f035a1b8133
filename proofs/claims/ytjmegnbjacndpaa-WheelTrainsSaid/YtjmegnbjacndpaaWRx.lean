/-
  The reference's train that is just a wish: its walk.
-/
import Derived.Test.YtjmegnbjacndpaaWRn
import Derived.Test.YtjmegnbjacndpaaWLx
namespace Go.Proofs.Ytjmegnbjacndpaa
open Go.RowKit Go.Maps
set_option linter.unusedVariables false
set_option linter.unusedSimpArgs false

set_option maxRecDepth 100000 in
set_option maxHeartbeats 2000000 in
theorem rExact_any (A : Option Addr) (n c : Nat) (ts : List Int) (hn : n ≤ 20) (p q : Int) (w : World) (hT : Reads w w.heap.size 1 A n (ints ts)) :
    Calls Try.prog 9 #[.agg #[.slice A n c], .agg #[.int .i64 p, .int .i64 q]] w (ExP n ts p q w) := by
  have hl : ts.length = n := by have := hT.len; simpa [ints] using this
  obtain ⟨wb, hwb_⟩ : ∃ y, y = (w.alloc (.cells #[.slice A n c] 24)).alloc (.cells #[.int .i64 p, .int .i64 q] 26) := ⟨_, rfl⟩
  have hB : Below w.heap.size w wb := by rw [hwb_]; exact ((Below.refl _ _).alloc (Nat.le_refl _) _).alloc (by simp) _
  have HN := Lib.hid (rNearest_any A n c ts hn p q 3 wb ((hT.below hB).more hB.size))
  have HB := Lib.hid hB
  have hwb := Lib.hid hwb_
  have hEL : Hid (exL n ts p q = (if neE n ts p q 3 = 0 then if (neF (neB n ts p q 3)).1 = 0 then neL (neB n ts p q 3) else [] else []) ∧ exE n ts p q = (if neE n ts p q 3 = 0 then if (neF (neB n ts p q 3)).1 = 0 then 0 else 6 else neE n ts p q 3)) := by
    show _ ∧ _
    unfold exL exE neE neB
    by_cases hok : okW n ts = true
    · rw [if_pos hok, if_pos hok, if_pos hok, if_pos hok]
      by_cases hwi : wishB p q = true
      · have hpq : (1 ≤ p ∧ p ≤ 1000) ∧ 1 ≤ q ∧ q ≤ 1000 := by unfold wishB inB at hwi; simp at hwi; omega
        have hin : (wishB p q && inB 1 3 [(3 : Int)]) = true := by rw [hwi]; rfl
        rw [if_pos hwi, if_pos hwi, if_pos hin, if_pos hin]
        have hx := exact_law hl hok hpq.1 hpq.2
        show (exF n ts p q).getD [] = _ ∧ _
        rw [show (3 : Int).toNat = 3 from rfl, ← hx]
        cases hb : bestS n ts p q 3 [] with
        | none => exact ⟨rfl, rfl⟩
        | some y =>
          by_cases h0 : y.2.1 = 0
          · simp [zeroF, neF, neL, h0]
          · simp [zeroF, neF, neL, h0]
      · have hin : ¬ (wishB p q && inB 1 3 [(3 : Int)]) = true := by simp [hwi]
        rw [if_neg hwi, if_neg hwi, if_neg hin, if_neg hin]
        exact ⟨rfl, rfl⟩
    · rw [if_neg hok, if_neg hok, if_neg hok, if_neg hok]
      exact ⟨rfl, rfl⟩
  clear hT hB hwb_
  go_enter Try.func9, Try.ntmps9
  go_wp2_with fail
  rw [← hwb.out]
  refine HN.out.mono ?_
  rintro e w1 ⟨⟨A1, m, c1, rfl, hm, hR⟩, hb1⟩
  have hB1 := Lib.hid (below_via HB.out HB.out.size hb1)
  have HR := Lib.hid hR
  clear hR hb1 HN hwb HB
  generalize neE n ts p q 3 = E at *
  generalize neF (neB n ts p q 3) = F at *
  generalize neL (neB n ts p q 3) = LL at *
  obtain ⟨x1, x2⟩ := F
  simp only at hEL
  by_cases hE0 : E = 0
  · subst hE0
    have hBx := Lib.hid (hB1.out.alloc hB1.out.size (.cells #[.int .i64 x1, .int .i64 x2] 26))
    have HRx := Lib.hid ((HR.out.below ((Below.refl w1.heap.size w1).alloc (Nat.le_refl _) (.cells #[.int .i64 x1, .int .i64 x2] 26))).more ((Below.refl w1.heap.size w1).alloc (Nat.le_refl _) (.cells #[.int .i64 x1, .int .i64 x2] 26)).size)
    by_cases hx0 : x1 = 0
    · subst hx0
      have hr : Hid (exL n ts p q = LL ∧ exE n ts p q = 0) := Lib.hid (by have := hEL.out; simpa using this)
      clear hEL
      go_wp2
      refine bodyPost_ret (v := .tuple #[.slice A1 m c1, .int .i64 0]) (by simp [results, Try.results9, go_sem]) rfl ?_
      exact ⟨⟨A1, m, c1, by rw [hr.out.2], hm, by rw [hr.out.1]; exact HRx.out⟩, hBx.out⟩
    · have hr : Hid (exL n ts p q = [] ∧ exE n ts p q = 6) := Lib.hid (by have := hEL.out; simpa [hx0] using this)
      have hxb : (x1 == 0) = false := by simpa using hx0
      clear hEL
      go_wp2
      refine bodyPost_ret (v := .tuple #[.slice none 0 0, .int .i64 6]) (by simp [results, Try.results9, go_sem]) rfl ?_
      exact ⟨⟨none, 0, 0, by rw [hr.out.2], by omega, by rw [hr.out.1]; exact ⟨rfl, fun h => absurd h (by omega)⟩⟩, hBx.out⟩
  · have hBx := Lib.hid (hB1.out.alloc hB1.out.size (.cells #[.int .i64 x1, .int .i64 x2] 26))
    have hr : Hid (exL n ts p q = [] ∧ exE n ts p q = E) := Lib.hid (by have := hEL.out; simpa [hE0] using this)
    have hEb : (E == 0) = false := by simpa using hE0
    clear hEL
    go_wp2
    refine bodyPost_ret (v := .tuple #[.slice none 0 0, .int .i64 E]) (by simp [results, Try.results9, go_sem]) rfl ?_
    exact ⟨⟨none, 0, 0, by rw [hr.out.2], by omega, by rw [hr.out.1]; exact ⟨rfl, fun h => absurd h (by omega)⟩⟩, hBx.out⟩
end Go.Proofs.Ytjmegnbjacndpaa
