/-
  Wheels that are checked, and wheels at work.
-/
import Derived.Test.YtjmegnbjacndpaaRatioP
namespace Go.Proofs.Ytjmegnbjacndpaa
open Go.RowKit Go.Maps
/-- Whether wheels are valid. -/
def okW (n : Nat) (ts : List Int) : Bool := decide (n ≤ 8) && inB 6 120 ts
set_option maxRecDepth 100000 in
theorem check_ok (A : Option Addr) (n c : Nat) (ts : List Int) (hn : n ≤ 20) (w : World) (hT : Reads w w.heap.size 1 A n (ints ts)) (h : okW n ts = true) :
    Calls Try.prog 14 #[.agg #[.slice A n c]] w fun e w' => e = .returned (.int .i64 0) ∧ Below w.heap.size w w' := by
  unfold okW at h
  simp only [Bool.and_eq_true, decide_eq_true_eq] at h
  obtain ⟨h8, hi⟩ := h
  have H := Lib.hid (in_any 6 120 A n c ts (w.alloc (.cells #[.slice A n c] 24)) (by unfold maxLen; omega) ((hT.alloc (Nat.le_refl _) _).more (by simp)))
  rw [hi] at H
  have hB := Lib.hid ((Below.refl w.heap.size w).alloc (Nat.le_refl _) (.cells #[.slice A n c] 24))
  go_enter Try.func14, Try.ntmps14
  go_wp2_with fail
  refine H.out.mono ?_
  rintro e w1 ⟨rfl, hb1⟩
  go_wp2
  go_ret
  exact ⟨rfl, hB.out.trans (hb1.mono (by simp))⟩
set_option maxRecDepth 100000 in
theorem check_no (A : Option Addr) (n c : Nat) (ts : List Int) (hn : n ≤ 20) (w : World) (hT : Reads w w.heap.size 1 A n (ints ts)) (h : okW n ts = false) :
    Calls Try.prog 14 #[.agg #[.slice A n c]] w fun e w' => e = .returned (.int .i64 100) ∧ Below w.heap.size w w' := by
  have hB := Lib.hid ((Below.refl w.heap.size w).alloc (Nat.le_refl _) (.cells #[.slice A n c] 24))
  by_cases h8 : n ≤ 8
  · have hi : inB 6 120 ts = false := by
      unfold okW at h
      simpa [h8] using h
    have H := Lib.hid (in_any 6 120 A n c ts (w.alloc (.cells #[.slice A n c] 24)) (by unfold maxLen; omega) ((hT.alloc (Nat.le_refl _) _).more (by simp)))
    rw [hi] at H
    clear h
    go_enter Try.func14, Try.ntmps14
    go_wp2_with fail
    refine H.out.mono ?_
    rintro e w1 ⟨rfl, hb1⟩
    go_wp2
    go_ret
    exact ⟨rfl, hB.out.trans (hb1.mono (by simp))⟩
  · have h9 : (8 : Int) < (n : Int) := by omega
    clear h h8
    go_enter Try.func14, Try.ntmps14
    go_wp2
    go_ret
    exact ⟨rfl, hB.out⟩
end Go.Proofs.Ytjmegnbjacndpaa
