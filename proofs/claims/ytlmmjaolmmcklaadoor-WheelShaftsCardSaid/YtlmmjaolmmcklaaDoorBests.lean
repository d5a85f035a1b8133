/-
  The walks of the best setting and of the one with the fewest stampers up, on both sides.
-/
import Derived.Test.YtlmmjaolmmcklaaDoorBest
namespace Go.Proofs.YtlmmjaolmmcklaaDoor
open Go.RowKit
set_option linter.unusedSimpArgs false
set_option linter.unusedVariables false

def bestV (ones : Bool) (M : Int) (l : List St3) : (List Int × Int) × Int := if shaftB M l then (bestS (mostL M (cntO ones) l) (places M l), 0) else (([], 0), 102)

set_option maxRecDepth 100000 in
set_option maxHeartbeats 1000000 in
theorem Best_any (M : Int) (A : Option Addr) (n c : Nat) (l : List St3) (w : World) (hn : n ≤ maxLen) (hR : Reads w w.heap.size 3 A n (sts l)) (hL : Laid w) :
    Calls Tryd.prog 26 #[.agg #[.int .i64 M, .slice A n c]] w fun e w' =>
      ∃ Av k cv, e = .returned (.tuple #[.slice Av k cv, .int .i64 (bestV false M l).1.2, .int .i64 (bestV false M l).2]) ∧ Reads w' w'.heap.size 1 Av k (ints (bestV false M l).1.1) ∧ Below w.heap.size w w' := by
  have hl : l.length = n := hR.st_len
  have H1 := Lib.hid (Sound_any M A n c l (w.alloc (.cells #[.int .i64 M, .slice A n c] 24)) hn ((hR.alloc (Nat.le_refl _) _).more (by simp)) (hL.below ((Below.refl _ _).alloc (Nat.le_refl _) _) hL.2.2))
  have HK := Lib.hid (fun x (hx : Below (w.heap.size + 1) (w.alloc (.cells #[.int .i64 M, .slice A n c] 24)) x) => shaft_box hR hx)
  have HW := Lib.hid (fun x (hx : Below (w.heap.size + 1) (w.alloc (.cells #[.int .i64 M, .slice A n c] 24)) x) => box_below hx)
  have hz0 : Hid ((w.alloc (.cells #[.int .i64 M, .slice A n c] 24)).heap.size = w.heap.size + 1) := by show _ = _; simp
  clear hR
  cases h1 : shaftB M l
  · have hf : Hid (bestV false M l = (([], 0), 102)) := by show bestV false M l = _; unfold bestV; rw [h1]; rfl
    have e1 : soundS M l = 102 := by unfold soundS; rw [h1]; rfl
    rw [e1] at H1
    rw [hf.out]
    clear h1 e1 HK
    go_enter Tryd.func26, Tryd.ntmps26
    go_wp2_with fail
    refine H1.out.mono ?_
    rintro e w1 ⟨rfl, hb1⟩
    rw [hz0.out] at hb1
    have hX1 := Lib.hid hb1
    clear hb1
    go_wp2
    go_ret3
    exact ⟨_, _, _, rfl, Reads.none_, HW.out _ hX1.out⟩
  · have hv : Hid (shaftB M l = true) := h1
    have e1 : soundS M l = 0 := by unfold soundS; rw [h1]; rfl
    rw [e1] at H1
    obtain ⟨hM1, hM2, hn4⟩ := shaft_bounds h1
    have hf : Hid (bestV false M l = (bestS (mostL M (cntO false) l) (places M l), 0)) := by show bestV false M l = _; unfold bestV; rw [h1]; rfl
    rw [hf.out]
    obtain ⟨m, rfl⟩ := Int.eq_ofNat_of_zero_le (by omega : 0 ≤ M)
    clear h1 e1 hf
    go_enter Tryd.func26, Tryd.ntmps26
    go_wp2_with fail
    refine H1.out.mono ?_
    rintro e w1 ⟨rfl, hb1⟩
    rw [hz0.out] at hb1
    have hX1 := Lib.hid hb1
    clear hb1 H1
    obtain ⟨m0, m1, hz, -⟩ := HK.out w1 hX1.out
    have H2 := Lib.hid (pounds_any m A n c l w1 (by omega) (HK.out w1 hX1.out).2.2.2)
    go_wp2_with fail
    refine H2.out.mono ?_
    rintro e w2 ⟨v2, rfl, hv2, hb2⟩
    have hX2 := Lib.hid (below_via hX1.out (by omega) hb2)
    obtain ⟨Ac, cc, rfl, hr2⟩ := own_slice hv2
    obtain ⟨-, -, hz', -⟩ := HK.out w2 hX2.out
    have H3 := Lib.hid (best_any m (cntO false) A Ac n c cc l w2 (HK.out w2 hX2.out).2.2.2 hr2 hv.out (cnt_any hv.out false))
    clear hv2 hb2 hr2 H2 m0 m1
    go_wp2_with fail
    refine H3.out.mono ?_
    rintro e w3 ⟨Av, cv, rfl, hr3, hb3⟩
    have hX3 := Lib.hid (below_via hX2.out (by omega) hb3)
    have hr3' := Lib.hid hr3
    clear hb3 hr3
    go_wp2
    go_ret3
    exact ⟨_, _, _, rfl, hr3'.out, HW.out _ hX3.out⟩

set_option maxRecDepth 100000 in
set_option maxHeartbeats 1000000 in
theorem Fewest_any (M : Int) (A : Option Addr) (n c : Nat) (l : List St3) (w : World) (hn : n ≤ maxLen) (hR : Reads w w.heap.size 3 A n (sts l)) (hL : Laid w) :
    Calls Tryd.prog 28 #[.agg #[.int .i64 M, .slice A n c]] w fun e w' =>
      ∃ Av k cv, e = .returned (.tuple #[.slice Av k cv, .int .i64 (bestV true M l).1.2, .int .i64 (bestV true M l).2]) ∧ Reads w' w'.heap.size 1 Av k (ints (bestV true M l).1.1) ∧ Below w.heap.size w w' := by
  have hl : l.length = n := hR.st_len
  have H1 := Lib.hid (Sound_any M A n c l (w.alloc (.cells #[.int .i64 M, .slice A n c] 24)) hn ((hR.alloc (Nat.le_refl _) _).more (by simp)) (hL.below ((Below.refl _ _).alloc (Nat.le_refl _) _) hL.2.2))
  have HK := Lib.hid (fun x (hx : Below (w.heap.size + 1) (w.alloc (.cells #[.int .i64 M, .slice A n c] 24)) x) => shaft_box hR hx)
  have HW := Lib.hid (fun x (hx : Below (w.heap.size + 1) (w.alloc (.cells #[.int .i64 M, .slice A n c] 24)) x) => box_below hx)
  have hz0 : Hid ((w.alloc (.cells #[.int .i64 M, .slice A n c] 24)).heap.size = w.heap.size + 1) := by show _ = _; simp
  clear hR
  cases h1 : shaftB M l
  · have hf : Hid (bestV true M l = (([], 0), 102)) := by show bestV true M l = _; unfold bestV; rw [h1]; rfl
    have e1 : soundS M l = 102 := by unfold soundS; rw [h1]; rfl
    rw [e1] at H1
    rw [hf.out]
    clear h1 e1 HK
    go_enter Tryd.func28, Tryd.ntmps28
    go_wp2_with fail
    refine H1.out.mono ?_
    rintro e w1 ⟨rfl, hb1⟩
    rw [hz0.out] at hb1
    have hX1 := Lib.hid hb1
    clear hb1
    go_wp2
    go_ret3
    exact ⟨_, _, _, rfl, Reads.none_, HW.out _ hX1.out⟩
  · have hv : Hid (shaftB M l = true) := h1
    have e1 : soundS M l = 0 := by unfold soundS; rw [h1]; rfl
    rw [e1] at H1
    obtain ⟨hM1, hM2, hn4⟩ := shaft_bounds h1
    have hf : Hid (bestV true M l = (bestS (mostL M (cntO true) l) (places M l), 0)) := by show bestV true M l = _; unfold bestV; rw [h1]; rfl
    rw [hf.out]
    obtain ⟨m, rfl⟩ := Int.eq_ofNat_of_zero_le (by omega : 0 ≤ M)
    clear h1 e1 hf
    go_enter Tryd.func28, Tryd.ntmps28
    go_wp2_with fail
    refine H1.out.mono ?_
    rintro e w1 ⟨rfl, hb1⟩
    rw [hz0.out] at hb1
    have hX1 := Lib.hid hb1
    clear hb1 H1
    obtain ⟨m0, m1, hz, -⟩ := HK.out w1 hX1.out
    have H2 := Lib.hid (ones_any m A n c l w1 (by omega) (HK.out w1 hX1.out).2.2.2)
    go_wp2_with fail
    refine H2.out.mono ?_
    rintro e w2 ⟨v2, rfl, hv2, hb2⟩
    have hX2 := Lib.hid (below_via hX1.out (by omega) hb2)
    obtain ⟨Ac, cc, rfl, hr2⟩ := own_slice hv2
    obtain ⟨-, -, hz', -⟩ := HK.out w2 hX2.out
    have H3 := Lib.hid (best_any m (cntO true) A Ac n c cc l w2 (HK.out w2 hX2.out).2.2.2 hr2 hv.out (cnt_any hv.out true))
    clear hv2 hb2 hr2 H2 m0 m1
    go_wp2_with fail
    refine H3.out.mono ?_
    rintro e w3 ⟨Av, cv, rfl, hr3, hb3⟩
    have hX3 := Lib.hid (below_via hX2.out (by omega) hb3)
    have hr3' := Lib.hid hr3
    clear hb3 hr3
    go_wp2
    go_ret3
    exact ⟨_, _, _, rfl, hr3'.out, HW.out _ hX3.out⟩

set_option maxRecDepth 100000 in
set_option maxHeartbeats 1000000 in
theorem RBest_any (M : Int) (A : Option Addr) (n c : Nat) (l : List St3) (w : World) (hn : n ≤ maxLen) (hR : Reads w w.heap.size 3 A n (sts l)) :
    Calls Tryd.prog 27 #[.agg #[.int .i64 M, .slice A n c]] w fun e w' =>
      ∃ Av k cv, e = .returned (.tuple #[.slice Av k cv, .int .i64 (bestV false M l).1.2, .int .i64 (bestV false M l).2]) ∧ Reads w' w'.heap.size 1 Av k (ints (bestV false M l).1.1) ∧ Below w.heap.size w w' := by
  have hl : l.length = n := hR.st_len
  have H1 := Lib.hid (Shaft_any M A n c l (w.alloc (.cells #[.int .i64 M, .slice A n c] 24)) hn ((hR.alloc (Nat.le_refl _) _).more (by simp)))
  have HK := Lib.hid (fun x (hx : Below (w.heap.size + 1) (w.alloc (.cells #[.int .i64 M, .slice A n c] 24)) x) => shaft_box hR hx)
  have HW := Lib.hid (fun x (hx : Below (w.heap.size + 1) (w.alloc (.cells #[.int .i64 M, .slice A n c] 24)) x) => box_below hx)
  have hz0 : Hid ((w.alloc (.cells #[.int .i64 M, .slice A n c] 24)).heap.size = w.heap.size + 1) := by show _ = _; simp
  clear hR
  cases h1 : shaftB M l
  · have hf : Hid (bestV false M l = (([], 0), 102)) := by show bestV false M l = _; unfold bestV; rw [h1]; rfl
    rw [h1] at H1
    rw [hf.out]
    clear h1 HK
    go_enter Tryd.func27, Tryd.ntmps27
    go_wp2_with fail
    refine H1.out.mono ?_
    rintro e w1 ⟨rfl, hb1⟩
    rw [hz0.out] at hb1
    have hX1 := Lib.hid hb1
    clear hb1
    go_wp2
    go_ret3
    exact ⟨_, _, _, rfl, Reads.none_, HW.out _ hX1.out⟩
  · have hv : Hid (shaftB M l = true) := h1
    rw [h1] at H1
    obtain ⟨hM1, hM2, hn4⟩ := shaft_bounds h1
    have hf : Hid (bestV false M l = (bestS (mostL M (cntO false) l) (places M l), 0)) := by show bestV false M l = _; unfold bestV; rw [h1]; rfl
    rw [hf.out]
    obtain ⟨m, rfl⟩ := Int.eq_ofNat_of_zero_le (by omega : 0 ≤ M)
    clear h1 hf
    go_enter Tryd.func27, Tryd.ntmps27
    go_wp2_with fail
    refine H1.out.mono ?_
    rintro e w1 ⟨rfl, hb1⟩
    rw [hz0.out] at hb1
    have hX1 := Lib.hid hb1
    clear hb1 H1
    obtain ⟨m0, m1, hz, -⟩ := HK.out w1 hX1.out
    have H3 := Lib.hid (rbest_any m false A n c l w1 (HK.out w1 hX1.out).2.2.2 hv)
    go_wp2_with fail
    refine H3.out.mono ?_
    rintro e w3 ⟨Av, cv, rfl, hr3, hb3⟩
    have hX3 := Lib.hid (below_via hX1.out (by omega) hb3)
    have hr3' := Lib.hid hr3
    clear hb3 hr3 H3
    go_wp2
    go_ret3
    exact ⟨_, _, _, rfl, hr3'.out, HW.out _ hX3.out⟩

set_option maxRecDepth 100000 in
set_option maxHeartbeats 1000000 in
theorem RFewest_any (M : Int) (A : Option Addr) (n c : Nat) (l : List St3) (w : World) (hn : n ≤ maxLen) (hR : Reads w w.heap.size 3 A n (sts l)) :
    Calls Tryd.prog 29 #[.agg #[.int .i64 M, .slice A n c]] w fun e w' =>
      ∃ Av k cv, e = .returned (.tuple #[.slice Av k cv, .int .i64 (bestV true M l).1.2, .int .i64 (bestV true M l).2]) ∧ Reads w' w'.heap.size 1 Av k (ints (bestV true M l).1.1) ∧ Below w.heap.size w w' := by
  have hl : l.length = n := hR.st_len
  have H1 := Lib.hid (Shaft_any M A n c l (w.alloc (.cells #[.int .i64 M, .slice A n c] 24)) hn ((hR.alloc (Nat.le_refl _) _).more (by simp)))
  have HK := Lib.hid (fun x (hx : Below (w.heap.size + 1) (w.alloc (.cells #[.int .i64 M, .slice A n c] 24)) x) => shaft_box hR hx)
  have HW := Lib.hid (fun x (hx : Below (w.heap.size + 1) (w.alloc (.cells #[.int .i64 M, .slice A n c] 24)) x) => box_below hx)
  have hz0 : Hid ((w.alloc (.cells #[.int .i64 M, .slice A n c] 24)).heap.size = w.heap.size + 1) := by show _ = _; simp
  clear hR
  cases h1 : shaftB M l
  · have hf : Hid (bestV true M l = (([], 0), 102)) := by show bestV true M l = _; unfold bestV; rw [h1]; rfl
    rw [h1] at H1
    rw [hf.out]
    clear h1 HK
    go_enter Tryd.func29, Tryd.ntmps29
    go_wp2_with fail
    refine H1.out.mono ?_
    rintro e w1 ⟨rfl, hb1⟩
    rw [hz0.out] at hb1
    have hX1 := Lib.hid hb1
    clear hb1
    go_wp2
    go_ret3
    exact ⟨_, _, _, rfl, Reads.none_, HW.out _ hX1.out⟩
  · have hv : Hid (shaftB M l = true) := h1
    rw [h1] at H1
    obtain ⟨hM1, hM2, hn4⟩ := shaft_bounds h1
    have hf : Hid (bestV true M l = (bestS (mostL M (cntO true) l) (places M l), 0)) := by show bestV true M l = _; unfold bestV; rw [h1]; rfl
    rw [hf.out]
    obtain ⟨m, rfl⟩ := Int.eq_ofNat_of_zero_le (by omega : 0 ≤ M)
    clear h1 hf
    go_enter Tryd.func29, Tryd.ntmps29
    go_wp2_with fail
    refine H1.out.mono ?_
    rintro e w1 ⟨rfl, hb1⟩
    rw [hz0.out] at hb1
    have hX1 := Lib.hid hb1
    clear hb1 H1
    obtain ⟨m0, m1, hz, -⟩ := HK.out w1 hX1.out
    have H3 := Lib.hid (rbest_any m true A n c l w1 (HK.out w1 hX1.out).2.2.2 hv)
    go_wp2_with fail
    refine H3.out.mono ?_
    rintro e w3 ⟨Av, cv, rfl, hr3, hb3⟩
    have hX3 := Lib.hid (below_via hX1.out (by omega) hb3)
    have hr3' := Lib.hid hr3
    clear hb3 hr3 H3
    go_wp2
    go_ret3
    exact ⟨_, _, _, rfl, hr3'.out, HW.out _ hX3.out⟩
end Go.Proofs.YtlmmjaolmmcklaaDoor
