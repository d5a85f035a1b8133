/-
  The walks of the loads of a setting, on both sides.
-/
import Derived.Test.YtlmmjaolmmcklaaDoorLoadsR
namespace Go.Proofs.YtlmmjaolmmcklaaDoor
open Go.RowKit

theorem shaft_box {w x : World} {M : Int} {A : Option Addr} {n c : Nat} {l : List St3} (hR : Reads w w.heap.size 3 A n (sts l)) (hx : Below (w.heap.size + 1) (w.alloc (.cells #[.int .i64 M, .slice A n c] 24)) x) :
    x.cell? ⟨w.heap.size, 0, none⟩ = some (.int .i64 M) ∧ x.cell? ⟨w.heap.size, 1, none⟩ = some (.slice A n c) ∧ w.heap.size + 1 ≤ x.heap.size ∧ Reads x x.heap.size 3 A n (sts l) := by
  have hz : w.heap.size + 1 ≤ x.heap.size := by simpa using hx.size
  refine ⟨?_, ?_, hz, ?_⟩
  · rw [hx.cell (by simp), World.cell?_alloc_at _ _ _ _ rfl]; rfl
  · rw [hx.cell (by simp), World.cell?_alloc_at _ _ _ _ rfl]; rfl
  · exact ((hR.alloc (Nat.le_refl _) _).below (hx.mono (by omega))).more (by omega)
theorem keep_reads {w x : World} {o : Obj} {size n : Nat} {A : Option Addr} {xs : List Value} (hS : Reads w w.heap.size size A n xs) (hx : Below (w.heap.size + 1) (w.alloc o) x) : Reads x x.heap.size size A n xs :=
  have hz : w.heap.size + 1 ≤ x.heap.size := by simpa using hx.size
  ((hS.alloc (Nat.le_refl _) _).below (hx.mono (by omega))).more (by omega)
theorem box_below {w x : World} {o : Obj} (hx : Below (w.heap.size + 1) (w.alloc o) x) : Below w.heap.size w x := ((Below.refl _ _).alloc (Nat.le_refl _) _).trans (hx.mono (by omega))
theorem box_laid {w x : World} {o : Obj} (hL : Laid w) (hx : Below (w.heap.size + 1) (w.alloc o) x) : Laid x := hL.below (box_below hx) hL.2.2

theorem setOk {M : Int} {l : List St3} {s : List Int} (h : setB M l s = true) : SetOk M l s := by
  unfold setB at h
  simp only [Bool.and_eq_true, List.all_eq_true, decide_eq_true_eq] at h
  refine ⟨by omega, fun k x y hx hy => ?_⟩
  have := h.2 _ (List.mem_of_getElem? (zip_at hx hy))
  unfold okNo at this
  simp only [Bool.and_eq_true, decide_eq_true_eq] at this
  omega

theorem cnt_pounds {M : Int} {l : List St3} (h : shaftB M l = true) : ∀ x ∈ l, 0 ≤ cntO false x ∧ cntO false x ≤ 500 := by
  intro x hx
  obtain ⟨k, hk⟩ := List.getElem?_of_mem hx
  obtain ⟨C, U, P⟩ := x
  have := shaft_st h hk
  show 0 ≤ P ∧ P ≤ 500
  omega

def loadsS (M : Int) (l : List St3) (s : List Int) : List Int × Int :=
  if shaftB M l then if setB M l s then (loadsL M (cntO false) l s, 0) else ([], 103) else ([], 102)

set_option maxRecDepth 100000 in
set_option maxHeartbeats 1000000 in
theorem Loads_any (M : Int) (A A' : Option Addr) (n c n' c' : Nat) (l : List St3) (s : List Int) (w : World) (hn : n ≤ maxLen) (hR : Reads w w.heap.size 3 A n (sts l)) (hS : Reads w w.heap.size 1 A' n' (ints s)) (hL : Laid w) :
    Calls Tryd.prog 24 #[.agg #[.int .i64 M, .slice A n c], .slice A' n' c'] w fun e w' =>
      ∃ v, e = .returned (.tuple #[v, .int .i64 (loadsS M l s).2]) ∧ w'.ownsRow w.heap.size 3 1 v (loadsS M l s).1.length (ints (loadsS M l s).1) ∧ Below w.heap.size w w' := by
  have hl : l.length = n := hR.st_len
  have H1 := Lib.hid (Sound_any M A n c l (w.alloc (.cells #[.int .i64 M, .slice A n c] 24)) hn ((hR.alloc (Nat.le_refl _) _).more (by simp)) (hL.below ((Below.refl _ _).alloc (Nat.le_refl _) _) hL.2.2))
  have HK := Lib.hid (fun x (hx : Below (w.heap.size + 1) (w.alloc (.cells #[.int .i64 M, .slice A n c] 24)) x) => shaft_box hR hx)
  have HKS := Lib.hid (fun x (hx : Below (w.heap.size + 1) (w.alloc (.cells #[.int .i64 M, .slice A n c] 24)) x) => keep_reads hS hx)
  have HW := Lib.hid (fun x (hx : Below (w.heap.size + 1) (w.alloc (.cells #[.int .i64 M, .slice A n c] 24)) x) => box_below hx)
  have hz0 : Hid ((w.alloc (.cells #[.int .i64 M, .slice A n c] 24)).heap.size = w.heap.size + 1) := by show _ = _; simp
  clear hR hS
  cases h1 : shaftB M l
  · have hf : Hid (loadsS M l s = ([], 102)) := by show loadsS M l s = _; unfold loadsS; rw [h1]; rfl
    have e1 : soundS M l = 102 := by unfold soundS; rw [h1]; rfl
    rw [e1] at H1
    rw [hf.out]
    clear h1 e1 HK HKS
    go_enter Tryd.func24, Tryd.ntmps24
    go_wp2_with fail
    refine H1.out.mono ?_
    rintro e w1 ⟨rfl, hb1⟩
    rw [hz0.out] at hb1
    have hX1 := Lib.hid hb1
    clear hb1
    go_wp2
    go_ret2
    exact ⟨_, rfl, World.ownsRow_nil _ _ _ _, HW.out _ hX1.out⟩
  · have hv : Hid (shaftB M l = true) := h1
    have e1 : soundS M l = 0 := by unfold soundS; rw [h1]; rfl
    rw [e1] at H1
    obtain ⟨hM1, hM2, hn4⟩ := shaft_bounds h1
    cases h2 : setB M l s
    · have hf : Hid (loadsS M l s = ([], 103)) := by show loadsS M l s = _; unfold loadsS; rw [h1, h2]; rfl
      rw [hf.out]
      have h2' := Lib.hid h2
      clear h1 h2 e1
      go_enter Tryd.func24, Tryd.ntmps24
      go_wp2_with fail
      refine H1.out.mono ?_
      rintro e w1 ⟨rfl, hb1⟩
      rw [hz0.out] at hb1
      have hX1 := Lib.hid hb1
      clear hb1
      obtain ⟨m0, m1, hz, hRw⟩ := HK.out w1 hX1.out
      have H3 := fits_any M A A' n c n' c' l s w1 hn hRw (HKS.out _ hX1.out) hv
      rw [h2'.out] at H3
      have H3' := Lib.hid H3
      clear H3 hRw
      go_wp2_with fail
      refine H3'.out.mono ?_
      rintro e w2 ⟨rfl, hb2⟩
      have hX2 := Lib.hid (below_via hX1.out (by omega) hb2)
      clear hb2
      go_wp2
      go_ret2
      exact ⟨_, rfl, World.ownsRow_nil _ _ _ _, HW.out _ hX2.out⟩
    · have hf : Hid (loadsS M l s = (loadsL M (cntO false) l s, 0)) := by show loadsS M l s = _; unfold loadsS; rw [h1, h2]; rfl
      rw [hf.out]
      have h2' := Lib.hid h2
      have hs' : Hid (SetOk M l s) := setOk h2
      have hc' : Hid (∀ x ∈ l, 0 ≤ cntO false x ∧ cntO false x ≤ 500) := cnt_pounds h1
      clear h1 h2 e1
      obtain ⟨m, rfl⟩ := Int.eq_ofNat_of_zero_le (by omega : 0 ≤ M)
      have hll : Hid ((loadsL (m : Int) (cntO false) l s).length = m) := by show _ = _; rw [loadsL_len]; simp
      go_enter Tryd.func24, Tryd.ntmps24
      go_wp2_with fail
      refine H1.out.mono ?_
      rintro e w1 ⟨rfl, hb1⟩
      rw [hz0.out] at hb1
      have hX1 := Lib.hid hb1
      clear hb1
      obtain ⟨m0, m1, hz, hRw⟩ := HK.out w1 hX1.out
      have H3 := fits_any m A A' n c n' c' l s w1 hn hRw (HKS.out _ hX1.out) hv
      rw [h2'.out] at H3
      have H3' := Lib.hid H3
      clear H3 hRw
      go_wp2_with fail
      refine H3'.out.mono ?_
      rintro e w2 ⟨rfl, hb2⟩
      have hX2 := Lib.hid (below_via hX1.out (by omega) hb2)
      clear hb2 m0 m1
      obtain ⟨m0, m1, hz, hRw⟩ := HK.out w2 hX2.out
      have H4 := Lib.hid (pounds_any m A n c l w2 (by omega) hRw)
      clear hRw
      go_wp2_with fail
      refine H4.out.mono ?_
      rintro e w3 ⟨v, rfl, hv3, hb3⟩
      have hX3 := Lib.hid (below_via hX2.out (by omega) hb3)
      obtain ⟨Ac, cc, rfl, hC3⟩ := own_slice hv3
      obtain ⟨-, -, hz', hRw⟩ := HK.out w3 hX3.out
      have H5 := Lib.hid (loads_any m (cntO false) A A' Ac n c n' c' cc l s w3 hRw (HKS.out _ hX3.out) hC3 hv hs' hc')
      clear hb3 hv3 hC3 hRw
      go_wp2_with fail
      refine H5.out.mono ?_
      rintro e w4 ⟨v, rfl, hv4, hb4⟩
      have hX4 := Lib.hid (below_via hX3.out (by omega) hb4)
      have hO4 := Lib.hid hv4
      obtain ⟨Av, cv, rfl, -⟩ := own_slice hv4
      clear hv4 hb4
      go_wp2
      go_ret2
      refine ⟨_, rfl, ?_, HW.out _ hX4.out⟩
      rw [hll.out]
      exact own_mono hO4.out (by omega)

set_option maxRecDepth 100000 in
set_option maxHeartbeats 1000000 in
theorem RLoads_any (M : Int) (A A' : Option Addr) (n c n' c' : Nat) (l : List St3) (s : List Int) (w : World) (hn : n ≤ maxLen) (hR : Reads w w.heap.size 3 A n (sts l)) (hS : Reads w w.heap.size 1 A' n' (ints s)) :
    Calls Tryd.prog 25 #[.agg #[.int .i64 M, .slice A n c], .slice A' n' c'] w fun e w' =>
      ∃ v, e = .returned (.tuple #[v, .int .i64 (loadsS M l s).2]) ∧ w'.ownsRow w.heap.size 3 1 v (loadsS M l s).1.length (ints (loadsS M l s).1) ∧ Below w.heap.size w w' := by
  have hl : l.length = n := hR.st_len
  have H1 := Lib.hid (Shaft_any M A n c l (w.alloc (.cells #[.int .i64 M, .slice A n c] 24)) hn ((hR.alloc (Nat.le_refl _) _).more (by simp)))
  have HK := Lib.hid (fun x (hx : Below (w.heap.size + 1) (w.alloc (.cells #[.int .i64 M, .slice A n c] 24)) x) => shaft_box hR hx)
  have HKS := Lib.hid (fun x (hx : Below (w.heap.size + 1) (w.alloc (.cells #[.int .i64 M, .slice A n c] 24)) x) => keep_reads hS hx)
  have HW := Lib.hid (fun x (hx : Below (w.heap.size + 1) (w.alloc (.cells #[.int .i64 M, .slice A n c] 24)) x) => box_below hx)
  have hz0 : Hid ((w.alloc (.cells #[.int .i64 M, .slice A n c] 24)).heap.size = w.heap.size + 1) := by show _ = _; simp
  clear hR hS
  cases h1 : shaftB M l
  · have hf : Hid (loadsS M l s = ([], 102)) := by show loadsS M l s = _; unfold loadsS; rw [h1]; rfl
    rw [h1] at H1
    rw [hf.out]
    clear h1 HK HKS
    go_enter Tryd.func25, Tryd.ntmps25
    go_wp2_with fail
    refine H1.out.mono ?_
    rintro e w1 ⟨rfl, hb1⟩
    rw [hz0.out] at hb1
    have hX1 := Lib.hid hb1
    clear hb1
    go_wp2
    go_ret2
    exact ⟨_, rfl, World.ownsRow_nil _ _ _ _, HW.out _ hX1.out⟩
  · have hv : Hid (shaftB M l = true) := h1
    rw [h1] at H1
    obtain ⟨hM1, hM2, hn4⟩ := shaft_bounds h1
    cases h2 : setB M l s
    · have hf : Hid (loadsS M l s = ([], 103)) := by show loadsS M l s = _; unfold loadsS; rw [h1, h2]; rfl
      rw [hf.out]
      have h2' := Lib.hid h2
      clear h1 h2
      go_enter Tryd.func25, Tryd.ntmps25
      go_wp2_with fail
      refine H1.out.mono ?_
      rintro e w1 ⟨rfl, hb1⟩
      rw [hz0.out] at hb1
      have hX1 := Lib.hid hb1
      clear hb1
      obtain ⟨m0, m1, hz, hRw⟩ := HK.out w1 hX1.out
      have H3 := Set_any M A A' n c n' c' l s w1 hn hRw (HKS.out _ hX1.out) hv
      rw [h2'.out] at H3
      have H3' := Lib.hid H3
      clear H3 hRw
      go_wp2_with fail
      refine H3'.out.mono ?_
      rintro e w2 ⟨rfl, hb2⟩
      have hX2 := Lib.hid (below_via hX1.out (by omega) hb2)
      clear hb2
      go_wp2
      go_ret2
      exact ⟨_, rfl, World.ownsRow_nil _ _ _ _, HW.out _ hX2.out⟩
    · have hf : Hid (loadsS M l s = (loadsL M (cntO false) l s, 0)) := by show loadsS M l s = _; unfold loadsS; rw [h1, h2]; rfl
      rw [hf.out]
      have h2' := Lib.hid h2
      have hs' : Hid (SetOk M l s) := setOk h2
      clear h1 h2
      obtain ⟨m, rfl⟩ := Int.eq_ofNat_of_zero_le (by omega : 0 ≤ M)
      have hll : Hid ((loadsL (m : Int) (cntO false) l s).length = m) := by show _ = _; rw [loadsL_len]; simp
      go_enter Tryd.func25, Tryd.ntmps25
      go_wp2_with fail
      refine H1.out.mono ?_
      rintro e w1 ⟨rfl, hb1⟩
      rw [hz0.out] at hb1
      have hX1 := Lib.hid hb1
      clear hb1
      obtain ⟨m0, m1, hz, hRw⟩ := HK.out w1 hX1.out
      have H3 := Set_any m A A' n c n' c' l s w1 hn hRw (HKS.out _ hX1.out) hv
      rw [h2'.out] at H3
      have H3' := Lib.hid H3
      clear H3 hRw
      go_wp2_with fail
      refine H3'.out.mono ?_
      rintro e w2 ⟨rfl, hb2⟩
      have hX2 := Lib.hid (below_via hX1.out (by omega) hb2)
      clear hb2 m0 m1
      obtain ⟨m0, m1, hz, hRw⟩ := HK.out w2 hX2.out
      have H5 := Lib.hid (rloads_any m false A A' n c n' c' l s w2 hRw (HKS.out _ hX2.out) hv hs')
      clear hRw
      go_wp2_with fail
      refine H5.out.mono ?_
      rintro e w4 ⟨v, rfl, hv4, hb4⟩
      have hX4 := Lib.hid (below_via hX2.out (by omega) hb4)
      have hO4 := Lib.hid hv4
      obtain ⟨Av, cv, rfl, -⟩ := own_slice hv4
      clear hv4 hb4
      go_wp2
      go_ret2
      refine ⟨_, rfl, ?_, HW.out _ hX4.out⟩
      rw [hll.out]
      exact own_mono hO4.out (by omega)
end Go.Proofs.YtlmmjaolmmcklaaDoor
