/-
  The walks of the question whether a setting is right for a valid shaft, on both sides.
-/
import Derived.Test.YtlmmjaolmmcklaaDoorShaft
namespace Go.Proofs.YtlmmjaolmmcklaaDoor
open Go.RowKit

/-- A setting's number is right for a stamper. -/
def okNo (M : Int) (p : (Int × Int × Int) × Int) : Bool := decide (0 ≤ p.2) && decide (p.2 ≤ M / p.1.1 - 1)
def setB (M : Int) (l : List (Int × Int × Int)) (s : List Int) : Bool := decide (s.length = l.length) && (l.zip s).all (okNo M)

theorem shaft_bounds {M : Int} {l : List (Int × Int × Int)} (h : shaftB M l = true) : 1 ≤ M ∧ M ≤ 12 ∧ l.length ≤ 4 := by
  unfold shaftB at h
  simp at h
  omega
theorem shaft_st {M : Int} {l : List (Int × Int × Int)} (h : shaftB M l = true) {k : Nat} {C U P : Int} (hx : l[k]? = some (C, U, P)) :
    1 ≤ C ∧ C ≤ M ∧ M % C = 0 ∧ 1 ≤ U ∧ U ≤ M / C - 1 ∧ 1 ≤ P ∧ P ≤ 500 := by
  unfold shaftB at h
  simp only [Bool.and_eq_true, List.all_eq_true] at h
  have := h.2 _ (List.mem_of_getElem? hx)
  simp [okSt] at this
  omega

theorem zip_at {α β : Type} {l : List α} {s : List β} {k : Nat} {x : α} {y : β} (hx : l[k]? = some x) (hy : s[k]? = some y) : (l.zip s)[k]? = some (x, y) := by
  rw [List.getElem?_zip_eq_some]
  exact ⟨hx, hy⟩
theorem get_of_lt {l : List Int} {k : Nat} (h : k < l.length) : l[k]? = some (l[k]?.getD 0) := by
  rw [List.getElem?_eq_getElem h]; rfl

theorem Set_any (M : Int) (A A' : Option Addr) (n c n' c' : Nat) (l : List (Int × Int × Int)) (s : List Int) (w : World) (hn : n ≤ maxLen) (hR : Reads w w.heap.size 3 A n (sts l))
    (hS : Reads w w.heap.size 1 A' n' (ints s)) (hv : Hid (shaftB M l = true)) :
    Calls Tryd.prog 47 #[.agg #[.int .i64 M, .slice A n c], .slice A' n' c'] w fun e w' => e = .returned (.bool (setB M l s)) ∧ Below w.heap.size w w' := by
  have hl := hR.st_len
  have hs : s.length = n' := by simpa using hS.len
  obtain ⟨hM1, hM2, hn4⟩ := shaft_bounds hv.out
  have hB0 : Hid (Below w.heap.size w (w.alloc (.cells #[.int .i64 M, .slice A n c] 24))) := (Below.refl _ _).alloc (Nat.le_refl _) _
  unfold maxLen at hn
  by_cases hnn : n' = n
  · subst hnn
    have hres : Hid (setB M l s = (l.zip s).all (okNo M)) := by show setB M l s = _; unfold setB; rw [hs, hl]; simp
    have hM0 : (w.alloc (.cells #[.int .i64 M, .slice A n' c] 24)).cell? ⟨w.heap.size, 0, none⟩ = some (.int .i64 M) := by rw [World.cell?_alloc_at _ _ _ _ rfl]; rfl
    have hM1' : (w.alloc (.cells #[.int .i64 M, .slice A n' c] 24)).cell? ⟨w.heap.size, 1, none⟩ = some (.slice A n' c) := by rw [World.cell?_alloc_at _ _ _ _ rfl]; rfl
    have hR1 := Lib.hid (hR.alloc (Nat.le_refl _) (.cells #[.int .i64 M, .slice A n' c] 24))
    have hS1 := Lib.hid (hS.alloc (Nat.le_refl _) (.cells #[.int .i64 M, .slice A n' c] 24))
    clear hR hS
    go_enter Tryd.func47, Tryd.ntmps47
    go_wp2
    generalize w.alloc (.cells #[.int .i64 M, .slice A n' c] 24) = wb at *
    go_loopw [5] (fun x wr => ∃ k : Nat, k ≤ n' ∧ x = .int .i64 k ∧ Hid (((l.zip s).take k).all (okNo M) = true) ∧ Hid (∃ q, wr = wb.drewN q)) (fun x _ => n' - (intOf x).toNat)
    case atStart => exact ⟨0, by omega, rfl, by simp [Hid], ⟨0, rfl⟩⟩
    case round =>
      obtain ⟨k, hk, rfl, hall, hq⟩ := hrel
      obtain ⟨q, rfl⟩ := hq.out
      clear hq
      by_cases hlt : k < n'
      · obtain ⟨b, o, C, U, P, rfl, hb, hx, c0, -, -⟩ := hR1.out.st hlt
        obtain ⟨b', o', rfl, hb', c0'⟩ := hS1.out.int hlt
        obtain ⟨hC1, hC2, -, -, -, -, -⟩ := shaft_st hv.out hx
        have q0 : 0 ≤ M / C := Int.ediv_nonneg (by omega) (by omega)
        have q1 : M / C ≤ M := Int.ediv_le_self _ (by omega)
        have Hz := Lib.hid (zip_at hx (get_of_lt (l := s) (k := k) (by omega)))
        clear hx
        generalize s[k]?.getD 0 = y at *
        have H2 : Hid (∀ w, Calls Tryd.prog 48 #[.int .i64 y, .int .i64 0, .int .i64 (M / C - 1)] w fun e w' => e = .returned (.bool (decide (0 ≤ y) && decide (y ≤ M / C - 1))) ∧ w' = w) := fun w => within_any y 0 (M / C - 1) w
        cases t1 : (decide (0 ≤ y) && decide (y ≤ M / C - 1))
        · have hf : Hid (setB M l s = false) := by
            show setB M l s = false
            rw [hres.out]; exact all_not Hz.out (by simp only [okNo, t1])
          rw [t1] at H2
          clear t1 hres hall
          go_wp2_with fail
          go_quiet ((first | exact quiet_add_same (H2.out _) | exact Calls.quiet_of_same (H2.out _)))
          go_wp2
          go_ret
          exact ⟨ret_bool hf.out.symm, by first | exact below_drewN hB0.out _ | exact below_drewN (below_drewN hB0.out _) _⟩
        · have hok : Hid (((l.zip s).take (k + 1)).all (okNo M) = true) := all_take hall.out Hz.out (by simp only [okNo, t1])
          rw [t1] at H2
          clear t1 hres hall
          go_wp2_with fail
          go_quiet ((first | exact quiet_add_same (H2.out _) | exact Calls.quiet_of_same (H2.out _)))
          go_wp2
          go_roundw
          case rel => exact ⟨k + 1, by omega, by go_num, hok, (by first | exact ⟨_, rfl⟩ | exact ⟨_, World.drewN_drewN _ _ _⟩)⟩
          case measure => simp [intOf]; omega
      · have hfin : Hid (setB M l s = true) := by
          show setB M l s = true
          have := hall.out
          rw [List.take_of_length_le (by simp; omega)] at this
          rw [hres.out, this]
        clear hres hall
        go_wp2
        go_ret
        exact ⟨ret_bool hfin.out.symm, below_drewN hB0.out _⟩
  · have hb : ((n' : Int) != (n : Int)) = true := by simp; omega
    have hres : Hid (setB M l s = false) := by show setB M l s = false; unfold setB; rw [hs, hl]; simp [hnn]
    clear hnn hR hS
    go_enter Tryd.func47, Tryd.ntmps47
    go_wp2
    go_ret
    exact ⟨ret_bool hres.out.symm, hB0⟩

theorem fits_any (M : Int) (A A' : Option Addr) (n c n' c' : Nat) (l : List (Int × Int × Int)) (s : List Int) (w : World) (hn : n ≤ maxLen) (hR : Reads w w.heap.size 3 A n (sts l))
    (hS : Reads w w.heap.size 1 A' n' (ints s)) (hv : Hid (shaftB M l = true)) :
    Calls Tryd.prog 42 #[.agg #[.int .i64 M, .slice A n c], .slice A' n' c'] w fun e w' => e = .returned (.bool (setB M l s)) ∧ Below w.heap.size w w' := by
  have hl := hR.st_len
  have hs : s.length = n' := by simpa using hS.len
  obtain ⟨hM1, hM2, hn4⟩ := shaft_bounds hv.out
  have hB0 : Hid (Below w.heap.size w (w.alloc (.cells #[.int .i64 M, .slice A n c] 24))) := (Below.refl _ _).alloc (Nat.le_refl _) _
  unfold maxLen at hn
  by_cases hnn : n' = n
  · subst hnn
    have hres : Hid (setB M l s = (l.zip s).all (okNo M)) := by show setB M l s = _; unfold setB; rw [hs, hl]; simp
    have hM0 : Hid ((w.alloc (.cells #[.int .i64 M, .slice A n' c] 24)).cell? ⟨w.heap.size, 0, none⟩ = some (.int .i64 M)) := by show _ = _; rw [World.cell?_alloc_at _ _ _ _ rfl]; rfl
    have hM1' : Hid ((w.alloc (.cells #[.int .i64 M, .slice A n' c] 24)).cell? ⟨w.heap.size, 1, none⟩ = some (.slice A n' c)) := by show _ = _; rw [World.cell?_alloc_at _ _ _ _ rfl]; rfl
    have hR1 := Lib.hid (hR.alloc (Nat.le_refl _) (.cells #[.int .i64 M, .slice A n' c] 24))
    have hS1 := Lib.hid (hS.alloc (Nat.le_refl _) (.cells #[.int .i64 M, .slice A n' c] 24))
    have hBx : Hid (Below (w.heap.size + 1) (w.alloc (.cells #[.int .i64 M, .slice A n' c] 24)) (w.alloc (.cells #[.int .i64 M, .slice A n' c] 24))) := Below.refl _ _
    have hB0s : Hid ((w.alloc (.cells #[.int .i64 M, .slice A n' c] 24)).heap.size = w.heap.size + 1) := by show _ = _; simp
    clear hR hS
    go_enter Tryd.func42, Tryd.ntmps42
    go_wp2
    generalize w.alloc (.cells #[.int .i64 M, .slice A n' c] 24) = wb at *
    go_loopw [15] (fun x wr => ∃ k : Nat, k ≤ n' ∧ x = .int .i64 k ∧ Hid (((l.zip s).take k).all (okNo M) = true) ∧ Hid (Below (w.heap.size + 1) wb wr)) (fun x _ => n' - (intOf x).toNat)
    case atStart => exact ⟨0, by omega, rfl, by simp [Hid], hBx⟩
    case round =>
      obtain ⟨k, hk, rfl, hall, hBr⟩ := hrel
      clear hBx
      have m0 : wr.cell? ⟨w.heap.size, 0, none⟩ = some (.int .i64 M) := (hBr.out.cell (p := ⟨w.heap.size, 0, none⟩) (by simp)).trans hM0.out
      have m1 : wr.cell? ⟨w.heap.size, 1, none⟩ = some (.slice A n' c) := (hBr.out.cell (p := ⟨w.heap.size, 1, none⟩) (by simp)).trans hM1'.out
      have hsz : w.heap.size + 1 ≤ wr.heap.size := by have := hBr.out.size; rw [hB0s.out] at this; exact this
      by_cases hlt : k < n'
      · have hRr := (hR1.out.below (hBr.out.mono (by omega))).more (B' := wr.heap.size) (by omega)
        obtain ⟨b, o, C, U, P, -, -, hx, -, -, -⟩ := hRr.st hlt
        obtain ⟨b', o', rfl, hb', c0'⟩ := (hS1.out.below (hBr.out.mono (by omega))).int hlt
        obtain ⟨hC1, hC2, -, -, -, -, -⟩ := shaft_st hv.out hx
        have q0 : 0 ≤ M / C := Int.ediv_nonneg (by omega) (by omega)
        have q1 : M / C ≤ M := Int.ediv_le_self _ (by omega)
        have Hz := Lib.hid (zip_at hx (get_of_lt (l := s) (k := k) (by omega)))
        have HA := Lib.hid (apart_any M A n' c k l wr (by omega) (by omega) hlt hRr C ⟨U, P, hx⟩ hC1)
        clear hx hRr
        generalize s[k]?.getD 0 = y at *
        have hI : inB 0 (M / C - 1) [y] = okNo M ((C, U, P), y) := by simp [inB, okNo]
        cases t1 : okNo M ((C, U, P), y)
        · have hf : Hid (setB M l s = false) := by
            show setB M l s = false
            rw [hres.out]; exact all_not Hz.out t1
          rw [t1] at hI
          clear t1 hres hall
          have HI := Lib.hid hI
          clear hI
          go_wp2_with fail
          refine HA.out.mono ?_
          rintro e w1 ⟨rfl, hb1⟩
          have HB1 := Lib.hid hb1
          clear hb1
          go_wp2_with fail
          refine (in_any 0 (M / C - 1) _ 1 1 [y] _ (by unfold maxLen; omega) (Reads.new_ints w1 [y] 3 1 rfl)).mono ?_
          rw [HI.out]
          rintro e w2 ⟨rfl, hb2⟩
          have HB2 := Lib.hid hb2
          clear hb2
          go_wp2
          go_ret
          have hz1 := HB1.out.size
          exact ⟨ret_bool hf.out.symm, below_in (below_via (hB0.out.trans (hBr.out.mono (by omega))) (by omega) HB1.out) (by omega) HB2.out⟩
        · have hok : Hid (((l.zip s).take (k + 1)).all (okNo M) = true) := all_take hall.out Hz.out t1
          rw [t1] at hI
          clear t1 hres hall
          have HI := Lib.hid hI
          clear hI
          go_wp2_with fail
          refine HA.out.mono ?_
          rintro e w1 ⟨rfl, hb1⟩
          have HB1 := Lib.hid hb1
          clear hb1
          go_wp2_with fail
          refine (in_any 0 (M / C - 1) _ 1 1 [y] _ (by unfold maxLen; omega) (Reads.new_ints w1 [y] 3 1 rfl)).mono ?_
          rw [HI.out]
          rintro e w2 ⟨rfl, hb2⟩
          have HB2 := Lib.hid hb2
          clear hb2
          go_wp2
          have hz1 := HB1.out.size
          go_roundw
          case rel => exact ⟨k + 1, by omega, by go_num, hok, below_in (below_via hBr.out (by omega) HB1.out) (by omega) HB2.out⟩
          case measure => simp [intOf]; omega
      · have hfin : Hid (setB M l s = true) := by
          show setB M l s = true
          have := hall.out
          rw [List.take_of_length_le (by simp; omega)] at this
          rw [hres.out, this]
        clear hres hall
        go_wp2
        go_ret
        exact ⟨ret_bool hfin.out.symm, hB0.out.trans (hBr.out.mono (by omega))⟩
  · have hb : ((n' : Int) != (n : Int)) = true := by simp; omega
    have hres : Hid (setB M l s = false) := by show setB M l s = false; unfold setB; rw [hs, hl]; simp [hnn]
    clear hnn hR hS
    go_enter Tryd.func42, Tryd.ntmps42
    go_wp2
    go_ret
    exact ⟨ret_bool hres.out.symm, hB0⟩
end Go.Proofs.YtlmmjaolmmcklaaDoor
