/-
  The walks of the functions on shafts: whether one is valid, and how far its cams are apart.
-/
import Derived.Test.YtlmmjaolmmcklaaDoorIn
import Derived.Test.YtlmmjaolmmcklaaDoorRec
namespace Go.Proofs.YtlmmjaolmmcklaaDoor
open Go.RowKit

/-- How many marks the cams of a stamper are apart. -/
theorem apart_any (M : Int) (A : Option Addr) (n c k : Nat) (l : List (Int × Int × Int)) (w : World) (hM : 0 ≤ M) (hM' : M ≤ 12) (hk : k < n) (hR : Reads w w.heap.size 3 A n (sts l))
    (C : Int) (hC : Hid (∃ U P, l[k]? = some (C, U, P))) (hC0 : 1 ≤ C) :
    Calls Tryd.prog 45 #[.agg #[.int .i64 M, .slice A n c], .int .i64 k] w fun e w' => e = .returned (.int .i64 (M / C)) ∧ Below w.heap.size w w' := by
  obtain ⟨b, o, C', U, P, rfl, hb, hx, c0, -, -⟩ := hR.st hk
  have hCC : C' = C := by obtain ⟨U', P', h⟩ := hC.out; rw [hx] at h; simp at h; exact h.1
  subst hCC
  have q0 : 0 ≤ M / C' := Int.ediv_nonneg hM (by omega)
  have q1 : M / C' ≤ M := Int.ediv_le_self _ hM
  clear hC hx hR
  go_enter Tryd.func45, Tryd.ntmps45
  go_wp2
  go_quiet (fail)
  go_wp2
  go_ret
  exact ⟨rfl, below_drewN ((Below.refl _ _).alloc (Nat.le_refl _) _) _⟩

/-- A stamper is right for so many marks. -/
def okSt (M : Int) (x : Int × Int × Int) : Bool :=
  (decide (1 ≤ x.1) && decide (x.1 ≤ M)) && decide (M % x.1 = 0) && (decide (1 ≤ x.2.1) && decide (x.2.1 ≤ M / x.1 - 1)) && (decide (1 ≤ x.2.2) && decide (x.2.2 ≤ 500))
def shaftB (M : Int) (l : List (Int × Int × Int)) : Bool := (decide (1 ≤ M) && decide (M ≤ 12)) && decide (l.length ≤ 4) && l.all (okSt M)

theorem all_take {α : Type} {p : α → Bool} {l : List α} {k : Nat} {x : α} (h : (l.take k).all p = true) (hx : l[k]? = some x) (hp : p x = true) : (l.take (k + 1)).all p = true := by
  rw [List.take_add_one, List.all_append, h, hx]
  simpa using hp
theorem all_not {α : Type} {p : α → Bool} {l : List α} {k : Nat} {x : α} (hx : l[k]? = some x) (hp : p x = false) : l.all p = false := by
  rw [List.all_eq_false]
  exact ⟨x, List.mem_of_getElem? hx, by simp [hp]⟩

theorem Shaft_any (M : Int) (A : Option Addr) (n c : Nat) (l : List (Int × Int × Int)) (w : World) (hn : n ≤ maxLen) (hR : Reads w w.heap.size 3 A n (sts l)) :
    Calls Tryd.prog 46 #[.agg #[.int .i64 M, .slice A n c]] w fun e w' => e = .returned (.bool (shaftB M l)) ∧ Below w.heap.size w w' := by
  have hl := hR.st_len
  have hWi := Lib.hid (fun x lo hi w => within_any x lo hi w)
  have hB0 : Hid (Below w.heap.size w (w.alloc (.cells #[.int .i64 M, .slice A n c] 24))) := (Below.refl _ _).alloc (Nat.le_refl _) _
  unfold maxLen at hn
  cases h1 : (decide (1 ≤ M) && decide (M ≤ 12))
  · have hres : Hid (shaftB M l = false) := by show shaftB M l = false; unfold shaftB; rw [h1]; rfl
    have H1 := hWi.out M 1 12 (w.alloc (.cells #[.int .i64 M, .slice A n c] 24))
    rw [h1] at H1
    have H1' := Lib.hid H1
    clear H1 h1 hR hl
    go_enter Tryd.func46, Tryd.ntmps46
    go_wp2_with fail
    refine H1'.out.mono ?_
    rintro e w1 ⟨rfl, rfl⟩
    go_wp2
    go_ret
    exact ⟨ret_bool hres.out.symm, hB0⟩
  · have hMb : 1 ≤ M ∧ M ≤ 12 := by simpa using h1
    obtain ⟨hM1, hM2⟩ := hMb
    have H1 := hWi.out M 1 12 (w.alloc (.cells #[.int .i64 M, .slice A n c] 24))
    rw [h1] at H1
    have H1' := Lib.hid H1
    clear H1
    by_cases h4 : n ≤ 4
    · have hres : Hid (shaftB M l = l.all (okSt M)) := by show shaftB M l = _; unfold shaftB; rw [h1, hl]; simp [h4]
      have hg : ¬ (4 < n) := by omega
      clear h1
      go_enter Tryd.func46, Tryd.ntmps46
      go_wp2_with fail
      refine H1'.out.mono ?_
      rintro e w1 ⟨rfl, rfl⟩
      go_wp2
      have hBx : Hid (Below (w.heap.size + 1) (w.alloc (.cells #[.int .i64 M, .slice A n c] 24)) (w.alloc (.cells #[.int .i64 M, .slice A n c] 24))) := Below.refl _ _
      have hM0 : (w.alloc (.cells #[.int .i64 M, .slice A n c] 24)).cell? ⟨w.heap.size, 0, none⟩ = some (.int .i64 M) := by rw [World.cell?_alloc_at _ _ _ _ rfl]; rfl
      have HM0 := Lib.hid hM0
      have hR1 := Lib.hid (hR.alloc (Nat.le_refl _) (.cells #[.int .i64 M, .slice A n c] 24))
      have hB0s : Hid ((w.alloc (.cells #[.int .i64 M, .slice A n c] 24)).heap.size = w.heap.size + 1) := by show _ = _; simp
      clear hM0 hR
      generalize w.alloc (.cells #[.int .i64 M, .slice A n c] 24) = wb at *
      go_loopw [18] (fun x wr => ∃ k : Nat, k ≤ n ∧ x = .int .i64 k ∧ Hid ((l.take k).all (okSt M) = true) ∧ Hid (Below (w.heap.size + 1) wb wr)) (fun x _ => n - (intOf x).toNat)
      case atStart => exact ⟨0, by omega, rfl, by simp [Hid], hBx⟩
      case round =>
        obtain ⟨k, hk, rfl, hall, hBr⟩ := hrel
        clear hBx
        have hm : wr.cell? ⟨w.heap.size, 0, none⟩ = some (.int .i64 M) := (hBr.out.cell (p := ⟨w.heap.size, 0, none⟩) (by simp)).trans HM0.out
        have hsz : w.heap.size + 1 ≤ wr.heap.size := by have := hBr.out.size; rw [hB0s.out] at this; exact this
        have hm' : ∀ o, (wr.alloc o).cell? ⟨w.heap.size, 0, none⟩ = some (.int .i64 M) := fun o => (World.cell?_alloc_lt _ _ _ (by simp; omega)).trans hm
        by_cases hlt : k < n
        · obtain ⟨b, o, C, U, P, rfl, hb, hx, c0, c1, c2⟩ := (hR1.out.below (hBr.out.mono (by omega))).st hlt
          have Hx := Lib.hid hx
          clear hx
          have H2 : Hid (∀ w, Calls Tryd.prog 48 #[.int .i64 C, .int .i64 1, .int .i64 M] w fun e w' => e = .returned (.bool (decide (1 ≤ C) && decide (C ≤ M))) ∧ w' = w) := fun w => hWi.out C 1 M w
          have H3 : Hid (∀ w, Calls Tryd.prog 48 #[.int .i64 U, .int .i64 1, .int .i64 (M / C - 1)] w fun e w' => e = .returned (.bool (decide (1 ≤ U) && decide (U ≤ M / C - 1))) ∧ w' = w) := fun w => hWi.out U 1 (M / C - 1) w
          have H4 : Hid (∀ w, Calls Tryd.prog 48 #[.int .i64 P, .int .i64 1, .int .i64 500] w fun e w' => e = .returned (.bool (decide (1 ≤ P) && decide (P ≤ 500))) ∧ w' = w) := fun w => hWi.out P 1 500 w
          cases t1 : (decide (1 ≤ C) && decide (C ≤ M))
          · rw [t1] at H2
            have hf : Hid (shaftB M l = false) := by
              show shaftB M l = false
              rw [hres.out]; exact all_not Hx.out (by simp [okSt, t1])
            clear t1 H3 H4 hres hall
            go_wp2_with fail
            go_quiet ((first | (with_reducible exact Calls.quiet_of_same (H2.out _))))
            go_wp2
            go_ret
            exact ⟨ret_bool hf.out.symm, below_drewN ((hB0.out.trans (hBr.out.mono (by omega))).alloc (by omega) _) _⟩
          · have hC1 : 1 ≤ C := by simp at t1; omega
            have hC2 : C ≤ M := by simp at t1; omega
            rw [t1] at H2
            have q0 : 0 ≤ M / C := Int.ediv_nonneg (by omega) (by omega)
            have q1 : M / C ≤ M := Int.ediv_le_self _ (by omega)
            by_cases t2 : M % C = 0
            · have t2' : (M % C != 0) = false := by simp [t2]
              cases t3 : (decide (1 ≤ U) && decide (U ≤ M / C - 1))
              · rw [t3] at H3
                have hf : Hid (shaftB M l = false) := by
                  show shaftB M l = false
                  rw [hres.out]; exact all_not Hx.out (by simp [okSt, t3])
                clear t1 t2 t3 H4 hres hall
                go_wp2_with fail
                go_quiet ((first | (with_reducible exact Calls.quiet_of_same (H2.out _)) | (with_reducible exact Calls.quiet_of_same (H3.out _))))
                go_wp2
                go_ret
                exact ⟨ret_bool hf.out.symm, below_drewN ((hB0.out.trans (hBr.out.mono (by omega))).alloc (by omega) _) _⟩
              · rw [t3] at H3
                cases t4 : (decide (1 ≤ P) && decide (P ≤ 500))
                · rw [t4] at H4
                  have hf : Hid (shaftB M l = false) := by
                    show shaftB M l = false
                    rw [hres.out]; exact all_not Hx.out (by simp [okSt, t4])
                  clear t1 t2 t3 t4 hres hall
                  go_wp2_with fail
                  go_quiet ((first | (with_reducible exact Calls.quiet_of_same (H2.out _)) | (with_reducible exact Calls.quiet_of_same (H3.out _)) | (with_reducible exact Calls.quiet_of_same (H4.out _))))
                  go_wp2
                  go_ret
                  exact ⟨ret_bool hf.out.symm, below_drewN ((hB0.out.trans (hBr.out.mono (by omega))).alloc (by omega) _) _⟩
                · rw [t4] at H4
                  have hok : Hid ((l.take (k + 1)).all (okSt M) = true) := all_take hall.out Hx.out (by simp only [okSt, t1, t2, t3, t4, Bool.and_self, decide_true])
                  clear t1 t2 t3 t4 hres hall
                  go_wp2_with fail
                  go_quiet ((first | (with_reducible exact Calls.quiet_of_same (H2.out _)) | (with_reducible exact Calls.quiet_of_same (H3.out _)) | (with_reducible exact Calls.quiet_of_same (H4.out _))))
                  go_wp2
                  go_roundw
                  case rel => exact ⟨k + 1, by omega, by go_num, hok, below_drewN (hBr.out.alloc (by omega) _) _⟩
                  case measure => simp [intOf]; omega
            · have t2' : (M % C != 0) = true := by simpa using t2
              have hf : Hid (shaftB M l = false) := by
                show shaftB M l = false
                rw [hres.out]; exact all_not Hx.out (by simp [okSt, t2])
              clear t1 t2 H3 H4 hres hall
              go_wp2_with fail
              go_quiet ((first | (with_reducible exact Calls.quiet_of_same (H2.out _))))
              go_wp2
              go_ret
              exact ⟨ret_bool hf.out.symm, below_drewN ((hB0.out.trans (hBr.out.mono (by omega))).alloc (by omega) _) _⟩
        · have hfin : Hid (shaftB M l = true) := by
            show shaftB M l = true
            have := hall.out
            rw [List.take_of_length_le (by omega)] at this
            rw [hres.out, this]
          clear hres hall
          go_wp2
          go_ret
          exact ⟨ret_bool hfin.out.symm, hB0.out.trans (hBr.out.mono (by omega))⟩
    · have hres : Hid (shaftB M l = false) := by show shaftB M l = _; unfold shaftB; rw [h1, hl]; simp [h4]
      have hg : 4 < n := by omega
      clear h1 hR
      go_enter Tryd.func46, Tryd.ntmps46
      go_wp2_with fail
      refine H1'.out.mono ?_
      rintro e w1 ⟨rfl, rfl⟩
      go_wp2
      go_ret
      exact ⟨ret_bool hres.out.symm, hB0⟩
end Go.Proofs.YtlmmjaolmmcklaaDoor
