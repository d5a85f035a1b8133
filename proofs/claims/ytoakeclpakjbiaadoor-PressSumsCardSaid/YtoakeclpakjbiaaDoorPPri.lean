/-
  The walk of the program's sum of prices.
-/
import Derived.Test.YtoakeclpakjbiaaDoorCut
import Derived.Test.YtoakeclpakjbiaaDoorHold
namespace Go.Proofs.YtoakeclpakjbiaaDoor
open Go.RowKit
set_option linter.unusedVariables false
set_option linter.unusedSimpArgs false
theorem mul_bd' {a e : Int} (ha : -4 ≤ a ∧ a ≤ 4) (he : -10000000 ≤ e ∧ e ≤ 10000000) : -40000000 ≤ a * e ∧ a * e ≤ 40000000 := by
  obtain rfl | rfl | rfl | rfl | rfl | rfl | rfl | rfl | rfl : a = -4 ∨ a = -3 ∨ a = -2 ∨ a = -1 ∨ a = 0 ∨ a = 1 ∨ a = 2 ∨ a = 3 ∨ a = 4 := by omega
  all_goals omega
theorem cnt_bd' {s : Sp} (hs : -10000000 ≤ s.1 ∧ s.1 ≤ 10000000 ∧ -10000000 ≤ s.2 ∧ s.2 ≤ 10000000) {e : Int} (he : -4 ≤ e ∧ e ≤ 4) : -40000000 ≤ cnt s e ∧ cnt s e ≤ 40000000 := by
  have h1 := mul_bd' he ⟨hs.1, hs.2.1⟩
  have h2 := mul_bd' he ⟨hs.2.2.1, hs.2.2.2⟩
  unfold cnt
  rw [Int.mul_comm s.1, Int.mul_comm s.2]
  omega
theorem rowS_bd' {t : Nat → Option Nat} {R : Nat → Nat → Sp} {K : Nat} {one : Int} {y : Nat → Int} {i : Nat} (hR : ∀ k, k < 7 → -10000000 ≤ (R i k).1 ∧ (R i k).1 ≤ 10000000 ∧ -10000000 ≤ (R i k).2 ∧ (R i k).2 ≤ 10000000) (ho : one = 1 ∨ one = -1) (h1 : -1 ≤ y i ∧ y i ≤ 1) (h2 : -1 ≤ yTo t y i ∧ yTo t y i ≤ 1) :
    ∀ (k : Nat), k ≤ 6 → -(40000000 * (k : Int)) ≤ rowS t R K one y i k ∧ rowS t R K one y i k ≤ 40000000 * (k : Int)
  | 0, _ => by simp [rowS]
  | k + 1, hk => by
    have ih := rowS_bd' (K := K) hR ho h1 h2 k (by omega)
    have := cnt_bd' (hR (k + 1) (by omega)) (e := eachP K one (y i) (yTo t y i) (k + 1)) (by unfold eachP; split <;> (try split) <;> (try split) <;> omega)
    unfold rowS
    omega
theorem priS_bd' {t : Nat → Option Nat} {R : Nat → Nat → Sp} {K : Nat} {one : Int} {y : Nat → Int} {n : Nat} (hR : SmR R n) (ho : one = 1 ∨ one = -1) (h1 : ∀ i, i < n → -1 ≤ y i ∧ y i ≤ 1) (h2 : ∀ i, i < n → -1 ≤ yTo t y i ∧ yTo t y i ≤ 1) :
    ∀ (m : Nat), m ≤ n → -(240000000 * (m : Int)) ≤ priS t R K one y m ∧ priS t R K one y m ≤ 240000000 * (m : Int)
  | 0, _ => by simp [priS]
  | m + 1, hm => by
    have ih := priS_bd' (K := K) hR ho h1 h2 m (by omega)
    have := rowS_bd' (K := K) (fun k hk => hR m k (by omega) hk) ho (h1 m (by omega)) (h2 m (by omega)) 6 (by omega)
    unfold priS
    omega
/-- Prices as a list. -/
def ysL (y : Nat → Int) (n : Nat) : List Int := (List.range n).map y
theorem ysL_get {y : Nat → Int} {n k : Nat} (hk : k < n) : (ysL y n)[k]?.getD 0 = y k := by simp [ysL, hk]
set_option maxRecDepth 100000 in
set_option maxHeartbeats 4000000 in
theorem pprices_any (mb n : Nat) (t : Nat → Option Nat) (R : Nat → Nat → Sp) (U I : Nat → Sp) (At Ar Au Ai : Option Addr) (ct cr cu ci : Nat) (hn : n ≤ 10) (hF : Fwd n t) (hSm : SmR R n) (K : Nat) (hK : K ≤ 5) (y : Nat → Int) (hy : ∀ i, i < n → -1 ≤ y i ∧ y i ≤ 1)
    (Ap : Option Addr) (cp : Nat) (x : World) (hM : MR x mb n t R U I At Ar Au Ai ct cr cu ci) (hP : Reads x x.heap.size 1 Ap n (ints (ysL y n))) :
    Calls Tryd.prog 89 #[.pointer (some ⟨mb, 0, none⟩), .int .i64 K, .slice Ap n cp] x fun e x' => e = .returned (.int .i64 (priS t R K 1 y n)) ∧ Below x.heap.size x x' := by
  have hyt : ∀ i, i < n → -1 ≤ yTo t y i ∧ yTo t y i ≤ 1 := fun i hi => by
    unfold yTo
    cases ht : t i with
    | none => simp
    | some q => exact hy q (hF i q hi ht).2
  have priB := Lib.hid (priS_bd' (K := K) hSm (.inl rfl : (1 : Int) = 1 ∨ (1 : Int) = -1) hy hyt)
  have rowB := Lib.hid (fun i (hi : i < n) => rowS_bd' (K := K) (fun k hk => hSm i k hi hk) (.inl rfl : (1 : Int) = 1 ∨ (1 : Int) = -1) (hy i hi) (hyt i hi))
  have c3 := hM.c3
  have HMx := Lib.hid (fun z (hz : Below x.heap.size x z) => hM.below hz)
  have HPx := Lib.hid (fun z (hz : Below x.heap.size x z) => (hP.below hz).more hz.size)
  have hFh := Lib.hid hF
  have hSmh := Lib.hid hSm
  have hyh := Lib.hid hy
  have hyth := Lib.hid hyt
  clear hM hP hF hSm hy hyt
  go_enter Tryd.func89, Tryd.ntmps89
  go_wp2
  go_loopw [7, 17] (fun v u wr => ∃ wl, wl = wr ∧ ∃ i : Nat, i ≤ n ∧ u = .int .i64 i ∧ (∃ pv, v = .int .i64 pv ∧ Hid (pv = priS t R K 1 y i)) ∧ Hid (Below x.heap.size x wl)) (fun _ u _ => n - (intOf u).toNat)
  case atStart => exact ⟨_, rfl, 0, Nat.zero_le _, rfl, ⟨0, rfl, Lib.hid rfl⟩, Lib.hid (Below.refl _ _)⟩
  case round =>
    clear c3
    obtain ⟨wr, rfl, i, hi, rfl, ⟨pv, rfl, hpv⟩, HBr⟩ := hrel
    have hpb : -2400000000 ≤ pv ∧ pv ≤ 2400000000 := by have h1 := hpv.out; have h2 := priB.out i hi; omega
    by_cases hin : i < n
    · have hii : (i : Int) < (n : Int) := by omega
      have ii0 : (0 : Int) ≤ (i : Int) := by omega
      obtain ⟨bi, oi, rfl, hbi, hri⟩ := (HMx.out _ HBr.out).rr.rw_ hin
      have hrow := Lib.hid (rowB.out i hin)
      have r0 : wr.cell? ⟨bi, oi + i * 14, none⟩ = some (.int .i64 (R i 0).1) := hri 0 _ rfl
      have r1 : wr.cell? ⟨bi, oi + i * 14 + 1, none⟩ = some (.int .i64 (R i 0).2) := hri 1 _ rfl
      have r2 : wr.cell? ⟨bi, oi + i * 14 + 2, none⟩ = some (.int .i64 (R i 1).1) := hri 2 _ rfl
      have r3 : wr.cell? ⟨bi, oi + i * 14 + 3, none⟩ = some (.int .i64 (R i 1).2) := hri 3 _ rfl
      have r4 : wr.cell? ⟨bi, oi + i * 14 + 4, none⟩ = some (.int .i64 (R i 2).1) := hri 4 _ rfl
      have r5 : wr.cell? ⟨bi, oi + i * 14 + 5, none⟩ = some (.int .i64 (R i 2).2) := hri 5 _ rfl
      have r6 : wr.cell? ⟨bi, oi + i * 14 + 6, none⟩ = some (.int .i64 (R i 3).1) := hri 6 _ rfl
      have r7 : wr.cell? ⟨bi, oi + i * 14 + 7, none⟩ = some (.int .i64 (R i 3).2) := hri 7 _ rfl
      have r8 : wr.cell? ⟨bi, oi + i * 14 + 8, none⟩ = some (.int .i64 (R i 4).1) := hri 8 _ rfl
      have r9 : wr.cell? ⟨bi, oi + i * 14 + 9, none⟩ = some (.int .i64 (R i 4).2) := hri 9 _ rfl
      have r10 : wr.cell? ⟨bi, oi + i * 14 + 10, none⟩ = some (.int .i64 (R i 5).1) := hri 10 _ rfl
      have r11 : wr.cell? ⟨bi, oi + i * 14 + 11, none⟩ = some (.int .i64 (R i 5).2) := hri 11 _ rfl
      have r12 : wr.cell? ⟨bi, oi + i * 14 + 12, none⟩ = some (.int .i64 (R i 6).1) := hri 12 _ rfl
      have r13 : wr.cell? ⟨bi, oi + i * 14 + 13, none⟩ = some (.int .i64 (R i 6).2) := hri 13 _ rfl
      obtain ⟨z, hz⟩ : ∃ z, z = wr.alloc (.cells #[.int .i64 (R i 0).1, .int .i64 (R i 0).2, .int .i64 (R i 1).1, .int .i64 (R i 1).2, .int .i64 (R i 2).1, .int .i64 (R i 2).2, .int .i64 (R i 3).1, .int .i64 (R i 3).2, .int .i64 (R i 4).1, .int .i64 (R i 4).2, .int .i64 (R i 5).1, .int .i64 (R i 5).2, .int .i64 (R i 6).1, .int .i64 (R i 6).2] 104) := ⟨_, rfl⟩
      have hzO := heap_alloc_new wr (.cells #[.int .i64 (R i 0).1, .int .i64 (R i 0).2, .int .i64 (R i 1).1, .int .i64 (R i 1).2, .int .i64 (R i 2).1, .int .i64 (R i 2).2, .int .i64 (R i 3).1, .int .i64 (R i 3).2, .int .i64 (R i 4).1, .int .i64 (R i 4).2, .int .i64 (R i 5).1, .int .i64 (R i 5).2, .int .i64 (R i 6).1, .int .i64 (R i 6).2] 104)
      have hwz : Below wr.heap.size wr z := by rw [hz]; exact (Below.refl _ _).alloc (Nat.le_refl _) _
      rw [← hz] at hzO
      have hBz : Hid (Below x.heap.size x z) := Lib.hid (HBr.out.trans (hwz.mono HBr.out.size))
      have hstep := Lib.hid (fun k => (show rowS t R K 1 y i (k + 1) = rowS t R K 1 y i k + cnt (R i (k + 1)) (eachP K 1 (y i) (yTo t y i) (k + 1)) from rfl))
      have hnx := Lib.hid (show priS t R K 1 y (i + 1) = priS t R K 1 y i + rowS t R K 1 y i 6 from rfl)
      have hyi := hyh.out i hin
      have hti := hyth.out i hin
      obtain ⟨yi, hyi_⟩ : ∃ q, q = y i := ⟨_, rfl⟩
      obtain ⟨ti, hti_⟩ : ∃ q, q = yTo t y i := ⟨_, rfl⟩
      rw [← hyi_] at hyi hstep
      rw [← hti_] at hti hstep
      have hyeq := Lib.hid hyi_
      have hteq := Lib.hid hti_
      have hzh := Lib.hid hz
      have HRB := Lib.hid (fun w1 (h1 : Below z.heap.size z w1) (j : Nat) (hj : j < 7) => (by
        obtain ⟨a0, a1⟩ := row14 hzO hj
        have hl : wr.heap.size < z.heap.size := (Array.getElem?_eq_some_iff.1 hzO).1
        exact ⟨(h1.cell hl).trans a0, (h1.cell hl).trans a1⟩ : w1.cell? ⟨wr.heap.size, j * 2, none⟩ = some (.int .i64 (R i j).1) ∧ w1.cell? ⟨wr.heap.size, j * 2 + 1, none⟩ = some (.int .i64 (R i j).2)))
      clear hyi_ hti_ hwz hri hzO hz
      go_wp2_with fail
      rw [← hzh.out]
      clear r0 r1 r2 r3 r4 r5 r6 r7 r8 r9 r10 r11 r12 r13 hzh
      go_loopw [7, 10] (fun v u wq => ∃ wl, wl = wq ∧ ∃ j : Nat, 1 ≤ j ∧ j ≤ 7 ∧ ∃ sv : Int, v = .int .i64 sv ∧ u = .int .i64 j ∧ Hid (Below z.heap.size z wl) ∧ Hid (sv = pv + rowS t R K 1 y i (j - 1))) (fun _ u _ => 7 - (intOf u).toNat)
      case atStart => exact ⟨_, rfl, 1, by omega, by omega, pv, rfl, rfl, Lib.hid (Below.refl _ _), Lib.hid (by simp [rowS])⟩
      case round =>
        obtain ⟨wj, rfl, j, hj1, hj7, sv, rfl, rfl, HBw, hsv⟩ := hrel
        have hsb : -4000000000 ≤ sv ∧ sv ≤ 4000000000 := by
          have h1 := hsv.out
          have h2 := hrow.out (j - 1) (by omega)
          omega
        have HBx := Lib.hid (below_via hBz.out hBz.out.size HBw.out)
        by_cases hj6 : j ≤ 6
        · have hjj : (j : Int) ≤ 6 := by omega
          have hj0 : (1 : Int) ≤ (j : Int) := by omega
          have hMj := HMx.out _ HBx.out
          obtain ⟨bp, op, rfl, hbp, cpi⟩ := (HPx.out _ HBx.out).int (k := i) (by omega)
          rw [ysL_get hin, ← hyeq.out] at cpi
          obtain ⟨bt, ot, rfl, hbt, cti⟩ := hMj.rt.to_ hin
          have c2 := hMj.c2
          obtain ⟨r0, r1⟩ := HRB.out _ HBw.out j (by omega)
          have hsm := hSmh.out i j hin (by omega)
          have hrs : Hid (∀ cv, cnt (R i j) (eachP K 1 yi ti j) = cv → Hid (sv + cv = pv + rowS t R K 1 y i (j + 1 - 1))) := by
            refine Lib.hid fun cv hcv => ?_
            obtain ⟨k, rfl⟩ : ∃ k, j = k + 1 := ⟨j - 1, by omega⟩
            have h1 := hsv.out
            simp only [Nat.add_sub_cancel] at h1 ⊢
            refine Lib.hid ?_
            rw [hstep.out k, hcv, h1, Int.add_assoc]
          have HPj := Lib.hid (HPx.out _ HBx.out)
          clear hsv hMj
          by_cases hc1 : j = 1
          · have hb1 : ((j : Int) == 1) = true := by simp [hc1]
            have hb6 : ((j : Int) == 6) = false := by simp [hc1]
            by_cases hcK : j = K
            · have hbK : ((j : Int) == (K : Int)) = true := by simp [hcK]
              obtain ⟨ev, hev⟩ : ∃ ev, yi + 1 = ev := ⟨_, rfl⟩
              have hE : Hid (eachP K 1 yi ti j = ev) := by show _ = _; unfold eachP; rw [if_pos hc1, if_pos hcK, hev]
              have hev4 : -4 ≤ ev ∧ ev ≤ 4 := by omega
              clear hcK hc1
              obtain ⟨lo, hlo⟩ : ∃ x, x = (R i j).1 := ⟨_, rfl⟩
              obtain ⟨hi, hhi⟩ : ∃ x, x = (R i j).2 := ⟨_, rfl⟩
              have hbL := mul_bd' (a := ev) (e := lo) hev4 (by rw [hlo]; exact ⟨hsm.1, hsm.2.1⟩)
              have hbH := mul_bd' (a := ev) (e := hi) hev4 (by rw [hhi]; exact ⟨hsm.2.2.1, hsm.2.2.2⟩)
              obtain ⟨Av, hAv⟩ : ∃ x, x = ev * lo := ⟨_, rfl⟩
              obtain ⟨Bv, hBv⟩ : ∃ x, x = ev * hi := ⟨_, rfl⟩
              have hcv : Hid (cnt (R i j) ev = max Av Bv) := by show _ = _; unfold cnt; rw [← hlo, ← hhi, hAv, hBv, Int.mul_comm lo, Int.mul_comm hi]
              have hA : IntKind.i64.wrap (ev * lo) = Av := by rw [hAv]; exact IntWalk.i64_in _ (by omega)
              have hB : IntKind.i64.wrap (ev * hi) = Bv := by rw [hBv]; exact IntWalk.i64_in _ (by omega)
              have hm := mx_if Av Bv
              obtain ⟨cv, hcv_⟩ : ∃ x, x = max Av Bv := ⟨_, rfl⟩
              rw [← hcv_] at hm hcv
              have hcb : -40000000 ≤ cv ∧ cv ≤ 40000000 := by omega
              rw [← hlo] at r0
              rw [← hhi] at r1
              have hst := Lib.hid (hrs.out cv (by rw [hE.out]; exact hcv.out))
              clear hlo hhi hAv hBv hcv_ hrs hE hcv hsm hbL hbH
              go_wp2
              go_quiet (fail)
              rename_i nq
              go_wp2
              go_roundw
              case rel => exact ⟨_, rfl, j + 1, by omega, by omega, sv + cv, rfl, by go_num, Lib.hid (below_drewN HBw.out _), hst⟩
              case measure => simp [intOf]; omega
            · have hbK : ((j : Int) == (K : Int)) = false := by simp; omega
              obtain ⟨ev, hev⟩ : ∃ ev, ev = yi := ⟨_, rfl⟩
              rw [← hev] at cpi
              have hE : Hid (eachP K 1 yi ti j = ev) := by show _ = _; unfold eachP; rw [if_pos hc1, if_neg hcK, hev, Int.add_zero]
              have hev4 : -4 ≤ ev ∧ ev ≤ 4 := by omega
              clear hcK hc1 hev
              obtain ⟨lo, hlo⟩ : ∃ x, x = (R i j).1 := ⟨_, rfl⟩
              obtain ⟨hi, hhi⟩ : ∃ x, x = (R i j).2 := ⟨_, rfl⟩
              have hbL := mul_bd' (a := ev) (e := lo) hev4 (by rw [hlo]; exact ⟨hsm.1, hsm.2.1⟩)
              have hbH := mul_bd' (a := ev) (e := hi) hev4 (by rw [hhi]; exact ⟨hsm.2.2.1, hsm.2.2.2⟩)
              obtain ⟨Av, hAv⟩ : ∃ x, x = ev * lo := ⟨_, rfl⟩
              obtain ⟨Bv, hBv⟩ : ∃ x, x = ev * hi := ⟨_, rfl⟩
              have hcv : Hid (cnt (R i j) ev = max Av Bv) := by show _ = _; unfold cnt; rw [← hlo, ← hhi, hAv, hBv, Int.mul_comm lo, Int.mul_comm hi]
              have hA : IntKind.i64.wrap (ev * lo) = Av := by rw [hAv]; exact IntWalk.i64_in _ (by omega)
              have hB : IntKind.i64.wrap (ev * hi) = Bv := by rw [hBv]; exact IntWalk.i64_in _ (by omega)
              have hm := mx_if Av Bv
              obtain ⟨cv, hcv_⟩ : ∃ x, x = max Av Bv := ⟨_, rfl⟩
              rw [← hcv_] at hm hcv
              have hcb : -40000000 ≤ cv ∧ cv ≤ 40000000 := by omega
              rw [← hlo] at r0
              rw [← hhi] at r1
              have hst := Lib.hid (hrs.out cv (by rw [hE.out]; exact hcv.out))
              clear hlo hhi hAv hBv hcv_ hrs hE hcv hsm hbL hbH
              go_wp2
              go_quiet (fail)
              rename_i nq
              go_wp2
              go_roundw
              case rel => exact ⟨_, rfl, j + 1, by omega, by omega, sv + cv, rfl, by go_num, Lib.hid (below_drewN HBw.out _), hst⟩
              case measure => simp [intOf]; omega
          · have hb1 : ((j : Int) == 1) = false := by simp; omega
            obtain ⟨nv, hnv⟩ : ∃ nv, -yi = nv := ⟨_, rfl⟩
            have hnb : -1 ≤ nv ∧ nv ≤ 1 := by omega
            by_cases hc6 : j = 6
            · have hb6 : ((j : Int) == 6) = true := by simp [hc6]
              have hcK : ¬ j = K := by omega
              have hbK : ((j : Int) == (K : Int)) = false := by simp; omega
              cases hT : t i with
              | none =>
                have ht0 : ti = 0 := by rw [hteq.out]; unfold yTo; rw [hT]
                have hE : Hid (eachP K 1 yi ti j = nv) := by show _ = _; unfold eachP; rw [if_neg hc1, if_pos hc6, if_neg hcK, Int.add_zero, ht0, ← hnv, Int.zero_sub]
                have htv : toV t i = -1 := by unfold toV; rw [hT]
                rw [htv] at cti
                obtain ⟨ev, hev⟩ : ∃ ev, nv = ev := ⟨_, rfl⟩
                rw [hev] at hE hnv
                have hev4 : -4 ≤ ev ∧ ev ≤ 4 := by omega
                clear hcK hc1 hc6 ht0 htv hev hT hnb
                obtain ⟨lo, hlo⟩ : ∃ x, x = (R i j).1 := ⟨_, rfl⟩
                obtain ⟨hi, hhi⟩ : ∃ x, x = (R i j).2 := ⟨_, rfl⟩
                have hbL := mul_bd' (a := ev) (e := lo) hev4 (by rw [hlo]; exact ⟨hsm.1, hsm.2.1⟩)
                have hbH := mul_bd' (a := ev) (e := hi) hev4 (by rw [hhi]; exact ⟨hsm.2.2.1, hsm.2.2.2⟩)
                obtain ⟨Av, hAv⟩ : ∃ x, x = ev * lo := ⟨_, rfl⟩
                obtain ⟨Bv, hBv⟩ : ∃ x, x = ev * hi := ⟨_, rfl⟩
                have hcv : Hid (cnt (R i j) ev = max Av Bv) := by show _ = _; unfold cnt; rw [← hlo, ← hhi, hAv, hBv, Int.mul_comm lo, Int.mul_comm hi]
                have hA : IntKind.i64.wrap (ev * lo) = Av := by rw [hAv]; exact IntWalk.i64_in _ (by omega)
                have hB : IntKind.i64.wrap (ev * hi) = Bv := by rw [hBv]; exact IntWalk.i64_in _ (by omega)
                have hm := mx_if Av Bv
                obtain ⟨cv, hcv_⟩ : ∃ x, x = max Av Bv := ⟨_, rfl⟩
                rw [← hcv_] at hm hcv
                have hcb : -40000000 ≤ cv ∧ cv ≤ 40000000 := by omega
                rw [← hlo] at r0
                rw [← hhi] at r1
                have hst := Lib.hid (hrs.out cv (by rw [hE.out]; exact hcv.out))
                clear hlo hhi hAv hBv hcv_ hrs hE hcv hsm hbL hbH
                go_wp2
                go_quiet (fail)
                rename_i nq
                go_wp2
                go_roundw
                case rel => exact ⟨_, rfl, j + 1, by omega, by omega, sv + cv, rfl, by go_num, Lib.hid (below_drewN HBw.out _), hst⟩
                case measure => simp [intOf]; omega
              | some q =>
                obtain ⟨hiq, hqn⟩ := hFh.out i q hin hT
                obtain ⟨bp', op', e2, -, cpq⟩ := HPj.out.int (k := q) (by omega)
                simp only [Option.some.injEq, Addr.mk.injEq, and_true] at e2
                obtain ⟨rfl, rfl⟩ := e2
                have htq : ti = y q := by rw [hteq.out]; unfold yTo; rw [hT]
                rw [ysL_get hqn, ← htq] at cpq
                obtain ⟨ev, hev⟩ : ∃ ev, nv + ti = ev := ⟨_, rfl⟩
                have hE : Hid (eachP K 1 yi ti j = ev) := by show _ = _; unfold eachP; rw [if_neg hc1, if_pos hc6, if_neg hcK, Int.add_zero, ← hev, ← hnv]; omega
                have htv : toV t i = (q : Int) := by unfold toV; rw [hT]
                rw [htv] at cti
                have hqi : (q : Int) < (n : Int) := by omega
                have hq0 : (0 : Int) ≤ (q : Int) := by omega
                have hev4 : -4 ≤ ev ∧ ev ≤ 4 := by omega
                clear hcK hc1 hc6 htq htv hT
                obtain ⟨lo, hlo⟩ : ∃ x, x = (R i j).1 := ⟨_, rfl⟩
                obtain ⟨hi, hhi⟩ : ∃ x, x = (R i j).2 := ⟨_, rfl⟩
                have hbL := mul_bd' (a := ev) (e := lo) hev4 (by rw [hlo]; exact ⟨hsm.1, hsm.2.1⟩)
                have hbH := mul_bd' (a := ev) (e := hi) hev4 (by rw [hhi]; exact ⟨hsm.2.2.1, hsm.2.2.2⟩)
                obtain ⟨Av, hAv⟩ : ∃ x, x = ev * lo := ⟨_, rfl⟩
                obtain ⟨Bv, hBv⟩ : ∃ x, x = ev * hi := ⟨_, rfl⟩
                have hcv : Hid (cnt (R i j) ev = max Av Bv) := by show _ = _; unfold cnt; rw [← hlo, ← hhi, hAv, hBv, Int.mul_comm lo, Int.mul_comm hi]
                have hA : IntKind.i64.wrap (ev * lo) = Av := by rw [hAv]; exact IntWalk.i64_in _ (by omega)
                have hB : IntKind.i64.wrap (ev * hi) = Bv := by rw [hBv]; exact IntWalk.i64_in _ (by omega)
                have hm := mx_if Av Bv
                obtain ⟨cv, hcv_⟩ : ∃ x, x = max Av Bv := ⟨_, rfl⟩
                rw [← hcv_] at hm hcv
                have hcb : -40000000 ≤ cv ∧ cv ≤ 40000000 := by omega
                rw [← hlo] at r0
                rw [← hhi] at r1
                have hst := Lib.hid (hrs.out cv (by rw [hE.out]; exact hcv.out))
                clear hlo hhi hAv hBv hcv_ hrs hE hcv hsm hbL hbH
                go_wp2
                go_quiet (fail)
                rename_i nq
                go_wp2
                go_roundw
                case rel => exact ⟨_, rfl, j + 1, by omega, by omega, sv + cv, rfl, by go_num, Lib.hid (below_drewN HBw.out _), hst⟩
                case measure => simp [intOf]; omega
            · have hb6 : ((j : Int) == 6) = false := by simp; omega
              by_cases hcK : j = K
              · have hbK : ((j : Int) == (K : Int)) = true := by simp [hcK]
                obtain ⟨ev, hev⟩ : ∃ ev, nv + 1 = ev := ⟨_, rfl⟩
                have hE : Hid (eachP K 1 yi ti j = ev) := by show _ = _; unfold eachP; rw [if_neg hc1, if_neg hc6, if_pos hcK, ← hev, ← hnv]
                have hev4 : -4 ≤ ev ∧ ev ≤ 4 := by omega
                clear hcK hc1 hc6
                obtain ⟨lo, hlo⟩ : ∃ x, x = (R i j).1 := ⟨_, rfl⟩
                obtain ⟨hi, hhi⟩ : ∃ x, x = (R i j).2 := ⟨_, rfl⟩
                have hbL := mul_bd' (a := ev) (e := lo) hev4 (by rw [hlo]; exact ⟨hsm.1, hsm.2.1⟩)
                have hbH := mul_bd' (a := ev) (e := hi) hev4 (by rw [hhi]; exact ⟨hsm.2.2.1, hsm.2.2.2⟩)
                obtain ⟨Av, hAv⟩ : ∃ x, x = ev * lo := ⟨_, rfl⟩
                obtain ⟨Bv, hBv⟩ : ∃ x, x = ev * hi := ⟨_, rfl⟩
                have hcv : Hid (cnt (R i j) ev = max Av Bv) := by show _ = _; unfold cnt; rw [← hlo, ← hhi, hAv, hBv, Int.mul_comm lo, Int.mul_comm hi]
                have hA : IntKind.i64.wrap (ev * lo) = Av := by rw [hAv]; exact IntWalk.i64_in _ (by omega)
                have hB : IntKind.i64.wrap (ev * hi) = Bv := by rw [hBv]; exact IntWalk.i64_in _ (by omega)
                have hm := mx_if Av Bv
                obtain ⟨cv, hcv_⟩ : ∃ x, x = max Av Bv := ⟨_, rfl⟩
                rw [← hcv_] at hm hcv
                have hcb : -40000000 ≤ cv ∧ cv ≤ 40000000 := by omega
                rw [← hlo] at r0
                rw [← hhi] at r1
                have hst := Lib.hid (hrs.out cv (by rw [hE.out]; exact hcv.out))
                clear hlo hhi hAv hBv hcv_ hrs hE hcv hsm hbL hbH
                go_wp2
                go_quiet (fail)
                rename_i nq
                go_wp2
                go_roundw
                case rel => exact ⟨_, rfl, j + 1, by omega, by omega, sv + cv, rfl, by go_num, Lib.hid (below_drewN HBw.out _), hst⟩
                case measure => simp [intOf]; omega
              · have hbK : ((j : Int) == (K : Int)) = false := by simp; omega
                have hE : Hid (eachP K 1 yi ti j = nv) := by show _ = _; unfold eachP; rw [if_neg hc1, if_neg hc6, if_neg hcK, ← hnv, Int.add_zero]
                obtain ⟨ev, hev⟩ : ∃ ev, nv = ev := ⟨_, rfl⟩
                rw [hev] at hE hnv
                have hev4 : -4 ≤ ev ∧ ev ≤ 4 := by omega
                clear hcK hc1 hc6 hev hnb
                obtain ⟨lo, hlo⟩ : ∃ x, x = (R i j).1 := ⟨_, rfl⟩
                obtain ⟨hi, hhi⟩ : ∃ x, x = (R i j).2 := ⟨_, rfl⟩
                have hbL := mul_bd' (a := ev) (e := lo) hev4 (by rw [hlo]; exact ⟨hsm.1, hsm.2.1⟩)
                have hbH := mul_bd' (a := ev) (e := hi) hev4 (by rw [hhi]; exact ⟨hsm.2.2.1, hsm.2.2.2⟩)
                obtain ⟨Av, hAv⟩ : ∃ x, x = ev * lo := ⟨_, rfl⟩
                obtain ⟨Bv, hBv⟩ : ∃ x, x = ev * hi := ⟨_, rfl⟩
                have hcv : Hid (cnt (R i j) ev = max Av Bv) := by show _ = _; unfold cnt; rw [← hlo, ← hhi, hAv, hBv, Int.mul_comm lo, Int.mul_comm hi]
                have hA : IntKind.i64.wrap (ev * lo) = Av := by rw [hAv]; exact IntWalk.i64_in _ (by omega)
                have hB : IntKind.i64.wrap (ev * hi) = Bv := by rw [hBv]; exact IntWalk.i64_in _ (by omega)
                have hm := mx_if Av Bv
                obtain ⟨cv, hcv_⟩ : ∃ x, x = max Av Bv := ⟨_, rfl⟩
                rw [← hcv_] at hm hcv
                have hcb : -40000000 ≤ cv ∧ cv ≤ 40000000 := by omega
                rw [← hlo] at r0
                rw [← hhi] at r1
                have hst := Lib.hid (hrs.out cv (by rw [hE.out]; exact hcv.out))
                clear hlo hhi hAv hBv hcv_ hrs hE hcv hsm hbL hbH
                go_wp2
                go_quiet (fail)
                rename_i nq
                go_wp2
                go_roundw
                case rel => exact ⟨_, rfl, j + 1, by omega, by omega, sv + cv, rfl, by go_num, Lib.hid (below_drewN HBw.out _), hst⟩
                case measure => simp [intOf]; omega
        · obtain rfl : j = 7 := by omega
          rw [show ((7 : Nat) : Int) = 7 from rfl]
          have hst := Lib.hid (show sv = priS t R K 1 y (i + 1) by rw [hnx.out, ← hpv.out]; exact hsv.out)
          clear hsv hnx hpv
          go_wp2
          go_roundw
          case rel => exact ⟨_, rfl, i + 1, by omega, by go_num, ⟨sv, rfl, hst⟩, HBx⟩
          case measure => simp [intOf]; omega
    · obtain rfl : i = n := by omega
      have hii : ¬ (i : Int) < (i : Int) := by omega
      go_wp2
      go_ret
      exact ⟨by rw [← hpv.out]; rfl, HBr.out⟩
end Go.Proofs.YtoakeclpakjbiaaDoor
