/-
  The walk of whether there is a truth.
-/
import Derived.Test.YtoakeclpakjbiaaDoorTk
import Derived.Test.YtoakeclpakjbiaaDoorKs
namespace Go.Proofs.YtoakeclpakjbiaaDoor
open Go.RowKit
set_option linter.unusedVariables false
set_option linter.unusedSimpArgs false
theorem row14 {x : World} {b : Nat} {f : Nat → Sp} (h : x.heap[b]? = some (.cells #[.int .i64 (f 0).1, .int .i64 (f 0).2, .int .i64 (f 1).1, .int .i64 (f 1).2, .int .i64 (f 2).1, .int .i64 (f 2).2, .int .i64 (f 3).1, .int .i64 (f 3).2, .int .i64 (f 4).1, .int .i64 (f 4).2, .int .i64 (f 5).1, .int .i64 (f 5).2, .int .i64 (f 6).1, .int .i64 (f 6).2] 104 (0, 0))) {k : Nat} (hk : k < 7) : x.cell? ⟨b, k * 2, none⟩ = some (.int .i64 (f k).1) ∧ x.cell? ⟨b, k * 2 + 1, none⟩ = some (.int .i64 (f k).2) := by
  obtain rfl | rfl | rfl | rfl | rfl | rfl | rfl : k = 0 ∨ k = 1 ∨ k = 2 ∨ k = 3 ∨ k = 4 ∨ k = 5 ∨ k = 6 := by omega
  all_goals exact ⟨by simp [World.cell?, h], by simp [World.cell?, h]⟩
end Go.Proofs.YtoakeclpakjbiaaDoor

namespace Go.Proofs.YtoakeclpakjbiaaDoor
open Go.RowKit
set_option linter.unusedVariables false
set_option linter.unusedSimpArgs false
def rowBad (f : Nat → Sp) : Bool := (List.range 7).any fun k => noneB (f k)
theorem rowBad_iff (f : Nat → Sp) : rowBad f = true ↔ ∃ k, k < 7 ∧ noneB (f k) = true := by simp [rowBad]
set_option maxRecDepth 100000 in
theorem indexS_any (f : Nat → Sp) (b c : Nat) (w : World) (hb : b < w.heap.size) (hR : ∀ k, k < 7 → w.cell? ⟨b, k * 2, none⟩ = some (.int .i64 (f k).1) ∧ w.cell? ⟨b, k * 2 + 1, none⟩ = some (.int .i64 (f k).2))
    (eg : ∀ args w, (callFunc 69 args).run Tryd.prog w = .ok (.enter 69 args) w) :
    Calls Tryd.prog 127 #[.slice (some ⟨b, 0, none⟩) 7 c, .func (.func 69) #[] #[]] w fun e w' => (∃ r : Int, e = .returned (.int .i64 r) ∧ (decide (0 ≤ r) = rowBad f)) ∧ Below w.heap.size w w' := by
  go_enter Tryd.func127, Tryd.ntmps127
  go_wp2
  go_loopw [8] (fun x wr => ∃ k : Nat, k ≤ 7 ∧ x = .int .i64 k ∧ Hid (∀ j, j < k → noneB (f j) = false) ∧ Hid (Below w.heap.size w wr)) (fun x _ => 7 - (intOf x).toNat)
  case atStart => exact ⟨0, by omega, rfl, fun j h => absurd h (by omega), Below.refl _ _⟩
  case round =>
    obtain ⟨k, hk, rfl, hno, hB⟩ := hrel
    by_cases hlt : k < 7
    · obtain ⟨r0, r1⟩ := hR k hlt
      have c0 := (hB.out.cell (p := ⟨b, k * 2, none⟩) hb).trans r0
      have c1 := (hB.out.cell (p := ⟨b, k * 2 + 1, none⟩) hb).trans r1
      have hF := Lib.hid (none_any (f k) wr)
      have hsz := Lib.hid hB.out.size
      have hlti : (k : Int) < 7 := by omega
      have k0 : (0 : Int) ≤ (k : Int) := by omega
      clear hR r0 r1
      cases hp : noneB (f k)
      · rw [hp] at hF
        have hnx : Hid (∀ j, j < k + 1 → noneB (f j) = false) := by
          intro j hj
          by_cases hjk : j = k
          · subst hjk; exact hp
          · exact hno.out j (by omega)
        clear hno hp
        go_wp2_with fail
        refine hF.out.mono ?_
        rintro e w1 ⟨rfl, hb1⟩
        have hB1 := Lib.hid (below_via hB.out hsz.out hb1)
        clear hb1
        go_wp2
        go_roundw
        case rel => exact ⟨k + 1, by omega, by go_num, hnx, hB1⟩
        case measure => simp [intOf]; omega
      · rw [hp] at hF
        have hres : Hid (decide (0 ≤ (k : Int)) = rowBad f) := by
          show _ = _
          rw [(rowBad_iff f).2 ⟨k, hlt, hp⟩]
          exact decide_eq_true (by omega)
        clear hno hp
        go_wp2_with fail
        refine hF.out.mono ?_
        rintro e w1 ⟨rfl, hb1⟩
        have hB1 := Lib.hid (below_via hB.out hsz.out hb1)
        clear hb1
        go_wp2
        go_ret
        exact ⟨⟨k, rfl, hres.out⟩, hB1.out⟩
    · have hres : Hid (decide (0 ≤ (-1 : Int)) = rowBad f) := by
        show _ = _
        have : rowBad f = false := by
          rw [Bool.eq_false_iff]
          intro h
          obtain ⟨j, hj, hb⟩ := (rowBad_iff f).1 h
          rw [hno.out j (by omega)] at hb
          cases hb
        rw [this]; rfl
      obtain rfl : k = 7 := by omega
      clear hno hR
      go_wp2
      go_ret
      exact ⟨⟨-1, rfl, hres.out⟩, hB.out⟩
set_option maxRecDepth 100000 in
theorem containsS_any (f : Nat → Sp) (b c : Nat) (w : World) (hb : b < w.heap.size) (hR : ∀ k, k < 7 → w.cell? ⟨b, k * 2, none⟩ = some (.int .i64 (f k).1) ∧ w.cell? ⟨b, k * 2 + 1, none⟩ = some (.int .i64 (f k).2)) :
    Calls Tryd.prog 95 #[.slice (some ⟨b, 0, none⟩) 7 c, .func (.func 69) #[] #[]] w fun e w' => e = .returned (.bool (rowBad f)) ∧ Below w.heap.size w w' := by
  have H := Lib.hid (indexS_any f b c w hb hR (fun args w => rfl))
  clear hR
  generalize rowBad f = rb at *
  go_enter Tryd.func95, Tryd.ntmps95
  go_wp2_with fail
  refine H.out.mono ?_
  rintro e w' ⟨⟨r, rfl, hr⟩, hbe⟩
  have hr' := Lib.hid hr
  have hbe' := Lib.hid hbe
  clear hr hbe
  go_wp2
  go_ret
  exact ⟨ret_bool hr'.out, hbe'.out⟩
/-- Whether all rows, and all that comes out, are well. -/
def holdsB (R : Nat → Nat → Sp) (U : Nat → Sp) (n : Nat) : Bool := decide (∀ i, i < n → noneB (U i) = false ∧ rowBad (R i) = false)
set_option maxRecDepth 100000 in
set_option maxHeartbeats 1000000 in
theorem holds_any (mb n : Nat) (t : Nat → Option Nat) (R : Nat → Nat → Sp) (U I : Nat → Sp) (At Ar Au Ai : Option Addr) (ct cr cu ci : Nat) (hn : n ≤ 10) (x : World) (hM : MR x mb n t R U I At Ar Au Ai ct cr cu ci) :
    Calls Tryd.prog 50 #[.pointer (some ⟨mb, 0, none⟩)] x fun e x' => e = .returned (.bool (holdsB R U n)) ∧ Below x.heap.size x x' := by
  have c3 := hM.c3
  have hM' := Lib.hid hM
  clear hM
  go_enter Tryd.func50, Tryd.ntmps50
  go_wp2
  go_loopw [10] (fun v wr => ∃ k : Nat, k ≤ n ∧ v = .int .i64 k ∧ Hid (∀ j, j < k → noneB (U j) = false ∧ rowBad (R j) = false) ∧ Hid (Below x.heap.size x wr)) (fun v _ => n - (intOf v).toNat)
  case atStart => exact ⟨0, by omega, rfl, fun j h => absurd h (by omega), Below.refl _ _⟩
  case round =>
    obtain ⟨k, hk, rfl, hno, hB⟩ := hrel
    by_cases hlt : k < n
    · have hMr := hM'.out.below hB.out
      obtain ⟨bi, oi, rfl, hbi, hri⟩ := hMr.rr.rw_ hlt
      obtain ⟨bu, ou, rfl, hbu, u0, u1⟩ := hMr.ru.sp (m := n) hlt
      have c4 := hMr.c4
      have hlti : (k : Int) < (n : Int) := by omega
      have k0 : (0 : Int) ≤ (k : Int) := by omega
      have r0 : wr.cell? ⟨bi, oi + k * 14, none⟩ = some (.int .i64 (R k 0).1) := hri 0 _ rfl
      have r1 : wr.cell? ⟨bi, oi + k * 14 + 1, none⟩ = some (.int .i64 (R k 0).2) := hri 1 _ rfl
      have r2 : wr.cell? ⟨bi, oi + k * 14 + 2, none⟩ = some (.int .i64 (R k 1).1) := hri 2 _ rfl
      have r3 : wr.cell? ⟨bi, oi + k * 14 + 3, none⟩ = some (.int .i64 (R k 1).2) := hri 3 _ rfl
      have r4 : wr.cell? ⟨bi, oi + k * 14 + 4, none⟩ = some (.int .i64 (R k 2).1) := hri 4 _ rfl
      have r5 : wr.cell? ⟨bi, oi + k * 14 + 5, none⟩ = some (.int .i64 (R k 2).2) := hri 5 _ rfl
      have r6 : wr.cell? ⟨bi, oi + k * 14 + 6, none⟩ = some (.int .i64 (R k 3).1) := hri 6 _ rfl
      have r7 : wr.cell? ⟨bi, oi + k * 14 + 7, none⟩ = some (.int .i64 (R k 3).2) := hri 7 _ rfl
      have r8 : wr.cell? ⟨bi, oi + k * 14 + 8, none⟩ = some (.int .i64 (R k 4).1) := hri 8 _ rfl
      have r9 : wr.cell? ⟨bi, oi + k * 14 + 9, none⟩ = some (.int .i64 (R k 4).2) := hri 9 _ rfl
      have r10 : wr.cell? ⟨bi, oi + k * 14 + 10, none⟩ = some (.int .i64 (R k 5).1) := hri 10 _ rfl
      have r11 : wr.cell? ⟨bi, oi + k * 14 + 11, none⟩ = some (.int .i64 (R k 5).2) := hri 11 _ rfl
      have r12 : wr.cell? ⟨bi, oi + k * 14 + 12, none⟩ = some (.int .i64 (R k 6).1) := hri 12 _ rfl
      have r13 : wr.cell? ⟨bi, oi + k * 14 + 13, none⟩ = some (.int .i64 (R k 6).2) := hri 13 _ rfl
      have hsz := hB.out.size
      have hml := hMr.lt
      obtain ⟨z, hz⟩ : ∃ z, z = wr.alloc (.cells #[.int .i64 (R k 0).1, .int .i64 (R k 0).2, .int .i64 (R k 1).1, .int .i64 (R k 1).2, .int .i64 (R k 2).1, .int .i64 (R k 2).2, .int .i64 (R k 3).1, .int .i64 (R k 3).2, .int .i64 (R k 4).1, .int .i64 (R k 4).2, .int .i64 (R k 5).1, .int .i64 (R k 5).2, .int .i64 (R k 6).1, .int .i64 (R k 6).2] 104) := ⟨_, rfl⟩
      have hzO := heap_alloc_new wr (.cells #[.int .i64 (R k 0).1, .int .i64 (R k 0).2, .int .i64 (R k 1).1, .int .i64 (R k 1).2, .int .i64 (R k 2).1, .int .i64 (R k 2).2, .int .i64 (R k 3).1, .int .i64 (R k 3).2, .int .i64 (R k 4).1, .int .i64 (R k 4).2, .int .i64 (R k 5).1, .int .i64 (R k 5).2, .int .i64 (R k 6).1, .int .i64 (R k 6).2] 104)
      have hwz : Below wr.heap.size wr z := by rw [hz]; exact (Below.refl _ _).alloc (Nat.le_refl _) _
      have hzs : wr.heap.size < z.heap.size := by rw [hz]; simp
      rw [← hz] at hzO
      have hBz : Hid (Below x.heap.size x z) := Lib.hid (hB.out.trans (hwz.mono hsz))
      have hNU := Lib.hid (none_any (U k) z)
      have HCS := Lib.hid (fun w1 (h1 : Below z.heap.size z w1) => containsS_any (R k) wr.heap.size 7 w1 (Nat.lt_of_lt_of_le hzs h1.size) (fun j hj => by
        obtain ⟨a0, a1⟩ := row14 hzO hj
        exact ⟨(h1.cell (by simp only; omega)).trans a0, (h1.cell (by simp only; omega)).trans a1⟩))
      have c4z := (hwz.cell (p := ⟨mb, 4, none⟩) hml).trans c4
      have u0z := (hwz.cell (p := ⟨bu, ou + k * 2, none⟩) hbu).trans u0
      have u1z := (hwz.cell (p := ⟨bu, ou + k * 2 + 1, none⟩) hbu).trans u1
      rw [hz] at c4z u0z u1z
      clear hMr hri hzO hwz u0 u1 c4
      cases hu : noneB (U k)
      · rw [hu] at hNU
        go_wp2_with fail
        rw [← hz]
        refine hNU.out.mono ?_
        rintro e w1 ⟨rfl, hb1⟩
        have hB1 : Hid (Below x.heap.size x w1) := Lib.hid (hBz.out.trans (hb1.mono (hBz.out.size)))
        have HC1 := Lib.hid (HCS.out w1 hb1)
        clear hb1 HCS
        cases hr : rowBad (R k)
        · rw [hr] at HC1
          have hnx : Hid (∀ j, j < k + 1 → noneB (U j) = false ∧ rowBad (R j) = false) := by
            intro j hj
            by_cases hjk : j = k
            · subst hjk; exact ⟨hu, hr⟩
            · exact hno.out j (by omega)
          clear hno hu hr c4z u0z u1z
          go_wp2_with fail
          refine HC1.out.mono ?_
          rintro e w2 ⟨rfl, hb2⟩
          have hB2 : Hid (Below x.heap.size x w2) := Lib.hid (hB1.out.trans (hb2.mono (hB1.out.size)))
          clear hb2
          go_wp2
          go_roundw
          case rel => exact ⟨k + 1, by omega, by go_num, hnx, hB2⟩
          case measure => simp [intOf]; omega
        · rw [hr] at HC1
          have hres : Hid (holdsB R U n = false) := by
            show _ = _
            exact decide_eq_false fun h => by have := (h k hlt).2; rw [hr] at this; cases this
          clear hno hu hr c4z u0z u1z
          go_wp2_with fail
          refine HC1.out.mono ?_
          rintro e w2 ⟨rfl, hb2⟩
          have hB2 : Hid (Below x.heap.size x w2) := Lib.hid (hB1.out.trans (hb2.mono (hB1.out.size)))
          clear hb2
          go_wp2
          go_ret
          exact ⟨ret_bool hres.out.symm, hB2.out⟩
      · rw [hu] at hNU
        have hres : Hid (holdsB R U n = false) := by
          show _ = _
          exact decide_eq_false fun h => by have := (h k hlt).1; rw [hu] at this; cases this
        clear hno hu HCS
        go_wp2_with fail
        rw [← hz]
        refine hNU.out.mono ?_
        rintro e w1 ⟨rfl, hb1⟩
        have hB1 : Hid (Below x.heap.size x w1) := Lib.hid (hBz.out.trans (hb1.mono (hBz.out.size)))
        clear hb1 c4z u0z u1z
        go_wp2
        go_ret
        exact ⟨ret_bool hres.out.symm, hB1.out⟩
    · have hres : Hid (holdsB R U n = true) := by
        show _ = _
        exact decide_eq_true fun i hi => hno.out i (by omega)
      clear hno
      go_wp2
      go_ret
      exact ⟨ret_bool hres.out.symm, hB.out⟩
end Go.Proofs.YtoakeclpakjbiaaDoor
