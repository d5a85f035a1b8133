/-
  The walk of the least and the greatest ounces of a weight, by the reference: a search by halves.
-/
import Derived.Test.YtoakeclpakjbiaaDoorTk
import Derived.Test.YtoakeclpakjbiaaDoorRTr
namespace Go.Proofs.YtoakeclpakjbiaaDoor
open Go.RowKit
set_option linter.unusedVariables false
set_option linter.unusedSimpArgs false

theorem step_load_row {P : Program} {ops : Array Oper} {o : Oper} {a : Act} {w : World} {K : Act → World → Prop} {Q : Exit → Act → World → Prop} {E : Prop} (hgd : o.guard = none) (ty : TypeId) (x : Operand) (ho : o.op = .load ty x)
    (g : Nat) (hx : a.eval x = .pointer (some ⟨g, 0, none⟩)) (t : TypeId) (cs : Array Value) (fr : Nat × Nat) (d : TypeDesc) (hg : w.heap[g]? = some (.cells cs t fr))
    (hu : P.underlying ty = some d) (hd : (match d with | .struct _ | .array _ _ => true | _ => false) = true) (hi : (P.info? ty).map (·.size) = some cs.size)
    (h : K (a.put o.dst (.agg cs)) w) : if Region.wanted o (yielded ops a.tmps) = true then Oper.wp P o a w K Q else E := by
  have hw : Region.wanted o (yielded ops a.tmps) = true := by simp [Region.wanted, hgd]
  rw [if_pos hw]
  exact wp_load_row ty x ho g hx t cs fr d hg hu hd hi h
/-- The copies of a press and of notes, and a result. -/
structure PN (w : World) (A A' : Option Addr) (n c n' c' : Nat) (R : Nat → Nat → Sp) (z : World) : Prop where
  b0 : z.heap[w.heap.size]? = some (.cells #[.slice A n c, .slice A' n' c'] 25 (0, 0))
  b1 : z.heap[w.heap.size + 1]? = some (.cells (NV R) 110 (0, 0))
  b2 : z.heap[w.heap.size + 2]? = some (.cells #[.int .i64 0, .int .i64 0] 44 (0, 0))
  bel : Below w.heap.size w z
section
variable {w z y : World} {A A' : Option Addr} {n c n' c' : Nat} {R : Nat → Nat → Sp}
theorem PN.size (h : PN w A A' n c n' c' R z) : w.heap.size + 3 ≤ z.heap.size := (Array.getElem?_eq_some_iff.1 h.b2).1
theorem PN.below (h : PN w A A' n c n' c' R z) (hb : Below z.heap.size z y) : PN w A A' n c n' c' R y :=
  ⟨keepO hb h.b0, keepO hb h.b1, keepO hb h.b2, below_via h.bel (by have := h.size; omega) hb⟩
theorem PN.drew (h : PN w A A' n c n' c' R z) : PN w A A' n c n' c' R z.drew := h.below (Below.refl _ _).drew
theorem PN.cells (h : PN w A A' n c n' c' R z) : z.cell? ⟨w.heap.size, 0, none⟩ = some (.slice A n c) ∧ z.cell? ⟨w.heap.size, 1, none⟩ = some (.slice A' n' c') := by
  obtain ⟨a, b, -, -⟩ := two_facts h.b0
  exact ⟨a, b⟩
theorem PN.start (w : World) (A A' : Option Addr) (n c n' c' : Nat) (R : Nat → Nat → Sp) : PN w A A' n c n' c' R (((w.alloc (.cells #[.slice A n c, .slice A' n' c'] 25)).alloc (.cells (NV R) 110)).alloc (.cells #[.int .i64 0, .int .i64 0] 44)) := by
  have h1 := heap_alloc_new (w.alloc (.cells #[.slice A n c, .slice A' n' c'] 25)) (.cells (NV R) 110)
  have h2 := heap_alloc_new ((w.alloc (.cells #[.slice A n c, .slice A' n' c'] 25)).alloc (.cells (NV R) 110)) (.cells #[.int .i64 0, .int .i64 0] 44)
  simp only [World.size_alloc] at h1 h2
  refine ⟨?_, ?_, h2, (((Below.refl _ _).alloc (Nat.le_refl _) _).alloc (by simp) _).alloc (by simp <;> omega) _⟩
  · rw [heap_lt_alloc' _ _ _ (by simp <;> omega), heap_lt_alloc' _ _ _ (by simp)]; exact heap_alloc_new w _
  · rw [heap_lt_alloc' _ _ _ (by simp <;> omega)]; exact h1
end
theorem put_bd {R : Nat → Nat → Sp} {n i k : Nat} {lo hi : Int} (h : ∀ i, i < n → ∀ q, q < 7 → Bd 10000000 (R i q)) (h1 : 0 ≤ lo) (h2 : lo ≤ 10000000) (h3 : 0 ≤ hi) (h4 : hi ≤ 10000000) :
    ∀ a, a < n → ∀ q, q < 7 → Bd 10000000 (putR R i k (max lo (R i k).1, min hi (R i k).2) a q) := by
  intro a ha q hq
  unfold putR
  by_cases hab : a = i ∧ q = k
  · rw [if_pos hab]
    obtain ⟨rfl, rfl⟩ := hab
    have := h a ha q hq
    unfold Bd at *
    simp only
    omega
  · rw [if_neg hab]; exact h a ha q hq

set_option maxRecDepth 100000 in
set_option maxHeartbeats 8000000 in
theorem rspan_any (A A' : Option Addr) (n c n' c' : Nat) (ps : List PR) (ws : List WE) (R : Nat → Nat → Sp) (i k : Nat) (L H : Int) (w : World) (hR : Reads w w.heap.size 4 A n (pgs ps)) (hv : validP ps ws = true)
    (hRb : ∀ i, i < n → ∀ q, q < 7 → Bd 10000000 (R i q)) (hin : i < n) (hk7 : k < 7) (hL0 : 0 ≤ L) (hL1 : L ≤ 1000000) (hH0 : 0 ≤ H) (hH1 : H ≤ 1000000)
    (hLo : ∀ mid : Int, 0 ≤ mid → mid < 1000000 → holdsR (toT ps) (putR R i k (max (0) (R i k).1, min (mid) (R i k).2)) (-1) (0, 10000000) (0, 10000000) n = decide (L ≤ mid))
    (hHi : ∀ mid : Int, 0 < mid → mid ≤ 1000000 → holdsR (toT ps) (putR R i k (max (mid) (R i k).1, min (1000000) (R i k).2)) (-1) (0, 10000000) (0, 10000000) n = decide (mid ≤ H)) :
    Calls Tryd.prog 56 #[.agg #[.slice A n c, .slice A' n' c'], .agg (NV R), .int .i64 i, .int .i64 k] w fun e w' => e = .returned (.agg #[.int .i64 L, .int .i64 H]) ∧ Below w.heap.size w w' := by
  have hVF := Lib.hid (valid_facts hv)
  have hl : ps.length = n := hR.pg_len
  have hi10 : i < 10 := by have := hVF.out.n10; omega
  have HRd := Lib.hid (fun z (hz : Below w.heap.size w z) => (hR.below hz).more hz.size)
  have hP0 := Lib.hid (PN.start w A A' n c n' c' R)
  have hv := Lib.hid hv
  have hRb := Lib.hid hRb
  have hLo := Lib.hid hLo
  have hHi := Lib.hid hHi
  clear hR hVF hl
  go_enter Tryd.func56, Tryd.ntmps56
  go_wp2_with fail
  generalize (((w.alloc (.cells #[.slice A n c, .slice A' n' c'] 25)).alloc (.cells (NV R) 110)).alloc (.cells #[.int .i64 0, .int .i64 0] 44)) = wb at *
  go_loopw [9, 10] (fun v u wq => ∃ wl, wl = wq ∧ ∃ a b : Nat, (a : Int) ≤ L ∧ L ≤ (b : Int) ∧ b ≤ 1000000 ∧ v = .int .i64 a ∧ u = .int .i64 b ∧ Hid (PN w A A' n c n' c' R wq)) (fun v u _ => (intOf u).toNat - (intOf v).toNat)
  case atStart => exact ⟨_, rfl, 0, 1000000, by omega, by omega, by omega, rfl, rfl, hP0⟩
  case round =>
    clear hP0
    obtain ⟨wq, rfl, a, b, haL, hLb, hb1, rfl, rfl, hPm⟩ := hrel
    by_cases hab : a < b
    · have habi : (a : Int) < (b : Int) := by omega
      obtain ⟨mid, hmid⟩ : ∃ mid, mid = (a + b) / 2 := ⟨_, rfl⟩
      have m1 : a ≤ mid := by omega
      have m2 : mid < b := by omega
      have e1 : IntKind.i64.wrap ((a : Int) + (b : Int)) = (a : Int) + (b : Int) := IntWalk.i64_in _ (by omega)
      have e2 : Int.tdiv ((a : Int) + (b : Int)) 2 = (mid : Int) := by rw [Int.tdiv_eq_ediv_of_nonneg (by omega)]; omega
      have e3 : IntKind.i64.wrap (mid : Int) = (mid : Int) := IntWalk.i64_in _ (by omega)
      have e4 : IntKind.i64.wrap ((mid : Int) + 1) = ((mid + 1 : Nat) : Int) := by rw [IntWalk.i64_in _ (by omega)]; omega
      have hans := Lib.hid (hLo.out mid (by omega) (by omega))
      clear hmid
      go_wp2_with fail
      have hP := hPm.out
      have hbz : w.heap.size + 3 ≤ wq.heap.size := hP.size
      obtain ⟨p0, p1⟩ := hP.cells
      have HQ := Lib.hid (fun w' (hz : Hid (Kp wq.heap.size [] wq w')) => (⟨(hz.out.cell (by simp only; omega) (by simp; try omega)).trans p0, (hz.out.cell (by simp only; omega) (by simp; try omega)).trans p1⟩ : w'.cell? ⟨w.heap.size, 0, none⟩ = some (.slice A n c) ∧ w'.cell? ⟨w.heap.size, 1, none⟩ = some (.slice A' n' c')))
      obtain ⟨S, hSd⟩ : ∃ S : World → Prop, S = fun w' => (w'.cell? ⟨w.heap.size, 0, none⟩ = some (.slice A n c) ∧ w'.cell? ⟨w.heap.size, 1, none⟩ = some (.slice A' n' c')) ∧ Hid (Kp wq.heap.size [] wq w') := ⟨_, rfl⟩
      have HS := Lib.hid (fun w' (hz : Hid (Kp wq.heap.size [] wq w')) => (by rw [hSd]; exact ⟨HQ.out w' hz, hz⟩ : S w'))
      clear p0 p1 hPm
      refine wp_region_held_drew (S := S) (by kernel_rfl) ?_ (fun hHeld => ?_)
      · exact HS.out _ (Lib.hid (Kp.refl _ _ _).drew)
      have hKyd : Hid (Kp wq.heap.size [] wq wq.drew) := Lib.hid (Kp.refl _ _ _).drew
      have hSyd : wq.heap.size ≤ wq.drew.heap.size := Nat.le_refl _
      have hP := hP.drew
      generalize wq.drew = yd at *
      refine tY (v := ?_) 0 21 ?_ ?_
      rotate_left
      · intro w hSw; rw [hSd] at hSw; obtain ⟨⟨q0, q1⟩, -⟩ := hSw; go_simp; (try with_reducible rfl)
      try simp only [N0]
      refine tY (v := ?_) 2 23 ?_ ?_
      rotate_left
      · intro w hSw; rw [hSd] at hSw; obtain ⟨⟨q0, q1⟩, -⟩ := hSw; go_simp; (try with_reducible rfl)
      try simp only [N0]
      refine tY (v := ?_) 3 24 ?_ ?_
      rotate_left
      · intro w hSw; rw [hSd] at hSw; obtain ⟨⟨q0, q1⟩, -⟩ := hSw; go_simp; (try with_reducible rfl)
      try simp only [N0]
      refine tY (v := ?_) 4 25 ?_ ?_
      rotate_left
      · intro w hSw; rw [hSd] at hSw; obtain ⟨⟨q0, q1⟩, -⟩ := hSw; go_simp; (try with_reducible rfl)
      try simp only [N0]
      refine wpAnyH_ready (rs := [1]) (by kernel_rfl) (by simp) ?_
      refine AllReadyH.cons (o := _) rfl (fun Kq hK => ?_) AllReadyH.nil
      refine step_load_row rfl 110 _ rfl (w.heap.size + 1) rfl _ _ (0, 0) _ hP.b1 Tryd.underlying110 rfl (by rw [NV_size]; kernel_rfl) ?_
      refine hK.out _ _ ?_ (fun hHeld => ?_)
      · exact HS.out _ hKyd
      clear hK Kq
      try simp only [N0]
      refine wpAnyH_ready (rs := [5]) (by kernel_rfl) (by simp) ?_
      refine AllReadyH.cons (o := _) rfl (fun Kq hK => ?_) AllReadyH.nil
      go_simp
      refine (with_any R i k (0) (mid) hi10 hk7 yd).mono ?_
      rintro e c5yd ⟨rfl, hb⟩
      have hKc5yd := Lib.hid (hKyd.out.call hSyd hb)
      have hSc5yd := Nat.le_trans hSyd hb.size
      have hP := hP.below hb
      clear hb
      try go_simp
      refine hK.out _ _ ?_ (fun hHeld => ?_)
      · exact HS.out _ hKc5yd
      clear hK Kq
      try simp only [N0]
      refine wpAnyH_ready (rs := [6]) (by kernel_rfl) (by simp) ?_
      refine AllReadyH.cons (o := _) rfl (fun Kq hK => ?_) AllReadyH.nil
      go_simp
      refine (wide_any c5yd).mono ?_
      rintro e c6c5yd ⟨rfl, hb⟩
      have hKc6c5yd := Lib.hid (hKc5yd.out.call hSc5yd hb)
      have hSc6c5yd := Nat.le_trans hSc5yd hb.size
      have hP := hP.below hb
      clear hb
      try go_simp
      refine hK.out _ _ ?_ (fun hHeld => ?_)
      · exact HS.out _ hKc6c5yd
      clear hK Kq
      try simp only [N0]
      refine wpAnyH_ready (rs := [7]) (by kernel_rfl) (by simp) ?_
      refine AllReadyH.cons (o := _) rfl (fun Kq hK => ?_) AllReadyH.nil
      go_simp
      refine (wide_any c6c5yd).mono ?_
      rintro e c7c6c5yd ⟨rfl, hb⟩
      have hKc7c6c5yd := Lib.hid (hKc6c5yd.out.call hSc6c5yd hb)
      have hSc7c6c5yd := Nat.le_trans hSc6c5yd hb.size
      have hP := hP.below hb
      clear hb
      try go_simp
      refine hK.out _ _ ?_ (fun hHeld => ?_)
      · exact HS.out _ hKc7c6c5yd
      clear hK Kq
      try simp only [N0]
      refine wpAnyH_ready (rs := [8]) (by kernel_rfl) (by simp) ?_
      refine AllReadyH.cons (o := _) rfl (fun Kq hK => ?_) AllReadyH.nil
      go_simp
      refine (rholds_any A A' n c n' c' ps ws (putR R i k (max (0) (R i k).1, min (mid) (R i k).2)) (-1) (0, 10000000) (0, 10000000) c7c6c5yd (HRd.out c7c6c5yd hP.bel) hv.out (put_bd hRb.out (by omega) (by omega) (by omega) (by omega)) (by simp [Bd]) (by simp [Bd])).mono ?_
      rintro e c8c7c6c5yd ⟨rfl, hb⟩
      have hKc8c7c6c5yd := Lib.hid (hKc7c6c5yd.out.call hSc7c6c5yd hb)
      have hSc8c7c6c5yd := Nat.le_trans hSc7c6c5yd hb.size
      have hP := hP.below hb
      rw [hans.out]
      clear hb
      try go_simp
      refine hK.out _ _ ?_ (fun hHeld => ?_)
      · exact HS.out _ hKc8c7c6c5yd
      clear hK Kq
      try simp only [N0]
      refine wpAnyH_done (by kernel_rfl) ?_ _
      clear HS HQ
      have hPn := Lib.hid hP
      clear hP
      clear hKc8c7c6c5yd
      by_cases hd : L ≤ (mid : Int)
      · have hdt : decide (L ≤ (mid : Int)) = true := decide_eq_true hd
        rw [hdt]
        go_wp2
        go_roundw
        case rel => exact ⟨_, rfl, a, mid, by omega, by omega, by omega, by go_num, by go_num, hPn⟩
        case measure => simp [intOf] <;> omega
      · have hdt : decide (L ≤ (mid : Int)) = false := decide_eq_false hd
        rw [hdt]
        go_wp2
        go_roundw
        case rel => exact ⟨_, rfl, mid + 1, b, by omega, by omega, by omega, by go_num, by go_num, hPn⟩
        case measure => simp [intOf] <;> omega
    · obtain rfl : a = b := by omega
      have hnab : ¬ ((a : Int) < (a : Int)) := by omega
      obtain rfl : L = (a : Int) := by omega
      obtain ⟨l0, hl0⟩ : ∃ l0 : Nat, l0 = a := ⟨_, rfl⟩
      subst hl0
      have hP0 := hPm
      clear hPm
      go_wp2_with fail
      go_loopw [9, 10] (fun v u wq => ∃ wl, wl = wq ∧ ∃ a' b : Nat, (a' : Int) ≤ H ∧ H ≤ (b : Int) ∧ b ≤ 1000000 ∧ v = .int .i64 a' ∧ u = .int .i64 b ∧ Hid (PN w A A' n c n' c' R wq)) (fun v u _ => (intOf u).toNat - (intOf v).toNat)
      case atStart => exact ⟨_, rfl, 0, 1000000, by omega, by omega, by omega, rfl, rfl, hP0⟩
      case round =>
        clear hP0 hLo
        obtain ⟨wq, rfl, a, b, haL, hLb, hb1, rfl, rfl, hPm⟩ := hrel
        by_cases hab : a < b
        · have habi : (a : Int) < (b : Int) := by omega
          obtain ⟨mid, hmid⟩ : ∃ mid, mid = (a + b + 1) / 2 := ⟨_, rfl⟩
          have m1 : a < mid := by omega
          have m2 : mid ≤ b := by omega
          have e1 : IntKind.i64.wrap ((a : Int) + (b : Int)) = (a : Int) + (b : Int) := IntWalk.i64_in _ (by omega)
          have e0 : IntKind.i64.wrap ((a : Int) + (b : Int) + 1) = (a : Int) + (b : Int) + 1 := IntWalk.i64_in _ (by omega)
          have e2 : Int.tdiv ((a : Int) + (b : Int) + 1) 2 = (mid : Int) := by rw [Int.tdiv_eq_ediv_of_nonneg (by omega)]; omega
          have e3 : IntKind.i64.wrap (mid : Int) = (mid : Int) := IntWalk.i64_in _ (by omega)
          have hans := Lib.hid (hHi.out mid (by omega) (by omega))
          clear hmid
          go_wp2_with fail
          have hP := hPm.out
          have hbz : w.heap.size + 3 ≤ wq.heap.size := hP.size
          obtain ⟨p0, p1⟩ := hP.cells
          have HQ := Lib.hid (fun w' (hz : Hid (Kp wq.heap.size [] wq w')) => (⟨(hz.out.cell (by simp only; omega) (by simp; try omega)).trans p0, (hz.out.cell (by simp only; omega) (by simp; try omega)).trans p1⟩ : w'.cell? ⟨w.heap.size, 0, none⟩ = some (.slice A n c) ∧ w'.cell? ⟨w.heap.size, 1, none⟩ = some (.slice A' n' c')))
          obtain ⟨S, hSd⟩ : ∃ S : World → Prop, S = fun w' => (w'.cell? ⟨w.heap.size, 0, none⟩ = some (.slice A n c) ∧ w'.cell? ⟨w.heap.size, 1, none⟩ = some (.slice A' n' c')) ∧ Hid (Kp wq.heap.size [] wq w') := ⟨_, rfl⟩
          have HS := Lib.hid (fun w' (hz : Hid (Kp wq.heap.size [] wq w')) => (by rw [hSd]; exact ⟨HQ.out w' hz, hz⟩ : S w'))
          clear p0 p1 hPm
          refine wp_region_held_drew (S := S) (by kernel_rfl) ?_ (fun hHeld => ?_)
          · exact HS.out _ (Lib.hid (Kp.refl _ _ _).drew)
          have hKyd : Hid (Kp wq.heap.size [] wq wq.drew) := Lib.hid (Kp.refl _ _ _).drew
          have hSyd : wq.heap.size ≤ wq.drew.heap.size := Nat.le_refl _
          have hP := hP.drew
          generalize wq.drew = yd at *
          refine tY (v := ?_) 0 42 ?_ ?_
          rotate_left
          · intro w hSw; rw [hSd] at hSw; obtain ⟨⟨q0, q1⟩, -⟩ := hSw; go_simp; (try with_reducible rfl)
          try simp only [N0]
          refine tY (v := ?_) 2 44 ?_ ?_
          rotate_left
          · intro w hSw; rw [hSd] at hSw; obtain ⟨⟨q0, q1⟩, -⟩ := hSw; go_simp; (try with_reducible rfl)
          try simp only [N0]
          refine tY (v := ?_) 3 45 ?_ ?_
          rotate_left
          · intro w hSw; rw [hSd] at hSw; obtain ⟨⟨q0, q1⟩, -⟩ := hSw; go_simp; (try with_reducible rfl)
          try simp only [N0]
          refine tY (v := ?_) 4 46 ?_ ?_
          rotate_left
          · intro w hSw; rw [hSd] at hSw; obtain ⟨⟨q0, q1⟩, -⟩ := hSw; go_simp; (try with_reducible rfl)
          try simp only [N0]
          refine wpAnyH_ready (rs := [1]) (by kernel_rfl) (by simp) ?_
          refine AllReadyH.cons (o := _) rfl (fun Kq hK => ?_) AllReadyH.nil
          refine step_load_row rfl 110 _ rfl (w.heap.size + 1) rfl _ _ (0, 0) _ hP.b1 Tryd.underlying110 rfl (by rw [NV_size]; kernel_rfl) ?_
          refine hK.out _ _ ?_ (fun hHeld => ?_)
          · exact HS.out _ hKyd
          clear hK Kq
          try simp only [N0]
          refine wpAnyH_ready (rs := [5]) (by kernel_rfl) (by simp) ?_
          refine AllReadyH.cons (o := _) rfl (fun Kq hK => ?_) AllReadyH.nil
          go_simp
          refine (with_any R i k (mid) (1000000) hi10 hk7 yd).mono ?_
          rintro e c5yd ⟨rfl, hb⟩
          have hKc5yd := Lib.hid (hKyd.out.call hSyd hb)
          have hSc5yd := Nat.le_trans hSyd hb.size
          have hP := hP.below hb
          clear hb
          try go_simp
          refine hK.out _ _ ?_ (fun hHeld => ?_)
          · exact HS.out _ hKc5yd
          clear hK Kq
          try simp only [N0]
          refine wpAnyH_ready (rs := [6]) (by kernel_rfl) (by simp) ?_
          refine AllReadyH.cons (o := _) rfl (fun Kq hK => ?_) AllReadyH.nil
          go_simp
          refine (wide_any c5yd).mono ?_
          rintro e c6c5yd ⟨rfl, hb⟩
          have hKc6c5yd := Lib.hid (hKc5yd.out.call hSc5yd hb)
          have hSc6c5yd := Nat.le_trans hSc5yd hb.size
          have hP := hP.below hb
          clear hb
          try go_simp
          refine hK.out _ _ ?_ (fun hHeld => ?_)
          · exact HS.out _ hKc6c5yd
          clear hK Kq
          try simp only [N0]
          refine wpAnyH_ready (rs := [7]) (by kernel_rfl) (by simp) ?_
          refine AllReadyH.cons (o := _) rfl (fun Kq hK => ?_) AllReadyH.nil
          go_simp
          refine (wide_any c6c5yd).mono ?_
          rintro e c7c6c5yd ⟨rfl, hb⟩
          have hKc7c6c5yd := Lib.hid (hKc6c5yd.out.call hSc6c5yd hb)
          have hSc7c6c5yd := Nat.le_trans hSc6c5yd hb.size
          have hP := hP.below hb
          clear hb
          try go_simp
          refine hK.out _ _ ?_ (fun hHeld => ?_)
          · exact HS.out _ hKc7c6c5yd
          clear hK Kq
          try simp only [N0]
          refine wpAnyH_ready (rs := [8]) (by kernel_rfl) (by simp) ?_
          refine AllReadyH.cons (o := _) rfl (fun Kq hK => ?_) AllReadyH.nil
          go_simp
          refine (rholds_any A A' n c n' c' ps ws (putR R i k (max (mid) (R i k).1, min (1000000) (R i k).2)) (-1) (0, 10000000) (0, 10000000) c7c6c5yd (HRd.out c7c6c5yd hP.bel) hv.out (put_bd hRb.out (by omega) (by omega) (by omega) (by omega)) (by simp [Bd]) (by simp [Bd])).mono ?_
          rintro e c8c7c6c5yd ⟨rfl, hb⟩
          have hKc8c7c6c5yd := Lib.hid (hKc7c6c5yd.out.call hSc7c6c5yd hb)
          have hSc8c7c6c5yd := Nat.le_trans hSc7c6c5yd hb.size
          have hP := hP.below hb
          rw [hans.out]
          clear hb
          try go_simp
          refine hK.out _ _ ?_ (fun hHeld => ?_)
          · exact HS.out _ hKc8c7c6c5yd
          clear hK Kq
          try simp only [N0]
          refine wpAnyH_done (by kernel_rfl) ?_ _
          clear HS HQ
          have hPn := Lib.hid hP
          clear hP
          clear hKc8c7c6c5yd
          by_cases hd : (mid : Int) ≤ H
          · have hdt : decide ((mid : Int) ≤ H) = true := decide_eq_true hd
            rw [hdt]
            go_wp2
            go_roundw
            case rel => exact ⟨_, rfl, mid, b, by omega, by omega, by omega, by go_num, by go_num, hPn⟩
            case measure => simp [intOf] <;> omega
          · have hdt : decide ((mid : Int) ≤ H) = false := decide_eq_false hd
            rw [hdt]
            obtain ⟨m1, hm1⟩ : ∃ m1, mid = m1 + 1 := ⟨mid - 1, by omega⟩
            have ew : IntKind.i64.wrap ((mid : Int) - 1) = (m1 : Int) := by rw [IntWalk.i64_in _ (by omega)]; omega
            go_wp2
            go_roundw
            case rel => exact ⟨_, rfl, a, m1, by omega, by omega, by omega, by go_num, by go_num, hPn⟩
            case measure => simp [intOf] <;> omega
        · obtain rfl : a = b := by omega
          have hnab : ¬ ((a : Int) < (a : Int)) := by omega
          obtain rfl : H = (a : Int) := by omega
          obtain ⟨q0, q1, g0, g1⟩ := two_facts hPm.out.b2
          obtain ⟨e0, e1⟩ := set_back hPm.out.b2 (.int .i64 (l0 : Int)) (.int .i64 (a : Int))
          have e0h := Lib.hid e0
          have e1h := Lib.hid e1
          clear e0 e1
          go_wp2
          exact bodyPost_ret (v := .agg #[.int .i64 (l0 : Int), .int .i64 (a : Int)]) (by simp [results, Tryd.results56, go_sem, e0h.out, e1h.out]) rfl ⟨rfl, below_two hPm.out.bel (by omega) _ _⟩
end Go.Proofs.YtoakeclpakjbiaaDoor
