/-
  The walk of what all of a kind can be, and of what proves it, by the reference.
-/
import Derived.Test.YtoakeclpakjbiaaDoorTk
import Derived.Test.YtoakeclpakjbiaaDoorRLea
import Derived.Test.YtoakeclpakjbiaaDoorAllD
namespace Go.Proofs.YtoakeclpakjbiaaDoor
open Go.RowKit
set_option linter.unusedVariables false
set_option linter.unusedSimpArgs false
/-- What proves it, by the reference. -/
def prfL (ps : List PR) (ws : List WE) (k : Int) : List Int := if allE ps ws k = 0 then (lstR ps ws k.toNat (sgP k.toNat 1) 1 (2 ^ ps.length)).2 else []
theorem lst_grt {ps : List PR} {ws : List WE} (hv : validP ps ws = true) (ht : hasT ps ws = true) {K : Nat} (h5 : K ≤ 5) {sgn : Int} (hg : sgn = 1 ∨ sgn = -1) :
    (lstR ps ws K (sgP K sgn) sgn (2 ^ ps.length)).1 = grt (toT ps) (rowsT ps ws) K sgn ps.length :=
  least_grt (valid_facts hv).fwd hg h5 (hasHolds (valid_facts hv) ht) (idQ ps)
theorem sgP_neg (K : Nat) : sgP K (-1) = -(sgP K 1) := by
  unfold sgP
  by_cases h : K = 1 <;> simp [h]
theorem lst_bd {ps : List PR} {ws : List WE} (hv : validP ps ws = true) {K : Nat} {price one : Int} (hp : price = 1 ∨ price = -1) (ho : one = 1 ∨ one = -1) : -2400000000 ≤ (lstR ps ws K price one (2 ^ ps.length)).1 ∧ (lstR ps ws K price one (2 ^ ps.length)).1 ≤ 2400000000 := by
  have hVF := valid_facts hv
  have hn := hVF.n10
  have hSm := hVF.smr ws.length
  rw [List.take_length] at hSm
  have hyb : ∀ s j, -1 ≤ yBit price s j ∧ yBit price s j ≤ 1 := fun s j => by
    unfold yBit; rcases bitN_01 s j with e | e <;> rw [e] <;> rcases hp with rfl | rfl <;> simp
  have hyt : ∀ s j, -1 ≤ yTo (toT ps) (yBit price s) j ∧ yTo (toT ps) (yBit price s) j ≤ 1 := fun s j => by
    unfold yTo; cases toT ps j with
    | none => simp
    | some q => exact hyb s q
  obtain ⟨⟨j, -, e⟩, -⟩ := leastR_facts (prF ps ws K price one) (idF ps price) (2 ^ ps.length) (Nat.two_pow_pos _)
  have h := priS_bd (K := K) hSm ho (fun i _ => hyb j i) (fun i _ => hyt j i) ps.length (Nat.le_refl _)
  unfold lstR
  rw [e]
  unfold prF
  simp only
  omega
theorem price_bl (K : Nat) (hK : K < 100) (w : World) : Calls Tryd.prog 87 #[.int .i64 K] w fun e w' => e = .returned (.int .i64 (sgP K 1)) ∧ Below w.heap.size w w' :=
  (price_any K hK w).mono fun e w' h => ⟨h.1, h.2 ▸ Below.refl _ _⟩
set_option maxRecDepth 100000 in
set_option maxHeartbeats 2000000 in
theorem raskedAll_any (A A' : Option Addr) (n c n' c' : Nat) (ps : List PR) (ws : List WE) (k : Int) (w : World) (hnm : n ≤ maxLen) (hnm' : n' ≤ maxLen) (hR : Reads w w.heap.size 4 A n (pgs ps)) (hW : Reads w w.heap.size 5 A' n' (wgs ws)) :
    Calls Tryd.prog 85 #[.agg #[.slice A n c, .slice A' n' c'], .int .i64 k] w fun e w' => e = .returned (.int .i64 (allE ps ws k)) ∧ Below w.heap.size w w' := by
  have HRd := Lib.hid (fun z (hz : Below w.heap.size w z) => (hR.below hz).more hz.size)
  have HWd := Lib.hid (fun z (hz : Below w.heap.size w z) => (hW.below hz).more hz.size)
  have hO := Lib.hid (heap_alloc_new w (.cells #[.slice A n c, .slice A' n' c'] 25))
  have hB0 : Hid (Below w.heap.size w (w.alloc (.cells #[.slice A n c, .slice A' n' c'] 25))) := (Below.refl _ _).alloc (Nat.le_refl _) _
  clear hR hW
  go_enter Tryd.func85, Tryd.ntmps85
  go_wp2_with fail
  refine (Press_any A A' n c n' c' ps ws _ hnm hnm' (HRd.out _ hB0.out) (HWd.out _ hB0.out)).mono ?_
  rintro e z1 ⟨rfl, hb1⟩
  have hO1 := Lib.hid (keepO hb1 hO.out)
  have hB1 := Lib.hid (below_via hB0.out hB0.out.size hb1)
  clear hb1
  cases hv : validP ps ws
  · have hs : Hid (allE ps ws k = 20) := by show _ = _; unfold allE; rw [hv]; rfl
    clear hv
    go_wp2
    exact bodyPost_ret (v := .int .i64 20) (by simp [results, Tryd.results85, go_sem]) rfl ⟨by rw [hs.out], hB1.out⟩
  · have hvh := Lib.hid hv
    have HA : Hid (allE ps ws k = if rng 1 5 k then if hasT ps ws then 0 else 8 else 2) := by show _ = _; unfold allE; rw [hv, if_pos rfl]
    clear hv
    obtain ⟨p0, p1, -, -⟩ := two_facts hO1.out
    go_wp2_with fail
    refine (withinR k 1 5 z1).mono ?_
    rintro e z3 ⟨rfl, rfl⟩
    cases hk : rng 1 5 k
    · have hs : Hid (allE ps ws k = 2) := by show _ = _; rw [HA.out, hk]; rfl
      clear hk
      go_wp2
      exact bodyPost_ret (v := .int .i64 2) (by simp [results, Tryd.results85, go_sem]) rfl ⟨by rw [hs.out], hB1.out⟩
    · have HA2 : Hid (allE ps ws k = if hasT ps ws then 0 else 8) := by show _ = _; rw [HA.out, hk, if_pos rfl]
      clear hk HA
      go_wp2_with fail
      refine (RTrue_any A A' n c n' c' ps ws z3 (HRd.out _ hB1.out) (HWd.out _ hB1.out) hvh.out).mono ?_
      rintro e z4 ⟨rfl, hb4⟩
      have hB4 := Lib.hid (below_via hB1.out hB1.out.size hb4)
      clear hb4 p0 p1
      cases ht : hasT ps ws
      · have hs : Hid (allE ps ws k = 8) := by show _ = _; rw [HA2.out, ht]; rfl
        clear ht
        go_wp2
        exact bodyPost_ret (v := .int .i64 8) (by simp [results, Tryd.results85, go_sem]) rfl ⟨by rw [hs.out], hB4.out⟩
      · have hs : Hid (allE ps ws k = 0) := by show _ = _; rw [HA2.out, ht]; rfl
        clear ht
        go_wp2
        exact bodyPost_ret (v := .int .i64 0) (by simp [results, Tryd.results85, go_sem]) rfl ⟨by rw [hs.out], hB4.out⟩
set_option maxRecDepth 100000 in
set_option maxHeartbeats 4000000 in
theorem rAll_any (A A' : Option Addr) (n c n' c' : Nat) (ps : List PR) (ws : List WE) (k : Int) (w : World) (hnm : n ≤ maxLen) (hnm' : n' ≤ maxLen) (hR : Reads w w.heap.size 4 A n (pgs ps)) (hW : Reads w w.heap.size 5 A' n' (wgs ws)) :
    Calls Tryd.prog 43 #[.agg #[.slice A n c, .slice A' n' c'], .int .i64 k] w fun e w' => e = .returned (.tuple #[.agg #[.int .i64 (allS ps ws k).1, .int .i64 (allS ps ws k).2], .int .i64 (allE ps ws k)]) ∧ Below w.heap.size w w' := by
  have hl : ps.length = n := hR.pg_len
  have HRd := Lib.hid (fun z (hz : Below w.heap.size w z) => (hR.below hz).more hz.size)
  have HWd := Lib.hid (fun z (hz : Below w.heap.size w z) => (hW.below hz).more hz.size)
  have hP0 := Lib.hid (PA.start w A A' n c n' c')
  clear hR hW
  go_enter Tryd.func43, Tryd.ntmps43
  go_wp2_with fail
  refine (raskedAll_any A A' n c n' c' ps ws k _ hnm hnm' (HRd.out _ hP0.out.bel) (HWd.out _ hP0.out.bel)).mono ?_
  rintro e wq ⟨rfl, hb1⟩
  have HP := Lib.hid (hP0.out.below hb1)
  clear hb1 hP0
  by_cases h0 : allE ps ws k = 0
  · obtain ⟨hv, hk1, hk5, ht⟩ := allE_ok h0
    obtain ⟨K, rfl⟩ : ∃ K : Nat, k = K := ⟨k.toNat, by omega⟩
    have hK5 : K ≤ 5 := by omega
    have hP1 := sgP_or K 1
    have hP2 : -(sgP K 1) = 1 ∨ -(sgP K 1) = -1 := by omega
    have hG1 := lst_grt hv ht hK5 (sgn := 1) (.inl rfl)
    have hG2 := lst_grt hv ht hK5 (sgn := -1) (.inr rfl)
    have hBd1 := lst_bd (K := K) hv hP1 (.inl rfl : (1 : Int) = 1 ∨ (1 : Int) = -1)
    have hBd2 := lst_bd (K := K) hv hP2 (.inr rfl : (-1 : Int) = 1 ∨ (-1 : Int) = -1)
    rw [sgP_neg] at hG2
    have hsp : Hid (allS ps ws (K : Int) = (-(lstR ps ws K (-(sgP K 1)) (-1) (2 ^ n)).1, (lstR ps ws K (sgP K 1) 1 (2 ^ n)).1)) := by
      show _ = _; unfold allS; rw [if_pos h0, Int.toNat_natCast, ← hl, hG1, hG2]
    rw [hl] at hBd1 hBd2
    have HL1 := Lib.hid (fun z (hz : Below wq.heap.size wq z) => least_any A A' n c n' c' ps ws K (sgP K 1) 1 z hnm (HRd.out z (below_via HP.out.bel HP.out.bel.size hz)) (HWd.out z (below_via HP.out.bel HP.out.bel.size hz)) hv hK5 hP1 (.inl rfl))
    have HL2' := Lib.hid (fun wc z (hc : Below w.heap.size w wc) (hz : Below wc.heap.size wc z) => least_any A A' n c n' c' ps ws K (-(sgP K 1)) (-1) z hnm (HRd.out z (below_via hc hc.size hz)) (HWd.out z (below_via hc hc.size hz)) hv hK5 hP2 (.inr rfl))
    have hPb : -1 ≤ sgP K 1 ∧ sgP K 1 ≤ 1 := by omega
    have hng : Hid (IntKind.i64.wrap (-(sgP K 1)) = -(sgP K 1)) := Lib.hid (IntWalk.i64_in _ (by omega))
    have hask := Lib.hid h0
    rw [h0]
    clear hG1 hG2 hv ht h0 hl hP1 hP2
    generalize (lstR ps ws K (sgP K 1) 1 (2 ^ n)).1 = HV at *
    generalize (lstR ps ws K (-(sgP K 1)) (-1) (2 ^ n)).1 = LV at *
    obtain ⟨d1, d1'⟩ := hBd1
    obtain ⟨d2, d2'⟩ := hBd2
    obtain ⟨p0, p1⟩ := HP.out.cells
    have hlw : w.heap.size < wq.heap.size := by have := HP.out.size; omega
    go_wp2_with fail
    have HQ := Lib.hid (fun w' (hz : Hid (Kp wq.heap.size [] wq w')) => (⟨(hz.out.cell (by simp only; omega) (by simp; try omega)).trans p0, (hz.out.cell (by simp only; omega) (by simp; try omega)).trans p1⟩ : w'.cell? ⟨w.heap.size, 0, none⟩ = some (.slice A n c) ∧ w'.cell? ⟨w.heap.size, 1, none⟩ = some (.slice A' n' c')))
    obtain ⟨S, hSd⟩ : ∃ S : World → Prop, S = fun w' => (w'.cell? ⟨w.heap.size, 0, none⟩ = some (.slice A n c) ∧ w'.cell? ⟨w.heap.size, 1, none⟩ = some (.slice A' n' c')) ∧ Hid (Kp wq.heap.size [] wq w') := ⟨_, rfl⟩
    have HS := Lib.hid (fun w' (hz : Hid (Kp wq.heap.size [] wq w')) => (by rw [hSd]; exact ⟨HQ.out w' hz, hz⟩ : S w'))
    clear p0 p1
    refine wp_region_held_drew (S := S) (by kernel_rfl) ?_ (fun hHeld => ?_)
    · exact HS.out _ (Lib.hid (Kp.refl _ _ _).drew)
    have hKyd : Hid (Kp wq.heap.size [] wq wq.drew) := Lib.hid (Kp.refl _ _ _).drew
    have hSyd : wq.heap.size ≤ wq.drew.heap.size := Nat.le_refl _
    generalize wq.drew = yd at *
    refine tY (v := ?_) 0 19 ?_ ?_
    rotate_left
    · intro w hSw; first | (rw [hSd] at hSw; obtain ⟨⟨q0, q1⟩, -⟩ := hSw; go_simp; (try with_reducible rfl)) | (go_simp; (try with_reducible rfl))
    try simp only [N0]
    refine tY (v := ?_) 1 20 ?_ ?_
    rotate_left
    · intro w hSw; first | (rw [hSd] at hSw; obtain ⟨⟨q0, q1⟩, -⟩ := hSw; go_simp; (try with_reducible rfl)) | (go_simp; (try with_reducible rfl))
    try simp only [N0]
    refine tY (v := ?_) 2 21 ?_ ?_
    rotate_left
    · intro w hSw; first | (rw [hSd] at hSw; obtain ⟨⟨q0, q1⟩, -⟩ := hSw; go_simp; (try with_reducible rfl)) | (go_simp; (try with_reducible rfl))
    try simp only [N0]
    refine wpAnyH_ready (rs := [3]) (by kernel_rfl) (by simp) ?_
    refine AllReadyH.cons (o := _) rfl (fun Kq hK => ?_) AllReadyH.nil
    go_simp
    refine (price_bl K (by omega) _).mono ?_
    rintro e c3yd ⟨rfl, hb⟩
    have hKc3yd := Lib.hid (hKyd.out.call hSyd hb)
    have hSc3yd := Nat.le_trans hSyd hb.size
    clear hb
    try go_simp
    refine hK.out _ _ ?_ (fun hHeld => ?_)
    · exact HS.out _ hKc3yd
    clear hK Kq
    try simp only [N0]
    refine wpAnyH_ready (rs := [4]) (by kernel_rfl) (by simp) ?_
    refine AllReadyH.cons (o := _) rfl (fun Kq hK => ?_) AllReadyH.nil
    go_simp
    refine (HL1.out c3yd (hKc3yd.out.below (Nat.le_refl _) (by simp))).mono ?_
    rintro e c4c3yd ⟨⟨Ab, mb, cb, rfl, hmb, hrd⟩, hb⟩
    have hKc4c3yd := Lib.hid (hKc3yd.out.call hSc3yd hb)
    have hSc4c3yd := Nat.le_trans hSc3yd hb.size
    clear hmb hrd
    clear hb
    try go_simp
    refine hK.out _ _ ?_ (fun hHeld => ?_)
    · exact HS.out _ hKc4c3yd
    clear hK Kq
    try simp only [N0]
    refine tY (v := ?_) 5 18 ?_ ?_
    rotate_left
    · intro w hSw; first | (rw [hSd] at hSw; obtain ⟨⟨q0, q1⟩, -⟩ := hSw; go_simp; (try with_reducible rfl)) | (go_simp; (try with_reducible rfl))
    try simp only [N0]
    refine tY (v := ?_) 6 24 ?_ ?_
    rotate_left
    · intro w hSw; first | (rw [hSd] at hSw; obtain ⟨⟨q0, q1⟩, -⟩ := hSw; go_simp; (try with_reducible rfl)) | (go_simp; (try with_reducible rfl))
    try simp only [N0]
    refine tY (v := ?_) 7 25 ?_ ?_
    rotate_left
    · intro w hSw; first | (rw [hSd] at hSw; obtain ⟨⟨q0, q1⟩, -⟩ := hSw; go_simp; (try with_reducible rfl)) | (go_simp; (try with_reducible rfl))
    try simp only [N0]
    refine wpAnyH_ready (rs := [8]) (by kernel_rfl) (by simp) ?_
    refine AllReadyH.cons (o := _) rfl (fun Kq hK => ?_) AllReadyH.nil
    go_simp
    refine hK.out _ _ ?_ (fun hHeld => ?_)
    · exact HS.out _ hKc4c3yd
    clear hK Kq
    try simp only [N0]
    refine wpAnyH_ready (rs := [9]) (by kernel_rfl) (by simp) ?_
    refine AllReadyH.cons (o := _) rfl (fun Kq hK => ?_) AllReadyH.nil
    go_simp
    refine hK.out _ _ ?_ (fun hHeld => ?_)
    · exact HS.out _ hKc4c3yd
    clear hK Kq
    try simp only [N0]
    refine wpAnyH_done (by kernel_rfl) ?_ _
    have HPc := Lib.hid (HP.out.below (hKc4c3yd.out.below (B' := wq.heap.size) (Nat.le_refl _) (by simp)))
    clear HS HQ hSd
    generalize c4c3yd = wc at *
    go_wp2_with fail
    obtain ⟨p0, p1⟩ := HPc.out.cells
    have hlc : w.heap.size < wc.heap.size := by have := HPc.out.size; omega
    have HL2 := Lib.hid (fun z (hz : Below wc.heap.size wc z) => HL2'.out wc z HPc.out.bel hz)
    clear HL1 HL2'
    have HQ := Lib.hid (fun w' (hz : Hid (Kp wc.heap.size [] wc w')) => (⟨(hz.out.cell (by simp only; omega) (by simp; try omega)).trans p0, (hz.out.cell (by simp only; omega) (by simp; try omega)).trans p1⟩ : w'.cell? ⟨w.heap.size, 0, none⟩ = some (.slice A n c) ∧ w'.cell? ⟨w.heap.size, 1, none⟩ = some (.slice A' n' c')))
    obtain ⟨S, hSd⟩ : ∃ S : World → Prop, S = fun w' => (w'.cell? ⟨w.heap.size, 0, none⟩ = some (.slice A n c) ∧ w'.cell? ⟨w.heap.size, 1, none⟩ = some (.slice A' n' c')) ∧ Hid (Kp wc.heap.size [] wc w') := ⟨_, rfl⟩
    have HS := Lib.hid (fun w' (hz : Hid (Kp wc.heap.size [] wc w')) => (by rw [hSd]; exact ⟨HQ.out w' hz, hz⟩ : S w'))
    clear p0 p1
    refine wp_region_held_drew (S := S) (by kernel_rfl) ?_ (fun hHeld => ?_)
    · exact HS.out _ (Lib.hid (Kp.refl _ _ _).drew)
    have hKyd : Hid (Kp wc.heap.size [] wc wc.drew) := Lib.hid (Kp.refl _ _ _).drew
    have hSyd : wc.heap.size ≤ wc.drew.heap.size := Nat.le_refl _
    generalize wc.drew = yd at *
    refine tY (v := ?_) 0 27 ?_ ?_
    rotate_left
    · intro w hSw; first | (rw [hSd] at hSw; obtain ⟨⟨q0, q1⟩, -⟩ := hSw; go_simp; (try with_reducible rfl)) | (go_simp; (try with_reducible rfl))
    try simp only [N0]
    refine tY (v := ?_) 1 28 ?_ ?_
    rotate_left
    · intro w hSw; first | (rw [hSd] at hSw; obtain ⟨⟨q0, q1⟩, -⟩ := hSw; go_simp; (try with_reducible rfl)) | (go_simp; (try with_reducible rfl))
    try simp only [N0]
    refine tY (v := ?_) 2 29 ?_ ?_
    rotate_left
    · intro w hSw; first | (rw [hSd] at hSw; obtain ⟨⟨q0, q1⟩, -⟩ := hSw; go_simp; (try with_reducible rfl)) | (go_simp; (try with_reducible rfl))
    try simp only [N0]
    refine wpAnyH_ready (rs := [3]) (by kernel_rfl) (by simp) ?_
    refine AllReadyH.cons (o := _) rfl (fun Kq hK => ?_) AllReadyH.nil
    go_simp
    refine (price_bl K (by omega) _).mono ?_
    rintro e c3yd ⟨rfl, hb⟩
    have hKc3yd := Lib.hid (hKyd.out.call hSyd hb)
    have hSc3yd := Nat.le_trans hSyd hb.size
    clear hb
    try go_simp
    refine hK.out _ _ ?_ (fun hHeld => ?_)
    · exact HS.out _ hKc3yd
    clear hK Kq
    try simp only [N0]
    refine tY (v := ?_) 4 31 ?_ ?_
    rotate_left
    · intro w hSw; first | (rw [hSd] at hSw; obtain ⟨⟨q0, q1⟩, -⟩ := hSw; go_simp; (try with_reducible rfl)) | (go_simp; (try with_reducible rfl))
    try simp only [N0]
    refine wpAnyH_ready (rs := [5]) (by kernel_rfl) (by simp) ?_
    refine AllReadyH.cons (o := _) rfl (fun Kq hK => ?_) AllReadyH.nil
    go_simp
    rw [hng.out]
    refine (HL2.out c3yd (hKc3yd.out.below (Nat.le_refl _) (by simp))).mono ?_
    rintro e c5c3yd ⟨⟨Ab, mb, cb, rfl, hmb, hrd⟩, hb⟩
    have hKc5c3yd := Lib.hid (hKc3yd.out.call hSc3yd hb)
    have hSc5c3yd := Nat.le_trans hSc3yd hb.size
    clear hmb hrd
    clear hb
    try go_simp
    refine hK.out _ _ ?_ (fun hHeld => ?_)
    · exact HS.out _ hKc5c3yd
    clear hK Kq
    try simp only [N0]
    refine tY (v := ?_) 6 26 ?_ ?_
    rotate_left
    · intro w hSw; first | (rw [hSd] at hSw; obtain ⟨⟨q0, q1⟩, -⟩ := hSw; go_simp; (try with_reducible rfl)) | (go_simp; (try with_reducible rfl))
    try simp only [N0]
    refine tY (v := ?_) 7 33 ?_ ?_
    rotate_left
    · intro w hSw; first | (rw [hSd] at hSw; obtain ⟨⟨q0, q1⟩, -⟩ := hSw; go_simp; (try with_reducible rfl)) | (go_simp; (try with_reducible rfl))
    try simp only [N0]
    refine tY (v := ?_) 8 34 ?_ ?_
    rotate_left
    · intro w hSw; first | (rw [hSd] at hSw; obtain ⟨⟨q0, q1⟩, -⟩ := hSw; go_simp; (try with_reducible rfl)) | (go_simp; (try with_reducible rfl))
    try simp only [N0]
    refine wpAnyH_ready (rs := [9]) (by kernel_rfl) (by simp) ?_
    refine AllReadyH.cons (o := _) rfl (fun Kq hK => ?_) AllReadyH.nil
    go_simp
    refine hK.out _ _ ?_ (fun hHeld => ?_)
    · exact HS.out _ hKc5c3yd
    clear hK Kq
    try simp only [N0]
    refine wpAnyH_ready (rs := [10]) (by kernel_rfl) (by simp) ?_
    refine AllReadyH.cons (o := _) rfl (fun Kq hK => ?_) AllReadyH.nil
    go_simp
    refine hK.out _ _ ?_ (fun hHeld => ?_)
    · exact HS.out _ hKc5c3yd
    clear hK Kq
    try simp only [N0]
    refine wpAnyH_done (by kernel_rfl) ?_ _
    have HPe := Lib.hid (HPc.out.below (hKc5c3yd.out.below (B' := wc.heap.size) (Nat.le_refl _) (by simp)))
    clear HS HQ hSd
    generalize c5c3yd = we at *
    obtain ⟨g0, g1, f0, f1⟩ := two_facts HPe.out.b1
    have hE := Lib.hid (set_back HPe.out.b1 (.int .i64 (-LV)) (.int .i64 HV))
    have hBl := Lib.hid (below_two HPe.out.bel (b := w.heap.size + 1) (by omega) (.int .i64 (-LV)) (.int .i64 HV))
    clear HPe HP HPc
    go_wp2
    obtain ⟨e0, e1⟩ := hE.out
    exact bodyPost_ret (v := .tuple #[.agg #[.int .i64 (-LV), .int .i64 HV], .int .i64 0]) (by simp [results, Tryd.results43, go_sem, e0, e1]) rfl ⟨by rw [hsp.out, hask.out], hBl.out⟩
  · have hS : Hid (allS ps ws k = (0, 0)) := by show _ = _; unfold allS; rw [if_neg h0]
    obtain ⟨er, her⟩ : ∃ er, er = allE ps ws k := ⟨_, rfl⟩
    rw [← her] at h0 ⊢
    have h0b : (er == 0) = false := by simpa using h0
    have herh := Lib.hid her
    clear her
    obtain ⟨g0, g1, f0, f1⟩ := two_facts HP.out.b1
    have hE := Lib.hid (set_back HP.out.b1 (.int .i64 0) (.int .i64 0))
    have hBl := Lib.hid (below_two HP.out.bel (b := w.heap.size + 1) (by omega) (.int .i64 0) (.int .i64 0))
    clear HP hl
    go_wp2
    obtain ⟨e0, e1⟩ := hE.out
    exact bodyPost_ret (v := .tuple #[.agg #[.int .i64 0, .int .i64 0], .int .i64 er]) (by simp [results, Tryd.results43, go_sem, e0, e1]) rfl ⟨by rw [hS.out, herh.out], hBl.out⟩
set_option maxRecDepth 100000 in
set_option maxHeartbeats 4000000 in
theorem rProof_any (A A' : Option Addr) (n c n' c' : Nat) (ps : List PR) (ws : List WE) (k : Int) (w : World) (hnm : n ≤ maxLen) (hnm' : n' ≤ maxLen) (hR : Reads w w.heap.size 4 A n (pgs ps)) (hW : Reads w w.heap.size 5 A' n' (wgs ws)) :
    Calls Tryd.prog 45 #[.agg #[.slice A n c, .slice A' n' c'], .int .i64 k] w fun e w' => (∃ A1 m c1, e = .returned (.tuple #[.slice A1 m c1, .int .i64 (allE ps ws k)]) ∧ m ≤ 10 ∧ Reads w' w'.heap.size 1 A1 m (ints (prfL ps ws k))) ∧ Below w.heap.size w w' := by
  have hl : ps.length = n := hR.pg_len
  have HRd := Lib.hid (fun z (hz : Below w.heap.size w z) => (hR.below hz).more hz.size)
  have HWd := Lib.hid (fun z (hz : Below w.heap.size w z) => (hW.below hz).more hz.size)
  have hO0 := Lib.hid (heap_alloc_new w (.cells #[.slice A n c, .slice A' n' c'] 25))
  have hB0 : Hid (Below w.heap.size w (w.alloc (.cells #[.slice A n c, .slice A' n' c'] 25))) := Lib.hid ((Below.refl _ _).alloc (Nat.le_refl _) _)
  clear hR hW
  go_enter Tryd.func45, Tryd.ntmps45
  go_wp2_with fail
  refine (raskedAll_any A A' n c n' c' ps ws k _ hnm hnm' (HRd.out _ hB0.out) (HWd.out _ hB0.out)).mono ?_
  rintro e wq ⟨rfl, hb1⟩
  have HO := Lib.hid (keepO hb1 hO0.out)
  have HB1 := Lib.hid (below_via hB0.out hB0.out.size hb1)
  clear hb1 hO0 hB0
  by_cases h0 : allE ps ws k = 0
  · obtain ⟨hv, hk1, hk5, ht⟩ := allE_ok h0
    obtain ⟨K, rfl⟩ : ∃ K : Nat, k = K := ⟨k.toNat, by omega⟩
    have hK5 : K ≤ 5 := by omega
    have hP1 := sgP_or K 1
    have hsp : Hid (prfL ps ws (K : Int) = (lstR ps ws K (sgP K 1) 1 (2 ^ n)).2) := by
      show _ = _; unfold prfL; rw [if_pos h0, Int.toNat_natCast, hl]
    have HL1 := Lib.hid (fun z (hz : Below wq.heap.size wq z) => least_any A A' n c n' c' ps ws K (sgP K 1) 1 z hnm (HRd.out z (below_via HB1.out HB1.out.size hz)) (HWd.out z (below_via HB1.out HB1.out.size hz)) hv hK5 hP1 (.inl rfl))
    have hPb : -1 ≤ sgP K 1 ∧ sgP K 1 ≤ 1 := by omega
    have hask := Lib.hid h0
    rw [h0]
    clear hv ht h0 hl hP1
    obtain ⟨p0, p1, -, -⟩ := two_facts HO.out
    have hlw : w.heap.size < wq.heap.size := (Array.getElem?_eq_some_iff.1 HO.out).1
    go_wp2_with fail
    have HQ := Lib.hid (fun w' (hz : Hid (Kp wq.heap.size [] wq w')) => (⟨(hz.out.cell (by simp only; omega) (by simp; try omega)).trans p0, (hz.out.cell (by simp only; omega) (by simp; try omega)).trans p1⟩ : w'.cell? ⟨w.heap.size, 0, none⟩ = some (.slice A n c) ∧ w'.cell? ⟨w.heap.size, 1, none⟩ = some (.slice A' n' c')))
    obtain ⟨S, hSd⟩ : ∃ S : World → Prop, S = fun w' => (w'.cell? ⟨w.heap.size, 0, none⟩ = some (.slice A n c) ∧ w'.cell? ⟨w.heap.size, 1, none⟩ = some (.slice A' n' c')) ∧ Hid (Kp wq.heap.size [] wq w') := ⟨_, rfl⟩
    have HS := Lib.hid (fun w' (hz : Hid (Kp wq.heap.size [] wq w')) => (by rw [hSd]; exact ⟨HQ.out w' hz, hz⟩ : S w'))
    clear p0 p1
    refine wp_region_held_drew (S := S) (by kernel_rfl) ?_ (fun hHeld => ?_)
    · exact HS.out _ (Lib.hid (Kp.refl _ _ _).drew)
    have hKyd : Hid (Kp wq.heap.size [] wq wq.drew) := Lib.hid (Kp.refl _ _ _).drew
    have hSyd : wq.heap.size ≤ wq.drew.heap.size := Nat.le_refl _
    generalize wq.drew = yd at *
    refine tY (v := ?_) 0 16 ?_ ?_
    rotate_left
    · intro w hSw; first | (rw [hSd] at hSw; obtain ⟨⟨q0, q1⟩, -⟩ := hSw; go_simp; (try with_reducible rfl)) | (go_simp; (try with_reducible rfl))
    try simp only [N0]
    refine tY (v := ?_) 1 17 ?_ ?_
    rotate_left
    · intro w hSw; first | (rw [hSd] at hSw; obtain ⟨⟨q0, q1⟩, -⟩ := hSw; go_simp; (try with_reducible rfl)) | (go_simp; (try with_reducible rfl))
    try simp only [N0]
    refine tY (v := ?_) 2 18 ?_ ?_
    rotate_left
    · intro w hSw; first | (rw [hSd] at hSw; obtain ⟨⟨q0, q1⟩, -⟩ := hSw; go_simp; (try with_reducible rfl)) | (go_simp; (try with_reducible rfl))
    try simp only [N0]
    refine wpAnyH_ready (rs := [3]) (by kernel_rfl) (by simp) ?_
    refine AllReadyH.cons (o := _) rfl (fun Kq hK => ?_) AllReadyH.nil
    go_simp
    refine (price_bl K (by omega) _).mono ?_
    rintro e c3yd ⟨rfl, hb⟩
    have hKc3yd := Lib.hid (hKyd.out.call hSyd hb)
    have hSc3yd := Nat.le_trans hSyd hb.size
    clear hb
    try go_simp
    refine hK.out _ _ ?_ (fun hHeld => ?_)
    · exact HS.out _ hKc3yd
    clear hK Kq
    try simp only [N0]
    refine wpAnyH_ready (rs := [4]) (by kernel_rfl) (by simp) ?_
    refine AllReadyH.cons (o := _) rfl (fun Kq hK => ?_) AllReadyH.nil
    go_simp
    refine (HL1.out c3yd (hKc3yd.out.below (Nat.le_refl _) (by simp))).mono ?_
    rintro e c4c3yd ⟨⟨Ab, mb, cb, rfl, hmb, hrd⟩, hb⟩
    have hKc4c3yd := Lib.hid (hKc3yd.out.call hSc3yd hb)
    have hSc4c3yd := Nat.le_trans hSc3yd hb.size
    have HRR := Lib.hid hrd
    have hmb_ := hmb
    clear hmb hrd
    clear hb
    try go_simp
    refine hK.out _ _ ?_ (fun hHeld => ?_)
    · exact HS.out _ hKc4c3yd
    clear hK Kq
    try simp only [N0]
    refine tY (v := ?_) 5 15 ?_ ?_
    rotate_left
    · intro w hSw; first | (rw [hSd] at hSw; obtain ⟨⟨q0, q1⟩, -⟩ := hSw; go_simp; (try with_reducible rfl)) | (go_simp; (try with_reducible rfl))
    try simp only [N0]
    refine tY (v := ?_) 6 21 ?_ ?_
    rotate_left
    · intro w hSw; first | (rw [hSd] at hSw; obtain ⟨⟨q0, q1⟩, -⟩ := hSw; go_simp; (try with_reducible rfl)) | (go_simp; (try with_reducible rfl))
    try simp only [N0]
    refine tY (v := ?_) 7 22 ?_ ?_
    rotate_left
    · intro w hSw; first | (rw [hSd] at hSw; obtain ⟨⟨q0, q1⟩, -⟩ := hSw; go_simp; (try with_reducible rfl)) | (go_simp; (try with_reducible rfl))
    try simp only [N0]
    refine wpAnyH_ready (rs := [8]) (by kernel_rfl) (by simp) ?_
    refine AllReadyH.cons (o := _) rfl (fun Kq hK => ?_) AllReadyH.nil
    go_simp
    refine hK.out _ _ ?_ (fun hHeld => ?_)
    · exact HS.out _ hKc4c3yd
    clear hK Kq
    try simp only [N0]
    refine wpAnyH_ready (rs := [9]) (by kernel_rfl) (by simp) ?_
    refine AllReadyH.cons (o := _) rfl (fun Kq hK => ?_) AllReadyH.nil
    go_simp
    refine hK.out _ _ ?_ (fun hHeld => ?_)
    · exact HS.out _ hKc4c3yd
    clear hK Kq
    try simp only [N0]
    refine wpAnyH_done (by kernel_rfl) ?_ _
    have HBe := Lib.hid (HB1.out.trans (hKc4c3yd.out.below (B' := w.heap.size) HB1.out.size (by simp)))
    clear HS HQ hSd
    go_wp2
    refine bodyPost_ret (v := .tuple #[.slice Ab mb cb, .int .i64 0]) (by simp [results, Tryd.results45, go_sem]) rfl ?_
    exact ⟨⟨Ab, mb, cb, by rw [hask.out], hmb_, by rw [hsp.out]; exact HRR.out⟩, HBe.out⟩
  · have hS : Hid (prfL ps ws k = []) := by show _ = _; unfold prfL; rw [if_neg h0]
    obtain ⟨er, her⟩ : ∃ er, er = allE ps ws k := ⟨_, rfl⟩
    rw [← her] at h0 ⊢
    have h0b : (er == 0) = false := by simpa using h0
    have herh := Lib.hid her
    clear her hl
    go_wp2
    refine bodyPost_ret (v := .tuple #[.slice none 0 0, .int .i64 er]) (by simp [results, Tryd.results45, go_sem]) rfl ?_
    have hfin : (∃ A1 m c1, Ending.returned (.tuple #[.slice none 0 0, .int .i64 er]) = .returned (.tuple #[.slice A1 m c1, .int .i64 (allE ps ws k)]) ∧ m ≤ 10 ∧ Reads wq wq.heap.size 1 A1 m (ints (prfL ps ws k))) ∧ Below w.heap.size w wq := ⟨⟨none, 0, 0, by rw [herh.out], by omega, by rw [hS.out]; exact Reads.none_⟩, HB1.out⟩
    first | exact hfin | simpa using hfin
end Go.Proofs.YtoakeclpakjbiaaDoor
