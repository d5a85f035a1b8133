/-
  The walk of the reference's questions: whether there is a truth, and what a weight can be.
-/
import Derived.Test.YtoakeclpakjbiaaDoorTk
import Derived.Test.YtoakeclpakjbiaaDoorRSp
namespace Go.Proofs.YtoakeclpakjbiaaDoor
open Go.RowKit
set_option linter.unusedVariables false
set_option linter.unusedSimpArgs false

section
variable {n : Nat} {t : Nat → Option Nat} {R R' : Nat → Nat → Sp}
theorem wth_agree (hag : ∀ i, i < n → ∀ k, 1 ≤ k → k ≤ 6 → R' i k = R i k) {i k : Nat} (hi : i < n) (h1 : 1 ≤ k) (h6 : k ≤ 6) (lo hi' : Int) : ∀ a, a < n → ∀ b, 1 ≤ b → b ≤ 6 → putR R' i k (max lo (R' i k).1, min hi' (R' i k).2) a b = wth R i k lo hi' a b := by
  intro a ha b hb1 hb6
  unfold putR wth
  rw [hag i hi k h1 h6]
  by_cases h : a = i ∧ b = k
  · rw [if_pos h, if_pos h]
  · rw [if_neg h, if_neg h]; exact hag a ha b hb1 hb6
theorem lo_law (hF : Fwd n t) (hH : Holds n R (upP t R)) (hI : InR n R 1000000) (hag : ∀ i, i < n → ∀ k, 1 ≤ k → k ≤ 6 → R' i k = R i k) {i k : Nat} (hi : i < n) (h1 : 1 ≤ k) (h6 : k ≤ 6) (mid : Int) (inn rst : Sp) :
    holdsR t (putR R' i k (max 0 (R' i k).1, min mid (R' i k).2)) (-1) inn rst n = decide ((spanP t R n i k).1 ≤ mid) := by
  rw [holdsR_congr (wth_agree hag hi h1 h6 0 mid), Bool.eq_iff_iff, holdsR_iff (by decide), span_lo hF hH hI hi h1 h6 mid, decide_eq_true_iff]
theorem hi_law (hF : Fwd n t) (hH : Holds n R (upP t R)) (hI : InR n R 1000000) (hag : ∀ i, i < n → ∀ k, 1 ≤ k → k ≤ 6 → R' i k = R i k) {i k : Nat} (hi : i < n) (h1 : 1 ≤ k) (h6 : k ≤ 6) (mid : Int) (inn rst : Sp) :
    holdsR t (putR R' i k (max mid (R' i k).1, min 1000000 (R' i k).2)) (-1) inn rst n = decide (mid ≤ (spanP t R n i k).2) := by
  rw [holdsR_congr (wth_agree hag hi h1 h6 mid 1000000), Bool.eq_iff_iff, holdsR_iff (by decide), span_hi hF hH hI hi h1 h6 mid, decide_eq_true_iff]
end
theorem has_Holds {ps : List PR} {ws : List WE} (h : ValidF ps ws) (ht : hasT ps ws = true) : Holds ps.length (rowsT ps ws) (upP (toT ps) (rowsT ps ws)) := by
  unfold hasT at ht
  rw [holdsB_P, holdsP_iff (fun i hi => by have := rows_zero h i ws.length; rw [List.take_length] at this; rw [this]; simp [Ne])] at ht
  exact ht
theorem rows_InR {ps : List PR} {ws : List WE} (h : ValidF ps ws) (n : Nat) : InR n (rowsT ps ws) 1000000 := fun i _ k => by
  have := h.in_ i k
  omega
theorem spanSp_P (ps : List PR) (ws : List WE) (i k : Nat) : spanSp ps ws i k = spanP (toT ps) (rowsT ps ws) ps.length i k := rfl

/-- The copy of a press, and a result. -/
structure PQ (w : World) (A A' : Option Addr) (n c n' c' : Nat) (z : World) : Prop where
  b0 : z.heap[w.heap.size]? = some (.cells #[.slice A n c, .slice A' n' c'] 25 (0, 0))
  b1 : z.heap[w.heap.size + 1]? = some (.cells #[.int .i64 0, .int .i64 0] 44 (0, 0))
  bel : Below w.heap.size w z
section
variable {w z y : World} {A A' : Option Addr} {n c n' c' : Nat}
theorem PQ.size (h : PQ w A A' n c n' c' z) : w.heap.size + 2 ≤ z.heap.size := (Array.getElem?_eq_some_iff.1 h.b1).1
theorem PQ.below (h : PQ w A A' n c n' c' z) (hb : Below z.heap.size z y) : PQ w A A' n c n' c' y :=
  ⟨keepO hb h.b0, keepO hb h.b1, below_via h.bel (by have := h.size; omega) hb⟩
theorem PQ.drew (h : PQ w A A' n c n' c' z) : PQ w A A' n c n' c' z.drew := h.below (Below.refl _ _).drew
theorem PQ.cells (h : PQ w A A' n c n' c' z) : z.cell? ⟨w.heap.size, 0, none⟩ = some (.slice A n c) ∧ z.cell? ⟨w.heap.size, 1, none⟩ = some (.slice A' n' c') := by
  obtain ⟨a, b, -, -⟩ := two_facts h.b0
  exact ⟨a, b⟩
theorem PQ.start (w : World) (A A' : Option Addr) (n c n' c' : Nat) : PQ w A A' n c n' c' ((w.alloc (.cells #[.slice A n c, .slice A' n' c'] 25)).alloc (.cells #[.int .i64 0, .int .i64 0] 44)) := by
  have h1 := heap_alloc_new (w.alloc (.cells #[.slice A n c, .slice A' n' c'] 25)) (.cells #[.int .i64 0, .int .i64 0] 44)
  simp only [World.size_alloc] at h1
  refine ⟨?_, h1, ((Below.refl _ _).alloc (Nat.le_refl _) _).alloc (by simp) _⟩
  rw [heap_lt_alloc' _ _ _ (by simp)]; exact heap_alloc_new w _
end

set_option maxRecDepth 100000 in
set_option maxHeartbeats 2000000 in
theorem rasked_any (A A' : Option Addr) (n c n' c' : Nat) (ps : List PR) (ws : List WE) (id kind : Int) (w : World) (hnm : n ≤ maxLen) (hnm' : n' ≤ maxLen) (hR : Reads w w.heap.size 4 A n (pgs ps)) (hW : Reads w w.heap.size 5 A' n' (wgs ws)) :
    Calls Tryd.prog 61 #[.agg #[.slice A n c, .slice A' n' c'], .int .i64 id, .int .i64 kind] w fun e w' => e = .returned (.int .i64 (askE ps ws id kind)) ∧ Below w.heap.size w w' := by
  have HRd := Lib.hid (fun z (hz : Below w.heap.size w z) => (hR.below hz).more hz.size)
  have HWd := Lib.hid (fun z (hz : Below w.heap.size w z) => (hW.below hz).more hz.size)
  have hO := Lib.hid (heap_alloc_new w (.cells #[.slice A n c, .slice A' n' c'] 25))
  have hB0 : Hid (Below w.heap.size w (w.alloc (.cells #[.slice A n c, .slice A' n' c'] 25))) := (Below.refl _ _).alloc (Nat.le_refl _) _
  clear hR hW
  go_enter Tryd.func61, Tryd.ntmps61
  go_wp2_with fail
  refine (Press_any A A' n c n' c' ps ws _ hnm hnm' (HRd.out _ hB0.out) (HWd.out _ hB0.out)).mono ?_
  rintro e z1 ⟨rfl, hb1⟩
  have hO1 := Lib.hid (keepO hb1 hO.out)
  have hB1 := Lib.hid (below_via hB0.out hB0.out.size hb1)
  clear hb1
  cases hv : validP ps ws
  · have hs : Hid (askE ps ws id kind = 20) := by show _ = _; unfold askE; rw [hv]; rfl
    clear hv
    go_wp2
    exact bodyPost_ret (v := .int .i64 20) (by simp [results, Tryd.results61, go_sem]) rfl ⟨by rw [hs.out], hB1.out⟩
  · have hvh := Lib.hid hv
    have HA : Hid (askE ps ws id kind = if idxP ps id < 0 then 6 else if rng 1 6 kind then if hasT ps ws then 0 else 8 else 2) := by show _ = _; unfold askE; rw [hv, if_pos rfl]
    clear hv
    obtain ⟨p0, p1, -, -⟩ := two_facts hO1.out
    go_wp2_with fail
    refine (Pressing_any A A' n c n' c' ps id z1 hnm (HRd.out _ hB1.out)).mono ?_
    rintro e z2 ⟨rfl, hb2⟩
    have hO2 := Lib.hid (keepO hb2 hO1.out)
    have hB2 := Lib.hid (below_via hB1.out hB1.out.size hb2)
    clear hb2 p0 p1
    by_cases hj : idxP ps id < 0
    · have hs : Hid (askE ps ws id kind = 6) := by show _ = _; rw [HA.out, if_pos hj]
      generalize idxP ps id = jx at *
      go_wp2
      exact bodyPost_ret (v := .int .i64 6) (by simp [results, Tryd.results61, go_sem]) rfl ⟨by rw [hs.out], hB2.out⟩
    · rw [if_neg hj] at HA
      generalize idxP ps id = jx at *
      go_wp2_with fail
      refine (withinR kind 1 6 z2).mono ?_
      rintro e z3 ⟨rfl, rfl⟩
      cases hk : rng 1 6 kind
      · have hs : Hid (askE ps ws id kind = 2) := by show _ = _; rw [HA.out, hk]; rfl
        clear hk
        go_wp2
        exact bodyPost_ret (v := .int .i64 2) (by simp [results, Tryd.results61, go_sem]) rfl ⟨by rw [hs.out], hB2.out⟩
      · have HA2 : Hid (askE ps ws id kind = if hasT ps ws then 0 else 8) := by show _ = _; rw [HA.out, hk, if_pos rfl]
        clear hk HA
        obtain ⟨p0, p1, -, -⟩ := two_facts hO2.out
        go_wp2_with fail
        refine (RTrue_any A A' n c n' c' ps ws z3 (HRd.out _ hB2.out) (HWd.out _ hB2.out) hvh.out).mono ?_
        rintro e z4 ⟨rfl, hb4⟩
        have hB4 := Lib.hid (below_via hB2.out hB2.out.size hb4)
        clear hb4 p0 p1
        cases ht : hasT ps ws
        · have hs : Hid (askE ps ws id kind = 8) := by show _ = _; rw [HA2.out, ht]; rfl
          clear ht
          go_wp2
          exact bodyPost_ret (v := .int .i64 8) (by simp [results, Tryd.results61, go_sem]) rfl ⟨by rw [hs.out], hB4.out⟩
        · have hs : Hid (askE ps ws id kind = 0) := by show _ = _; rw [HA2.out, ht]; rfl
          clear ht
          go_wp2
          exact bodyPost_ret (v := .int .i64 0) (by simp [results, Tryd.results61, go_sem]) rfl ⟨by rw [hs.out], hB4.out⟩

set_option maxRecDepth 100000 in
set_option maxHeartbeats 2000000 in
theorem rHolds_any (A A' : Option Addr) (n c n' c' : Nat) (ps : List PR) (ws : List WE) (w : World) (hnm : n ≤ maxLen) (hnm' : n' ≤ maxLen) (hR : Reads w w.heap.size 4 A n (pgs ps)) (hW : Reads w w.heap.size 5 A' n' (wgs ws)) :
    Calls Tryd.prog 18 #[.agg #[.slice A n c, .slice A' n' c']] w fun e w' => e = .returned (.tuple #[.bool (validP ps ws && hasT ps ws), .int .i64 (checkS ps ws)]) ∧ Below w.heap.size w w' := by
  have HRd := Lib.hid (fun z (hz : Below w.heap.size w z) => (hR.below hz).more hz.size)
  have HWd := Lib.hid (fun z (hz : Below w.heap.size w z) => (hW.below hz).more hz.size)
  have hO := Lib.hid (heap_alloc_new w (.cells #[.slice A n c, .slice A' n' c'] 25))
  have hB0 : Hid (Below w.heap.size w (w.alloc (.cells #[.slice A n c, .slice A' n' c'] 25))) := (Below.refl _ _).alloc (Nat.le_refl _) _
  clear hR hW
  go_enter Tryd.func18, Tryd.ntmps18
  go_wp2_with fail
  refine (Press_any A A' n c n' c' ps ws _ hnm hnm' (HRd.out _ hB0.out) (HWd.out _ hB0.out)).mono ?_
  rintro e z1 ⟨rfl, hb1⟩
  have hO1 := Lib.hid (keepO hb1 hO.out)
  have hB1 := Lib.hid (below_via hB0.out hB0.out.size hb1)
  clear hb1
  cases hv : validP ps ws
  · have hc : Hid (checkS ps ws = 20) := by show _ = _; unfold checkS; rw [hv]; rfl
    have hvh := Lib.hid hv
    clear hv
    go_wp2
    exact bodyPost_ret (v := .tuple #[.bool false, .int .i64 20]) (by simp [results, Tryd.results18, go_sem]) rfl ⟨by rw [hc.out, hvh.out]; rfl, hB1.out⟩
  · have hvh := Lib.hid hv
    have hc : Hid (checkS ps ws = 0) := by show _ = _; unfold checkS; rw [hv]; rfl
    clear hv
    obtain ⟨p0, p1, -, -⟩ := two_facts hO1.out
    go_wp2_with fail
    refine (RTrue_any A A' n c n' c' ps ws z1 (HRd.out _ hB1.out) (HWd.out _ hB1.out) hvh.out).mono ?_
    rintro e z4 ⟨rfl, hb4⟩
    have hB4 := Lib.hid (below_via hB1.out hB1.out.size hb4)
    clear hb4 p0 p1
    go_wp2
    exact bodyPost_ret (v := .tuple #[.bool (hasT ps ws), .int .i64 0]) (by simp [results, Tryd.results18, go_sem]) rfl ⟨by rw [hc.out, hvh.out]; rfl, hB4.out⟩

set_option maxRecDepth 100000 in
set_option maxHeartbeats 4000000 in
theorem rSpan_any (A A' : Option Addr) (n c n' c' : Nat) (ps : List PR) (ws : List WE) (id kind : Int) (w : World) (hnm : n ≤ maxLen) (hnm' : n' ≤ maxLen) (hR : Reads w w.heap.size 4 A n (pgs ps)) (hW : Reads w w.heap.size 5 A' n' (wgs ws)) :
    Calls Tryd.prog 20 #[.agg #[.slice A n c, .slice A' n' c'], .int .i64 id, .int .i64 kind] w fun e w' => e = .returned (.tuple #[.agg #[.int .i64 (spanE ps ws id kind).1, .int .i64 (spanE ps ws id kind).2], .int .i64 (askE ps ws id kind)]) ∧ Below w.heap.size w w' := by
  have hl : ps.length = n := hR.pg_len
  have HRd := Lib.hid (fun z (hz : Below w.heap.size w z) => (hR.below hz).more hz.size)
  have HWd := Lib.hid (fun z (hz : Below w.heap.size w z) => (hW.below hz).more hz.size)
  have hP0 := Lib.hid (PQ.start w A A' n c n' c')
  clear hR hW
  go_enter Tryd.func20, Tryd.ntmps20
  go_wp2_with fail
  refine (rasked_any A A' n c n' c' ps ws id kind _ hnm hnm' (HRd.out _ hP0.out.bel) (HWd.out _ hP0.out.bel)).mono ?_
  rintro e wq ⟨rfl, hb1⟩
  have hP := hP0.out.below hb1
  clear hb1 hP0
  by_cases h0 : askE ps ws id kind = 0
  · obtain ⟨hv, hi0, hk1, hk6, ht⟩ := askE_ok h0
    have hVF := valid_facts hv
    obtain ⟨i, hi⟩ : ∃ i : Nat, idxP ps id = i := ⟨(idxP ps id).toNat, by omega⟩
    obtain ⟨k, rfl⟩ : ∃ k : Nat, kind = k := ⟨kind.toNat, by omega⟩
    have hin : i < n := by have := (idxP_bound ps id).2; omega
    have hk7 : k < 7 := by omega
    have hFw := hVF.fwd
    have hHo := has_Holds hVF ht
    have hIn := rows_InR hVF ps.length
    have hsi := span_in hFw hHo hIn (i := i) (k := k) (by omega) (by omega) (by omega)
    obtain ⟨L, H, hLH⟩ : ∃ L H, spanP (toT ps) (rowsT ps ws) ps.length i k = (L, H) := ⟨_, _, rfl⟩
    have hLo := Lib.hid (fun (mid : Int) (_ : 0 ≤ mid) (_ : mid < 1000000) => lo_law hFw hHo hIn (notes_rows ps ws) (i := i) (k := k) (by omega) (by omega) (by omega) mid (0, 10000000) (0, 10000000))
    have hHi := Lib.hid (fun (mid : Int) (_ : 0 < mid) (_ : mid ≤ 1000000) => hi_law hFw hHo hIn (notes_rows ps ws) (i := i) (k := k) (by omega) (by omega) (by omega) mid (0, 10000000) (0, 10000000))
    rw [hLH] at hLo hHi hsi
    simp only at hsi
    rw [hl] at hLo hHi
    obtain ⟨hL0, hLHle, hH1⟩ := hsi
    have hL1 : L ≤ 1000000 := by omega
    have hH0 : 0 ≤ H := by omega
    have hsp : Hid (spanE ps ws id k = (L, H)) := by show _ = _; unfold spanE; rw [if_pos h0, hi, spanSp_P]; exact hLH
    have hask := Lib.hid h0
    have hRb : Hid (∀ i, i < n → ∀ q, q < 7 → Bd 10000000 (notesR ps ws i q)) := fun i _ q _ => notesR_bd hVF i q
    have hvh := Lib.hid hv
    have hih := Lib.hid hi
    rw [h0]
    clear hv hVF hFw hHo hIn hLH h0 hi ht hi0 hl
    obtain ⟨p0, p1⟩ := hP.cells
    go_wp2_with fail
    clear p0 p1
    have hbz : w.heap.size + 2 ≤ wq.heap.size := hP.size
    obtain ⟨p0, p1⟩ := hP.cells
    have HQ := Lib.hid (fun w' (hz : Hid (Kp wq.heap.size [w.heap.size + 1] wq w')) => (⟨(hz.out.cell (by simp only; omega) (by simp; try omega)).trans p0, (hz.out.cell (by simp only; omega) (by simp; try omega)).trans p1⟩ : w'.cell? ⟨w.heap.size, 0, none⟩ = some (.slice A n c) ∧ w'.cell? ⟨w.heap.size, 1, none⟩ = some (.slice A' n' c')))
    obtain ⟨S, hSd⟩ : ∃ S : World → Prop, S = fun w' => (w'.cell? ⟨w.heap.size, 0, none⟩ = some (.slice A n c) ∧ w'.cell? ⟨w.heap.size, 1, none⟩ = some (.slice A' n' c')) ∧ Hid (Kp wq.heap.size [w.heap.size + 1] wq w') := ⟨_, rfl⟩
    have HS := Lib.hid (fun w' (hz : Hid (Kp wq.heap.size [w.heap.size + 1] wq w')) => (by rw [hSd]; exact ⟨HQ.out w' hz, hz⟩ : S w'))
    clear p0 p1
    refine wp_region_held_drew (S := S) (by kernel_rfl) ?_ (fun hHeld => ?_)
    · exact HS.out _ (Lib.hid (Kp.refl _ _ _).drew)
    have hKyd : Hid (Kp wq.heap.size [w.heap.size + 1] wq wq.drew) := Lib.hid (Kp.refl _ _ _).drew
    have hSyd : wq.heap.size ≤ wq.drew.heap.size := Nat.le_refl _
    have hP := hP.drew
    generalize wq.drew = yd at *
    refine tY (v := ?_) 0 17 ?_ ?_
    rotate_left
    · intro w hSw; rw [hSd] at hSw; obtain ⟨⟨q0, q1⟩, -⟩ := hSw; go_simp; (try with_reducible rfl)
    try simp only [N0]
    refine tY (v := ?_) 1 18 ?_ ?_
    rotate_left
    · intro w hSw; rw [hSd] at hSw; obtain ⟨⟨q0, q1⟩, -⟩ := hSw; go_simp; (try with_reducible rfl)
    try simp only [N0]
    refine tY (v := ?_) 3 20 ?_ ?_
    rotate_left
    · intro w hSw; rw [hSd] at hSw; obtain ⟨⟨q0, q1⟩, -⟩ := hSw; go_simp; (try with_reducible rfl)
    try simp only [N0]
    refine tY (v := ?_) 4 21 ?_ ?_
    rotate_left
    · intro w hSw; rw [hSd] at hSw; obtain ⟨⟨q0, q1⟩, -⟩ := hSw; go_simp; (try with_reducible rfl)
    try simp only [N0]
    refine tY (v := ?_) 6 23 ?_ ?_
    rotate_left
    · intro w hSw; rw [hSd] at hSw; obtain ⟨⟨q0, q1⟩, -⟩ := hSw; go_simp; (try with_reducible rfl)
    try simp only [N0]
    refine wpAnyH_ready (rs := [2]) (by kernel_rfl) (by simp) ?_
    refine AllReadyH.cons (o := _) rfl (fun Kq hK => ?_) AllReadyH.nil
    go_simp
    refine (noted_any A A' n c n' c' ps ws yd (HRd.out yd hP.bel) (HWd.out yd hP.bel) hvh.out).mono ?_
    rintro e c2yd ⟨rfl, hb⟩
    have hKc2yd := Lib.hid (hKyd.out.call hSyd hb)
    have hSc2yd := Nat.le_trans hSyd hb.size
    have hP := hP.below hb
    clear hb
    try go_simp
    refine hK.out _ _ ?_ (fun hHeld => ?_)
    · exact HS.out _ hKc2yd
    clear hK Kq
    try simp only [N0]
    refine wpAnyH_ready (rs := [5]) (by kernel_rfl) (by simp) ?_
    refine AllReadyH.cons (o := _) rfl (fun Kq hK => ?_) AllReadyH.nil
    go_simp
    refine (Pressing_any A A' n c n' c' ps id c2yd hnm (HRd.out c2yd hP.bel)).mono ?_
    rintro e c5c2yd ⟨rfl, hb⟩
    have hKc5c2yd := Lib.hid (hKc2yd.out.call hSc2yd hb)
    have hSc5c2yd := Nat.le_trans hSc2yd hb.size
    have hP := hP.below hb
    rw [hih.out]
    clear hb
    try go_simp
    refine hK.out _ _ ?_ (fun hHeld => ?_)
    · exact HS.out _ hKc5c2yd
    clear hK Kq
    try simp only [N0]
    refine wpAnyH_ready (rs := [7]) (by kernel_rfl) (by simp) ?_
    refine AllReadyH.cons (o := _) rfl (fun Kq hK => ?_) AllReadyH.nil
    go_simp
    refine (rspan_any A A' n c n' c' ps ws (notesR ps ws) i k L H c5c2yd (HRd.out c5c2yd hP.bel) hvh.out hRb.out hin hk7 hL0 hL1 hH0 hH1 hLo.out hHi.out).mono ?_
    rintro e c7c5c2yd ⟨rfl, hb⟩
    have hKc7c5c2yd := Lib.hid (hKc5c2yd.out.call hSc5c2yd hb)
    have hSc7c5c2yd := Nat.le_trans hSc5c2yd hb.size
    have hP := hP.below hb
    clear hb
    try go_simp
    refine hK.out _ _ ?_ (fun hHeld => ?_)
    · exact HS.out _ hKc7c5c2yd
    clear hK Kq
    try simp only [N0]
    refine wpAnyH_ready (rs := [8]) (by kernel_rfl) (by simp) ?_
    refine AllReadyH.cons (o := _) rfl (fun Kq hK => ?_) AllReadyH.nil
    obtain ⟨g0, g1, f0, f1⟩ := two_facts hP.b1
    go_simp
    obtain ⟨s8c7c5c2yd, hz_⟩ : ∃ z, z = ((c7c5c2yd.setCell ⟨w.heap.size + 1, 0, none⟩ (.int .i64 L)).setCell ⟨w.heap.size + 1, 1, none⟩ (.int .i64 H)) := ⟨_, rfl⟩
    rw [← hz_]
    have hE := set_back hP.b1 (.int .i64 L) (.int .i64 H)
    rw [← hz_] at hE
    have hBl := below_two hP.bel (b := w.heap.size + 1) (by omega) (.int .i64 L) (.int .i64 H)
    rw [← hz_] at hBl
    clear hP g0 g1 f0 f1
    have hKs8c7c5c2yd := Lib.hid ((hKc7c5c2yd.out.set (p := ⟨w.heap.size + 1, 0, none⟩) (Or.inl (by simp)) (.int .i64 L)).set (p := ⟨w.heap.size + 1, 1, none⟩) (Or.inl (by simp)) (.int .i64 H))
    rw [← hz_] at hKs8c7c5c2yd
    have hSs8c7c5c2yd := Nat.le_trans hSc7c5c2yd (show c7c5c2yd.heap.size ≤ s8c7c5c2yd.heap.size by rw [hz_]; simp)
    clear hz_
    refine hK.out _ _ ?_ (fun hHeld => ?_)
    · exact HS.out _ hKs8c7c5c2yd
    clear hK Kq
    try simp only [N0]
    refine wpAnyH_ready (rs := [9]) (by kernel_rfl) (by simp) ?_
    refine AllReadyH.cons (o := _) rfl (fun Kq hK => ?_) AllReadyH.nil
    go_simp
    refine hK.out _ _ ?_ (fun hHeld => ?_)
    · exact HS.out _ hKs8c7c5c2yd
    clear hK Kq
    try simp only [N0]
    refine wpAnyH_done (by kernel_rfl) ?_ _
    clear HS HQ hSd
    obtain ⟨e0, e1⟩ := hE
    go_wp2
    exact bodyPost_ret (v := .tuple #[.agg #[.int .i64 L, .int .i64 H], .int .i64 0]) (by simp [results, Tryd.results20, go_sem, e0, e1]) rfl ⟨by rw [hsp.out, hask.out], hBl⟩
  · have hS : Hid (spanE ps ws id kind = (0, 0)) := by show _ = _; unfold spanE; rw [if_neg h0]
    obtain ⟨er, her⟩ : ∃ er, er = askE ps ws id kind := ⟨_, rfl⟩
    rw [← her] at h0 ⊢
    have h0b : (er == 0) = false := by simpa using h0
    have herh := Lib.hid her
    clear her
    obtain ⟨g0, g1, f0, f1⟩ := two_facts hP.b1
    have hE := Lib.hid (set_back hP.b1 (.int .i64 0) (.int .i64 0))
    have hBl := Lib.hid (below_two hP.bel (b := w.heap.size + 1) (by omega) (.int .i64 0) (.int .i64 0))
    clear hP hl
    go_wp2
    obtain ⟨e0, e1⟩ := hE.out
    exact bodyPost_ret (v := .tuple #[.agg #[.int .i64 0, .int .i64 0], .int .i64 er]) (by simp [results, Tryd.results20, go_sem, e0, e1]) rfl ⟨by rw [hS.out, herh.out], hBl.out⟩
end Go.Proofs.YtoakeclpakjbiaaDoor
