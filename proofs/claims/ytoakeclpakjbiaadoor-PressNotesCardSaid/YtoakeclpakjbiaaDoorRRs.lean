/-
  What a weight rests on: the reference's walk.
-/
import Derived.Test.YtoakeclpakjbiaaDoorPRs
import Derived.Test.YtoakeclpakjbiaaDoorRWo
import Derived.Test.YtoakeclpakjbiaaDoorRSp
import Derived.Test.YtoakeclpakjbiaaDoorRAsk
namespace Go.Proofs.YtoakeclpakjbiaaDoor
open Go.RowKit
set_option linter.unusedVariables false
set_option linter.unusedSimpArgs false

set_option maxRecDepth 100000 in
set_option maxHeartbeats 4000000 in
theorem rRests_any (A A' : Option Addr) (n c n' c' : Nat) (ps : List PR) (ws : List WE) (id kind : Int) (w : World) (hnm : n ≤ maxLen) (hnm' : n' ≤ maxLen) (hR : Reads w w.heap.size 4 A n (pgs ps)) (hW : Reads w w.heap.size 5 A' n' (wgs ws)) (hL : Laid w) :
    Calls Tryd.prog 35 #[.agg #[.slice A n c, .slice A' n' c'], .int .i64 id, .int .i64 kind] w fun e w' => (∃ A1 m c1, e = .returned (.tuple #[.slice A1 m c1, .int .i64 (askE ps ws id kind)]) ∧ m ≤ 30 ∧ Reads w' w'.heap.size 1 A1 m (ints (rstL ps ws id kind))) ∧ Below w.heap.size w w' := by
  have gEq : Tryd.prog.eqGuardType Tryd.prog.depth 44 = false := by kernel_rfl
  obtain ⟨i0, hi, hz0, hz1, hz2⟩ := info_parts info_int
  have hl : ps.length = n := hR.pg_len
  have hwl := hW.wg_len
  have HRd := Lib.hid (fun z (hz : Below w.heap.size w z) => (hR.below hz).more hz.size)
  have HWd := Lib.hid (fun z (hz : Below w.heap.size w z) => (hW.below hz).more hz.size)
  have HLa := Lib.hid (fun z (hz : Below w.heap.size w z) => hL.below hz hL.2.2.2)
  have hO0 := Lib.hid (heap_alloc_new w (.cells #[.slice A n c, .slice A' n' c'] 25))
  have hB0 : Hid (Below w.heap.size w (w.alloc (.cells #[.slice A n c, .slice A' n' c'] 25))) := Lib.hid ((Below.refl _ _).alloc (Nat.le_refl _) _)
  clear hR hW hL
  go_enter Tryd.func35, Tryd.ntmps35
  go_wp2_with fail
  refine (rasked_any A A' n c n' c' ps ws id kind _ hnm hnm' (HRd.out _ hB0.out) (HWd.out _ hB0.out)).mono ?_
  rintro e z1 ⟨rfl, hb⟩
  have hO1 := Lib.hid (keepO hb hO0.out)
  have hB1 := Lib.hid (below_via hB0.out hB0.out.size hb)
  clear hb hO0 hB0
  by_cases h0 : askE ps ws id kind = 0
  · obtain ⟨hv, hi0, hk1, hk6, ht⟩ := askE_ok h0
    have hn : n ≤ 10 := by
      have h := (valid_facts hv).n10
      omega
    have hn30 : n' ≤ 30 := by
      have h := (valid_facts hv).m30
      omega
    obtain ⟨i, hix⟩ : ∃ i : Nat, idxP ps id = i := ⟨(idxP ps id).toNat, by omega⟩
    obtain ⟨k, rfl⟩ : ∃ k : Nat, kind = k := ⟨kind.toNat, by omega⟩
    have hin : i < n := by have := (idxP_bound ps id).2; omega
    have hrl := Lib.hid (rst_ok h0 hix rfl)
    have hih := Lib.hid hix
    have hkb : k ≤ 6 ∧ 1 ≤ k := by omega
    have HSP : Hid (∀ (A A' : Option Addr) (c n' c' : Nat) (ws' : List WE), validP ps ws' = true → hasT ps ws' = true → ∀ z : World, Reads z z.heap.size 4 A n (pgs ps) →
        Calls Tryd.prog 56 #[.agg #[.slice A n c, .slice A' n' c'], .agg (NV (notesR ps ws')), .int .i64 i, .int .i64 k] z fun e z' => e = .returned (.agg #[.int .i64 (spanSp ps ws' i k).1, .int .i64 (spanSp ps ws' i k).2]) ∧ Below z.heap.size z z') := by
      intro A A' c n' c' ws' hv ht z hRz
      have hVF := valid_facts hv
      have hFw := hVF.fwd
      have hHo := has_Holds hVF ht
      have hIn := rows_InR hVF ps.length
      have hsi := span_in hFw hHo hIn (i := i) (k := k) (by omega) (by omega) (by omega)
      have hLo := (fun (mid : Int) (_ : 0 ≤ mid) (_ : mid < 1000000) => lo_law hFw hHo hIn (notes_rows ps ws') (i := i) (k := k) (by omega) (by omega) (by omega) mid (0, 10000000) (0, 10000000))
      have hHi := (fun (mid : Int) (_ : 0 < mid) (_ : mid ≤ 1000000) => hi_law hFw hHo hIn (notes_rows ps ws') (i := i) (k := k) (by omega) (by omega) (by omega) mid (0, 10000000) (0, 10000000))
      rw [spanSp_P]
      generalize spanP (toT ps) (rowsT ps ws') ps.length i k = o at *
      rw [hl] at hLo hHi
      obtain ⟨h1, h2, h3⟩ := hsi
      have hRb : (∀ i, i < n → ∀ q, q < 7 → Bd 10000000 (notesR ps ws' i q)) := fun i _ q _ => notesR_bd hVF i q
      exact rspan_any A A' n c n' c' ps ws' (notesR ps ws') i k o.1 o.2 z hRz hv hRb hin (by omega) h1 (by omega) (by omega) h3 hLo hHi
    have hvh := Lib.hid hv
    have hth := Lib.hid ht
    have h0h := Lib.hid h0
    obtain ⟨a, b, hs_⟩ : ∃ a b, spanSp ps ws i k = (a, b) := ⟨_, _, rfl⟩
    have hs := Lib.hid hs_
    rw [h0]
    clear hv ht hi0 hk1 hk6 hix h0 hs_
    obtain ⟨p0, p1, -, -⟩ := two_facts hO1.out
    go_wp2_with fail
    refine (Pressing_any A A' n c n' c' ps id z1 hnm (HRd.out _ hB1.out)).mono ?_
    rintro e wq ⟨rfl, hb⟩
    have hO2 := Lib.hid (keepO hb hO1.out)
    have HBq := Lib.hid (below_via hB1.out hB1.out.size hb)
    rw [hih.out]
    clear hb hO1 hB1 p0 p1
    have hw0 : w.heap.size < wq.heap.size := (Array.getElem?_eq_some_iff.1 hO2.out).1
    obtain ⟨p0, p1, -, -⟩ := two_facts hO2.out
    go_wp2_with fail
    have HQ := Lib.hid (fun w' (hz : Hid (Kp wq.heap.size [] wq w')) => (⟨(hz.out.cell (by simp only; omega) (by simp; try omega)).trans p0, (hz.out.cell (by simp only; omega) (by simp; try omega)).trans p1⟩ : w'.cell? ⟨w.heap.size, 0, none⟩ = some (.slice A n c) ∧ w'.cell? ⟨w.heap.size, 1, none⟩ = some (.slice A' n' c')))
    obtain ⟨S, hSd⟩ : ∃ S : World → Prop, S = fun w' => (w'.cell? ⟨w.heap.size, 0, none⟩ = some (.slice A n c) ∧ w'.cell? ⟨w.heap.size, 1, none⟩ = some (.slice A' n' c')) ∧ Hid (Kp wq.heap.size [] wq w') := ⟨_, rfl⟩
    have HS := Lib.hid (fun w' (hz : Hid (Kp wq.heap.size [] wq w')) => (by rw [hSd]; exact ⟨HQ.out w' hz, hz⟩ : S w'))
    clear p0 p1
    go_cut [10] (fun vb wx => ∃ wl, wl = wx ∧ ∃ b10, vb = .pointer (some ⟨b10, 0, none⟩) ∧ wl.heap[b10]? = some (.cells #[.int .i64 a, .int .i64 b] 44 (0, 0)) ∧ Kp wq.heap.size [] wq wl ∧ wq.heap.size ≤ b10)
    case first =>
      refine wp_region_held_drew (S := S) (by kernel_rfl) ?_ (fun hHeld => ?_)
      · exact HS.out _ (Lib.hid (Kp.refl _ _ _).drew)
      have hKyd : Hid (Kp wq.heap.size [] wq wq.drew) := Lib.hid (Kp.refl _ _ _).drew
      have hSyd : wq.heap.size ≤ wq.drew.heap.size := Nat.le_refl _
      generalize wq.drew = yd at *
      refine tkY (v := ?_) 0 25 rfl rfl (by kernel_rfl) (by kernel_rfl) (by kernel_rfl) (fun _ _ _ h => h) (by kernel_rfl) ?_ (by assumption) ?_
      rotate_left
      · intro w hSw; rw [hSd] at hSw; obtain ⟨⟨q0, q1⟩, -⟩ := hSw; go_simp; (try with_reducible rfl)
      try simp only [Act.put, List.setIfInBounds_toArray, List.set_cons_zero, List.set_cons_succ]
      refine tkY (v := ?_) 1 26 rfl rfl (by kernel_rfl) (by kernel_rfl) (by kernel_rfl) (fun _ _ _ h => h) (by kernel_rfl) ?_ (by assumption) ?_
      rotate_left
      · intro w hSw; rw [hSd] at hSw; obtain ⟨⟨q0, q1⟩, -⟩ := hSw; go_simp; (try with_reducible rfl)
      try simp only [Act.put, List.setIfInBounds_toArray, List.set_cons_zero, List.set_cons_succ]
      refine tkY (v := ?_) 3 28 rfl rfl (by kernel_rfl) (by kernel_rfl) (by kernel_rfl) (fun _ _ _ h => h) (by kernel_rfl) ?_ (by assumption) ?_
      rotate_left
      · intro w hSw; rw [hSd] at hSw; obtain ⟨⟨q0, q1⟩, -⟩ := hSw; go_simp; (try with_reducible rfl)
      try simp only [Act.put, List.setIfInBounds_toArray, List.set_cons_zero, List.set_cons_succ]
      refine tkY (v := ?_) 4 29 rfl rfl (by kernel_rfl) (by kernel_rfl) (by kernel_rfl) (fun _ _ _ h => h) (by kernel_rfl) ?_ (by assumption) ?_
      rotate_left
      · intro w hSw; rw [hSd] at hSw; obtain ⟨⟨q0, q1⟩, -⟩ := hSw; go_simp; (try with_reducible rfl)
      try simp only [Act.put, List.setIfInBounds_toArray, List.set_cons_zero, List.set_cons_succ]
      refine wpAnyH_ready (rs := [2, 6]) (by kernel_rfl) (by simp) ?_
      refine AllReadyH.cons (o := _) rfl (fun Kq hK => ?_) ?_
      · go_simp
        refine (noted_any A A' n c n' c' ps ws yd (HRd.out _ (HBq.out.trans (hKyd.out.below HBq.out.size (by simp)))) (HWd.out _ (HBq.out.trans (hKyd.out.below HBq.out.size (by simp)))) hvh.out).mono ?_
        rintro e c2yd ⟨rfl, hb⟩
        have hKc2yd := Lib.hid (hKyd.out.call hSyd hb)
        have hSc2yd := Nat.le_trans hSyd hb.size
        clear hb
        try go_simp
        refine hK.out _ _ ?_ (fun hHeld => ?_)
        · exact HS.out _ hKc2yd
        clear hK Kq
        try simp only [Act.put, List.setIfInBounds_toArray, List.set_cons_zero, List.set_cons_succ]
        refine wpAnyH_ready (rs := [5, 6]) (by kernel_rfl) (by simp) ?_
        refine AllReadyH.cons (o := _) rfl (fun Kq hK => ?_) ?_
        · go_simp
          refine (HSP.out A A' c n' c' ws hvh.out hth.out c2yd (HRd.out _ (HBq.out.trans (hKc2yd.out.below HBq.out.size (by simp))))).mono ?_
          rintro e c5c2yd ⟨rfl, hb⟩
          have hKc5c2yd := Lib.hid (hKc2yd.out.call hSc2yd hb)
          have hSc5c2yd := Nat.le_trans hSc2yd hb.size
          rw [hs.out]
          clear hb
          try go_simp
          refine hK.out _ _ ?_ (fun hHeld => ?_)
          · exact HS.out _ hKc5c2yd
          clear hK Kq
          try simp only [Act.put, List.setIfInBounds_toArray, List.set_cons_zero, List.set_cons_succ]
          refine wpAnyH_ready (rs := [6]) (by kernel_rfl) (by simp) ?_
          refine AllReadyH.cons (o := _) rfl (fun Kq hK => ?_) AllReadyH.nil
          go_simp
          have hOa := heap_alloc_new c5c2yd (.cells #[.int .i64 0, .int .i64 0] 44)
          have hoba := hSc5c2yd
          have hKz6c5c2yd := Lib.hid (hKc5c2yd.out.alloc hSc5c2yd (.cells #[.int .i64 0, .int .i64 0] 44))
          have hSz6c5c2yd := Nat.le_trans hSc5c2yd ((Below.refl c5c2yd.heap.size c5c2yd).alloc (Nat.le_refl _) (.cells #[.int .i64 0, .int .i64 0] 44)).size
          generalize (c5c2yd.alloc (.cells #[.int .i64 0, .int .i64 0] 44)) = z6c5c2yd at *
          refine hK.out _ _ ?_ (fun hHeld => ?_)
          · exact HS.out _ hKz6c5c2yd
          clear hK Kq
          try simp only [Act.put, List.setIfInBounds_toArray, List.set_cons_zero, List.set_cons_succ]
          refine wpAnyH_ready (rs := [7]) (by kernel_rfl) (by simp) ?_
          refine AllReadyH.cons (o := _) rfl (fun Kq hK => ?_) AllReadyH.nil
          obtain ⟨e0, e1, g0, g1⟩ := two_facts hOa
          go_simp
          clear e0  e1  g0  g1
          obtain ⟨s7z6c5c2yd, hz_⟩ : ∃ z, z = ((z6c5c2yd.setCell ⟨c5c2yd.heap.size, 0, none⟩ (.int .i64 a)).setCell ⟨c5c2yd.heap.size, 1, none⟩ (.int .i64 b)) := ⟨_, rfl⟩
          rw [← hz_]
          have hOa := set_two z6c5c2yd c5c2yd.heap.size _ (.int .i64 a) (.int .i64 b) _ _ hOa
          rw [← hz_] at hOa
          have hKs7z6c5c2yd := Lib.hid ((hKz6c5c2yd.out.set (p := ⟨c5c2yd.heap.size, 0, none⟩) (Or.inr hoba) (.int .i64 a)).set (p := ⟨c5c2yd.heap.size, 1, none⟩) (Or.inr hoba) (.int .i64 b))
          rw [← hz_] at hKs7z6c5c2yd
          have hSs7z6c5c2yd := Nat.le_trans hSz6c5c2yd (show z6c5c2yd.heap.size ≤ s7z6c5c2yd.heap.size by rw [hz_]; simp)
          clear hz_
          refine hK.out _ _ ?_ (fun hHeld => ?_)
          · exact HS.out _ hKs7z6c5c2yd
          clear hK Kq
          try simp only [Act.put, List.setIfInBounds_toArray, List.set_cons_zero, List.set_cons_succ]
          refine wpAnyH_done (by kernel_rfl) ?_ _
          go_wp2_with fail
          go_meet
          exact ⟨_, rfl, _, rfl, hOa, hKs7z6c5c2yd.out, hoba⟩
        refine AllReadyH.cons (o := _) rfl (fun Kq hK => ?_) AllReadyH.nil
        go_simp
        have hOa := heap_alloc_new c2yd (.cells #[.int .i64 0, .int .i64 0] 44)
        have hoba := hSc2yd
        have hKz6c2yd := Lib.hid (hKc2yd.out.alloc hSc2yd (.cells #[.int .i64 0, .int .i64 0] 44))
        have hSz6c2yd := Nat.le_trans hSc2yd ((Below.refl c2yd.heap.size c2yd).alloc (Nat.le_refl _) (.cells #[.int .i64 0, .int .i64 0] 44)).size
        generalize (c2yd.alloc (.cells #[.int .i64 0, .int .i64 0] 44)) = z6c2yd at *
        refine hK.out _ _ ?_ (fun hHeld => ?_)
        · exact HS.out _ hKz6c2yd
        clear hK Kq
        try simp only [Act.put, List.setIfInBounds_toArray, List.set_cons_zero, List.set_cons_succ]
        refine wpAnyH_ready (rs := [5]) (by kernel_rfl) (by simp) ?_
        refine AllReadyH.cons (o := _) rfl (fun Kq hK => ?_) AllReadyH.nil
        go_simp
        refine (HSP.out A A' c n' c' ws hvh.out hth.out z6c2yd (HRd.out _ (HBq.out.trans (hKz6c2yd.out.below HBq.out.size (by simp))))).mono ?_
        rintro e c5z6c2yd ⟨rfl, hb⟩
        have hKc5z6c2yd := Lib.hid (hKz6c2yd.out.call hSz6c2yd hb)
        have hOa := keepO hb hOa
        have hSc5z6c2yd := Nat.le_trans hSz6c2yd hb.size
        rw [hs.out]
        clear hb
        try go_simp
        refine hK.out _ _ ?_ (fun hHeld => ?_)
        · exact HS.out _ hKc5z6c2yd
        clear hK Kq
        try simp only [Act.put, List.setIfInBounds_toArray, List.set_cons_zero, List.set_cons_succ]
        refine wpAnyH_ready (rs := [7]) (by kernel_rfl) (by simp) ?_
        refine AllReadyH.cons (o := _) rfl (fun Kq hK => ?_) AllReadyH.nil
        obtain ⟨e0, e1, g0, g1⟩ := two_facts hOa
        go_simp
        clear e0  e1  g0  g1
        obtain ⟨s7c5z6c2yd, hz_⟩ : ∃ z, z = ((c5z6c2yd.setCell ⟨c2yd.heap.size, 0, none⟩ (.int .i64 a)).setCell ⟨c2yd.heap.size, 1, none⟩ (.int .i64 b)) := ⟨_, rfl⟩
        rw [← hz_]
        have hOa := set_two c5z6c2yd c2yd.heap.size _ (.int .i64 a) (.int .i64 b) _ _ hOa
        rw [← hz_] at hOa
        have hKs7c5z6c2yd := Lib.hid ((hKc5z6c2yd.out.set (p := ⟨c2yd.heap.size, 0, none⟩) (Or.inr hoba) (.int .i64 a)).set (p := ⟨c2yd.heap.size, 1, none⟩) (Or.inr hoba) (.int .i64 b))
        rw [← hz_] at hKs7c5z6c2yd
        have hSs7c5z6c2yd := Nat.le_trans hSc5z6c2yd (show c5z6c2yd.heap.size ≤ s7c5z6c2yd.heap.size by rw [hz_]; simp)
        clear hz_
        refine hK.out _ _ ?_ (fun hHeld => ?_)
        · exact HS.out _ hKs7c5z6c2yd
        clear hK Kq
        try simp only [Act.put, List.setIfInBounds_toArray, List.set_cons_zero, List.set_cons_succ]
        refine wpAnyH_done (by kernel_rfl) ?_ _
        go_wp2_with fail
        go_meet
        exact ⟨_, rfl, _, rfl, hOa, hKs7c5z6c2yd.out, hoba⟩
      refine AllReadyH.cons (o := _) rfl (fun Kq hK => ?_) AllReadyH.nil
      go_simp
      have hOa := heap_alloc_new yd (.cells #[.int .i64 0, .int .i64 0] 44)
      have hoba := hSyd
      have hKz6yd := Lib.hid (hKyd.out.alloc hSyd (.cells #[.int .i64 0, .int .i64 0] 44))
      have hSz6yd := Nat.le_trans hSyd ((Below.refl yd.heap.size yd).alloc (Nat.le_refl _) (.cells #[.int .i64 0, .int .i64 0] 44)).size
      generalize (yd.alloc (.cells #[.int .i64 0, .int .i64 0] 44)) = z6yd at *
      refine hK.out _ _ ?_ (fun hHeld => ?_)
      · exact HS.out _ hKz6yd
      clear hK Kq
      try simp only [Act.put, List.setIfInBounds_toArray, List.set_cons_zero, List.set_cons_succ]
      refine wpAnyH_ready (rs := [2]) (by kernel_rfl) (by simp) ?_
      refine AllReadyH.cons (o := _) rfl (fun Kq hK => ?_) AllReadyH.nil
      go_simp
      refine (noted_any A A' n c n' c' ps ws z6yd (HRd.out _ (HBq.out.trans (hKz6yd.out.below HBq.out.size (by simp)))) (HWd.out _ (HBq.out.trans (hKz6yd.out.below HBq.out.size (by simp)))) hvh.out).mono ?_
      rintro e c2z6yd ⟨rfl, hb⟩
      have hKc2z6yd := Lib.hid (hKz6yd.out.call hSz6yd hb)
      have hOa := keepO hb hOa
      have hSc2z6yd := Nat.le_trans hSz6yd hb.size
      clear hb
      try go_simp
      refine hK.out _ _ ?_ (fun hHeld => ?_)
      · exact HS.out _ hKc2z6yd
      clear hK Kq
      try simp only [Act.put, List.setIfInBounds_toArray, List.set_cons_zero, List.set_cons_succ]
      refine wpAnyH_ready (rs := [5]) (by kernel_rfl) (by simp) ?_
      refine AllReadyH.cons (o := _) rfl (fun Kq hK => ?_) AllReadyH.nil
      go_simp
      refine (HSP.out A A' c n' c' ws hvh.out hth.out c2z6yd (HRd.out _ (HBq.out.trans (hKc2z6yd.out.below HBq.out.size (by simp))))).mono ?_
      rintro e c5c2z6yd ⟨rfl, hb⟩
      have hKc5c2z6yd := Lib.hid (hKc2z6yd.out.call hSc2z6yd hb)
      have hOa := keepO hb hOa
      have hSc5c2z6yd := Nat.le_trans hSc2z6yd hb.size
      rw [hs.out]
      clear hb
      try go_simp
      refine hK.out _ _ ?_ (fun hHeld => ?_)
      · exact HS.out _ hKc5c2z6yd
      clear hK Kq
      try simp only [Act.put, List.setIfInBounds_toArray, List.set_cons_zero, List.set_cons_succ]
      refine wpAnyH_ready (rs := [7]) (by kernel_rfl) (by simp) ?_
      refine AllReadyH.cons (o := _) rfl (fun Kq hK => ?_) AllReadyH.nil
      obtain ⟨e0, e1, g0, g1⟩ := two_facts hOa
      go_simp
      clear e0  e1  g0  g1
      obtain ⟨s7c5c2z6yd, hz_⟩ : ∃ z, z = ((c5c2z6yd.setCell ⟨yd.heap.size, 0, none⟩ (.int .i64 a)).setCell ⟨yd.heap.size, 1, none⟩ (.int .i64 b)) := ⟨_, rfl⟩
      rw [← hz_]
      have hOa := set_two c5c2z6yd yd.heap.size _ (.int .i64 a) (.int .i64 b) _ _ hOa
      rw [← hz_] at hOa
      have hKs7c5c2z6yd := Lib.hid ((hKc5c2z6yd.out.set (p := ⟨yd.heap.size, 0, none⟩) (Or.inr hoba) (.int .i64 a)).set (p := ⟨yd.heap.size, 1, none⟩) (Or.inr hoba) (.int .i64 b))
      rw [← hz_] at hKs7c5c2z6yd
      have hSs7c5c2z6yd := Nat.le_trans hSc5c2z6yd (show c5c2z6yd.heap.size ≤ s7c5c2z6yd.heap.size by rw [hz_]; simp)
      clear hz_
      refine hK.out _ _ ?_ (fun hHeld => ?_)
      · exact HS.out _ hKs7c5c2z6yd
      clear hK Kq
      try simp only [Act.put, List.setIfInBounds_toArray, List.set_cons_zero, List.set_cons_succ]
      refine wpAnyH_done (by kernel_rfl) ?_ _
      go_wp2_with fail
      go_meet
      exact ⟨_, rfl, _, rfl, hOa, hKs7c5c2z6yd.out, hoba⟩
    case rest =>
      obtain ⟨zs, rfl, sb, rfl, hX1, hX4, hX5⟩ := ‹∃ wl, wl = _ ∧ _›
      clear HS HQ hSd
      have hbz := hX4.below (B' := wq.heap.size) (Nat.le_refl _) (by simp)
      have hO3 := Lib.hid (keepO hbz hO2.out)
      have HBs := Lib.hid (below_via HBq.out HBq.out.size hbz)
      have HOs := Lib.hid hX1
      have hsb : w.heap.size < sb := by omega
      clear hbz hX4 hX5 hX1 hO2 HBq hw0
      obtain ⟨p0, p1, -, -⟩ := two_facts hO3.out
      go_wp2_with fail
      clear p0 p1
      go_loopw [11, 34] (fun vA vk wr => ∃ wl, wl = wr ∧ ∃ j Al m cl, j ≤ n' ∧ m ≤ j ∧ vA = .slice Al m cl ∧ vk = .int .i64 (j : Nat) ∧ Hid (wl.ownsRow zs.heap.size 3 1 (.slice Al m cl) m (ints (rstS ps ws (ws.take j) i k))) ∧ Hid (Below zs.heap.size zs wl)) (fun _ vk _ => n' - (intOf vk).toNat)
      case atStart => exact ⟨_, rfl, 0, none, 0, 0, by omega, by omega, rfl, rfl, Lib.hid (World.ownsRow_nil _ _ _ _), Lib.hid (Below.refl _ _)⟩
      case round =>
        obtain ⟨wr, rfl, j, Al, m, cl, hjn, hmj, rfl, rfl, HOr, HBb⟩ := hrel
        have HBr := Lib.hid (below_via HBs.out HBs.out.size HBb.out)
        by_cases hj : j < n'
        · have hji : (j : Int) < (n' : Int) := by omega
          have j0 : (0 : Int) ≤ (j : Int) := by omega
          obtain ⟨bw, ow, N, P, K, Lo, Hi, rfl, hbw, hx, c0, c1', c2', c3', c4'⟩ := (HWd.out _ HBr.out).wg hj
          have hst := Lib.hid (rst_step (ps := ps) (ws := ws) (i := i) (k := k) hx)
          have hVL := Lib.hid (valid_less [N] hvh.out)
          have hTL := Lib.hid (hasT_less [N] hvh.out hth.out)
          obtain ⟨a', b', hs2_⟩ : ∃ a' b', spanSp ps (lessW ws [N]) i k = (a', b') := ⟨_, _, rfl⟩
          have hs2 := Lib.hid hs2_
          have hp := Lib.hid (rstP_ne (x := (N, P, K, Lo, Hi)) hs.out hs2_)
          clear hx hs2_
          obtain ⟨wa, hwa⟩ : ∃ z, z = wr.alloc (.cells #[.int .i64 N, .int .i64 P, .int .i64 K, .int .i64 Lo, .int .i64 Hi] 76) := ⟨_, rfl⟩
          have hba : Below wr.heap.size wr wa := by rw [hwa]; exact (Below.refl _ _).alloc (Nat.le_refl _) _
          have hOw := Lib.hid (show wa.heap[wr.heap.size]? = some (.cells #[.int .i64 N, .int .i64 P, .int .i64 K, .int .i64 Lo, .int .i64 Hi] 76 (0, 0)) by rw [hwa]; exact heap_alloc_new wr _)
          obtain ⟨wn, hwn⟩ : ∃ z, z = wa.alloc (.cells #[.int .i64 N] 3) := ⟨_, rfl⟩
          have hbn : Below wa.heap.size wa wn := by rw [hwn]; exact (Below.refl _ _).alloc (Nat.le_refl _) _
          have hOn := Lib.hid (show wn.heap[wa.heap.size]? = some (.cells #[.int .i64 N] 3 (0, 0)) by rw [hwn]; exact heap_alloc_new wa _)
          have hbrn : Below wr.heap.size wr wn := hba.trans (hbn.mono hba.size)
          have HBn := Lib.hid (below_via HBr.out HBr.out.size hbrn)
          have HBbn := Lib.hid (below_via HBb.out HBb.out.size hbrn)
          have hOwn := Lib.hid (keepO hbn hOw.out)
          have HOn := Lib.hid (ownR_below HOr.out hbrn)
          have hOsn := Lib.hid (keepO hbrn (keepO HBb.out HOs.out))
          obtain ⟨x0, -, -, -, -⟩ := five_facts hOw.out
          obtain ⟨p0, p1, -, -⟩ := two_facts (keepO hba (keepO HBb.out hO3.out))
          rw [hwa] at x0 p0 p1
          have hwah := Lib.hid hwa
          have hwnh := Lib.hid hwn
          clear hwa hwn hba hbn hbrn HOr HBb hOw
          go_wp2_with fail
          rw [← hwah.out, ← hwnh.out]
          have hsz : wa.heap.size = wr.heap.size + 1 := by rw [hwah.out]; simp
          clear c0 c1' c2' c3' c4' x0 p0 p1 hwah hwnh
          generalize wa.heap.size = ab at *
          subst hsz
          refine (rwithout_any A _ n c n' c' ps ws (some ⟨wr.heap.size + 1, 0, none⟩) 1 1 [N] wn (by omega) (by omega) (by omega) (HRd.out _ HBn.out) (HWd.out _ HBn.out) (rd_one hOn.out) (HLa.out _ HBn.out)).mono ?_
          rintro e wp ⟨Aw1, cw1, Aw2, m2, cw2, rfl, ho1, ho2, hb⟩
          obtain ⟨wx, hwx⟩ : ∃ z, z = wp.alloc (.cells #[.slice Aw1 n cw1, .slice Aw2 m2 cw2] 25) := ⟨_, rfl⟩
          have hbx : Below wp.heap.size wp wx := by rw [hwx]; exact (Below.refl _ _).alloc (Nat.le_refl _) _
          have hOp := (show wx.heap[wp.heap.size]? = some (.cells #[.slice Aw1 n cw1, .slice Aw2 m2 cw2] 25 (0, 0)) by rw [hwx]; exact heap_alloc_new wp _)
          have HR3 := Lib.hid (((Reads.of_own ho1).below hbx).more hbx.size)
          have HW3 := Lib.hid (((Reads.of_own ho2).below hbx).more hbx.size)
          have hbnx : Below wn.heap.size wn wx := below_via hb hb.size hbx
          have HBx := Lib.hid (below_via HBbn.out HBbn.out.size hbnx)
          have HOx := Lib.hid (ownR_below HOn.out hbnx)
          have hOwx := Lib.hid (keepO hbnx hOwn.out)
          have hOsx := keepO hbnx hOsn.out
          have hlp : wp.heap.size < wx.heap.size := (Array.getElem?_eq_some_iff.1 hOp).1
          have hls : sb < wx.heap.size := (Array.getElem?_eq_some_iff.1 hOsx).1
          obtain ⟨p0, p1, -, -⟩ := two_facts hOp
          obtain ⟨s0, s1, -, -⟩ := two_facts hOsx
          have hwxh := Lib.hid hwx
          clear hwx hbx hbnx hb ho1 ho2 HBn HBbn HOn hOwn hOsn hOn hOsx hOp
          go_wp2_with fail
          rw [← hwxh.out]
          clear hwxh
          generalize wp.heap.size = pb at *
          have HQ := Lib.hid (fun w' (hz : Hid (Kp wx.heap.size [] wx w')) => (⟨(hz.out.cell (by simp only; omega) (by simp; try omega)).trans p0, (hz.out.cell (by simp only; omega) (by simp; try omega)).trans p1, (hz.out.cell (by simp only; omega) (by simp; try omega)).trans s0, (hz.out.cell (by simp only; omega) (by simp; try omega)).trans s1⟩ : w'.cell? ⟨pb, 0, none⟩ = some (.slice Aw1 n cw1) ∧ w'.cell? ⟨pb, 1, none⟩ = some (.slice Aw2 m2 cw2) ∧ w'.cell? ⟨sb, 0, none⟩ = some (.int .i64 a) ∧ w'.cell? ⟨sb, 1, none⟩ = some (.int .i64 b)))
          obtain ⟨S, hSd⟩ : ∃ S : World → Prop, S = fun w' => (w'.cell? ⟨pb, 0, none⟩ = some (.slice Aw1 n cw1) ∧ w'.cell? ⟨pb, 1, none⟩ = some (.slice Aw2 m2 cw2) ∧ w'.cell? ⟨sb, 0, none⟩ = some (.int .i64 a) ∧ w'.cell? ⟨sb, 1, none⟩ = some (.int .i64 b)) ∧ Hid (Kp wx.heap.size [] wx w') := ⟨_, rfl⟩
          have HS := Lib.hid (fun w' (hz : Hid (Kp wx.heap.size [] wx w')) => (by rw [hSd]; exact ⟨HQ.out w' hz, hz⟩ : S w'))
          clear p0 p1 s0 s1
          by_cases q1 : a' = a
          · by_cases q2 : b' = b
            · subst q1
              subst q2
              replace hp : Hid (rstP ps ws i k (N, P, K, Lo, Hi) = false) := by show _ = _; rw [hp.out]; simp
              refine wp_region_held_drew (S := S) (by kernel_rfl) ?_ (fun hHeld => ?_)
              · exact HS.out _ (Lib.hid (Kp.refl _ _ _).drew)
              have hKyd : Hid (Kp wx.heap.size [] wx wx.drew) := Lib.hid (Kp.refl _ _ _).drew
              have hSyd : wx.heap.size ≤ wx.drew.heap.size := Nat.le_refl _
              generalize wx.drew = yd at *
              refine tkY (v := ?_) 0 43 rfl rfl (by kernel_rfl) (by kernel_rfl) (by kernel_rfl) (fun _ _ _ h => h) (by kernel_rfl) ?_ (by assumption) ?_
              rotate_left
              · intro w hSw; rw [hSd] at hSw; obtain ⟨⟨q0, q1, q2, q3⟩, -⟩ := hSw; go_simp; (try with_reducible rfl)
              try simp only [Act.put, List.setIfInBounds_toArray, List.set_cons_zero, List.set_cons_succ]
              refine tkY (v := ?_) 1 44 rfl rfl (by kernel_rfl) (by kernel_rfl) (by kernel_rfl) (fun _ _ _ h => h) (by kernel_rfl) ?_ (by assumption) ?_
              rotate_left
              · intro w hSw; rw [hSd] at hSw; obtain ⟨⟨q0, q1, q2, q3⟩, -⟩ := hSw; go_simp; (try with_reducible rfl)
              try simp only [Act.put, List.setIfInBounds_toArray, List.set_cons_zero, List.set_cons_succ]
              refine tkY (v := ?_) 3 46 rfl rfl (by kernel_rfl) (by kernel_rfl) (by kernel_rfl) (fun _ _ _ h => h) (by kernel_rfl) ?_ (by assumption) ?_
              rotate_left
              · intro w hSw; rw [hSd] at hSw; obtain ⟨⟨q0, q1, q2, q3⟩, -⟩ := hSw; go_simp; (try with_reducible rfl)
              try simp only [Act.put, List.setIfInBounds_toArray, List.set_cons_zero, List.set_cons_succ]
              refine tkY (v := ?_) 4 47 rfl rfl (by kernel_rfl) (by kernel_rfl) (by kernel_rfl) (fun _ _ _ h => h) (by kernel_rfl) ?_ (by assumption) ?_
              rotate_left
              · intro w hSw; rw [hSd] at hSw; obtain ⟨⟨q0, q1, q2, q3⟩, -⟩ := hSw; go_simp; (try with_reducible rfl)
              try simp only [Act.put, List.setIfInBounds_toArray, List.set_cons_zero, List.set_cons_succ]
              refine tkY (v := ?_) 6 49 rfl rfl (by kernel_rfl) (by kernel_rfl) (by kernel_rfl) (fun _ _ _ h => h) (by kernel_rfl) ?_ (by assumption) ?_
              rotate_left
              · intro w hSw; rw [hSd] at hSw; obtain ⟨⟨q0, q1, q2, q3⟩, -⟩ := hSw; go_simp; (try with_reducible rfl)
              try simp only [Act.put, List.setIfInBounds_toArray, List.set_cons_zero, List.set_cons_succ]
              refine wpAnyH_ready (rs := [2]) (by kernel_rfl) (by simp) ?_
              refine AllReadyH.cons (o := _) rfl (fun Kq hK => ?_) AllReadyH.nil
              go_simp
              refine (noted_any Aw1 Aw2 n cw1 m2 cw2 ps (lessW ws [N]) yd ((HR3.out.below (hKyd.out.below (B' := wx.heap.size) (Nat.le_refl _) (by simp))).more (hKyd.out.below (B' := wx.heap.size) (Nat.le_refl _) (by simp)).size) ((HW3.out.below (hKyd.out.below (B' := wx.heap.size) (Nat.le_refl _) (by simp))).more (hKyd.out.below (B' := wx.heap.size) (Nat.le_refl _) (by simp)).size) hVL.out).mono ?_
              rintro e c2yd ⟨rfl, hb⟩
              have hKc2yd := Lib.hid (hKyd.out.call hSyd hb)
              have hSc2yd := Nat.le_trans hSyd hb.size
              clear hb
              try go_simp
              refine hK.out _ _ ?_ (fun hHeld => ?_)
              · exact HS.out _ hKc2yd
              clear hK Kq
              try simp only [Act.put, List.setIfInBounds_toArray, List.set_cons_zero, List.set_cons_succ]
              refine wpAnyH_ready (rs := [5]) (by kernel_rfl) (by simp) ?_
              refine AllReadyH.cons (o := _) rfl (fun Kq hK => ?_) AllReadyH.nil
              go_simp
              refine (HSP.out Aw1 Aw2 cw1 m2 cw2 (lessW ws [N]) hVL.out hTL.out c2yd ((HR3.out.below (hKc2yd.out.below (B' := wx.heap.size) (Nat.le_refl _) (by simp))).more (hKc2yd.out.below (B' := wx.heap.size) (Nat.le_refl _) (by simp)).size)).mono ?_
              rintro e c5c2yd ⟨rfl, hb⟩
              have hKc5c2yd := Lib.hid (hKc2yd.out.call hSc2yd hb)
              have hSc5c2yd := Nat.le_trans hSc2yd hb.size
              rw [hs2.out]
              clear hb
              try go_simp
              refine hK.out _ _ ?_ (fun hHeld => ?_)
              · exact HS.out _ hKc5c2yd
              clear hK Kq
              try simp only [Act.put, List.setIfInBounds_toArray, List.set_cons_zero, List.set_cons_succ]
              refine wpAnyH_ready (rs := [7]) (by kernel_rfl) (by simp) ?_
              refine AllReadyH.cons (o := _) rfl (fun Kq hK => ?_) AllReadyH.nil
              go_simp
              refine hK.out _ _ ?_ (fun hHeld => ?_)
              · exact HS.out _ hKc5c2yd
              clear hK Kq
              try simp only [Act.put, List.setIfInBounds_toArray, List.set_cons_zero, List.set_cons_succ]
              refine wpAnyH_done (by kernel_rfl) ?_ _
              clear HS HQ hSd HR3 HW3 hOwx
              have HB2 := Lib.hid (HBx.out.trans ((hKc5c2yd.out.below (B' := wx.heap.size) (Nat.le_refl _) (by simp)).mono HBx.out.size))
              have HO2 := Lib.hid (show c5c2yd.ownsRow zs.heap.size 3 1 (.slice Al m cl) m (ints (rstS ps ws (ws.take (j + 1)) i k)) by rw [hst.out, hp.out, if_neg (by decide), List.append_nil]; exact ownR_below HOx.out (hKc5c2yd.out.below (B' := wx.heap.size) (Nat.le_refl _) (by simp)))
              clear hKc5c2yd hp hst HOx HBx
              go_wp2
              go_roundw
              case rel => exact ⟨_, rfl, j + 1, Al, m, cl, by omega, by omega, rfl, by go_num, HO2, HB2⟩
              case measure => simp [intOf]; omega
            · have q2b : (b' == b) = false := by simpa using q2
              subst q1
              replace hp : Hid (rstP ps ws i k (N, P, K, Lo, Hi) = true) := by show _ = _; rw [hp.out]; simp [q2]
              refine wp_region_held_drew (S := S) (by kernel_rfl) ?_ (fun hHeld => ?_)
              · exact HS.out _ (Lib.hid (Kp.refl _ _ _).drew)
              have hKyd : Hid (Kp wx.heap.size [] wx wx.drew) := Lib.hid (Kp.refl _ _ _).drew
              have hSyd : wx.heap.size ≤ wx.drew.heap.size := Nat.le_refl _
              generalize wx.drew = yd at *
              refine tkY (v := ?_) 0 43 rfl rfl (by kernel_rfl) (by kernel_rfl) (by kernel_rfl) (fun _ _ _ h => h) (by kernel_rfl) ?_ (by assumption) ?_
              rotate_left
              · intro w hSw; rw [hSd] at hSw; obtain ⟨⟨q0, q1, q2, q3⟩, -⟩ := hSw; go_simp; (try with_reducible rfl)
              try simp only [Act.put, List.setIfInBounds_toArray, List.set_cons_zero, List.set_cons_succ]
              refine tkY (v := ?_) 1 44 rfl rfl (by kernel_rfl) (by kernel_rfl) (by kernel_rfl) (fun _ _ _ h => h) (by kernel_rfl) ?_ (by assumption) ?_
              rotate_left
              · intro w hSw; rw [hSd] at hSw; obtain ⟨⟨q0, q1, q2, q3⟩, -⟩ := hSw; go_simp; (try with_reducible rfl)
              try simp only [Act.put, List.setIfInBounds_toArray, List.set_cons_zero, List.set_cons_succ]
              refine tkY (v := ?_) 3 46 rfl rfl (by kernel_rfl) (by kernel_rfl) (by kernel_rfl) (fun _ _ _ h => h) (by kernel_rfl) ?_ (by assumption) ?_
              rotate_left
              · intro w hSw; rw [hSd] at hSw; obtain ⟨⟨q0, q1, q2, q3⟩, -⟩ := hSw; go_simp; (try with_reducible rfl)
              try simp only [Act.put, List.setIfInBounds_toArray, List.set_cons_zero, List.set_cons_succ]
              refine tkY (v := ?_) 4 47 rfl rfl (by kernel_rfl) (by kernel_rfl) (by kernel_rfl) (fun _ _ _ h => h) (by kernel_rfl) ?_ (by assumption) ?_
              rotate_left
              · intro w hSw; rw [hSd] at hSw; obtain ⟨⟨q0, q1, q2, q3⟩, -⟩ := hSw; go_simp; (try with_reducible rfl)
              try simp only [Act.put, List.setIfInBounds_toArray, List.set_cons_zero, List.set_cons_succ]
              refine tkY (v := ?_) 6 49 rfl rfl (by kernel_rfl) (by kernel_rfl) (by kernel_rfl) (fun _ _ _ h => h) (by kernel_rfl) ?_ (by assumption) ?_
              rotate_left
              · intro w hSw; rw [hSd] at hSw; obtain ⟨⟨q0, q1, q2, q3⟩, -⟩ := hSw; go_simp; (try with_reducible rfl)
              try simp only [Act.put, List.setIfInBounds_toArray, List.set_cons_zero, List.set_cons_succ]
              refine wpAnyH_ready (rs := [2]) (by kernel_rfl) (by simp) ?_
              refine AllReadyH.cons (o := _) rfl (fun Kq hK => ?_) AllReadyH.nil
              go_simp
              refine (noted_any Aw1 Aw2 n cw1 m2 cw2 ps (lessW ws [N]) yd ((HR3.out.below (hKyd.out.below (B' := wx.heap.size) (Nat.le_refl _) (by simp))).more (hKyd.out.below (B' := wx.heap.size) (Nat.le_refl _) (by simp)).size) ((HW3.out.below (hKyd.out.below (B' := wx.heap.size) (Nat.le_refl _) (by simp))).more (hKyd.out.below (B' := wx.heap.size) (Nat.le_refl _) (by simp)).size) hVL.out).mono ?_
              rintro e c2yd ⟨rfl, hb⟩
              have hKc2yd := Lib.hid (hKyd.out.call hSyd hb)
              have hSc2yd := Nat.le_trans hSyd hb.size
              clear hb
              try go_simp
              refine hK.out _ _ ?_ (fun hHeld => ?_)
              · exact HS.out _ hKc2yd
              clear hK Kq
              try simp only [Act.put, List.setIfInBounds_toArray, List.set_cons_zero, List.set_cons_succ]
              refine wpAnyH_ready (rs := [5]) (by kernel_rfl) (by simp) ?_
              refine AllReadyH.cons (o := _) rfl (fun Kq hK => ?_) AllReadyH.nil
              go_simp
              refine (HSP.out Aw1 Aw2 cw1 m2 cw2 (lessW ws [N]) hVL.out hTL.out c2yd ((HR3.out.below (hKc2yd.out.below (B' := wx.heap.size) (Nat.le_refl _) (by simp))).more (hKc2yd.out.below (B' := wx.heap.size) (Nat.le_refl _) (by simp)).size)).mono ?_
              rintro e c5c2yd ⟨rfl, hb⟩
              have hKc5c2yd := Lib.hid (hKc2yd.out.call hSc2yd hb)
              have hSc5c2yd := Nat.le_trans hSc2yd hb.size
              rw [hs2.out]
              clear hb
              try go_simp
              refine hK.out _ _ ?_ (fun hHeld => ?_)
              · exact HS.out _ hKc5c2yd
              clear hK Kq
              try simp only [Act.put, List.setIfInBounds_toArray, List.set_cons_zero, List.set_cons_succ]
              refine wpAnyH_ready (rs := [7]) (by kernel_rfl) (by simp) ?_
              refine AllReadyH.cons (o := _) rfl (fun Kq hK => ?_) AllReadyH.nil
              go_simp
              refine hK.out _ _ ?_ (fun hHeld => ?_)
              · exact HS.out _ hKc5c2yd
              clear hK Kq
              try simp only [Act.put, List.setIfInBounds_toArray, List.set_cons_zero, List.set_cons_succ]
              refine wpAnyH_done (by kernel_rfl) ?_ _
              clear HS HQ hSd HR3 HW3
              have hbk := (hKc5c2yd.out.below (B' := wx.heap.size) (Nat.le_refl _) (by simp))
              obtain ⟨x0, -, -, -, -⟩ := five_facts (keepO hbk hOwx.out)
              have HB2 := Lib.hid (HBx.out.trans (hbk.mono HBx.out.size))
              have hbn : Below c5c2yd.heap.size c5c2yd (c5c2yd.alloc (.cells #[.int .i64 N] 3)) := (Below.refl _ _).alloc (Nat.le_refl _) _
              have HOy := Lib.hid (ownR_below (ownR_below HOx.out hbk) hbn)
              have HB3 := Lib.hid (below_via HB2.out HB2.out.size hbn)
              have HLn := Lib.hid (rd_one (heap_alloc_new c5c2yd (.cells #[.int .i64 N] 3)))
              clear hbk hbn HB2 HOx HBx hOwx
              go_wp2_with (first | (at_builtin; refine wpList_app _ rfl _ _ 51 rfl zs.heap.size 3 i0 _ 1 8 Tryd.underlying51 hi hz0 hz1 hz2 rfl (by decide) (.slice Al m cl) m (ints (rstS ps ws (ws.take j) i k)) rfl HOy.out _ (some ⟨c5c2yd.heap.size, 0, none⟩) 1 1 (ints [N]) rfl HLn.out (ints_one _) ?c3 ?c4 ?c5 ?_))
              case c3 => unfold maxLen; omega
              case c4 => omega
              case c5 => exact HB3.out.size
              intro v5 w4 hown4 hgr4 hat4
              clear hat4
              obtain ⟨A4, c4, rfl⟩ := ownR_val hown4
              have HO4 := Lib.hid (show w4.ownsRow zs.heap.size 3 1 (.slice A4 (m + 1) c4) (m + 1) (ints (rstS ps ws (ws.take (j + 1)) i k)) by rw [hst.out, hp.out, if_pos rfl, ints_app]; exact hown4)
              have HB4 := Lib.hid (HB3.out.grown hgr4 HB3.out.size (fun q hq => (ownR_lt HOy.out hq).1))
              clear hown4 hgr4 HOy HLn HB3 hst hp x0
              go_wp2
              go_roundw
              case rel => exact ⟨_, rfl, j + 1, A4, m + 1, c4, by omega, by omega, rfl, by go_num, HO4, HB4⟩
              case measure => simp [intOf]; omega
          · have q1b : (a' == a) = false := by simpa using q1
            replace hp : Hid (rstP ps ws i k (N, P, K, Lo, Hi) = true) := by show _ = _; rw [hp.out]; simp [q1]
            refine wp_region_held_drew (S := S) (by kernel_rfl) ?_ (fun hHeld => ?_)
            · exact HS.out _ (Lib.hid (Kp.refl _ _ _).drew)
            have hKyd : Hid (Kp wx.heap.size [] wx wx.drew) := Lib.hid (Kp.refl _ _ _).drew
            have hSyd : wx.heap.size ≤ wx.drew.heap.size := Nat.le_refl _
            generalize wx.drew = yd at *
            refine tkY (v := ?_) 0 43 rfl rfl (by kernel_rfl) (by kernel_rfl) (by kernel_rfl) (fun _ _ _ h => h) (by kernel_rfl) ?_ (by assumption) ?_
            rotate_left
            · intro w hSw; rw [hSd] at hSw; obtain ⟨⟨q0, q1, q2, q3⟩, -⟩ := hSw; go_simp; (try with_reducible rfl)
            try simp only [Act.put, List.setIfInBounds_toArray, List.set_cons_zero, List.set_cons_succ]
            refine tkY (v := ?_) 1 44 rfl rfl (by kernel_rfl) (by kernel_rfl) (by kernel_rfl) (fun _ _ _ h => h) (by kernel_rfl) ?_ (by assumption) ?_
            rotate_left
            · intro w hSw; rw [hSd] at hSw; obtain ⟨⟨q0, q1, q2, q3⟩, -⟩ := hSw; go_simp; (try with_reducible rfl)
            try simp only [Act.put, List.setIfInBounds_toArray, List.set_cons_zero, List.set_cons_succ]
            refine tkY (v := ?_) 3 46 rfl rfl (by kernel_rfl) (by kernel_rfl) (by kernel_rfl) (fun _ _ _ h => h) (by kernel_rfl) ?_ (by assumption) ?_
            rotate_left
            · intro w hSw; rw [hSd] at hSw; obtain ⟨⟨q0, q1, q2, q3⟩, -⟩ := hSw; go_simp; (try with_reducible rfl)
            try simp only [Act.put, List.setIfInBounds_toArray, List.set_cons_zero, List.set_cons_succ]
            refine tkY (v := ?_) 4 47 rfl rfl (by kernel_rfl) (by kernel_rfl) (by kernel_rfl) (fun _ _ _ h => h) (by kernel_rfl) ?_ (by assumption) ?_
            rotate_left
            · intro w hSw; rw [hSd] at hSw; obtain ⟨⟨q0, q1, q2, q3⟩, -⟩ := hSw; go_simp; (try with_reducible rfl)
            try simp only [Act.put, List.setIfInBounds_toArray, List.set_cons_zero, List.set_cons_succ]
            refine tkY (v := ?_) 6 49 rfl rfl (by kernel_rfl) (by kernel_rfl) (by kernel_rfl) (fun _ _ _ h => h) (by kernel_rfl) ?_ (by assumption) ?_
            rotate_left
            · intro w hSw; rw [hSd] at hSw; obtain ⟨⟨q0, q1, q2, q3⟩, -⟩ := hSw; go_simp; (try with_reducible rfl)
            try simp only [Act.put, List.setIfInBounds_toArray, List.set_cons_zero, List.set_cons_succ]
            refine wpAnyH_ready (rs := [2]) (by kernel_rfl) (by simp) ?_
            refine AllReadyH.cons (o := _) rfl (fun Kq hK => ?_) AllReadyH.nil
            go_simp
            refine (noted_any Aw1 Aw2 n cw1 m2 cw2 ps (lessW ws [N]) yd ((HR3.out.below (hKyd.out.below (B' := wx.heap.size) (Nat.le_refl _) (by simp))).more (hKyd.out.below (B' := wx.heap.size) (Nat.le_refl _) (by simp)).size) ((HW3.out.below (hKyd.out.below (B' := wx.heap.size) (Nat.le_refl _) (by simp))).more (hKyd.out.below (B' := wx.heap.size) (Nat.le_refl _) (by simp)).size) hVL.out).mono ?_
            rintro e c2yd ⟨rfl, hb⟩
            have hKc2yd := Lib.hid (hKyd.out.call hSyd hb)
            have hSc2yd := Nat.le_trans hSyd hb.size
            clear hb
            try go_simp
            refine hK.out _ _ ?_ (fun hHeld => ?_)
            · exact HS.out _ hKc2yd
            clear hK Kq
            try simp only [Act.put, List.setIfInBounds_toArray, List.set_cons_zero, List.set_cons_succ]
            refine wpAnyH_ready (rs := [5]) (by kernel_rfl) (by simp) ?_
            refine AllReadyH.cons (o := _) rfl (fun Kq hK => ?_) AllReadyH.nil
            go_simp
            refine (HSP.out Aw1 Aw2 cw1 m2 cw2 (lessW ws [N]) hVL.out hTL.out c2yd ((HR3.out.below (hKc2yd.out.below (B' := wx.heap.size) (Nat.le_refl _) (by simp))).more (hKc2yd.out.below (B' := wx.heap.size) (Nat.le_refl _) (by simp)).size)).mono ?_
            rintro e c5c2yd ⟨rfl, hb⟩
            have hKc5c2yd := Lib.hid (hKc2yd.out.call hSc2yd hb)
            have hSc5c2yd := Nat.le_trans hSc2yd hb.size
            rw [hs2.out]
            clear hb
            try go_simp
            refine hK.out _ _ ?_ (fun hHeld => ?_)
            · exact HS.out _ hKc5c2yd
            clear hK Kq
            try simp only [Act.put, List.setIfInBounds_toArray, List.set_cons_zero, List.set_cons_succ]
            refine wpAnyH_ready (rs := [7]) (by kernel_rfl) (by simp) ?_
            refine AllReadyH.cons (o := _) rfl (fun Kq hK => ?_) AllReadyH.nil
            go_simp
            refine hK.out _ _ ?_ (fun hHeld => ?_)
            · exact HS.out _ hKc5c2yd
            clear hK Kq
            try simp only [Act.put, List.setIfInBounds_toArray, List.set_cons_zero, List.set_cons_succ]
            refine wpAnyH_done (by kernel_rfl) ?_ _
            clear HS HQ hSd HR3 HW3
            have hbk := (hKc5c2yd.out.below (B' := wx.heap.size) (Nat.le_refl _) (by simp))
            obtain ⟨x0, -, -, -, -⟩ := five_facts (keepO hbk hOwx.out)
            have HB2 := Lib.hid (HBx.out.trans (hbk.mono HBx.out.size))
            have hbn : Below c5c2yd.heap.size c5c2yd (c5c2yd.alloc (.cells #[.int .i64 N] 3)) := (Below.refl _ _).alloc (Nat.le_refl _) _
            have HOy := Lib.hid (ownR_below (ownR_below HOx.out hbk) hbn)
            have HB3 := Lib.hid (below_via HB2.out HB2.out.size hbn)
            have HLn := Lib.hid (rd_one (heap_alloc_new c5c2yd (.cells #[.int .i64 N] 3)))
            clear hbk hbn HB2 HOx HBx hOwx
            go_wp2_with (first | (at_builtin; refine wpList_app _ rfl _ _ 51 rfl zs.heap.size 3 i0 _ 1 8 Tryd.underlying51 hi hz0 hz1 hz2 rfl (by decide) (.slice Al m cl) m (ints (rstS ps ws (ws.take j) i k)) rfl HOy.out _ (some ⟨c5c2yd.heap.size, 0, none⟩) 1 1 (ints [N]) rfl HLn.out (ints_one _) ?c3 ?c4 ?c5 ?_))
            case c3 => unfold maxLen; omega
            case c4 => omega
            case c5 => exact HB3.out.size
            intro v5 w4 hown4 hgr4 hat4
            clear hat4
            obtain ⟨A4, c4, rfl⟩ := ownR_val hown4
            have HO4 := Lib.hid (show w4.ownsRow zs.heap.size 3 1 (.slice A4 (m + 1) c4) (m + 1) (ints (rstS ps ws (ws.take (j + 1)) i k)) by rw [hst.out, hp.out, if_pos rfl, ints_app]; exact hown4)
            have HB4 := Lib.hid (HB3.out.grown hgr4 HB3.out.size (fun q hq => (ownR_lt HOy.out hq).1))
            clear hown4 hgr4 HOy HLn HB3 hst hp x0
            go_wp2
            go_roundw
            case rel => exact ⟨_, rfl, j + 1, A4, m + 1, c4, by omega, by omega, rfl, by go_num, HO4, HB4⟩
            case measure => simp [intOf]; omega
        · obtain rfl : j = n' := by omega
          have hji : ¬ (j : Int) < (j : Int) := by omega
          have hfin : Hid (rstS ps ws (ws.take j) i k = rstL ps ws id k) := by show _ = _; rw [List.take_of_length_le (by omega), hrl.out]
          have HRf := Lib.hid (Reads.of_own HOr.out)
          rw [hfin.out] at HRf
          clear HOr HSP HOs
          go_wp2
          refine bodyPost_ret (v := .tuple #[.slice Al m cl, .int .i64 0]) (by simp [results, Tryd.results35, go_sem]) rfl ?_
          have hfin2 : (∃ A1 m1 c1, Ending.returned (.tuple #[.slice Al m cl, .int .i64 0]) = .returned (.tuple #[.slice A1 m1 c1, .int .i64 (askE ps ws id k)]) ∧ m1 ≤ 30 ∧ Reads wr wr.heap.size 1 A1 m1 (ints (rstL ps ws id k))) ∧ Below w.heap.size w wr := ⟨⟨Al, m, cl, by rw [h0h.out], by omega, HRf.out⟩, HBr.out⟩
          first | exact hfin2 | simpa using hfin2
  · have h0b : (askE ps ws id kind == 0) = false := by simpa using h0
    have hr := Lib.hid (rst_bad h0)
    obtain ⟨er, her⟩ : ∃ er, er = askE ps ws id kind := ⟨_, rfl⟩
    rw [← her] at h0 h0b ⊢
    have herh := Lib.hid her
    clear hl her
    go_wp2
    refine bodyPost_ret (v := .tuple #[.slice none 0 0, .int .i64 er]) (by simp [results, Tryd.results35, go_sem]) rfl ?_
    have hfin2 : (∃ A1 m1 c1, Ending.returned (.tuple #[.slice none 0 0, .int .i64 er]) = .returned (.tuple #[.slice A1 m1 c1, .int .i64 (askE ps ws id kind)]) ∧ m1 ≤ 30 ∧ Reads z1 z1.heap.size 1 A1 m1 (ints (rstL ps ws id kind))) ∧ Below w.heap.size w z1 := ⟨⟨none, 0, 0, by rw [herh.out], by omega, by rw [hr.out]; exact ⟨rfl, fun h => absurd h (by omega)⟩⟩, hB1.out⟩
    first | exact hfin2 | simpa using hfin2
end Go.Proofs.YtoakeclpakjbiaaDoor
