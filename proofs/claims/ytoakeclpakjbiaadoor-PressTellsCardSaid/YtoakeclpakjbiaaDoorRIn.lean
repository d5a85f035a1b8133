/-
  The walk of what can go into a pressing, by the reference.
-/
import Derived.Test.YtoakeclpakjbiaaDoorTk
import Derived.Test.YtoakeclpakjbiaaDoorRSd
namespace Go.Proofs.YtoakeclpakjbiaaDoor
open Go.RowKit
set_option linter.unusedVariables false
set_option linter.unusedSimpArgs false

theorem inSp_P (ps : List PR) (ws : List WE) (i : Nat) : inSp ps ws i = insideP (toT ps) (rowsT ps ws) ps.length i := rfl

set_option maxRecDepth 100000 in
set_option maxHeartbeats 8000000 in
theorem rIn_any (A A' : Option Addr) (n c n' c' : Nat) (ps : List PR) (ws : List WE) (id : Int) (w : World) (hnm : n ≤ maxLen) (hnm' : n' ≤ maxLen) (hR : Reads w w.heap.size 4 A n (pgs ps)) (hW : Reads w w.heap.size 5 A' n' (wgs ws)) :
    Calls Tryd.prog 22 #[.agg #[.slice A n c, .slice A' n' c'], .int .i64 id] w fun e w' => e = .returned (.tuple #[.agg #[.int .i64 (inE ps ws id).1, .int .i64 (inE ps ws id).2], .int .i64 (askE ps ws id 1)]) ∧ Below w.heap.size w w' := by
  have hl : ps.length = n := hR.pg_len
  have HRd := Lib.hid (fun z (hz : Below w.heap.size w z) => (hR.below hz).more hz.size)
  have HWd := Lib.hid (fun z (hz : Below w.heap.size w z) => (hW.below hz).more hz.size)
  have hP0 := Lib.hid (PQ.start w A A' n c n' c')
  clear hR hW
  go_enter Tryd.func22, Tryd.ntmps22
  go_wp2_with fail
  refine (rasked_any A A' n c n' c' ps ws id 1 _ hnm hnm' (HRd.out _ hP0.out.bel) (HWd.out _ hP0.out.bel)).mono ?_
  rintro e wq ⟨rfl, hb1⟩
  have hP := hP0.out.below hb1
  clear hb1 hP0
  by_cases h0 : askE ps ws id 1 = 0
  · obtain ⟨hv, hi0, -, -, ht⟩ := askE_ok h0
    have hVF := valid_facts hv
    obtain ⟨i, hi⟩ : ∃ i : Nat, idxP ps id = i := ⟨(idxP ps id).toNat, by omega⟩
    have hin : i < n := by have := (idxP_bound ps id).2; omega
    have hFw := hVF.fwd
    have hHo := has_Holds hVF ht
    have hIn := rows_InR hVF ps.length
    have hag := fun (inn rst : Sp) => holdsR_congr (t := toT ps) (at_ := (i : Int)) (inn := inn) (rst := rst) (notes_rows ps ws)
    obtain ⟨L0, H0, hLH0⟩ : ∃ L H, insideP (toT ps) (rowsT ps ws) ps.length i = (L, H) := ⟨_, _, rfl⟩
    obtain ⟨L1, H1, hLH1⟩ : ∃ L H, othersP (toT ps) (rowsT ps ws) ps.length i = (L, H) := ⟨_, _, rfl⟩
    have hlaw := fun (mid : Int) => sides_law hFw hHo hIn (i := i) (by omega) mid
    have hrr := (hlaw 0).2.2.2.2
    have hLo0 := Lib.hid (fun (mid : Int) (_ : 0 ≤ mid) (_ : mid < 10000000) => (hag _ _).trans (hlaw mid).1)
    have hHi0 := Lib.hid (fun (mid : Int) (_ : 0 < mid) (_ : mid ≤ 10000000) => (hag _ _).trans (hlaw mid).2.1)
    have hLo1 := Lib.hid (fun (mid : Int) (_ : 0 ≤ mid) (_ : mid < 10000000) => (hag _ _).trans (hlaw mid).2.2.1)
    have hHi1 := Lib.hid (fun (mid : Int) (_ : 0 < mid) (_ : mid ≤ 10000000) => (hag _ _).trans (hlaw mid).2.2.2.1)
    rw [hLH0] at hLo0 hHi0 hrr
    rw [hLH1] at hLo1 hHi1 hrr
    rw [hl] at hLo0 hHi0 hLo1 hHi1
    simp only at hrr
    have hr0 : Hid (0 ≤ L0 ∧ L0 ≤ 10000000 ∧ 0 ≤ H0 ∧ H0 ≤ 10000000) := by show _ ∧ _; omega
    have hr1 : Hid (0 ≤ L1 ∧ L1 ≤ 10000000 ∧ 0 ≤ H1 ∧ H1 ≤ 10000000) := by show _ ∧ _; omega
    have hsp : Hid (inE ps ws id = (L0, H0)) := by show _ = _; unfold inE; rw [if_pos h0, hi, inSp_P]; exact hLH0
    have hask := Lib.hid h0
    have hvh := Lib.hid hv
    have hih := Lib.hid hi
    rw [h0]
    clear hv hVF hFw hHo hIn hLH0 hLH1 h0 hi ht hi0 hl hag hlaw hrr
    obtain ⟨p0, p1⟩ := hP.cells
    have hBq := hP.bel
    have hR1 := hP.b1
    have hbz : w.heap.size + 1 < wq.heap.size := hP.size
    go_wp2_with fail
    have HQ := Lib.hid (fun w' (hz : Hid (Kp wq.heap.size [] wq w')) => (⟨(hz.out.cell (by simp only; omega) (by simp; try omega)).trans p0, (hz.out.cell (by simp only; omega) (by simp; try omega)).trans p1⟩ : w'.cell? ⟨w.heap.size, 0, none⟩ = some (.slice A n c) ∧ w'.cell? ⟨w.heap.size, 1, none⟩ = some (.slice A' n' c')))
    obtain ⟨S, hSd⟩ : ∃ S : World → Prop, S = fun w' => (w'.cell? ⟨w.heap.size, 0, none⟩ = some (.slice A n c) ∧ w'.cell? ⟨w.heap.size, 1, none⟩ = some (.slice A' n' c')) ∧ Hid (Kp wq.heap.size [] wq w') := ⟨_, rfl⟩
    have HS := Lib.hid (fun w' (hz : Hid (Kp wq.heap.size [] wq w')) => (by rw [hSd]; exact ⟨HQ.out w' hz, hz⟩ : S w'))
    clear p0 p1 hP
    refine wp_region_held_drew (S := S) (by kernel_rfl) ?_ (fun hHeld => ?_)
    · exact HS.out _ (Lib.hid (Kp.refl _ _ _).drew)
    have hKyd : Hid (Kp wq.heap.size [] wq wq.drew) := Lib.hid (Kp.refl _ _ _).drew
    have hSyd : wq.heap.size ≤ wq.drew.heap.size := Nat.le_refl _
    generalize wq.drew = yd at *
    refine tY (v := ?_) 0 17 ?_ ?_
    rotate_left
    · intro w hSw; rw [hSd] at hSw; obtain ⟨⟨q0, q1⟩, -⟩ := hSw; go_simp; (try with_reducible rfl)
    try simp only [N0]
    refine tY (v := ?_) 1 18 ?_ ?_
    rotate_left
    · intro w hSw; rw [hSd] at hSw; obtain ⟨⟨q0, q1⟩, -⟩ := hSw; go_simp; (try with_reducible rfl)
    try simp only [N0]
    refine tY (v := ?_) 2 19 ?_ ?_
    rotate_left
    · intro w hSw; rw [hSd] at hSw; obtain ⟨⟨q0, q1⟩, -⟩ := hSw; go_simp; (try with_reducible rfl)
    try simp only [N0]
    refine wpAnyH_ready (rs := [3, 8, 9]) (by kernel_rfl) (by simp) ?_
    refine AllReadyH.cons (o := _) rfl (fun Kq hK => ?_) ?_
    · go_simp
      refine (Pressing_any A A' n c n' c' ps id yd hnm (HRd.out yd (hBq.trans (hKyd.out.below hBq.size (by simp))))).mono ?_
      rintro e c3yd ⟨rfl, hb⟩
      have hKc3yd := Lib.hid (hKyd.out.call hSyd hb)
      have hSc3yd := Nat.le_trans hSyd hb.size
      rw [hih.out]
      clear hb
      try go_simp
      refine hK.out _ _ ?_ (fun hHeld => ?_)
      · exact HS.out _ hKc3yd
      clear hK Kq
      try simp only [N0]
      refine wpAnyH_ready (rs := [4, 8, 9]) (by kernel_rfl) (by simp) ?_
      refine AllReadyH.cons (o := _) rfl (fun Kq hK => ?_) ?_
      · go_simp
        refine (rsides_any A A' n c n' c' ps ws i L0 H0 L1 H1 c3yd (HRd.out c3yd (hBq.trans (hKc3yd.out.below hBq.size (by simp)))) (HWd.out c3yd (hBq.trans (hKc3yd.out.below hBq.size (by simp)))) hvh.out hin hr0.out hr1.out hLo0.out hHi0.out hLo1.out hHi1.out).mono ?_
        rintro e c4c3yd ⟨rfl, hb⟩
        have hKc4c3yd := Lib.hid (hKc3yd.out.call hSc3yd hb)
        have hSc4c3yd := Nat.le_trans hSc3yd hb.size
        clear hb
        try go_simp
        refine hK.out _ _ ?_ (fun hHeld => ?_)
        · exact HS.out _ hKc4c3yd
        clear hK Kq
        try simp only [N0]
        refine tY (v := ?_) 5 16 ?_ ?_
        rotate_left
        · intro w hSw; go_simp; (try with_reducible rfl)
        try simp only [N0]
        refine tY (v := ?_) 6 22 ?_ ?_
        rotate_left
        · intro w hSw; go_simp; (try with_reducible rfl)
        try simp only [N0]
        refine tY (v := ?_) 7 23 ?_ ?_
        rotate_left
        · intro w hSw; go_simp; (try with_reducible rfl)
        try simp only [N0]
        refine wpAnyH_ready (rs := [8, 9]) (by kernel_rfl) (by simp) ?_
        refine AllReadyH.cons (o := _) rfl (fun Kq hK => ?_) ?_
        · go_simp
          have hOa := heap_alloc_new c4c3yd (.cells #[.int .i64 0, .int .i64 0] 44)
          have hoba := hSc4c3yd
          have hKz8c4c3yd := Lib.hid (hKc4c3yd.out.alloc hSc4c3yd (.cells #[.int .i64 0, .int .i64 0] 44))
          have hSz8c4c3yd := Nat.le_trans hSc4c3yd ((Below.refl c4c3yd.heap.size c4c3yd).alloc (Nat.le_refl _) (.cells #[.int .i64 0, .int .i64 0] 44)).size
          generalize (c4c3yd.alloc (.cells #[.int .i64 0, .int .i64 0] 44)) = z8c4c3yd at *
          refine hK.out _ _ ?_ (fun hHeld => ?_)
          · exact HS.out _ hKz8c4c3yd
          clear hK Kq
          try simp only [N0]
          refine wpAnyH_ready (rs := [9]) (by kernel_rfl) (by simp) ?_
          refine AllReadyH.cons (o := _) rfl (fun Kq hK => ?_) AllReadyH.nil
          have hnab := (Array.getElem?_eq_some_iff.1 hOa).1
          go_simp
          have hOb := heap_alloc_new z8c4c3yd (.cells #[.int .i64 0, .int .i64 0] 44)
          have hobb := hSz8c4c3yd
          have hOa := keepO ((Below.refl z8c4c3yd.heap.size z8c4c3yd).alloc (Nat.le_refl _) (.cells #[.int .i64 0, .int .i64 0] 44)) hOa
          have hKz9z8c4c3yd := Lib.hid (hKz8c4c3yd.out.alloc hSz8c4c3yd (.cells #[.int .i64 0, .int .i64 0] 44))
          have hSz9z8c4c3yd := Nat.le_trans hSz8c4c3yd ((Below.refl z8c4c3yd.heap.size z8c4c3yd).alloc (Nat.le_refl _) (.cells #[.int .i64 0, .int .i64 0] 44)).size
          generalize (z8c4c3yd.alloc (.cells #[.int .i64 0, .int .i64 0] 44)) = z9z8c4c3yd at *
          refine hK.out _ _ ?_ (fun hHeld => ?_)
          · exact HS.out _ hKz9z8c4c3yd
          clear hK Kq
          try simp only [N0]
          refine wpAnyH_ready (rs := [10]) (by kernel_rfl) (by simp) ?_
          refine AllReadyH.cons (o := _) rfl (fun Kq hK => ?_) AllReadyH.nil
          obtain ⟨e0, e1, g0, g1⟩ := two_facts hOa
          go_simp
          clear e0  e1  g0  g1
          obtain ⟨s10z9z8c4c3yd, hz_⟩ : ∃ z, z = ((z9z8c4c3yd.setCell ⟨c4c3yd.heap.size, 0, none⟩ (.int .i64 L0)).setCell ⟨c4c3yd.heap.size, 1, none⟩ (.int .i64 H0)) := ⟨_, rfl⟩
          rw [← hz_]
          have hN0 := (heap_sets2 z9z8c4c3yd c4c3yd.heap.size _ (.int .i64 L0) (.int .i64 H0) (by omega)).trans hOb
          rw [← hz_] at hN0
          have hOa := set_two z9z8c4c3yd c4c3yd.heap.size _ (.int .i64 L0) (.int .i64 H0) _ _ hOa
          rw [← hz_] at hOa
          have hOb := hN0
          clear hN0
          have hKs10z9z8c4c3yd := Lib.hid ((hKz9z8c4c3yd.out.set (p := ⟨c4c3yd.heap.size, 0, none⟩) (Or.inr hoba) (.int .i64 L0)).set (p := ⟨c4c3yd.heap.size, 1, none⟩) (Or.inr hoba) (.int .i64 H0))
          rw [← hz_] at hKs10z9z8c4c3yd
          have hSs10z9z8c4c3yd := Nat.le_trans hSz9z8c4c3yd (show z9z8c4c3yd.heap.size ≤ s10z9z8c4c3yd.heap.size by rw [hz_]; simp)
          clear hz_
          refine hK.out _ _ ?_ (fun hHeld => ?_)
          · exact HS.out _ hKs10z9z8c4c3yd
          clear hK Kq
          try simp only [N0]
          refine wpAnyH_ready (rs := [11]) (by kernel_rfl) (by simp) ?_
          refine AllReadyH.cons (o := _) rfl (fun Kq hK => ?_) AllReadyH.nil
          obtain ⟨e0, e1, g0, g1⟩ := two_facts hOb
          go_simp
          clear e0  e1  g0  g1
          obtain ⟨s11s10z9z8c4c3yd, hz_⟩ : ∃ z, z = ((s10z9z8c4c3yd.setCell ⟨z8c4c3yd.heap.size, 0, none⟩ (.int .i64 L1)).setCell ⟨z8c4c3yd.heap.size, 1, none⟩ (.int .i64 H1)) := ⟨_, rfl⟩
          rw [← hz_]
          have hN0 := (heap_sets2 s10z9z8c4c3yd z8c4c3yd.heap.size _ (.int .i64 L1) (.int .i64 H1) (by omega)).trans hOa
          rw [← hz_] at hN0
          have hOb := set_two s10z9z8c4c3yd z8c4c3yd.heap.size _ (.int .i64 L1) (.int .i64 H1) _ _ hOb
          rw [← hz_] at hOb
          have hOa := hN0
          clear hN0
          have hKs11s10z9z8c4c3yd := Lib.hid ((hKs10z9z8c4c3yd.out.set (p := ⟨z8c4c3yd.heap.size, 0, none⟩) (Or.inr hobb) (.int .i64 L1)).set (p := ⟨z8c4c3yd.heap.size, 1, none⟩) (Or.inr hobb) (.int .i64 H1))
          rw [← hz_] at hKs11s10z9z8c4c3yd
          have hSs11s10z9z8c4c3yd := Nat.le_trans hSs10z9z8c4c3yd (show s10z9z8c4c3yd.heap.size ≤ s11s10z9z8c4c3yd.heap.size by rw [hz_]; simp)
          clear hz_
          refine hK.out _ _ ?_ (fun hHeld => ?_)
          · exact HS.out _ hKs11s10z9z8c4c3yd
          clear hK Kq
          try simp only [N0]
          refine wpAnyH_done (by kernel_rfl) ?_ _
          clear HS HQ hSd
          have hk1 := (hKs11s10z9z8c4c3yd.out.block (w.heap.size + 1) hbz (by simp)).trans hR1
          have hBl := (hBq.trans (hKs11s10z9z8c4c3yd.out.below hBq.size (by simp)))
          obtain ⟨o0, o1, -, -⟩ := two_facts hOa
          obtain ⟨g0, g1, f0, f1⟩ := two_facts hk1
          have hE := Lib.hid (set_back hk1 (.int .i64 L0) (.int .i64 H0))
          have hBm := Lib.hid (below_two hBl (b := w.heap.size + 1) (by omega) (.int .i64 L0) (.int .i64 H0))
          clear hBl hk1 hOa hOb
          go_wp2
          obtain ⟨e0, e1⟩ := hE.out
          exact bodyPost_ret (v := .tuple #[.agg #[.int .i64 L0, .int .i64 H0], .int .i64 0]) (by simp [results, Tryd.results22, go_sem, e0, e1]) rfl ⟨by rw [hsp.out, hask.out], hBm.out⟩
        refine AllReadyH.cons (o := _) rfl (fun Kq hK => ?_) AllReadyH.nil
        go_simp
        have hOb := heap_alloc_new c4c3yd (.cells #[.int .i64 0, .int .i64 0] 44)
        have hobb := hSc4c3yd
        have hKz9c4c3yd := Lib.hid (hKc4c3yd.out.alloc hSc4c3yd (.cells #[.int .i64 0, .int .i64 0] 44))
        have hSz9c4c3yd := Nat.le_trans hSc4c3yd ((Below.refl c4c3yd.heap.size c4c3yd).alloc (Nat.le_refl _) (.cells #[.int .i64 0, .int .i64 0] 44)).size
        generalize (c4c3yd.alloc (.cells #[.int .i64 0, .int .i64 0] 44)) = z9c4c3yd at *
        refine hK.out _ _ ?_ (fun hHeld => ?_)
        · exact HS.out _ hKz9c4c3yd
        clear hK Kq
        try simp only [N0]
        refine wpAnyH_ready (rs := [8]) (by kernel_rfl) (by simp) ?_
        refine AllReadyH.cons (o := _) rfl (fun Kq hK => ?_) AllReadyH.nil
        have hnba := (Array.getElem?_eq_some_iff.1 hOb).1
        go_simp
        have hOa := heap_alloc_new z9c4c3yd (.cells #[.int .i64 0, .int .i64 0] 44)
        have hoba := hSz9c4c3yd
        have hOb := keepO ((Below.refl z9c4c3yd.heap.size z9c4c3yd).alloc (Nat.le_refl _) (.cells #[.int .i64 0, .int .i64 0] 44)) hOb
        have hKz8z9c4c3yd := Lib.hid (hKz9c4c3yd.out.alloc hSz9c4c3yd (.cells #[.int .i64 0, .int .i64 0] 44))
        have hSz8z9c4c3yd := Nat.le_trans hSz9c4c3yd ((Below.refl z9c4c3yd.heap.size z9c4c3yd).alloc (Nat.le_refl _) (.cells #[.int .i64 0, .int .i64 0] 44)).size
        generalize (z9c4c3yd.alloc (.cells #[.int .i64 0, .int .i64 0] 44)) = z8z9c4c3yd at *
        refine hK.out _ _ ?_ (fun hHeld => ?_)
        · exact HS.out _ hKz8z9c4c3yd
        clear hK Kq
        try simp only [N0]
        refine wpAnyH_ready (rs := [10]) (by kernel_rfl) (by simp) ?_
        refine AllReadyH.cons (o := _) rfl (fun Kq hK => ?_) AllReadyH.nil
        obtain ⟨e0, e1, g0, g1⟩ := two_facts hOa
        go_simp
        clear e0  e1  g0  g1
        obtain ⟨s10z8z9c4c3yd, hz_⟩ : ∃ z, z = ((z8z9c4c3yd.setCell ⟨z9c4c3yd.heap.size, 0, none⟩ (.int .i64 L0)).setCell ⟨z9c4c3yd.heap.size, 1, none⟩ (.int .i64 H0)) := ⟨_, rfl⟩
        rw [← hz_]
        have hN0 := (heap_sets2 z8z9c4c3yd z9c4c3yd.heap.size _ (.int .i64 L0) (.int .i64 H0) (by omega)).trans hOb
        rw [← hz_] at hN0
        have hOa := set_two z8z9c4c3yd z9c4c3yd.heap.size _ (.int .i64 L0) (.int .i64 H0) _ _ hOa
        rw [← hz_] at hOa
        have hOb := hN0
        clear hN0
        have hKs10z8z9c4c3yd := Lib.hid ((hKz8z9c4c3yd.out.set (p := ⟨z9c4c3yd.heap.size, 0, none⟩) (Or.inr hoba) (.int .i64 L0)).set (p := ⟨z9c4c3yd.heap.size, 1, none⟩) (Or.inr hoba) (.int .i64 H0))
        rw [← hz_] at hKs10z8z9c4c3yd
        have hSs10z8z9c4c3yd := Nat.le_trans hSz8z9c4c3yd (show z8z9c4c3yd.heap.size ≤ s10z8z9c4c3yd.heap.size by rw [hz_]; simp)
        clear hz_
        refine hK.out _ _ ?_ (fun hHeld => ?_)
        · exact HS.out _ hKs10z8z9c4c3yd
        clear hK Kq
        try simp only [N0]
        refine wpAnyH_ready (rs := [11]) (by kernel_rfl) (by simp) ?_
        refine AllReadyH.cons (o := _) rfl (fun Kq hK => ?_) AllReadyH.nil
        obtain ⟨e0, e1, g0, g1⟩ := two_facts hOb
        go_simp
        clear e0  e1  g0  g1
        obtain ⟨s11s10z8z9c4c3yd, hz_⟩ : ∃ z, z = ((s10z8z9c4c3yd.setCell ⟨c4c3yd.heap.size, 0, none⟩ (.int .i64 L1)).setCell ⟨c4c3yd.heap.size, 1, none⟩ (.int .i64 H1)) := ⟨_, rfl⟩
        rw [← hz_]
        have hN0 := (heap_sets2 s10z8z9c4c3yd c4c3yd.heap.size _ (.int .i64 L1) (.int .i64 H1) (by omega)).trans hOa
        rw [← hz_] at hN0
        have hOb := set_two s10z8z9c4c3yd c4c3yd.heap.size _ (.int .i64 L1) (.int .i64 H1) _ _ hOb
        rw [← hz_] at hOb
        have hOa := hN0
        clear hN0
        have hKs11s10z8z9c4c3yd := Lib.hid ((hKs10z8z9c4c3yd.out.set (p := ⟨c4c3yd.heap.size, 0, none⟩) (Or.inr hobb) (.int .i64 L1)).set (p := ⟨c4c3yd.heap.size, 1, none⟩) (Or.inr hobb) (.int .i64 H1))
        rw [← hz_] at hKs11s10z8z9c4c3yd
        have hSs11s10z8z9c4c3yd := Nat.le_trans hSs10z8z9c4c3yd (show s10z8z9c4c3yd.heap.size ≤ s11s10z8z9c4c3yd.heap.size by rw [hz_]; simp)
        clear hz_
        refine hK.out _ _ ?_ (fun hHeld => ?_)
        · exact HS.out _ hKs11s10z8z9c4c3yd
        clear hK Kq
        try simp only [N0]
        refine wpAnyH_done (by kernel_rfl) ?_ _
        clear HS HQ hSd
        have hk1 := (hKs11s10z8z9c4c3yd.out.block (w.heap.size + 1) hbz (by simp)).trans hR1
        have hBl := (hBq.trans (hKs11s10z8z9c4c3yd.out.below hBq.size (by simp)))
        obtain ⟨o0, o1, -, -⟩ := two_facts hOa
        obtain ⟨g0, g1, f0, f1⟩ := two_facts hk1
        have hE := Lib.hid (set_back hk1 (.int .i64 L0) (.int .i64 H0))
        have hBm := Lib.hid (below_two hBl (b := w.heap.size + 1) (by omega) (.int .i64 L0) (.int .i64 H0))
        clear hBl hk1 hOa hOb
        go_wp2
        obtain ⟨e0, e1⟩ := hE.out
        exact bodyPost_ret (v := .tuple #[.agg #[.int .i64 L0, .int .i64 H0], .int .i64 0]) (by simp [results, Tryd.results22, go_sem, e0, e1]) rfl ⟨by rw [hsp.out, hask.out], hBm.out⟩
      refine AllReadyH.cons (o := _) rfl (fun Kq hK => ?_) ?_
      · go_simp
        have hOa := heap_alloc_new c3yd (.cells #[.int .i64 0, .int .i64 0] 44)
        have hoba := hSc3yd
        have hKz8c3yd := Lib.hid (hKc3yd.out.alloc hSc3yd (.cells #[.int .i64 0, .int .i64 0] 44))
        have hSz8c3yd := Nat.le_trans hSc3yd ((Below.refl c3yd.heap.size c3yd).alloc (Nat.le_refl _) (.cells #[.int .i64 0, .int .i64 0] 44)).size
        generalize (c3yd.alloc (.cells #[.int .i64 0, .int .i64 0] 44)) = z8c3yd at *
        refine hK.out _ _ ?_ (fun hHeld => ?_)
        · exact HS.out _ hKz8c3yd
        clear hK Kq
        try simp only [N0]
        refine wpAnyH_ready (rs := [4, 9]) (by kernel_rfl) (by simp) ?_
        refine AllReadyH.cons (o := _) rfl (fun Kq hK => ?_) ?_
        · go_simp
          refine (rsides_any A A' n c n' c' ps ws i L0 H0 L1 H1 z8c3yd (HRd.out z8c3yd (hBq.trans (hKz8c3yd.out.below hBq.size (by simp)))) (HWd.out z8c3yd (hBq.trans (hKz8c3yd.out.below hBq.size (by simp)))) hvh.out hin hr0.out hr1.out hLo0.out hHi0.out hLo1.out hHi1.out).mono ?_
          rintro e c4z8c3yd ⟨rfl, hb⟩
          have hKc4z8c3yd := Lib.hid (hKz8c3yd.out.call hSz8c3yd hb)
          have hOa := keepO hb hOa
          have hSc4z8c3yd := Nat.le_trans hSz8c3yd hb.size
          clear hb
          try go_simp
          refine hK.out _ _ ?_ (fun hHeld => ?_)
          · exact HS.out _ hKc4z8c3yd
          clear hK Kq
          try simp only [N0]
          refine tY (v := ?_) 5 16 ?_ ?_
          rotate_left
          · intro w hSw; go_simp; (try with_reducible rfl)
          try simp only [N0]
          refine tY (v := ?_) 6 22 ?_ ?_
          rotate_left
          · intro w hSw; go_simp; (try with_reducible rfl)
          try simp only [N0]
          refine tY (v := ?_) 7 23 ?_ ?_
          rotate_left
          · intro w hSw; go_simp; (try with_reducible rfl)
          try simp only [N0]
          refine wpAnyH_ready (rs := [9]) (by kernel_rfl) (by simp) ?_
          refine AllReadyH.cons (o := _) rfl (fun Kq hK => ?_) AllReadyH.nil
          have hnab := (Array.getElem?_eq_some_iff.1 hOa).1
          go_simp
          have hOb := heap_alloc_new c4z8c3yd (.cells #[.int .i64 0, .int .i64 0] 44)
          have hobb := hSc4z8c3yd
          have hOa := keepO ((Below.refl c4z8c3yd.heap.size c4z8c3yd).alloc (Nat.le_refl _) (.cells #[.int .i64 0, .int .i64 0] 44)) hOa
          have hKz9c4z8c3yd := Lib.hid (hKc4z8c3yd.out.alloc hSc4z8c3yd (.cells #[.int .i64 0, .int .i64 0] 44))
          have hSz9c4z8c3yd := Nat.le_trans hSc4z8c3yd ((Below.refl c4z8c3yd.heap.size c4z8c3yd).alloc (Nat.le_refl _) (.cells #[.int .i64 0, .int .i64 0] 44)).size
          generalize (c4z8c3yd.alloc (.cells #[.int .i64 0, .int .i64 0] 44)) = z9c4z8c3yd at *
          refine hK.out _ _ ?_ (fun hHeld => ?_)
          · exact HS.out _ hKz9c4z8c3yd
          clear hK Kq
          try simp only [N0]
          refine wpAnyH_ready (rs := [10]) (by kernel_rfl) (by simp) ?_
          refine AllReadyH.cons (o := _) rfl (fun Kq hK => ?_) AllReadyH.nil
          obtain ⟨e0, e1, g0, g1⟩ := two_facts hOa
          go_simp
          clear e0  e1  g0  g1
          obtain ⟨s10z9c4z8c3yd, hz_⟩ : ∃ z, z = ((z9c4z8c3yd.setCell ⟨c3yd.heap.size, 0, none⟩ (.int .i64 L0)).setCell ⟨c3yd.heap.size, 1, none⟩ (.int .i64 H0)) := ⟨_, rfl⟩
          rw [← hz_]
          have hN0 := (heap_sets2 z9c4z8c3yd c3yd.heap.size _ (.int .i64 L0) (.int .i64 H0) (by omega)).trans hOb
          rw [← hz_] at hN0
          have hOa := set_two z9c4z8c3yd c3yd.heap.size _ (.int .i64 L0) (.int .i64 H0) _ _ hOa
          rw [← hz_] at hOa
          have hOb := hN0
          clear hN0
          have hKs10z9c4z8c3yd := Lib.hid ((hKz9c4z8c3yd.out.set (p := ⟨c3yd.heap.size, 0, none⟩) (Or.inr hoba) (.int .i64 L0)).set (p := ⟨c3yd.heap.size, 1, none⟩) (Or.inr hoba) (.int .i64 H0))
          rw [← hz_] at hKs10z9c4z8c3yd
          have hSs10z9c4z8c3yd := Nat.le_trans hSz9c4z8c3yd (show z9c4z8c3yd.heap.size ≤ s10z9c4z8c3yd.heap.size by rw [hz_]; simp)
          clear hz_
          refine hK.out _ _ ?_ (fun hHeld => ?_)
          · exact HS.out _ hKs10z9c4z8c3yd
          clear hK Kq
          try simp only [N0]
          refine wpAnyH_ready (rs := [11]) (by kernel_rfl) (by simp) ?_
          refine AllReadyH.cons (o := _) rfl (fun Kq hK => ?_) AllReadyH.nil
          obtain ⟨e0, e1, g0, g1⟩ := two_facts hOb
          go_simp
          clear e0  e1  g0  g1
          obtain ⟨s11s10z9c4z8c3yd, hz_⟩ : ∃ z, z = ((s10z9c4z8c3yd.setCell ⟨c4z8c3yd.heap.size, 0, none⟩ (.int .i64 L1)).setCell ⟨c4z8c3yd.heap.size, 1, none⟩ (.int .i64 H1)) := ⟨_, rfl⟩
          rw [← hz_]
          have hN0 := (heap_sets2 s10z9c4z8c3yd c4z8c3yd.heap.size _ (.int .i64 L1) (.int .i64 H1) (by omega)).trans hOa
          rw [← hz_] at hN0
          have hOb := set_two s10z9c4z8c3yd c4z8c3yd.heap.size _ (.int .i64 L1) (.int .i64 H1) _ _ hOb
          rw [← hz_] at hOb
          have hOa := hN0
          clear hN0
          have hKs11s10z9c4z8c3yd := Lib.hid ((hKs10z9c4z8c3yd.out.set (p := ⟨c4z8c3yd.heap.size, 0, none⟩) (Or.inr hobb) (.int .i64 L1)).set (p := ⟨c4z8c3yd.heap.size, 1, none⟩) (Or.inr hobb) (.int .i64 H1))
          rw [← hz_] at hKs11s10z9c4z8c3yd
          have hSs11s10z9c4z8c3yd := Nat.le_trans hSs10z9c4z8c3yd (show s10z9c4z8c3yd.heap.size ≤ s11s10z9c4z8c3yd.heap.size by rw [hz_]; simp)
          clear hz_
          refine hK.out _ _ ?_ (fun hHeld => ?_)
          · exact HS.out _ hKs11s10z9c4z8c3yd
          clear hK Kq
          try simp only [N0]
          refine wpAnyH_done (by kernel_rfl) ?_ _
          clear HS HQ hSd
          have hk1 := (hKs11s10z9c4z8c3yd.out.block (w.heap.size + 1) hbz (by simp)).trans hR1
          have hBl := (hBq.trans (hKs11s10z9c4z8c3yd.out.below hBq.size (by simp)))
          obtain ⟨o0, o1, -, -⟩ := two_facts hOa
          obtain ⟨g0, g1, f0, f1⟩ := two_facts hk1
          have hE := Lib.hid (set_back hk1 (.int .i64 L0) (.int .i64 H0))
          have hBm := Lib.hid (below_two hBl (b := w.heap.size + 1) (by omega) (.int .i64 L0) (.int .i64 H0))
          clear hBl hk1 hOa hOb
          go_wp2
          obtain ⟨e0, e1⟩ := hE.out
          exact bodyPost_ret (v := .tuple #[.agg #[.int .i64 L0, .int .i64 H0], .int .i64 0]) (by simp [results, Tryd.results22, go_sem, e0, e1]) rfl ⟨by rw [hsp.out, hask.out], hBm.out⟩
        refine AllReadyH.cons (o := _) rfl (fun Kq hK => ?_) AllReadyH.nil
        have hnab := (Array.getElem?_eq_some_iff.1 hOa).1
        go_simp
        have hOb := heap_alloc_new z8c3yd (.cells #[.int .i64 0, .int .i64 0] 44)
        have hobb := hSz8c3yd
        have hOa := keepO ((Below.refl z8c3yd.heap.size z8c3yd).alloc (Nat.le_refl _) (.cells #[.int .i64 0, .int .i64 0] 44)) hOa
        have hKz9z8c3yd := Lib.hid (hKz8c3yd.out.alloc hSz8c3yd (.cells #[.int .i64 0, .int .i64 0] 44))
        have hSz9z8c3yd := Nat.le_trans hSz8c3yd ((Below.refl z8c3yd.heap.size z8c3yd).alloc (Nat.le_refl _) (.cells #[.int .i64 0, .int .i64 0] 44)).size
        generalize (z8c3yd.alloc (.cells #[.int .i64 0, .int .i64 0] 44)) = z9z8c3yd at *
        refine hK.out _ _ ?_ (fun hHeld => ?_)
        · exact HS.out _ hKz9z8c3yd
        clear hK Kq
        try simp only [N0]
        refine wpAnyH_ready (rs := [4]) (by kernel_rfl) (by simp) ?_
        refine AllReadyH.cons (o := _) rfl (fun Kq hK => ?_) AllReadyH.nil
        go_simp
        refine (rsides_any A A' n c n' c' ps ws i L0 H0 L1 H1 z9z8c3yd (HRd.out z9z8c3yd (hBq.trans (hKz9z8c3yd.out.below hBq.size (by simp)))) (HWd.out z9z8c3yd (hBq.trans (hKz9z8c3yd.out.below hBq.size (by simp)))) hvh.out hin hr0.out hr1.out hLo0.out hHi0.out hLo1.out hHi1.out).mono ?_
        rintro e c4z9z8c3yd ⟨rfl, hb⟩
        have hKc4z9z8c3yd := Lib.hid (hKz9z8c3yd.out.call hSz9z8c3yd hb)
        have hOa := keepO hb hOa
        have hOb := keepO hb hOb
        have hSc4z9z8c3yd := Nat.le_trans hSz9z8c3yd hb.size
        clear hb
        try go_simp
        refine hK.out _ _ ?_ (fun hHeld => ?_)
        · exact HS.out _ hKc4z9z8c3yd
        clear hK Kq
        try simp only [N0]
        refine tY (v := ?_) 5 16 ?_ ?_
        rotate_left
        · intro w hSw; go_simp; (try with_reducible rfl)
        try simp only [N0]
        refine tY (v := ?_) 6 22 ?_ ?_
        rotate_left
        · intro w hSw; go_simp; (try with_reducible rfl)
        try simp only [N0]
        refine tY (v := ?_) 7 23 ?_ ?_
        rotate_left
        · intro w hSw; go_simp; (try with_reducible rfl)
        try simp only [N0]
        refine wpAnyH_ready (rs := [10]) (by kernel_rfl) (by simp) ?_
        refine AllReadyH.cons (o := _) rfl (fun Kq hK => ?_) AllReadyH.nil
        obtain ⟨e0, e1, g0, g1⟩ := two_facts hOa
        go_simp
        clear e0  e1  g0  g1
        obtain ⟨s10c4z9z8c3yd, hz_⟩ : ∃ z, z = ((c4z9z8c3yd.setCell ⟨c3yd.heap.size, 0, none⟩ (.int .i64 L0)).setCell ⟨c3yd.heap.size, 1, none⟩ (.int .i64 H0)) := ⟨_, rfl⟩
        rw [← hz_]
        have hN0 := (heap_sets2 c4z9z8c3yd c3yd.heap.size _ (.int .i64 L0) (.int .i64 H0) (by omega)).trans hOb
        rw [← hz_] at hN0
        have hOa := set_two c4z9z8c3yd c3yd.heap.size _ (.int .i64 L0) (.int .i64 H0) _ _ hOa
        rw [← hz_] at hOa
        have hOb := hN0
        clear hN0
        have hKs10c4z9z8c3yd := Lib.hid ((hKc4z9z8c3yd.out.set (p := ⟨c3yd.heap.size, 0, none⟩) (Or.inr hoba) (.int .i64 L0)).set (p := ⟨c3yd.heap.size, 1, none⟩) (Or.inr hoba) (.int .i64 H0))
        rw [← hz_] at hKs10c4z9z8c3yd
        have hSs10c4z9z8c3yd := Nat.le_trans hSc4z9z8c3yd (show c4z9z8c3yd.heap.size ≤ s10c4z9z8c3yd.heap.size by rw [hz_]; simp)
        clear hz_
        refine hK.out _ _ ?_ (fun hHeld => ?_)
        · exact HS.out _ hKs10c4z9z8c3yd
        clear hK Kq
        try simp only [N0]
        refine wpAnyH_ready (rs := [11]) (by kernel_rfl) (by simp) ?_
        refine AllReadyH.cons (o := _) rfl (fun Kq hK => ?_) AllReadyH.nil
        obtain ⟨e0, e1, g0, g1⟩ := two_facts hOb
        go_simp
        clear e0  e1  g0  g1
        obtain ⟨s11s10c4z9z8c3yd, hz_⟩ : ∃ z, z = ((s10c4z9z8c3yd.setCell ⟨z8c3yd.heap.size, 0, none⟩ (.int .i64 L1)).setCell ⟨z8c3yd.heap.size, 1, none⟩ (.int .i64 H1)) := ⟨_, rfl⟩
        rw [← hz_]
        have hN0 := (heap_sets2 s10c4z9z8c3yd z8c3yd.heap.size _ (.int .i64 L1) (.int .i64 H1) (by omega)).trans hOa
        rw [← hz_] at hN0
        have hOb := set_two s10c4z9z8c3yd z8c3yd.heap.size _ (.int .i64 L1) (.int .i64 H1) _ _ hOb
        rw [← hz_] at hOb
        have hOa := hN0
        clear hN0
        have hKs11s10c4z9z8c3yd := Lib.hid ((hKs10c4z9z8c3yd.out.set (p := ⟨z8c3yd.heap.size, 0, none⟩) (Or.inr hobb) (.int .i64 L1)).set (p := ⟨z8c3yd.heap.size, 1, none⟩) (Or.inr hobb) (.int .i64 H1))
        rw [← hz_] at hKs11s10c4z9z8c3yd
        have hSs11s10c4z9z8c3yd := Nat.le_trans hSs10c4z9z8c3yd (show s10c4z9z8c3yd.heap.size ≤ s11s10c4z9z8c3yd.heap.size by rw [hz_]; simp)
        clear hz_
        refine hK.out _ _ ?_ (fun hHeld => ?_)
        · exact HS.out _ hKs11s10c4z9z8c3yd
        clear hK Kq
        try simp only [N0]
        refine wpAnyH_done (by kernel_rfl) ?_ _
        clear HS HQ hSd
        have hk1 := (hKs11s10c4z9z8c3yd.out.block (w.heap.size + 1) hbz (by simp)).trans hR1
        have hBl := (hBq.trans (hKs11s10c4z9z8c3yd.out.below hBq.size (by simp)))
        obtain ⟨o0, o1, -, -⟩ := two_facts hOa
        obtain ⟨g0, g1, f0, f1⟩ := two_facts hk1
        have hE := Lib.hid (set_back hk1 (.int .i64 L0) (.int .i64 H0))
        have hBm := Lib.hid (below_two hBl (b := w.heap.size + 1) (by omega) (.int .i64 L0) (.int .i64 H0))
        clear hBl hk1 hOa hOb
        go_wp2
        obtain ⟨e0, e1⟩ := hE.out
        exact bodyPost_ret (v := .tuple #[.agg #[.int .i64 L0, .int .i64 H0], .int .i64 0]) (by simp [results, Tryd.results22, go_sem, e0, e1]) rfl ⟨by rw [hsp.out, hask.out], hBm.out⟩
      refine AllReadyH.cons (o := _) rfl (fun Kq hK => ?_) AllReadyH.nil
      go_simp
      have hOb := heap_alloc_new c3yd (.cells #[.int .i64 0, .int .i64 0] 44)
      have hobb := hSc3yd
      have hKz9c3yd := Lib.hid (hKc3yd.out.alloc hSc3yd (.cells #[.int .i64 0, .int .i64 0] 44))
      have hSz9c3yd := Nat.le_trans hSc3yd ((Below.refl c3yd.heap.size c3yd).alloc (Nat.le_refl _) (.cells #[.int .i64 0, .int .i64 0] 44)).size
      generalize (c3yd.alloc (.cells #[.int .i64 0, .int .i64 0] 44)) = z9c3yd at *
      refine hK.out _ _ ?_ (fun hHeld => ?_)
      · exact HS.out _ hKz9c3yd
      clear hK Kq
      try simp only [N0]
      refine wpAnyH_ready (rs := [4, 8]) (by kernel_rfl) (by simp) ?_
      refine AllReadyH.cons (o := _) rfl (fun Kq hK => ?_) ?_
      · go_simp
        refine (rsides_any A A' n c n' c' ps ws i L0 H0 L1 H1 z9c3yd (HRd.out z9c3yd (hBq.trans (hKz9c3yd.out.below hBq.size (by simp)))) (HWd.out z9c3yd (hBq.trans (hKz9c3yd.out.below hBq.size (by simp)))) hvh.out hin hr0.out hr1.out hLo0.out hHi0.out hLo1.out hHi1.out).mono ?_
        rintro e c4z9c3yd ⟨rfl, hb⟩
        have hKc4z9c3yd := Lib.hid (hKz9c3yd.out.call hSz9c3yd hb)
        have hOb := keepO hb hOb
        have hSc4z9c3yd := Nat.le_trans hSz9c3yd hb.size
        clear hb
        try go_simp
        refine hK.out _ _ ?_ (fun hHeld => ?_)
        · exact HS.out _ hKc4z9c3yd
        clear hK Kq
        try simp only [N0]
        refine tY (v := ?_) 5 16 ?_ ?_
        rotate_left
        · intro w hSw; go_simp; (try with_reducible rfl)
        try simp only [N0]
        refine tY (v := ?_) 6 22 ?_ ?_
        rotate_left
        · intro w hSw; go_simp; (try with_reducible rfl)
        try simp only [N0]
        refine tY (v := ?_) 7 23 ?_ ?_
        rotate_left
        · intro w hSw; go_simp; (try with_reducible rfl)
        try simp only [N0]
        refine wpAnyH_ready (rs := [8]) (by kernel_rfl) (by simp) ?_
        refine AllReadyH.cons (o := _) rfl (fun Kq hK => ?_) AllReadyH.nil
        have hnba := (Array.getElem?_eq_some_iff.1 hOb).1
        go_simp
        have hOa := heap_alloc_new c4z9c3yd (.cells #[.int .i64 0, .int .i64 0] 44)
        have hoba := hSc4z9c3yd
        have hOb := keepO ((Below.refl c4z9c3yd.heap.size c4z9c3yd).alloc (Nat.le_refl _) (.cells #[.int .i64 0, .int .i64 0] 44)) hOb
        have hKz8c4z9c3yd := Lib.hid (hKc4z9c3yd.out.alloc hSc4z9c3yd (.cells #[.int .i64 0, .int .i64 0] 44))
        have hSz8c4z9c3yd := Nat.le_trans hSc4z9c3yd ((Below.refl c4z9c3yd.heap.size c4z9c3yd).alloc (Nat.le_refl _) (.cells #[.int .i64 0, .int .i64 0] 44)).size
        generalize (c4z9c3yd.alloc (.cells #[.int .i64 0, .int .i64 0] 44)) = z8c4z9c3yd at *
        refine hK.out _ _ ?_ (fun hHeld => ?_)
        · exact HS.out _ hKz8c4z9c3yd
        clear hK Kq
        try simp only [N0]
        refine wpAnyH_ready (rs := [10]) (by kernel_rfl) (by simp) ?_
        refine AllReadyH.cons (o := _) rfl (fun Kq hK => ?_) AllReadyH.nil
        obtain ⟨e0, e1, g0, g1⟩ := two_facts hOa
        go_simp
        clear e0  e1  g0  g1
        obtain ⟨s10z8c4z9c3yd, hz_⟩ : ∃ z, z = ((z8c4z9c3yd.setCell ⟨c4z9c3yd.heap.size, 0, none⟩ (.int .i64 L0)).setCell ⟨c4z9c3yd.heap.size, 1, none⟩ (.int .i64 H0)) := ⟨_, rfl⟩
        rw [← hz_]
        have hN0 := (heap_sets2 z8c4z9c3yd c4z9c3yd.heap.size _ (.int .i64 L0) (.int .i64 H0) (by omega)).trans hOb
        rw [← hz_] at hN0
        have hOa := set_two z8c4z9c3yd c4z9c3yd.heap.size _ (.int .i64 L0) (.int .i64 H0) _ _ hOa
        rw [← hz_] at hOa
        have hOb := hN0
        clear hN0
        have hKs10z8c4z9c3yd := Lib.hid ((hKz8c4z9c3yd.out.set (p := ⟨c4z9c3yd.heap.size, 0, none⟩) (Or.inr hoba) (.int .i64 L0)).set (p := ⟨c4z9c3yd.heap.size, 1, none⟩) (Or.inr hoba) (.int .i64 H0))
        rw [← hz_] at hKs10z8c4z9c3yd
        have hSs10z8c4z9c3yd := Nat.le_trans hSz8c4z9c3yd (show z8c4z9c3yd.heap.size ≤ s10z8c4z9c3yd.heap.size by rw [hz_]; simp)
        clear hz_
        refine hK.out _ _ ?_ (fun hHeld => ?_)
        · exact HS.out _ hKs10z8c4z9c3yd
        clear hK Kq
        try simp only [N0]
        refine wpAnyH_ready (rs := [11]) (by kernel_rfl) (by simp) ?_
        refine AllReadyH.cons (o := _) rfl (fun Kq hK => ?_) AllReadyH.nil
        obtain ⟨e0, e1, g0, g1⟩ := two_facts hOb
        go_simp
        clear e0  e1  g0  g1
        obtain ⟨s11s10z8c4z9c3yd, hz_⟩ : ∃ z, z = ((s10z8c4z9c3yd.setCell ⟨c3yd.heap.size, 0, none⟩ (.int .i64 L1)).setCell ⟨c3yd.heap.size, 1, none⟩ (.int .i64 H1)) := ⟨_, rfl⟩
        rw [← hz_]
        have hN0 := (heap_sets2 s10z8c4z9c3yd c3yd.heap.size _ (.int .i64 L1) (.int .i64 H1) (by omega)).trans hOa
        rw [← hz_] at hN0
        have hOb := set_two s10z8c4z9c3yd c3yd.heap.size _ (.int .i64 L1) (.int .i64 H1) _ _ hOb
        rw [← hz_] at hOb
        have hOa := hN0
        clear hN0
        have hKs11s10z8c4z9c3yd := Lib.hid ((hKs10z8c4z9c3yd.out.set (p := ⟨c3yd.heap.size, 0, none⟩) (Or.inr hobb) (.int .i64 L1)).set (p := ⟨c3yd.heap.size, 1, none⟩) (Or.inr hobb) (.int .i64 H1))
        rw [← hz_] at hKs11s10z8c4z9c3yd
        have hSs11s10z8c4z9c3yd := Nat.le_trans hSs10z8c4z9c3yd (show s10z8c4z9c3yd.heap.size ≤ s11s10z8c4z9c3yd.heap.size by rw [hz_]; simp)
        clear hz_
        refine hK.out _ _ ?_ (fun hHeld => ?_)
        · exact HS.out _ hKs11s10z8c4z9c3yd
        clear hK Kq
        try simp only [N0]
        refine wpAnyH_done (by kernel_rfl) ?_ _
        clear HS HQ hSd
        have hk1 := (hKs11s10z8c4z9c3yd.out.block (w.heap.size + 1) hbz (by simp)).trans hR1
        have hBl := (hBq.trans (hKs11s10z8c4z9c3yd.out.below hBq.size (by simp)))
        obtain ⟨o0, o1, -, -⟩ := two_facts hOa
        obtain ⟨g0, g1, f0, f1⟩ := two_facts hk1
        have hE := Lib.hid (set_back hk1 (.int .i64 L0) (.int .i64 H0))
        have hBm := Lib.hid (below_two hBl (b := w.heap.size + 1) (by omega) (.int .i64 L0) (.int .i64 H0))
        clear hBl hk1 hOa hOb
        go_wp2
        obtain ⟨e0, e1⟩ := hE.out
        exact bodyPost_ret (v := .tuple #[.agg #[.int .i64 L0, .int .i64 H0], .int .i64 0]) (by simp [results, Tryd.results22, go_sem, e0, e1]) rfl ⟨by rw [hsp.out, hask.out], hBm.out⟩
      refine AllReadyH.cons (o := _) rfl (fun Kq hK => ?_) AllReadyH.nil
      have hnba := (Array.getElem?_eq_some_iff.1 hOb).1
      go_simp
      have hOa := heap_alloc_new z9c3yd (.cells #[.int .i64 0, .int .i64 0] 44)
      have hoba := hSz9c3yd
      have hOb := keepO ((Below.refl z9c3yd.heap.size z9c3yd).alloc (Nat.le_refl _) (.cells #[.int .i64 0, .int .i64 0] 44)) hOb
      have hKz8z9c3yd := Lib.hid (hKz9c3yd.out.alloc hSz9c3yd (.cells #[.int .i64 0, .int .i64 0] 44))
      have hSz8z9c3yd := Nat.le_trans hSz9c3yd ((Below.refl z9c3yd.heap.size z9c3yd).alloc (Nat.le_refl _) (.cells #[.int .i64 0, .int .i64 0] 44)).size
      generalize (z9c3yd.alloc (.cells #[.int .i64 0, .int .i64 0] 44)) = z8z9c3yd at *
      refine hK.out _ _ ?_ (fun hHeld => ?_)
      · exact HS.out _ hKz8z9c3yd
      clear hK Kq
      try simp only [N0]
      refine wpAnyH_ready (rs := [4]) (by kernel_rfl) (by simp) ?_
      refine AllReadyH.cons (o := _) rfl (fun Kq hK => ?_) AllReadyH.nil
      go_simp
      refine (rsides_any A A' n c n' c' ps ws i L0 H0 L1 H1 z8z9c3yd (HRd.out z8z9c3yd (hBq.trans (hKz8z9c3yd.out.below hBq.size (by simp)))) (HWd.out z8z9c3yd (hBq.trans (hKz8z9c3yd.out.below hBq.size (by simp)))) hvh.out hin hr0.out hr1.out hLo0.out hHi0.out hLo1.out hHi1.out).mono ?_
      rintro e c4z8z9c3yd ⟨rfl, hb⟩
      have hKc4z8z9c3yd := Lib.hid (hKz8z9c3yd.out.call hSz8z9c3yd hb)
      have hOb := keepO hb hOb
      have hOa := keepO hb hOa
      have hSc4z8z9c3yd := Nat.le_trans hSz8z9c3yd hb.size
      clear hb
      try go_simp
      refine hK.out _ _ ?_ (fun hHeld => ?_)
      · exact HS.out _ hKc4z8z9c3yd
      clear hK Kq
      try simp only [N0]
      refine tY (v := ?_) 5 16 ?_ ?_
      rotate_left
      · intro w hSw; go_simp; (try with_reducible rfl)
      try simp only [N0]
      refine tY (v := ?_) 6 22 ?_ ?_
      rotate_left
      · intro w hSw; go_simp; (try with_reducible rfl)
      try simp only [N0]
      refine tY (v := ?_) 7 23 ?_ ?_
      rotate_left
      · intro w hSw; go_simp; (try with_reducible rfl)
      try simp only [N0]
      refine wpAnyH_ready (rs := [10]) (by kernel_rfl) (by simp) ?_
      refine AllReadyH.cons (o := _) rfl (fun Kq hK => ?_) AllReadyH.nil
      obtain ⟨e0, e1, g0, g1⟩ := two_facts hOa
      go_simp
      clear e0  e1  g0  g1
      obtain ⟨s10c4z8z9c3yd, hz_⟩ : ∃ z, z = ((c4z8z9c3yd.setCell ⟨z9c3yd.heap.size, 0, none⟩ (.int .i64 L0)).setCell ⟨z9c3yd.heap.size, 1, none⟩ (.int .i64 H0)) := ⟨_, rfl⟩
      rw [← hz_]
      have hN0 := (heap_sets2 c4z8z9c3yd z9c3yd.heap.size _ (.int .i64 L0) (.int .i64 H0) (by omega)).trans hOb
      rw [← hz_] at hN0
      have hOa := set_two c4z8z9c3yd z9c3yd.heap.size _ (.int .i64 L0) (.int .i64 H0) _ _ hOa
      rw [← hz_] at hOa
      have hOb := hN0
      clear hN0
      have hKs10c4z8z9c3yd := Lib.hid ((hKc4z8z9c3yd.out.set (p := ⟨z9c3yd.heap.size, 0, none⟩) (Or.inr hoba) (.int .i64 L0)).set (p := ⟨z9c3yd.heap.size, 1, none⟩) (Or.inr hoba) (.int .i64 H0))
      rw [← hz_] at hKs10c4z8z9c3yd
      have hSs10c4z8z9c3yd := Nat.le_trans hSc4z8z9c3yd (show c4z8z9c3yd.heap.size ≤ s10c4z8z9c3yd.heap.size by rw [hz_]; simp)
      clear hz_
      refine hK.out _ _ ?_ (fun hHeld => ?_)
      · exact HS.out _ hKs10c4z8z9c3yd
      clear hK Kq
      try simp only [N0]
      refine wpAnyH_ready (rs := [11]) (by kernel_rfl) (by simp) ?_
      refine AllReadyH.cons (o := _) rfl (fun Kq hK => ?_) AllReadyH.nil
      obtain ⟨e0, e1, g0, g1⟩ := two_facts hOb
      go_simp
      clear e0  e1  g0  g1
      obtain ⟨s11s10c4z8z9c3yd, hz_⟩ : ∃ z, z = ((s10c4z8z9c3yd.setCell ⟨c3yd.heap.size, 0, none⟩ (.int .i64 L1)).setCell ⟨c3yd.heap.size, 1, none⟩ (.int .i64 H1)) := ⟨_, rfl⟩
      rw [← hz_]
      have hN0 := (heap_sets2 s10c4z8z9c3yd c3yd.heap.size _ (.int .i64 L1) (.int .i64 H1) (by omega)).trans hOa
      rw [← hz_] at hN0
      have hOb := set_two s10c4z8z9c3yd c3yd.heap.size _ (.int .i64 L1) (.int .i64 H1) _ _ hOb
      rw [← hz_] at hOb
      have hOa := hN0
      clear hN0
      have hKs11s10c4z8z9c3yd := Lib.hid ((hKs10c4z8z9c3yd.out.set (p := ⟨c3yd.heap.size, 0, none⟩) (Or.inr hobb) (.int .i64 L1)).set (p := ⟨c3yd.heap.size, 1, none⟩) (Or.inr hobb) (.int .i64 H1))
      rw [← hz_] at hKs11s10c4z8z9c3yd
      have hSs11s10c4z8z9c3yd := Nat.le_trans hSs10c4z8z9c3yd (show s10c4z8z9c3yd.heap.size ≤ s11s10c4z8z9c3yd.heap.size by rw [hz_]; simp)
      clear hz_
      refine hK.out _ _ ?_ (fun hHeld => ?_)
      · exact HS.out _ hKs11s10c4z8z9c3yd
      clear hK Kq
      try simp only [N0]
      refine wpAnyH_done (by kernel_rfl) ?_ _
      clear HS HQ hSd
      have hk1 := (hKs11s10c4z8z9c3yd.out.block (w.heap.size + 1) hbz (by simp)).trans hR1
      have hBl := (hBq.trans (hKs11s10c4z8z9c3yd.out.below hBq.size (by simp)))
      obtain ⟨o0, o1, -, -⟩ := two_facts hOa
      obtain ⟨g0, g1, f0, f1⟩ := two_facts hk1
      have hE := Lib.hid (set_back hk1 (.int .i64 L0) (.int .i64 H0))
      have hBm := Lib.hid (below_two hBl (b := w.heap.size + 1) (by omega) (.int .i64 L0) (.int .i64 H0))
      clear hBl hk1 hOa hOb
      go_wp2
      obtain ⟨e0, e1⟩ := hE.out
      exact bodyPost_ret (v := .tuple #[.agg #[.int .i64 L0, .int .i64 H0], .int .i64 0]) (by simp [results, Tryd.results22, go_sem, e0, e1]) rfl ⟨by rw [hsp.out, hask.out], hBm.out⟩
    refine AllReadyH.cons (o := _) rfl (fun Kq hK => ?_) ?_
    · go_simp
      have hOa := heap_alloc_new yd (.cells #[.int .i64 0, .int .i64 0] 44)
      have hoba := hSyd
      have hKz8yd := Lib.hid (hKyd.out.alloc hSyd (.cells #[.int .i64 0, .int .i64 0] 44))
      have hSz8yd := Nat.le_trans hSyd ((Below.refl yd.heap.size yd).alloc (Nat.le_refl _) (.cells #[.int .i64 0, .int .i64 0] 44)).size
      generalize (yd.alloc (.cells #[.int .i64 0, .int .i64 0] 44)) = z8yd at *
      refine hK.out _ _ ?_ (fun hHeld => ?_)
      · exact HS.out _ hKz8yd
      clear hK Kq
      try simp only [N0]
      refine wpAnyH_ready (rs := [3, 9]) (by kernel_rfl) (by simp) ?_
      refine AllReadyH.cons (o := _) rfl (fun Kq hK => ?_) ?_
      · go_simp
        refine (Pressing_any A A' n c n' c' ps id z8yd hnm (HRd.out z8yd (hBq.trans (hKz8yd.out.below hBq.size (by simp))))).mono ?_
        rintro e c3z8yd ⟨rfl, hb⟩
        have hKc3z8yd := Lib.hid (hKz8yd.out.call hSz8yd hb)
        have hOa := keepO hb hOa
        have hSc3z8yd := Nat.le_trans hSz8yd hb.size
        rw [hih.out]
        clear hb
        try go_simp
        refine hK.out _ _ ?_ (fun hHeld => ?_)
        · exact HS.out _ hKc3z8yd
        clear hK Kq
        try simp only [N0]
        refine wpAnyH_ready (rs := [4, 9]) (by kernel_rfl) (by simp) ?_
        refine AllReadyH.cons (o := _) rfl (fun Kq hK => ?_) ?_
        · go_simp
          refine (rsides_any A A' n c n' c' ps ws i L0 H0 L1 H1 c3z8yd (HRd.out c3z8yd (hBq.trans (hKc3z8yd.out.below hBq.size (by simp)))) (HWd.out c3z8yd (hBq.trans (hKc3z8yd.out.below hBq.size (by simp)))) hvh.out hin hr0.out hr1.out hLo0.out hHi0.out hLo1.out hHi1.out).mono ?_
          rintro e c4c3z8yd ⟨rfl, hb⟩
          have hKc4c3z8yd := Lib.hid (hKc3z8yd.out.call hSc3z8yd hb)
          have hOa := keepO hb hOa
          have hSc4c3z8yd := Nat.le_trans hSc3z8yd hb.size
          clear hb
          try go_simp
          refine hK.out _ _ ?_ (fun hHeld => ?_)
          · exact HS.out _ hKc4c3z8yd
          clear hK Kq
          try simp only [N0]
          refine tY (v := ?_) 5 16 ?_ ?_
          rotate_left
          · intro w hSw; go_simp; (try with_reducible rfl)
          try simp only [N0]
          refine tY (v := ?_) 6 22 ?_ ?_
          rotate_left
          · intro w hSw; go_simp; (try with_reducible rfl)
          try simp only [N0]
          refine tY (v := ?_) 7 23 ?_ ?_
          rotate_left
          · intro w hSw; go_simp; (try with_reducible rfl)
          try simp only [N0]
          refine wpAnyH_ready (rs := [9]) (by kernel_rfl) (by simp) ?_
          refine AllReadyH.cons (o := _) rfl (fun Kq hK => ?_) AllReadyH.nil
          have hnab := (Array.getElem?_eq_some_iff.1 hOa).1
          go_simp
          have hOb := heap_alloc_new c4c3z8yd (.cells #[.int .i64 0, .int .i64 0] 44)
          have hobb := hSc4c3z8yd
          have hOa := keepO ((Below.refl c4c3z8yd.heap.size c4c3z8yd).alloc (Nat.le_refl _) (.cells #[.int .i64 0, .int .i64 0] 44)) hOa
          have hKz9c4c3z8yd := Lib.hid (hKc4c3z8yd.out.alloc hSc4c3z8yd (.cells #[.int .i64 0, .int .i64 0] 44))
          have hSz9c4c3z8yd := Nat.le_trans hSc4c3z8yd ((Below.refl c4c3z8yd.heap.size c4c3z8yd).alloc (Nat.le_refl _) (.cells #[.int .i64 0, .int .i64 0] 44)).size
          generalize (c4c3z8yd.alloc (.cells #[.int .i64 0, .int .i64 0] 44)) = z9c4c3z8yd at *
          refine hK.out _ _ ?_ (fun hHeld => ?_)
          · exact HS.out _ hKz9c4c3z8yd
          clear hK Kq
          try simp only [N0]
          refine wpAnyH_ready (rs := [10]) (by kernel_rfl) (by simp) ?_
          refine AllReadyH.cons (o := _) rfl (fun Kq hK => ?_) AllReadyH.nil
          obtain ⟨e0, e1, g0, g1⟩ := two_facts hOa
          go_simp
          clear e0  e1  g0  g1
          obtain ⟨s10z9c4c3z8yd, hz_⟩ : ∃ z, z = ((z9c4c3z8yd.setCell ⟨yd.heap.size, 0, none⟩ (.int .i64 L0)).setCell ⟨yd.heap.size, 1, none⟩ (.int .i64 H0)) := ⟨_, rfl⟩
          rw [← hz_]
          have hN0 := (heap_sets2 z9c4c3z8yd yd.heap.size _ (.int .i64 L0) (.int .i64 H0) (by omega)).trans hOb
          rw [← hz_] at hN0
          have hOa := set_two z9c4c3z8yd yd.heap.size _ (.int .i64 L0) (.int .i64 H0) _ _ hOa
          rw [← hz_] at hOa
          have hOb := hN0
          clear hN0
          have hKs10z9c4c3z8yd := Lib.hid ((hKz9c4c3z8yd.out.set (p := ⟨yd.heap.size, 0, none⟩) (Or.inr hoba) (.int .i64 L0)).set (p := ⟨yd.heap.size, 1, none⟩) (Or.inr hoba) (.int .i64 H0))
          rw [← hz_] at hKs10z9c4c3z8yd
          have hSs10z9c4c3z8yd := Nat.le_trans hSz9c4c3z8yd (show z9c4c3z8yd.heap.size ≤ s10z9c4c3z8yd.heap.size by rw [hz_]; simp)
          clear hz_
          refine hK.out _ _ ?_ (fun hHeld => ?_)
          · exact HS.out _ hKs10z9c4c3z8yd
          clear hK Kq
          try simp only [N0]
          refine wpAnyH_ready (rs := [11]) (by kernel_rfl) (by simp) ?_
          refine AllReadyH.cons (o := _) rfl (fun Kq hK => ?_) AllReadyH.nil
          obtain ⟨e0, e1, g0, g1⟩ := two_facts hOb
          go_simp
          clear e0  e1  g0  g1
          obtain ⟨s11s10z9c4c3z8yd, hz_⟩ : ∃ z, z = ((s10z9c4c3z8yd.setCell ⟨c4c3z8yd.heap.size, 0, none⟩ (.int .i64 L1)).setCell ⟨c4c3z8yd.heap.size, 1, none⟩ (.int .i64 H1)) := ⟨_, rfl⟩
          rw [← hz_]
          have hN0 := (heap_sets2 s10z9c4c3z8yd c4c3z8yd.heap.size _ (.int .i64 L1) (.int .i64 H1) (by omega)).trans hOa
          rw [← hz_] at hN0
          have hOb := set_two s10z9c4c3z8yd c4c3z8yd.heap.size _ (.int .i64 L1) (.int .i64 H1) _ _ hOb
          rw [← hz_] at hOb
          have hOa := hN0
          clear hN0
          have hKs11s10z9c4c3z8yd := Lib.hid ((hKs10z9c4c3z8yd.out.set (p := ⟨c4c3z8yd.heap.size, 0, none⟩) (Or.inr hobb) (.int .i64 L1)).set (p := ⟨c4c3z8yd.heap.size, 1, none⟩) (Or.inr hobb) (.int .i64 H1))
          rw [← hz_] at hKs11s10z9c4c3z8yd
          have hSs11s10z9c4c3z8yd := Nat.le_trans hSs10z9c4c3z8yd (show s10z9c4c3z8yd.heap.size ≤ s11s10z9c4c3z8yd.heap.size by rw [hz_]; simp)
          clear hz_
          refine hK.out _ _ ?_ (fun hHeld => ?_)
          · exact HS.out _ hKs11s10z9c4c3z8yd
          clear hK Kq
          try simp only [N0]
          refine wpAnyH_done (by kernel_rfl) ?_ _
          clear HS HQ hSd
          have hk1 := (hKs11s10z9c4c3z8yd.out.block (w.heap.size + 1) hbz (by simp)).trans hR1
          have hBl := (hBq.trans (hKs11s10z9c4c3z8yd.out.below hBq.size (by simp)))
          obtain ⟨o0, o1, -, -⟩ := two_facts hOa
          obtain ⟨g0, g1, f0, f1⟩ := two_facts hk1
          have hE := Lib.hid (set_back hk1 (.int .i64 L0) (.int .i64 H0))
          have hBm := Lib.hid (below_two hBl (b := w.heap.size + 1) (by omega) (.int .i64 L0) (.int .i64 H0))
          clear hBl hk1 hOa hOb
          go_wp2
          obtain ⟨e0, e1⟩ := hE.out
          exact bodyPost_ret (v := .tuple #[.agg #[.int .i64 L0, .int .i64 H0], .int .i64 0]) (by simp [results, Tryd.results22, go_sem, e0, e1]) rfl ⟨by rw [hsp.out, hask.out], hBm.out⟩
        refine AllReadyH.cons (o := _) rfl (fun Kq hK => ?_) AllReadyH.nil
        have hnab := (Array.getElem?_eq_some_iff.1 hOa).1
        go_simp
        have hOb := heap_alloc_new c3z8yd (.cells #[.int .i64 0, .int .i64 0] 44)
        have hobb := hSc3z8yd
        have hOa := keepO ((Below.refl c3z8yd.heap.size c3z8yd).alloc (Nat.le_refl _) (.cells #[.int .i64 0, .int .i64 0] 44)) hOa
        have hKz9c3z8yd := Lib.hid (hKc3z8yd.out.alloc hSc3z8yd (.cells #[.int .i64 0, .int .i64 0] 44))
        have hSz9c3z8yd := Nat.le_trans hSc3z8yd ((Below.refl c3z8yd.heap.size c3z8yd).alloc (Nat.le_refl _) (.cells #[.int .i64 0, .int .i64 0] 44)).size
        generalize (c3z8yd.alloc (.cells #[.int .i64 0, .int .i64 0] 44)) = z9c3z8yd at *
        refine hK.out _ _ ?_ (fun hHeld => ?_)
        · exact HS.out _ hKz9c3z8yd
        clear hK Kq
        try simp only [N0]
        refine wpAnyH_ready (rs := [4]) (by kernel_rfl) (by simp) ?_
        refine AllReadyH.cons (o := _) rfl (fun Kq hK => ?_) AllReadyH.nil
        go_simp
        refine (rsides_any A A' n c n' c' ps ws i L0 H0 L1 H1 z9c3z8yd (HRd.out z9c3z8yd (hBq.trans (hKz9c3z8yd.out.below hBq.size (by simp)))) (HWd.out z9c3z8yd (hBq.trans (hKz9c3z8yd.out.below hBq.size (by simp)))) hvh.out hin hr0.out hr1.out hLo0.out hHi0.out hLo1.out hHi1.out).mono ?_
        rintro e c4z9c3z8yd ⟨rfl, hb⟩
        have hKc4z9c3z8yd := Lib.hid (hKz9c3z8yd.out.call hSz9c3z8yd hb)
        have hOa := keepO hb hOa
        have hOb := keepO hb hOb
        have hSc4z9c3z8yd := Nat.le_trans hSz9c3z8yd hb.size
        clear hb
        try go_simp
        refine hK.out _ _ ?_ (fun hHeld => ?_)
        · exact HS.out _ hKc4z9c3z8yd
        clear hK Kq
        try simp only [N0]
        refine tY (v := ?_) 5 16 ?_ ?_
        rotate_left
        · intro w hSw; go_simp; (try with_reducible rfl)
        try simp only [N0]
        refine tY (v := ?_) 6 22 ?_ ?_
        rotate_left
        · intro w hSw; go_simp; (try with_reducible rfl)
        try simp only [N0]
        refine tY (v := ?_) 7 23 ?_ ?_
        rotate_left
        · intro w hSw; go_simp; (try with_reducible rfl)
        try simp only [N0]
        refine wpAnyH_ready (rs := [10]) (by kernel_rfl) (by simp) ?_
        refine AllReadyH.cons (o := _) rfl (fun Kq hK => ?_) AllReadyH.nil
        obtain ⟨e0, e1, g0, g1⟩ := two_facts hOa
        go_simp
        clear e0  e1  g0  g1
        obtain ⟨s10c4z9c3z8yd, hz_⟩ : ∃ z, z = ((c4z9c3z8yd.setCell ⟨yd.heap.size, 0, none⟩ (.int .i64 L0)).setCell ⟨yd.heap.size, 1, none⟩ (.int .i64 H0)) := ⟨_, rfl⟩
        rw [← hz_]
        have hN0 := (heap_sets2 c4z9c3z8yd yd.heap.size _ (.int .i64 L0) (.int .i64 H0) (by omega)).trans hOb
        rw [← hz_] at hN0
        have hOa := set_two c4z9c3z8yd yd.heap.size _ (.int .i64 L0) (.int .i64 H0) _ _ hOa
        rw [← hz_] at hOa
        have hOb := hN0
        clear hN0
        have hKs10c4z9c3z8yd := Lib.hid ((hKc4z9c3z8yd.out.set (p := ⟨yd.heap.size, 0, none⟩) (Or.inr hoba) (.int .i64 L0)).set (p := ⟨yd.heap.size, 1, none⟩) (Or.inr hoba) (.int .i64 H0))
        rw [← hz_] at hKs10c4z9c3z8yd
        have hSs10c4z9c3z8yd := Nat.le_trans hSc4z9c3z8yd (show c4z9c3z8yd.heap.size ≤ s10c4z9c3z8yd.heap.size by rw [hz_]; simp)
        clear hz_
        refine hK.out _ _ ?_ (fun hHeld => ?_)
        · exact HS.out _ hKs10c4z9c3z8yd
        clear hK Kq
        try simp only [N0]
        refine wpAnyH_ready (rs := [11]) (by kernel_rfl) (by simp) ?_
        refine AllReadyH.cons (o := _) rfl (fun Kq hK => ?_) AllReadyH.nil
        obtain ⟨e0, e1, g0, g1⟩ := two_facts hOb
        go_simp
        clear e0  e1  g0  g1
        obtain ⟨s11s10c4z9c3z8yd, hz_⟩ : ∃ z, z = ((s10c4z9c3z8yd.setCell ⟨c3z8yd.heap.size, 0, none⟩ (.int .i64 L1)).setCell ⟨c3z8yd.heap.size, 1, none⟩ (.int .i64 H1)) := ⟨_, rfl⟩
        rw [← hz_]
        have hN0 := (heap_sets2 s10c4z9c3z8yd c3z8yd.heap.size _ (.int .i64 L1) (.int .i64 H1) (by omega)).trans hOa
        rw [← hz_] at hN0
        have hOb := set_two s10c4z9c3z8yd c3z8yd.heap.size _ (.int .i64 L1) (.int .i64 H1) _ _ hOb
        rw [← hz_] at hOb
        have hOa := hN0
        clear hN0
        have hKs11s10c4z9c3z8yd := Lib.hid ((hKs10c4z9c3z8yd.out.set (p := ⟨c3z8yd.heap.size, 0, none⟩) (Or.inr hobb) (.int .i64 L1)).set (p := ⟨c3z8yd.heap.size, 1, none⟩) (Or.inr hobb) (.int .i64 H1))
        rw [← hz_] at hKs11s10c4z9c3z8yd
        have hSs11s10c4z9c3z8yd := Nat.le_trans hSs10c4z9c3z8yd (show s10c4z9c3z8yd.heap.size ≤ s11s10c4z9c3z8yd.heap.size by rw [hz_]; simp)
        clear hz_
        refine hK.out _ _ ?_ (fun hHeld => ?_)
        · exact HS.out _ hKs11s10c4z9c3z8yd
        clear hK Kq
        try simp only [N0]
        refine wpAnyH_done (by kernel_rfl) ?_ _
        clear HS HQ hSd
        have hk1 := (hKs11s10c4z9c3z8yd.out.block (w.heap.size + 1) hbz (by simp)).trans hR1
        have hBl := (hBq.trans (hKs11s10c4z9c3z8yd.out.below hBq.size (by simp)))
        obtain ⟨o0, o1, -, -⟩ := two_facts hOa
        obtain ⟨g0, g1, f0, f1⟩ := two_facts hk1
        have hE := Lib.hid (set_back hk1 (.int .i64 L0) (.int .i64 H0))
        have hBm := Lib.hid (below_two hBl (b := w.heap.size + 1) (by omega) (.int .i64 L0) (.int .i64 H0))
        clear hBl hk1 hOa hOb
        go_wp2
        obtain ⟨e0, e1⟩ := hE.out
        exact bodyPost_ret (v := .tuple #[.agg #[.int .i64 L0, .int .i64 H0], .int .i64 0]) (by simp [results, Tryd.results22, go_sem, e0, e1]) rfl ⟨by rw [hsp.out, hask.out], hBm.out⟩
      refine AllReadyH.cons (o := _) rfl (fun Kq hK => ?_) AllReadyH.nil
      have hnab := (Array.getElem?_eq_some_iff.1 hOa).1
      go_simp
      have hOb := heap_alloc_new z8yd (.cells #[.int .i64 0, .int .i64 0] 44)
      have hobb := hSz8yd
      have hOa := keepO ((Below.refl z8yd.heap.size z8yd).alloc (Nat.le_refl _) (.cells #[.int .i64 0, .int .i64 0] 44)) hOa
      have hKz9z8yd := Lib.hid (hKz8yd.out.alloc hSz8yd (.cells #[.int .i64 0, .int .i64 0] 44))
      have hSz9z8yd := Nat.le_trans hSz8yd ((Below.refl z8yd.heap.size z8yd).alloc (Nat.le_refl _) (.cells #[.int .i64 0, .int .i64 0] 44)).size
      generalize (z8yd.alloc (.cells #[.int .i64 0, .int .i64 0] 44)) = z9z8yd at *
      refine hK.out _ _ ?_ (fun hHeld => ?_)
      · exact HS.out _ hKz9z8yd
      clear hK Kq
      try simp only [N0]
      refine wpAnyH_ready (rs := [3]) (by kernel_rfl) (by simp) ?_
      refine AllReadyH.cons (o := _) rfl (fun Kq hK => ?_) AllReadyH.nil
      go_simp
      refine (Pressing_any A A' n c n' c' ps id z9z8yd hnm (HRd.out z9z8yd (hBq.trans (hKz9z8yd.out.below hBq.size (by simp))))).mono ?_
      rintro e c3z9z8yd ⟨rfl, hb⟩
      have hKc3z9z8yd := Lib.hid (hKz9z8yd.out.call hSz9z8yd hb)
      have hOa := keepO hb hOa
      have hOb := keepO hb hOb
      have hSc3z9z8yd := Nat.le_trans hSz9z8yd hb.size
      rw [hih.out]
      clear hb
      try go_simp
      refine hK.out _ _ ?_ (fun hHeld => ?_)
      · exact HS.out _ hKc3z9z8yd
      clear hK Kq
      try simp only [N0]
      refine wpAnyH_ready (rs := [4]) (by kernel_rfl) (by simp) ?_
      refine AllReadyH.cons (o := _) rfl (fun Kq hK => ?_) AllReadyH.nil
      go_simp
      refine (rsides_any A A' n c n' c' ps ws i L0 H0 L1 H1 c3z9z8yd (HRd.out c3z9z8yd (hBq.trans (hKc3z9z8yd.out.below hBq.size (by simp)))) (HWd.out c3z9z8yd (hBq.trans (hKc3z9z8yd.out.below hBq.size (by simp)))) hvh.out hin hr0.out hr1.out hLo0.out hHi0.out hLo1.out hHi1.out).mono ?_
      rintro e c4c3z9z8yd ⟨rfl, hb⟩
      have hKc4c3z9z8yd := Lib.hid (hKc3z9z8yd.out.call hSc3z9z8yd hb)
      have hOa := keepO hb hOa
      have hOb := keepO hb hOb
      have hSc4c3z9z8yd := Nat.le_trans hSc3z9z8yd hb.size
      clear hb
      try go_simp
      refine hK.out _ _ ?_ (fun hHeld => ?_)
      · exact HS.out _ hKc4c3z9z8yd
      clear hK Kq
      try simp only [N0]
      refine tY (v := ?_) 5 16 ?_ ?_
      rotate_left
      · intro w hSw; go_simp; (try with_reducible rfl)
      try simp only [N0]
      refine tY (v := ?_) 6 22 ?_ ?_
      rotate_left
      · intro w hSw; go_simp; (try with_reducible rfl)
      try simp only [N0]
      refine tY (v := ?_) 7 23 ?_ ?_
      rotate_left
      · intro w hSw; go_simp; (try with_reducible rfl)
      try simp only [N0]
      refine wpAnyH_ready (rs := [10]) (by kernel_rfl) (by simp) ?_
      refine AllReadyH.cons (o := _) rfl (fun Kq hK => ?_) AllReadyH.nil
      obtain ⟨e0, e1, g0, g1⟩ := two_facts hOa
      go_simp
      clear e0  e1  g0  g1
      obtain ⟨s10c4c3z9z8yd, hz_⟩ : ∃ z, z = ((c4c3z9z8yd.setCell ⟨yd.heap.size, 0, none⟩ (.int .i64 L0)).setCell ⟨yd.heap.size, 1, none⟩ (.int .i64 H0)) := ⟨_, rfl⟩
      rw [← hz_]
      have hN0 := (heap_sets2 c4c3z9z8yd yd.heap.size _ (.int .i64 L0) (.int .i64 H0) (by omega)).trans hOb
      rw [← hz_] at hN0
      have hOa := set_two c4c3z9z8yd yd.heap.size _ (.int .i64 L0) (.int .i64 H0) _ _ hOa
      rw [← hz_] at hOa
      have hOb := hN0
      clear hN0
      have hKs10c4c3z9z8yd := Lib.hid ((hKc4c3z9z8yd.out.set (p := ⟨yd.heap.size, 0, none⟩) (Or.inr hoba) (.int .i64 L0)).set (p := ⟨yd.heap.size, 1, none⟩) (Or.inr hoba) (.int .i64 H0))
      rw [← hz_] at hKs10c4c3z9z8yd
      have hSs10c4c3z9z8yd := Nat.le_trans hSc4c3z9z8yd (show c4c3z9z8yd.heap.size ≤ s10c4c3z9z8yd.heap.size by rw [hz_]; simp)
      clear hz_
      refine hK.out _ _ ?_ (fun hHeld => ?_)
      · exact HS.out _ hKs10c4c3z9z8yd
      clear hK Kq
      try simp only [N0]
      refine wpAnyH_ready (rs := [11]) (by kernel_rfl) (by simp) ?_
      refine AllReadyH.cons (o := _) rfl (fun Kq hK => ?_) AllReadyH.nil
      obtain ⟨e0, e1, g0, g1⟩ := two_facts hOb
      go_simp
      clear e0  e1  g0  g1
      obtain ⟨s11s10c4c3z9z8yd, hz_⟩ : ∃ z, z = ((s10c4c3z9z8yd.setCell ⟨z8yd.heap.size, 0, none⟩ (.int .i64 L1)).setCell ⟨z8yd.heap.size, 1, none⟩ (.int .i64 H1)) := ⟨_, rfl⟩
      rw [← hz_]
      have hN0 := (heap_sets2 s10c4c3z9z8yd z8yd.heap.size _ (.int .i64 L1) (.int .i64 H1) (by omega)).trans hOa
      rw [← hz_] at hN0
      have hOb := set_two s10c4c3z9z8yd z8yd.heap.size _ (.int .i64 L1) (.int .i64 H1) _ _ hOb
      rw [← hz_] at hOb
      have hOa := hN0
      clear hN0
      have hKs11s10c4c3z9z8yd := Lib.hid ((hKs10c4c3z9z8yd.out.set (p := ⟨z8yd.heap.size, 0, none⟩) (Or.inr hobb) (.int .i64 L1)).set (p := ⟨z8yd.heap.size, 1, none⟩) (Or.inr hobb) (.int .i64 H1))
      rw [← hz_] at hKs11s10c4c3z9z8yd
      have hSs11s10c4c3z9z8yd := Nat.le_trans hSs10c4c3z9z8yd (show s10c4c3z9z8yd.heap.size ≤ s11s10c4c3z9z8yd.heap.size by rw [hz_]; simp)
      clear hz_
      refine hK.out _ _ ?_ (fun hHeld => ?_)
      · exact HS.out _ hKs11s10c4c3z9z8yd
      clear hK Kq
      try simp only [N0]
      refine wpAnyH_done (by kernel_rfl) ?_ _
      clear HS HQ hSd
      have hk1 := (hKs11s10c4c3z9z8yd.out.block (w.heap.size + 1) hbz (by simp)).trans hR1
      have hBl := (hBq.trans (hKs11s10c4c3z9z8yd.out.below hBq.size (by simp)))
      obtain ⟨o0, o1, -, -⟩ := two_facts hOa
      obtain ⟨g0, g1, f0, f1⟩ := two_facts hk1
      have hE := Lib.hid (set_back hk1 (.int .i64 L0) (.int .i64 H0))
      have hBm := Lib.hid (below_two hBl (b := w.heap.size + 1) (by omega) (.int .i64 L0) (.int .i64 H0))
      clear hBl hk1 hOa hOb
      go_wp2
      obtain ⟨e0, e1⟩ := hE.out
      exact bodyPost_ret (v := .tuple #[.agg #[.int .i64 L0, .int .i64 H0], .int .i64 0]) (by simp [results, Tryd.results22, go_sem, e0, e1]) rfl ⟨by rw [hsp.out, hask.out], hBm.out⟩
    refine AllReadyH.cons (o := _) rfl (fun Kq hK => ?_) AllReadyH.nil
    go_simp
    have hOb := heap_alloc_new yd (.cells #[.int .i64 0, .int .i64 0] 44)
    have hobb := hSyd
    have hKz9yd := Lib.hid (hKyd.out.alloc hSyd (.cells #[.int .i64 0, .int .i64 0] 44))
    have hSz9yd := Nat.le_trans hSyd ((Below.refl yd.heap.size yd).alloc (Nat.le_refl _) (.cells #[.int .i64 0, .int .i64 0] 44)).size
    generalize (yd.alloc (.cells #[.int .i64 0, .int .i64 0] 44)) = z9yd at *
    refine hK.out _ _ ?_ (fun hHeld => ?_)
    · exact HS.out _ hKz9yd
    clear hK Kq
    try simp only [N0]
    refine wpAnyH_ready (rs := [3, 8]) (by kernel_rfl) (by simp) ?_
    refine AllReadyH.cons (o := _) rfl (fun Kq hK => ?_) ?_
    · go_simp
      refine (Pressing_any A A' n c n' c' ps id z9yd hnm (HRd.out z9yd (hBq.trans (hKz9yd.out.below hBq.size (by simp))))).mono ?_
      rintro e c3z9yd ⟨rfl, hb⟩
      have hKc3z9yd := Lib.hid (hKz9yd.out.call hSz9yd hb)
      have hOb := keepO hb hOb
      have hSc3z9yd := Nat.le_trans hSz9yd hb.size
      rw [hih.out]
      clear hb
      try go_simp
      refine hK.out _ _ ?_ (fun hHeld => ?_)
      · exact HS.out _ hKc3z9yd
      clear hK Kq
      try simp only [N0]
      refine wpAnyH_ready (rs := [4, 8]) (by kernel_rfl) (by simp) ?_
      refine AllReadyH.cons (o := _) rfl (fun Kq hK => ?_) ?_
      · go_simp
        refine (rsides_any A A' n c n' c' ps ws i L0 H0 L1 H1 c3z9yd (HRd.out c3z9yd (hBq.trans (hKc3z9yd.out.below hBq.size (by simp)))) (HWd.out c3z9yd (hBq.trans (hKc3z9yd.out.below hBq.size (by simp)))) hvh.out hin hr0.out hr1.out hLo0.out hHi0.out hLo1.out hHi1.out).mono ?_
        rintro e c4c3z9yd ⟨rfl, hb⟩
        have hKc4c3z9yd := Lib.hid (hKc3z9yd.out.call hSc3z9yd hb)
        have hOb := keepO hb hOb
        have hSc4c3z9yd := Nat.le_trans hSc3z9yd hb.size
        clear hb
        try go_simp
        refine hK.out _ _ ?_ (fun hHeld => ?_)
        · exact HS.out _ hKc4c3z9yd
        clear hK Kq
        try simp only [N0]
        refine tY (v := ?_) 5 16 ?_ ?_
        rotate_left
        · intro w hSw; go_simp; (try with_reducible rfl)
        try simp only [N0]
        refine tY (v := ?_) 6 22 ?_ ?_
        rotate_left
        · intro w hSw; go_simp; (try with_reducible rfl)
        try simp only [N0]
        refine tY (v := ?_) 7 23 ?_ ?_
        rotate_left
        · intro w hSw; go_simp; (try with_reducible rfl)
        try simp only [N0]
        refine wpAnyH_ready (rs := [8]) (by kernel_rfl) (by simp) ?_
        refine AllReadyH.cons (o := _) rfl (fun Kq hK => ?_) AllReadyH.nil
        have hnba := (Array.getElem?_eq_some_iff.1 hOb).1
        go_simp
        have hOa := heap_alloc_new c4c3z9yd (.cells #[.int .i64 0, .int .i64 0] 44)
        have hoba := hSc4c3z9yd
        have hOb := keepO ((Below.refl c4c3z9yd.heap.size c4c3z9yd).alloc (Nat.le_refl _) (.cells #[.int .i64 0, .int .i64 0] 44)) hOb
        have hKz8c4c3z9yd := Lib.hid (hKc4c3z9yd.out.alloc hSc4c3z9yd (.cells #[.int .i64 0, .int .i64 0] 44))
        have hSz8c4c3z9yd := Nat.le_trans hSc4c3z9yd ((Below.refl c4c3z9yd.heap.size c4c3z9yd).alloc (Nat.le_refl _) (.cells #[.int .i64 0, .int .i64 0] 44)).size
        generalize (c4c3z9yd.alloc (.cells #[.int .i64 0, .int .i64 0] 44)) = z8c4c3z9yd at *
        refine hK.out _ _ ?_ (fun hHeld => ?_)
        · exact HS.out _ hKz8c4c3z9yd
        clear hK Kq
        try simp only [N0]
        refine wpAnyH_ready (rs := [10]) (by kernel_rfl) (by simp) ?_
        refine AllReadyH.cons (o := _) rfl (fun Kq hK => ?_) AllReadyH.nil
        obtain ⟨e0, e1, g0, g1⟩ := two_facts hOa
        go_simp
        clear e0  e1  g0  g1
        obtain ⟨s10z8c4c3z9yd, hz_⟩ : ∃ z, z = ((z8c4c3z9yd.setCell ⟨c4c3z9yd.heap.size, 0, none⟩ (.int .i64 L0)).setCell ⟨c4c3z9yd.heap.size, 1, none⟩ (.int .i64 H0)) := ⟨_, rfl⟩
        rw [← hz_]
        have hN0 := (heap_sets2 z8c4c3z9yd c4c3z9yd.heap.size _ (.int .i64 L0) (.int .i64 H0) (by omega)).trans hOb
        rw [← hz_] at hN0
        have hOa := set_two z8c4c3z9yd c4c3z9yd.heap.size _ (.int .i64 L0) (.int .i64 H0) _ _ hOa
        rw [← hz_] at hOa
        have hOb := hN0
        clear hN0
        have hKs10z8c4c3z9yd := Lib.hid ((hKz8c4c3z9yd.out.set (p := ⟨c4c3z9yd.heap.size, 0, none⟩) (Or.inr hoba) (.int .i64 L0)).set (p := ⟨c4c3z9yd.heap.size, 1, none⟩) (Or.inr hoba) (.int .i64 H0))
        rw [← hz_] at hKs10z8c4c3z9yd
        have hSs10z8c4c3z9yd := Nat.le_trans hSz8c4c3z9yd (show z8c4c3z9yd.heap.size ≤ s10z8c4c3z9yd.heap.size by rw [hz_]; simp)
        clear hz_
        refine hK.out _ _ ?_ (fun hHeld => ?_)
        · exact HS.out _ hKs10z8c4c3z9yd
        clear hK Kq
        try simp only [N0]
        refine wpAnyH_ready (rs := [11]) (by kernel_rfl) (by simp) ?_
        refine AllReadyH.cons (o := _) rfl (fun Kq hK => ?_) AllReadyH.nil
        obtain ⟨e0, e1, g0, g1⟩ := two_facts hOb
        go_simp
        clear e0  e1  g0  g1
        obtain ⟨s11s10z8c4c3z9yd, hz_⟩ : ∃ z, z = ((s10z8c4c3z9yd.setCell ⟨yd.heap.size, 0, none⟩ (.int .i64 L1)).setCell ⟨yd.heap.size, 1, none⟩ (.int .i64 H1)) := ⟨_, rfl⟩
        rw [← hz_]
        have hN0 := (heap_sets2 s10z8c4c3z9yd yd.heap.size _ (.int .i64 L1) (.int .i64 H1) (by omega)).trans hOa
        rw [← hz_] at hN0
        have hOb := set_two s10z8c4c3z9yd yd.heap.size _ (.int .i64 L1) (.int .i64 H1) _ _ hOb
        rw [← hz_] at hOb
        have hOa := hN0
        clear hN0
        have hKs11s10z8c4c3z9yd := Lib.hid ((hKs10z8c4c3z9yd.out.set (p := ⟨yd.heap.size, 0, none⟩) (Or.inr hobb) (.int .i64 L1)).set (p := ⟨yd.heap.size, 1, none⟩) (Or.inr hobb) (.int .i64 H1))
        rw [← hz_] at hKs11s10z8c4c3z9yd
        have hSs11s10z8c4c3z9yd := Nat.le_trans hSs10z8c4c3z9yd (show s10z8c4c3z9yd.heap.size ≤ s11s10z8c4c3z9yd.heap.size by rw [hz_]; simp)
        clear hz_
        refine hK.out _ _ ?_ (fun hHeld => ?_)
        · exact HS.out _ hKs11s10z8c4c3z9yd
        clear hK Kq
        try simp only [N0]
        refine wpAnyH_done (by kernel_rfl) ?_ _
        clear HS HQ hSd
        have hk1 := (hKs11s10z8c4c3z9yd.out.block (w.heap.size + 1) hbz (by simp)).trans hR1
        have hBl := (hBq.trans (hKs11s10z8c4c3z9yd.out.below hBq.size (by simp)))
        obtain ⟨o0, o1, -, -⟩ := two_facts hOa
        obtain ⟨g0, g1, f0, f1⟩ := two_facts hk1
        have hE := Lib.hid (set_back hk1 (.int .i64 L0) (.int .i64 H0))
        have hBm := Lib.hid (below_two hBl (b := w.heap.size + 1) (by omega) (.int .i64 L0) (.int .i64 H0))
        clear hBl hk1 hOa hOb
        go_wp2
        obtain ⟨e0, e1⟩ := hE.out
        exact bodyPost_ret (v := .tuple #[.agg #[.int .i64 L0, .int .i64 H0], .int .i64 0]) (by simp [results, Tryd.results22, go_sem, e0, e1]) rfl ⟨by rw [hsp.out, hask.out], hBm.out⟩
      refine AllReadyH.cons (o := _) rfl (fun Kq hK => ?_) AllReadyH.nil
      have hnba := (Array.getElem?_eq_some_iff.1 hOb).1
      go_simp
      have hOa := heap_alloc_new c3z9yd (.cells #[.int .i64 0, .int .i64 0] 44)
      have hoba := hSc3z9yd
      have hOb := keepO ((Below.refl c3z9yd.heap.size c3z9yd).alloc (Nat.le_refl _) (.cells #[.int .i64 0, .int .i64 0] 44)) hOb
      have hKz8c3z9yd := Lib.hid (hKc3z9yd.out.alloc hSc3z9yd (.cells #[.int .i64 0, .int .i64 0] 44))
      have hSz8c3z9yd := Nat.le_trans hSc3z9yd ((Below.refl c3z9yd.heap.size c3z9yd).alloc (Nat.le_refl _) (.cells #[.int .i64 0, .int .i64 0] 44)).size
      generalize (c3z9yd.alloc (.cells #[.int .i64 0, .int .i64 0] 44)) = z8c3z9yd at *
      refine hK.out _ _ ?_ (fun hHeld => ?_)
      · exact HS.out _ hKz8c3z9yd
      clear hK Kq
      try simp only [N0]
      refine wpAnyH_ready (rs := [4]) (by kernel_rfl) (by simp) ?_
      refine AllReadyH.cons (o := _) rfl (fun Kq hK => ?_) AllReadyH.nil
      go_simp
      refine (rsides_any A A' n c n' c' ps ws i L0 H0 L1 H1 z8c3z9yd (HRd.out z8c3z9yd (hBq.trans (hKz8c3z9yd.out.below hBq.size (by simp)))) (HWd.out z8c3z9yd (hBq.trans (hKz8c3z9yd.out.below hBq.size (by simp)))) hvh.out hin hr0.out hr1.out hLo0.out hHi0.out hLo1.out hHi1.out).mono ?_
      rintro e c4z8c3z9yd ⟨rfl, hb⟩
      have hKc4z8c3z9yd := Lib.hid (hKz8c3z9yd.out.call hSz8c3z9yd hb)
      have hOb := keepO hb hOb
      have hOa := keepO hb hOa
      have hSc4z8c3z9yd := Nat.le_trans hSz8c3z9yd hb.size
      clear hb
      try go_simp
      refine hK.out _ _ ?_ (fun hHeld => ?_)
      · exact HS.out _ hKc4z8c3z9yd
      clear hK Kq
      try simp only [N0]
      refine tY (v := ?_) 5 16 ?_ ?_
      rotate_left
      · intro w hSw; go_simp; (try with_reducible rfl)
      try simp only [N0]
      refine tY (v := ?_) 6 22 ?_ ?_
      rotate_left
      · intro w hSw; go_simp; (try with_reducible rfl)
      try simp only [N0]
      refine tY (v := ?_) 7 23 ?_ ?_
      rotate_left
      · intro w hSw; go_simp; (try with_reducible rfl)
      try simp only [N0]
      refine wpAnyH_ready (rs := [10]) (by kernel_rfl) (by simp) ?_
      refine AllReadyH.cons (o := _) rfl (fun Kq hK => ?_) AllReadyH.nil
      obtain ⟨e0, e1, g0, g1⟩ := two_facts hOa
      go_simp
      clear e0  e1  g0  g1
      obtain ⟨s10c4z8c3z9yd, hz_⟩ : ∃ z, z = ((c4z8c3z9yd.setCell ⟨c3z9yd.heap.size, 0, none⟩ (.int .i64 L0)).setCell ⟨c3z9yd.heap.size, 1, none⟩ (.int .i64 H0)) := ⟨_, rfl⟩
      rw [← hz_]
      have hN0 := (heap_sets2 c4z8c3z9yd c3z9yd.heap.size _ (.int .i64 L0) (.int .i64 H0) (by omega)).trans hOb
      rw [← hz_] at hN0
      have hOa := set_two c4z8c3z9yd c3z9yd.heap.size _ (.int .i64 L0) (.int .i64 H0) _ _ hOa
      rw [← hz_] at hOa
      have hOb := hN0
      clear hN0
      have hKs10c4z8c3z9yd := Lib.hid ((hKc4z8c3z9yd.out.set (p := ⟨c3z9yd.heap.size, 0, none⟩) (Or.inr hoba) (.int .i64 L0)).set (p := ⟨c3z9yd.heap.size, 1, none⟩) (Or.inr hoba) (.int .i64 H0))
      rw [← hz_] at hKs10c4z8c3z9yd
      have hSs10c4z8c3z9yd := Nat.le_trans hSc4z8c3z9yd (show c4z8c3z9yd.heap.size ≤ s10c4z8c3z9yd.heap.size by rw [hz_]; simp)
      clear hz_
      refine hK.out _ _ ?_ (fun hHeld => ?_)
      · exact HS.out _ hKs10c4z8c3z9yd
      clear hK Kq
      try simp only [N0]
      refine wpAnyH_ready (rs := [11]) (by kernel_rfl) (by simp) ?_
      refine AllReadyH.cons (o := _) rfl (fun Kq hK => ?_) AllReadyH.nil
      obtain ⟨e0, e1, g0, g1⟩ := two_facts hOb
      go_simp
      clear e0  e1  g0  g1
      obtain ⟨s11s10c4z8c3z9yd, hz_⟩ : ∃ z, z = ((s10c4z8c3z9yd.setCell ⟨yd.heap.size, 0, none⟩ (.int .i64 L1)).setCell ⟨yd.heap.size, 1, none⟩ (.int .i64 H1)) := ⟨_, rfl⟩
      rw [← hz_]
      have hN0 := (heap_sets2 s10c4z8c3z9yd yd.heap.size _ (.int .i64 L1) (.int .i64 H1) (by omega)).trans hOa
      rw [← hz_] at hN0
      have hOb := set_two s10c4z8c3z9yd yd.heap.size _ (.int .i64 L1) (.int .i64 H1) _ _ hOb
      rw [← hz_] at hOb
      have hOa := hN0
      clear hN0
      have hKs11s10c4z8c3z9yd := Lib.hid ((hKs10c4z8c3z9yd.out.set (p := ⟨yd.heap.size, 0, none⟩) (Or.inr hobb) (.int .i64 L1)).set (p := ⟨yd.heap.size, 1, none⟩) (Or.inr hobb) (.int .i64 H1))
      rw [← hz_] at hKs11s10c4z8c3z9yd
      have hSs11s10c4z8c3z9yd := Nat.le_trans hSs10c4z8c3z9yd (show s10c4z8c3z9yd.heap.size ≤ s11s10c4z8c3z9yd.heap.size by rw [hz_]; simp)
      clear hz_
      refine hK.out _ _ ?_ (fun hHeld => ?_)
      · exact HS.out _ hKs11s10c4z8c3z9yd
      clear hK Kq
      try simp only [N0]
      refine wpAnyH_done (by kernel_rfl) ?_ _
      clear HS HQ hSd
      have hk1 := (hKs11s10c4z8c3z9yd.out.block (w.heap.size + 1) hbz (by simp)).trans hR1
      have hBl := (hBq.trans (hKs11s10c4z8c3z9yd.out.below hBq.size (by simp)))
      obtain ⟨o0, o1, -, -⟩ := two_facts hOa
      obtain ⟨g0, g1, f0, f1⟩ := two_facts hk1
      have hE := Lib.hid (set_back hk1 (.int .i64 L0) (.int .i64 H0))
      have hBm := Lib.hid (below_two hBl (b := w.heap.size + 1) (by omega) (.int .i64 L0) (.int .i64 H0))
      clear hBl hk1 hOa hOb
      go_wp2
      obtain ⟨e0, e1⟩ := hE.out
      exact bodyPost_ret (v := .tuple #[.agg #[.int .i64 L0, .int .i64 H0], .int .i64 0]) (by simp [results, Tryd.results22, go_sem, e0, e1]) rfl ⟨by rw [hsp.out, hask.out], hBm.out⟩
    refine AllReadyH.cons (o := _) rfl (fun Kq hK => ?_) AllReadyH.nil
    have hnba := (Array.getElem?_eq_some_iff.1 hOb).1
    go_simp
    have hOa := heap_alloc_new z9yd (.cells #[.int .i64 0, .int .i64 0] 44)
    have hoba := hSz9yd
    have hOb := keepO ((Below.refl z9yd.heap.size z9yd).alloc (Nat.le_refl _) (.cells #[.int .i64 0, .int .i64 0] 44)) hOb
    have hKz8z9yd := Lib.hid (hKz9yd.out.alloc hSz9yd (.cells #[.int .i64 0, .int .i64 0] 44))
    have hSz8z9yd := Nat.le_trans hSz9yd ((Below.refl z9yd.heap.size z9yd).alloc (Nat.le_refl _) (.cells #[.int .i64 0, .int .i64 0] 44)).size
    generalize (z9yd.alloc (.cells #[.int .i64 0, .int .i64 0] 44)) = z8z9yd at *
    refine hK.out _ _ ?_ (fun hHeld => ?_)
    · exact HS.out _ hKz8z9yd
    clear hK Kq
    try simp only [N0]
    refine wpAnyH_ready (rs := [3]) (by kernel_rfl) (by simp) ?_
    refine AllReadyH.cons (o := _) rfl (fun Kq hK => ?_) AllReadyH.nil
    go_simp
    refine (Pressing_any A A' n c n' c' ps id z8z9yd hnm (HRd.out z8z9yd (hBq.trans (hKz8z9yd.out.below hBq.size (by simp))))).mono ?_
    rintro e c3z8z9yd ⟨rfl, hb⟩
    have hKc3z8z9yd := Lib.hid (hKz8z9yd.out.call hSz8z9yd hb)
    have hOb := keepO hb hOb
    have hOa := keepO hb hOa
    have hSc3z8z9yd := Nat.le_trans hSz8z9yd hb.size
    rw [hih.out]
    clear hb
    try go_simp
    refine hK.out _ _ ?_ (fun hHeld => ?_)
    · exact HS.out _ hKc3z8z9yd
    clear hK Kq
    try simp only [N0]
    refine wpAnyH_ready (rs := [4]) (by kernel_rfl) (by simp) ?_
    refine AllReadyH.cons (o := _) rfl (fun Kq hK => ?_) AllReadyH.nil
    go_simp
    refine (rsides_any A A' n c n' c' ps ws i L0 H0 L1 H1 c3z8z9yd (HRd.out c3z8z9yd (hBq.trans (hKc3z8z9yd.out.below hBq.size (by simp)))) (HWd.out c3z8z9yd (hBq.trans (hKc3z8z9yd.out.below hBq.size (by simp)))) hvh.out hin hr0.out hr1.out hLo0.out hHi0.out hLo1.out hHi1.out).mono ?_
    rintro e c4c3z8z9yd ⟨rfl, hb⟩
    have hKc4c3z8z9yd := Lib.hid (hKc3z8z9yd.out.call hSc3z8z9yd hb)
    have hOb := keepO hb hOb
    have hOa := keepO hb hOa
    have hSc4c3z8z9yd := Nat.le_trans hSc3z8z9yd hb.size
    clear hb
    try go_simp
    refine hK.out _ _ ?_ (fun hHeld => ?_)
    · exact HS.out _ hKc4c3z8z9yd
    clear hK Kq
    try simp only [N0]
    refine tY (v := ?_) 5 16 ?_ ?_
    rotate_left
    · intro w hSw; go_simp; (try with_reducible rfl)
    try simp only [N0]
    refine tY (v := ?_) 6 22 ?_ ?_
    rotate_left
    · intro w hSw; go_simp; (try with_reducible rfl)
    try simp only [N0]
    refine tY (v := ?_) 7 23 ?_ ?_
    rotate_left
    · intro w hSw; go_simp; (try with_reducible rfl)
    try simp only [N0]
    refine wpAnyH_ready (rs := [10]) (by kernel_rfl) (by simp) ?_
    refine AllReadyH.cons (o := _) rfl (fun Kq hK => ?_) AllReadyH.nil
    obtain ⟨e0, e1, g0, g1⟩ := two_facts hOa
    go_simp
    clear e0  e1  g0  g1
    obtain ⟨s10c4c3z8z9yd, hz_⟩ : ∃ z, z = ((c4c3z8z9yd.setCell ⟨z9yd.heap.size, 0, none⟩ (.int .i64 L0)).setCell ⟨z9yd.heap.size, 1, none⟩ (.int .i64 H0)) := ⟨_, rfl⟩
    rw [← hz_]
    have hN0 := (heap_sets2 c4c3z8z9yd z9yd.heap.size _ (.int .i64 L0) (.int .i64 H0) (by omega)).trans hOb
    rw [← hz_] at hN0
    have hOa := set_two c4c3z8z9yd z9yd.heap.size _ (.int .i64 L0) (.int .i64 H0) _ _ hOa
    rw [← hz_] at hOa
    have hOb := hN0
    clear hN0
    have hKs10c4c3z8z9yd := Lib.hid ((hKc4c3z8z9yd.out.set (p := ⟨z9yd.heap.size, 0, none⟩) (Or.inr hoba) (.int .i64 L0)).set (p := ⟨z9yd.heap.size, 1, none⟩) (Or.inr hoba) (.int .i64 H0))
    rw [← hz_] at hKs10c4c3z8z9yd
    have hSs10c4c3z8z9yd := Nat.le_trans hSc4c3z8z9yd (show c4c3z8z9yd.heap.size ≤ s10c4c3z8z9yd.heap.size by rw [hz_]; simp)
    clear hz_
    refine hK.out _ _ ?_ (fun hHeld => ?_)
    · exact HS.out _ hKs10c4c3z8z9yd
    clear hK Kq
    try simp only [N0]
    refine wpAnyH_ready (rs := [11]) (by kernel_rfl) (by simp) ?_
    refine AllReadyH.cons (o := _) rfl (fun Kq hK => ?_) AllReadyH.nil
    obtain ⟨e0, e1, g0, g1⟩ := two_facts hOb
    go_simp
    clear e0  e1  g0  g1
    obtain ⟨s11s10c4c3z8z9yd, hz_⟩ : ∃ z, z = ((s10c4c3z8z9yd.setCell ⟨yd.heap.size, 0, none⟩ (.int .i64 L1)).setCell ⟨yd.heap.size, 1, none⟩ (.int .i64 H1)) := ⟨_, rfl⟩
    rw [← hz_]
    have hN0 := (heap_sets2 s10c4c3z8z9yd yd.heap.size _ (.int .i64 L1) (.int .i64 H1) (by omega)).trans hOa
    rw [← hz_] at hN0
    have hOb := set_two s10c4c3z8z9yd yd.heap.size _ (.int .i64 L1) (.int .i64 H1) _ _ hOb
    rw [← hz_] at hOb
    have hOa := hN0
    clear hN0
    have hKs11s10c4c3z8z9yd := Lib.hid ((hKs10c4c3z8z9yd.out.set (p := ⟨yd.heap.size, 0, none⟩) (Or.inr hobb) (.int .i64 L1)).set (p := ⟨yd.heap.size, 1, none⟩) (Or.inr hobb) (.int .i64 H1))
    rw [← hz_] at hKs11s10c4c3z8z9yd
    have hSs11s10c4c3z8z9yd := Nat.le_trans hSs10c4c3z8z9yd (show s10c4c3z8z9yd.heap.size ≤ s11s10c4c3z8z9yd.heap.size by rw [hz_]; simp)
    clear hz_
    refine hK.out _ _ ?_ (fun hHeld => ?_)
    · exact HS.out _ hKs11s10c4c3z8z9yd
    clear hK Kq
    try simp only [N0]
    refine wpAnyH_done (by kernel_rfl) ?_ _
    clear HS HQ hSd
    have hk1 := (hKs11s10c4c3z8z9yd.out.block (w.heap.size + 1) hbz (by simp)).trans hR1
    have hBl := (hBq.trans (hKs11s10c4c3z8z9yd.out.below hBq.size (by simp)))
    obtain ⟨o0, o1, -, -⟩ := two_facts hOa
    obtain ⟨g0, g1, f0, f1⟩ := two_facts hk1
    have hE := Lib.hid (set_back hk1 (.int .i64 L0) (.int .i64 H0))
    have hBm := Lib.hid (below_two hBl (b := w.heap.size + 1) (by omega) (.int .i64 L0) (.int .i64 H0))
    clear hBl hk1 hOa hOb
    go_wp2
    obtain ⟨e0, e1⟩ := hE.out
    exact bodyPost_ret (v := .tuple #[.agg #[.int .i64 L0, .int .i64 H0], .int .i64 0]) (by simp [results, Tryd.results22, go_sem, e0, e1]) rfl ⟨by rw [hsp.out, hask.out], hBm.out⟩
  · have hS : Hid (inE ps ws id = (0, 0)) := by show _ = _; unfold inE; rw [if_neg h0]
    obtain ⟨er, her⟩ : ∃ er, er = askE ps ws id 1 := ⟨_, rfl⟩
    rw [← her] at h0 ⊢
    have h0b : (er == 0) = false := by simpa using h0
    have herh := Lib.hid her
    clear her
    obtain ⟨g0, g1, f0, f1⟩ := two_facts hP.b1
    have hE := Lib.hid (set_back hP.b1 (.int .i64 0) (.int .i64 0))
    have hBl := Lib.hid (below_two hP.bel (b := w.heap.size + 1) (by omega) (.int .i64 0) (.int .i64 0))
    clear hP hl
    go_wp2
    obtain ⟨e0, e1⟩ := hE.out
    exact bodyPost_ret (v := .tuple #[.agg #[.int .i64 0, .int .i64 0], .int .i64 er]) (by simp [results, Tryd.results22, go_sem, e0, e1]) rfl ⟨by rw [hS.out, herh.out], hBl.out⟩
end Go.Proofs.YtoakeclpakjbiaaDoor
