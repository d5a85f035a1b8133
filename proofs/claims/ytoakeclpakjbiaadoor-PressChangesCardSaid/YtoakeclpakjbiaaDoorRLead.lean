/-
  The walk of the reference's press in which parings go elsewhere.
-/
import Derived.Test.YtoakeclpakjbiaaDoorPTw
namespace Go.Proofs.YtoakeclpakjbiaaDoor
open Go.RowKit
set_option linter.unusedVariables false
set_option linter.unusedSimpArgs false

set_option maxRecDepth 100000 in
set_option maxHeartbeats 2000000 in
theorem rlead_any (A A' : Option Addr) (n c n' c' : Nat) (ps : List PR) (ws : List WE) (id to : Int) (w : World) (hnm : n ≤ maxLen) (hnm' : n' ≤ maxLen) (hR : Reads w w.heap.size 4 A n (pgs ps)) (hW : Reads w w.heap.size 5 A' n' (wgs ws)) (hL : Laid w) :
    Calls Tryd.prog 41 #[.agg #[.slice A n c, .slice A' n' c'], .int .i64 id, .int .i64 to] w fun e w' => Res w.heap.size (leadS ps ws id to) e w' ∧ Below w.heap.size w w' := by
  have hl := hR.pg_len
  have hl' := hW.wg_len
  obtain ⟨wb, hwb⟩ : ∃ wb, wb = (w.alloc (.cells #[.slice A n c, .slice A' n' c'] 25)).alloc (.cells #[.slice none 0 0, .slice none 0 0] 25) := ⟨_, rfl⟩
  have HP0 := Lib.hid (PB.start hwb hR hW hL)
  have HG0 := Lib.hid hL.2.2.2
  have HCk := Lib.hid (fun z (hz : PB w wb A A' n c n' c' ps ws z) => Press_any A A' n c n' c' ps ws z hnm hnm' hz.rp hz.rw_)
  clear hR hW hL
  cases hv : validP ps ws
  · have hs : Hid (leadS ps ws id to = (([], []), 20)) := by show _ = _; unfold leadS; rw [hv]; rfl
    rw [hv] at HCk
    clear hv hl hl'
    go_enter Tryd.func41, Tryd.ntmps41
    go_wp2_with fail
    rw [← hwb]
    clear hwb
    refine (HCk.out _ HP0.out).mono ?_
    rintro e z1 ⟨rfl, hb1⟩
    have HP1 := Lib.hid (HP0.out.below hb1)
    clear hb1
    obtain ⟨g0, g1, f0, f1⟩ := two_facts HP1.out.b1
    go_wp2
    obtain ⟨e0, e1⟩ := set_back HP1.out.b1 (.slice none 0 0) (.slice none 0 0)
    exact bodyPost_ret (v := .tuple #[.agg #[.slice none 0 0, .slice none 0 0], .int .i64 20]) (by simp [results, Tryd.results41, go_sem, e0, e1]) rfl ⟨Res.nil hs.out, below_two HP1.out.bel (by omega) _ _⟩
  · rw [hv] at HCk
    have hn : n ≤ 10 := by
      have h := hv
      simp only [validP, Bool.and_eq_true, decide_eq_true_eq] at h
      omega
    have hn' : n' ≤ 30 := by
      have h := hv
      simp only [validP, Bool.and_eq_true, decide_eq_true_eq] at h
      omega
    have HIx := Lib.hid (fun z (hz : PB w wb A A' n c n' c' ps ws z) => Pressing_any A A' n c n' c' ps id z hnm hz.rp)
    obtain ⟨j0, j1⟩ := idxP_bound ps id
    by_cases hj : idxP ps id < 0
    · have hs : Hid (leadS ps ws id to = (([], []), 6)) := by show _ = _; unfold leadS; rw [hv, if_pos rfl, if_pos hj]
      generalize idxP ps id = jx at *
      clear hv hl hl'
      go_enter Tryd.func41, Tryd.ntmps41
      go_wp2_with fail
      rw [← hwb]
      clear hwb
      refine (HCk.out _ HP0.out).mono ?_
      rintro e z1 ⟨rfl, hb1⟩
      have HP1 := Lib.hid (HP0.out.below hb1)
      clear hb1
      obtain ⟨p0, p1, -, -⟩ := two_facts HP1.out.b0
      go_wp2_with fail
      refine (HIx.out _ HP1.out).mono ?_
      rintro e z2 ⟨rfl, hb2⟩
      have HP2 := Lib.hid (HP1.out.below hb2)
      clear hb2
      obtain ⟨g0, g1, f0, f1⟩ := two_facts HP2.out.b1
      go_wp2
      obtain ⟨e0, e1⟩ := set_back HP2.out.b1 (.slice none 0 0) (.slice none 0 0)
      exact bodyPost_ret (v := .tuple #[.agg #[.slice none 0 0, .slice none 0 0], .int .i64 6]) (by simp [results, Tryd.results41, go_sem, e0, e1]) rfl ⟨Res.nil hs.out, below_two HP2.out.bel (by omega) _ _⟩
    · have HS : Hid (leadS ps ws id to = if validP (setTo ps (idxP ps id).toNat to) ws then ((setTo ps (idxP ps id).toNat to, ws), 0) else (([], []), 22)) := by
        show _ = _; unfold leadS; rw [hv, if_pos rfl, if_neg hj]
      obtain ⟨i, hi⟩ : ∃ i : Nat, idxP ps id = i := ⟨(idxP ps id).toNat, by omega⟩
      rw [hi] at HIx HS j1
      have hin : i < n := by omega
      simp only [Int.toNat_natCast] at HS
      have HWo := Lib.hid (fun z (hz : PB w wb A A' n c n' c' ps ws z) => Twin_any A A' n c n' c' ps ws z (by omega) (by omega) hz.rp hz.rw_)
      have hiI : (i : Int) < (n : Int) := by omega
      clear hv hj j0 j1 hi hl hl'
      go_enter Tryd.func41, Tryd.ntmps41
      go_wp2_with fail
      rw [← hwb]
      clear hwb
      refine (HCk.out _ HP0.out).mono ?_
      rintro e z1 ⟨rfl, hb1⟩
      have HP1 := Lib.hid (HP0.out.below hb1)
      clear hb1
      obtain ⟨p0, p1, -, -⟩ := two_facts HP1.out.b0
      go_wp2_with fail
      refine (HIx.out _ HP1.out).mono ?_
      rintro e z2 ⟨rfl, hb2⟩
      have HP2 := Lib.hid (HP1.out.below hb2)
      clear hb2 p0 p1
      obtain ⟨p0, p1, -, -⟩ := two_facts HP2.out.b0
      go_wp2_with fail
      refine (HWo.out _ HP2.out).mono ?_
      rintro e z3 ⟨A1, c1, A2, c2, rfl, ho1, ho2, hb3⟩
      obtain ⟨g, cap, hv1, hbg, hgl⟩ := ho1.form (by omega)
      simp only [Value.slice.injEq, true_and] at hv1
      obtain ⟨rfl, rfl⟩ := hv1
      have hz2 := HP2.out.size
      have hgw : ¬ g = z3.heap.size := by omega
      have hgw' : ¬ z3.heap.size = g := by omega
      have HP3 := HP2.out.below hb3
      obtain ⟨y2, hy2⟩ : ∃ y2, y2 = z3.alloc (.cells #[.slice (some ⟨g, 0, none⟩) n c1, .slice A2 n' c2] 25) := ⟨_, rfl⟩
      have hby : Below z3.heap.size z3 y2 := by rw [hy2]; exact (Below.refl _ _).alloc (Nat.le_refl _) _
      have HP4 := HP3.below hby
      have ho1' := own_below ho1 hby
      have ho2' := own_below ho2 hby
      have hO2 : y2.heap[z3.heap.size]? = some (.cells #[.slice (some ⟨g, 0, none⟩) n c1, .slice A2 n' c2] 25 (0, 0)) := by rw [hy2]; exact heap_alloc_new z3 _
      obtain ⟨ho3, ⟨u3, hu3⟩, hf3⟩ := own_to (to := to) ho1' hin
      have ho4 := own_block ho2' (w' := y2.setCell ⟨g, i * 4 + 3, none⟩ (.int .i64 to)) (fun k hk => Below.heap_setCell _ _ _ _ (own_apart ho1' ho2' hk))
      obtain ⟨y3, hy3⟩ : ∃ y3, y3 = y2.setCell ⟨g, i * 4 + 3, none⟩ (.int .i64 to) := ⟨_, rfl⟩
      rw [← hy3] at ho3 ho4
      have HB3 : Hid (Below w.heap.size w y3) := by
        show Below _ _ _
        rw [hy3]
        exact HP4.bel.setCell (by simp only; omega) _
      have hy3s : y3.heap.size = y2.heap.size := by rw [hy3]; simp
      have hy2s : y2.heap.size = z3.heap.size + 1 := by rw [hy2]; simp
      have hRb : y3.heap[w.heap.size + 1]? = some (.cells #[.slice none 0 0, .slice none 0 0] 25 (0, 0)) := by
        rw [hy3, Below.heap_setCell _ _ _ _ (by simp only; omega)]
        exact HP4.b1
      have hPb : y3.heap[z3.heap.size]? = some (.cells #[.slice (some ⟨g, 0, none⟩) n c1, .slice A2 n' c2] 25 (0, 0)) := by
        rw [hy3, Below.heap_setCell _ _ _ _ (by simp only; omega)]
        exact hO2
      have HCk3 := Lib.hid (Press_any (some ⟨g, 0, none⟩) A2 n c1 n' c2 (setTo ps i to) ws y3 hnm hnm' (Reads.of_own ho3) (Reads.of_own ho4))
      have HO3 := Lib.hid ho3
      have HO4 := Lib.hid ho4
      have HRB := Lib.hid hRb
      have HPB := Lib.hid hPb
      obtain ⟨p0, p1, -, -⟩ := two_facts hO2
      obtain ⟨x0, x1, -, -⟩ := two_facts hPb
      rw [hy2] at hu3 hf3 p0 p1
      have Hy3 : Hid ((z3.alloc (.cells #[.slice (some ⟨g, 0, none⟩) n c1, .slice A2 n' c2] 25)).setCell ⟨g, i * 4 + 3, none⟩ (.int .i64 to) = y3) := by show _ = _; rw [hy3, hy2]
      have hbz := Lib.hid hbg
      clear hy3 hy2 ho1 ho2 ho1' ho2' ho3 ho4 hRb hPb hb3 hy3s HP3 hbg hgl hz2 hby HP4 hO2 hy2s
      go_wp2_with fail
      rw [Hy3.out]
      clear p0 p1 hu3 hf3 x0 x1
      refine HCk3.out.mono ?_
      rintro e z4 ⟨rfl, hb4⟩
      have hR4 := keepO hb4 HRB.out
      have hP4 := keepO hb4 HPB.out
      obtain ⟨g0, g1, f0, f1⟩ := two_facts hR4
      obtain ⟨x0, x1, -, -⟩ := two_facts hP4
      have HR4 := Lib.hid hR4
      have hO1 := Lib.hid (own_below HO3.out hb4)
      have hO2 := Lib.hid (own_below HO4.out hb4)
      have hy3 := HB3.out.size
      have HB4 := Lib.hid (below_via HB3.out hy3 hb4)
      have hz2 := HP2.out.size
      clear hb4 hR4 hP4
      cases hv2 : validP (setTo ps i to) ws
      · have hs : Hid (leadS ps ws id to = (([], []), 22)) := by show _ = _; rw [HS.out, hv2]; rfl
        clear hv2
        go_wp2
        obtain ⟨e0, e1⟩ := set_back HR4.out (.slice none 0 0) (.slice none 0 0)
        exact bodyPost_ret (v := .tuple #[.agg #[.slice none 0 0, .slice none 0 0], .int .i64 22]) (by simp [results, Tryd.results41, go_sem, e0, e1]) rfl ⟨Res.nil hs.out, below_two HB4.out (by omega) _ _⟩
      · have hs : Hid (leadS ps ws id to = ((setTo ps i to, ws), 0)) := by show _ = _; rw [HS.out, hv2]; rfl
        clear hv2
        go_wp2
        obtain ⟨e0, e1⟩ := set_back HR4.out (.slice (some ⟨g, 0, none⟩) n c1) (.slice A2 n' c2)
        refine bodyPost_ret (v := .tuple #[.agg #[.slice (some ⟨g, 0, none⟩) n c1, .slice A2 n' c2], .int .i64 0]) (by simp [results, Tryd.results41, go_sem, e0, e1]) rfl ⟨?_, below_two HB4.out (by omega) _ _⟩
        rw [hs.out]
        exact ⟨_, _, _, _, _, _, rfl, own_mono (own_far (p := ⟨w.heap.size + 1, 1, none⟩) (own_far (p := ⟨w.heap.size + 1, 0, none⟩) hO1.out (by simp only; omega) _) (by simp only; omega) _) (by omega),
          own_mono (own_far (p := ⟨w.heap.size + 1, 1, none⟩) (own_far (p := ⟨w.heap.size + 1, 0, none⟩) hO2.out (by simp only; omega) _) (by simp only; omega) _) (by omega)⟩
end Go.Proofs.YtoakeclpakjbiaaDoor
