/-
  The walk of the copy of a press.
-/
import Derived.Test.YtoakeclpakjbiaaDoorTk
import Derived.Test.YtoakeclpakjbiaaDoorLead
namespace Go.Proofs.YtoakeclpakjbiaaDoor
open Go.RowKit
set_option linter.unusedVariables false
set_option linter.unusedSimpArgs false
theorem own_lit0 (W : World) (B : Nat) (hB : B ≤ W.heap.size) (t : TypeId) (size : Nat) : (W.alloc (.cells #[] t)).ownsRow B t size (.slice (some ⟨W.heap.size, 0, none⟩) 0 0) 0 [] := World.ownsRow_lit W #[] 0 hB (by unfold maxLen; omega) (by simp)
theorem own_grown {w w' : World} {base : Nat} {e : TypeId} {size n : Nat} {v : Value} {xs : List Value} {row : Option Nat} (h : w.ownsRow base e size v n xs) (hg : w.grownBy w' row) (hr : ∀ k, v.ownBlock = some k → row ≠ some k) : w'.ownsRow base e size v n xs := by
  refine ⟨h.1, ?_⟩
  rcases h.2 with h0 | ⟨g1, cap', cur, h1, h2, h3, h4⟩
  · exact .inl h0
  · exact .inr ⟨g1, cap', cur, h1, h2, (hg.block g1 (Array.getElem?_eq_some_iff.1 h3).1 (fun e => hr g1 (by rw [h1]; rfl) e.symm)).trans h3, h4⟩
/-- Rows of different kinds lie apart. -/
theorem own_ap {w : World} {base base' n m a b : Nat} {xs ys : List Value} {t t' : TypeId} {u v : Value} (ht : t ≠ t') (h : w.ownsRow base t a u n xs) (h' : w.ownsRow base' t' b v m ys) : ∀ k, v.ownBlock = some k → u.ownBlock ≠ some k := by
  intro k hk hu
  rcases h.2 with ⟨h0, -⟩ | ⟨g1, cap1, cur1, h1, -, h3, -⟩
  · rw [h0] at hu; cases hu
  · rcases h'.2 with ⟨h0, -⟩ | ⟨g2, cap2, cur2, h1', -, h3', -⟩
    · rw [h0] at hk; cases hk
    · rw [h1] at hu
      rw [h1'] at hk
      simp only [Value.ownBlock, Option.some.injEq] at hu hk
      subst hu
      subst hk
      rw [h3] at h3'
      injection h3' with h3'
      injection h3' with _ h5
      exact ht h5
theorem own_ap1 {w : World} {base base' n m a b : Nat} {xs ys : List Value} {t t' : TypeId} {u v : Value} (h : w.ownsRow base t a u n xs) (h' : w.ownsRow base' t' b v m ys) (ht : t ≠ t' := by decide) : ∀ k, v.ownBlock = some k → u.ownBlock ≠ some k := own_ap ht h h'
set_option maxRecDepth 100000 in
set_option maxHeartbeats 4000000 in
theorem Twin_any (A A' : Option Addr) (n c n' c' : Nat) (ps : List PR) (ws : List WE) (w : World) (hn4 : n ≤ 4096) (hn4' : n' ≤ 4096)
    (hR0 : Reads w w.heap.size 4 A n (pgs ps)) (hW0 : Reads w w.heap.size 5 A' n' (wgs ws)) :
    Calls Tryd.prog 10 #[.agg #[.slice A n c, .slice A' n' c']] w fun e w' => ∃ A1 c1 A2 c2, e = .returned (.agg #[.slice A1 n c1, .slice A2 n' c2]) ∧
      w'.ownsRow w.heap.size 87 4 (.slice A1 n c1) n (pgs ps) ∧ w'.ownsRow w.heap.size 76 5 (.slice A2 n' c2) n' (wgs ws) ∧ Below w.heap.size w w' := by
  obtain ⟨ia, hia, hza0, hza1, hza2⟩ := info_parts info_pg
  obtain ⟨ib, hib, hzb0, hzb1, hzb2⟩ := info_parts info_wg
  obtain ⟨wz, hwz⟩ : ∃ wz, wz = (w.alloc (.cells #[.slice A n c, .slice A' n' c'] 25)).alloc (.cells #[.slice none 0 0, .slice none 0 0] 25) := ⟨_, rfl⟩
  have hWz : Below w.heap.size w wz := by rw [hwz]; exact ((Below.refl _ _).alloc (Nat.le_refl _) _).alloc (by simp) _
  have hz3 : wz.heap.size = w.heap.size + 2 := by rw [hwz]; simp
  have hb0 : wz.heap[w.heap.size]? = some (.cells #[.slice A n c, .slice A' n' c'] 25 (0, 0)) := by rw [hwz, heap_lt_alloc' _ _ _ (by simp)]; exact heap_alloc_new w _
  have hb1 : wz.heap[w.heap.size + 1]? = some (.cells #[.slice none 0 0, .slice none 0 0] 25 (0, 0)) := by
    rw [hwz]
    have := heap_alloc_new (w.alloc (.cells #[.slice A n c, .slice A' n' c'] 25)) (.cells #[.slice none 0 0, .slice none 0 0] 25)
    simpa using this
  obtain ⟨S, hSd⟩ : ∃ S : World → Prop, S = fun z => (z.cell? ⟨w.heap.size, 0, none⟩ = some (.slice A n c) ∧ z.cell? ⟨w.heap.size, 1, none⟩ = some (.slice A' n' c')) ∧ Hid (Below (w.heap.size + 1) wz z) := ⟨_, rfl⟩
  have HS := Lib.hid (fun z (hz : Hid (Below (w.heap.size + 1) wz z)) => (by
    rw [hSd]
    have e0 := (hz.out.block w.heap.size (by omega)).trans hb0
    exact ⟨⟨by simp [World.cell?, e0], by simp [World.cell?, e0]⟩, hz⟩ : S z))
  have HSB := Lib.hid (fun z (hz : S z) => (show Hid (Below (w.heap.size + 1) wz z) from (by rw [hSd] at hz; exact hz.2)).out)
  have HSZ1 := Lib.hid (fun z (hz : S z) => (Nat.le_trans (by omega) (HSB.out z hz).size : w.heap.size + 1 ≤ z.heap.size))
  have HR := Lib.hid (fun z (hz : Below (w.heap.size + 1) wz z) => ((hR0.below hWz).below (hz.mono (by omega))).more (by have := hz.size; omega : w.heap.size ≤ z.heap.size))
  have HW := Lib.hid (fun z (hz : Below (w.heap.size + 1) wz z) => ((hW0.below hWz).below (hz.mono (by omega))).more (by have := hz.size; omega : w.heap.size ≤ z.heap.size))
  have hZ0 : Hid (Below (w.heap.size + 1) wz wz.drew) := (Below.refl _ _).drew
  have hZyd : Hid (w.heap.size + 2 ≤ wz.drew.heap.size) := by show _ ≤ _; show _ ≤ wz.heap.size; omega
  have hOyd : Hid (wz.drew.heap[w.heap.size + 1]? = some (.cells #[.slice none 0 0, .slice none 0 0] 25 (0, 0))) := hb1
  have HWZ := Lib.hid hWz
  clear hR0 hW0 hb0 hb1 hWz hz3
  go_enter Tryd.func10, Tryd.ntmps10
  go_wp2_with fail
  rw [← hwz]
  clear hwz
  refine wp_region_held_drew (S := S) (by kernel_rfl) ?_ (fun hHeld => ?_)
  · exact HS.out _ hZ0
  generalize wz.drew = yd at *
  refine tY (v := ?_) 1 4 ?_ ?_
  rotate_left
  · intro w hSw; rw [hSd] at hSw; obtain ⟨⟨q0, q1⟩, -⟩ := hSw; go_simp; (try with_reducible rfl)
  try simp only [N0]
  refine tY (v := ?_) 2 5 ?_ ?_
  rotate_left
  · intro w hSw; rw [hSd] at hSw; obtain ⟨⟨q0, q1⟩, -⟩ := hSw; go_simp; (try with_reducible rfl)
  try simp only [N0]
  refine tY (v := ?_) 5 8 ?_ ?_
  rotate_left
  · intro w hSw; rw [hSd] at hSw; obtain ⟨⟨q0, q1⟩, -⟩ := hSw; go_simp; (try with_reducible rfl)
  try simp only [N0]
  refine tY (v := ?_) 6 9 ?_ ?_
  rotate_left
  · intro w hSw; rw [hSd] at hSw; obtain ⟨⟨q0, q1⟩, -⟩ := hSw; go_simp; (try with_reducible rfl)
  try simp only [N0]
  refine wpAnyH_ready (rs := [0, 4]) (by kernel_rfl) (by simp) ?_
  refine AllReadyH.cons (o := _) rfl (fun Kq hK => ?_) ?_
  · go_simp
    refine hK.out _ _ ?_ (fun hHeld => ?_)
    · exact HS.out _ (Lib.hid ((HSB.out _ hHeld).alloc (HSZ1.out _ hHeld) _))
    clear hK Kq
    have hA0 : Hid (Below yd.heap.size yd (yd.alloc (.cells #[] 87))) := (Below.refl _ _).alloc (Nat.le_refl _) _
    have hN0 := Lib.hid (own_lit0 yd (w.heap.size + 2) hZyd.out 87 4)
    have hOydm0 := Lib.hid (keepO hA0.out hOyd.out)
    have hZydm0 := Lib.hid (Nat.le_trans hZyd.out hA0.out.size)
    have hV0 : Hid (w.heap.size + 2 ≤ yd.heap.size) := hZyd
    generalize hgb0 : yd.heap.size = gb0 at hN0 hV0 ⊢
    generalize (yd.alloc (.cells #[] 87)) = ydm0 at *
    clear hgb0 hA0
    try simp only [N0]
    refine wpAnyH_ready (rs := [3, 4]) (by kernel_rfl) (by simp) ?_
    refine AllReadyH.cons (o := _) rfl (fun Kq hK => ?_) ?_
    · refine step_app _ rfl _ _ 22 rfl (w.heap.size + 2) 87 ia _ 4 32 Tryd.underlying22 hia hza0 hza1 hza2 rfl (by decide) (.slice (some ⟨gb0, 0, none⟩) 0 0) 0 [] rfl hN0.out ydm0.heap.size A n c (pgs ps) rfl (HR.out _ (HSB.out _ hHeld)) (pgs_one _) ?c3 ?c4 ?c5 ?_
      case c3 => unfold maxLen; omega
      case c4 => omega
      case c5 => exact hZydm0.out
      intro v3 ydm0p3 hown hgr hat
      have hP3 := Lib.hid hown
      have hG3 := Lib.hid hgr
      have hB3 : Hid (∀ k, (Value.slice (some ⟨gb0, 0, none⟩) 0 0).ownBlock = some k → w.heap.size + 2 ≤ k) := by intro k hk; have := hV0.out; simp [Value.ownBlock] at hk; omega
      have hOydm0p3 : Hid (ydm0p3.heap[w.heap.size + 1]? = some (.cells #[.slice none 0 0, .slice none 0 0] 25 (0, 0))) := (hgr.block _ (by have := hZydm0.out; omega) (by have := hV0.out; simp [Value.ownBlock]; omega)).trans hOydm0.out
      have hZydm0p3 := Lib.hid (Nat.le_trans hZydm0.out hgr.size)
      clear hgr hown hat
      skip
      refine hK.out _ _ ?_ (fun hHeld => ?_)
      · exact HS.out _ (Lib.hid ((HSB.out _ (by assumption)).grown hG3.out (HSZ1.out _ (by assumption)) (fun k hk => Nat.le_trans (by omega) (hB3.out k hk))))
      clear hK Kq
      try simp only [N0]
      refine wpAnyH_ready (rs := [4]) (by kernel_rfl) (by simp) ?_
      refine AllReadyH.cons (o := _) rfl (fun Kq hK => ?_) AllReadyH.nil
      go_simp
      refine hK.out _ _ ?_ (fun hHeld => ?_)
      · exact HS.out _ (Lib.hid ((HSB.out _ hHeld).alloc (HSZ1.out _ hHeld) _))
      clear hK Kq
      have hA4 : Hid (Below ydm0p3.heap.size ydm0p3 (ydm0p3.alloc (.cells #[] 76))) := (Below.refl _ _).alloc (Nat.le_refl _) _
      have hN4 := Lib.hid (own_lit0 ydm0p3 (w.heap.size + 2) hZydm0p3.out 76 5)
      have hN3' := Lib.hid (own_below hP3.out hA4.out)
      have hOydm0p3m4 := Lib.hid (keepO hA4.out hOydm0p3.out)
      have hZydm0p3m4 := Lib.hid (Nat.le_trans hZydm0p3.out hA4.out.size)
      have hV4 : Hid (w.heap.size + 2 ≤ ydm0p3.heap.size) := hZydm0p3
      generalize hgb4 : ydm0p3.heap.size = gb4 at hN4 hV4 ⊢
      generalize (ydm0p3.alloc (.cells #[] 76)) = ydm0p3m4 at *
      clear hgb4 hA4
      try simp only [N0]
      refine wpAnyH_ready (rs := [7]) (by kernel_rfl) (by simp) ?_
      refine AllReadyH.cons (o := _) rfl (fun Kq hK => ?_) AllReadyH.nil
      refine step_app _ rfl _ _ 23 rfl (w.heap.size + 2) 76 ib _ 5 40 Tryd.underlying23 hib hzb0 hzb1 hzb2 rfl (by decide) (.slice (some ⟨gb4, 0, none⟩) 0 0) 0 [] rfl hN4.out ydm0p3m4.heap.size A' n' c' (wgs ws) rfl (HW.out _ (HSB.out _ hHeld)) (wgs_one _) ?c3 ?c4 ?c5 ?_
      case c3 => unfold maxLen; omega
      case c4 => omega
      case c5 => exact hZydm0p3m4.out
      intro v7 ydm0p3m4p7 hown hgr hat
      have hP7 := Lib.hid hown
      have hG7 := Lib.hid hgr
      have hB7 : Hid (∀ k, (Value.slice (some ⟨gb4, 0, none⟩) 0 0).ownBlock = some k → w.heap.size + 2 ≤ k) := by intro k hk; have := hV4.out; simp [Value.ownBlock] at hk; omega
      have hOydm0p3m4p7 : Hid (ydm0p3m4p7.heap[w.heap.size + 1]? = some (.cells #[.slice none 0 0, .slice none 0 0] 25 (0, 0))) := (hgr.block _ (by have := hZydm0p3m4.out; omega) (by have := hV4.out; simp [Value.ownBlock]; omega)).trans hOydm0p3m4.out
      have hZydm0p3m4p7 := Lib.hid (Nat.le_trans hZydm0p3m4.out hgr.size)
      have hN3q := Lib.hid (own_grown hN3'.out hgr (by exact own_ap1 hN4.out hN3'.out))
      clear hgr hown hat
      skip
      refine hK.out _ _ ?_ (fun hHeld => ?_)
      · exact HS.out _ (Lib.hid ((HSB.out _ (by assumption)).grown hG7.out (HSZ1.out _ (by assumption)) (fun k hk => Nat.le_trans (by omega) (hB7.out k hk))))
      clear hK Kq
      try simp only [N0]
      obtain ⟨A1, c1, hv1⟩ := own_val hN3q.out
      obtain ⟨A2, c2, hv2⟩ := own_val hP7.out
      simp only [Nat.zero_add] at hv1 hv2
      rw [hv1, hv2]
      obtain ⟨g0, g1, f0, f1⟩ := two_facts hOydm0p3m4p7.out
      refine tY (v := ?_) 8 11 ?_ ?_
      rotate_left
      · intro w hSw; rw [hSd] at hSw; obtain ⟨⟨q0, q1⟩, -⟩ := hSw; go_simp; (try with_reducible rfl)
      try simp only [N0]
      refine wpAnyH_ready (rs := [9]) (by kernel_rfl) (by simp) ?_
      refine AllReadyH.cons (o := _) rfl (fun Kq hK => ?_) AllReadyH.nil
      go_simp
      refine hK.out _ _ ?_ (fun hHeld => ?_)
      · exact HS.out _ (Lib.hid (((HSB.out _ (by assumption)).setCell (by simp) _).setCell (by simp) _))
      clear hK Kq
      try simp only [N0]
      refine wpAnyH_done (by kernel_rfl) ?_ _
      go_wp2_with fail
      obtain ⟨e0, e1⟩ := set_back hOydm0p3m4p7.out (.slice A1 n c1) (.slice A2 n' c2)
      have hF := HSB.out _ hHeld
      refine bodyPost_ret (v := .agg #[.slice A1 n c1, .slice A2 n' c2]) (by simp [results, Tryd.results10, go_sem, e0, e1]) rfl ⟨A1, c1, A2, c2, rfl, ?_, ?_, HWZ.out.trans (hF.mono (by omega))⟩
      · have h1 := hN3q.out
        rw [hv1] at h1
        simp only [Nat.zero_add, List.nil_append] at h1
        exact own_mono (own_far (p := ⟨w.heap.size + 1, 1, none⟩) (own_far (p := ⟨w.heap.size + 1, 0, none⟩) h1 (by simp only; omega) _) (by simp only; omega) _) (by omega)
      · have h1 := hP7.out
        rw [hv2] at h1
        simp only [Nat.zero_add, List.nil_append] at h1
        exact own_mono (own_far (p := ⟨w.heap.size + 1, 1, none⟩) (own_far (p := ⟨w.heap.size + 1, 0, none⟩) h1 (by simp only; omega) _) (by simp only; omega) _) (by omega)
    refine AllReadyH.cons (o := _) rfl (fun Kq hK => ?_) AllReadyH.nil
    go_simp
    refine hK.out _ _ ?_ (fun hHeld => ?_)
    · exact HS.out _ (Lib.hid ((HSB.out _ hHeld).alloc (HSZ1.out _ hHeld) _))
    clear hK Kq
    have hA4 : Hid (Below ydm0.heap.size ydm0 (ydm0.alloc (.cells #[] 76))) := (Below.refl _ _).alloc (Nat.le_refl _) _
    have hN4 := Lib.hid (own_lit0 ydm0 (w.heap.size + 2) hZydm0.out 76 5)
    have hN0' := Lib.hid (own_below hN0.out hA4.out)
    have hOydm0m4 := Lib.hid (keepO hA4.out hOydm0.out)
    have hZydm0m4 := Lib.hid (Nat.le_trans hZydm0.out hA4.out.size)
    have hV4 : Hid (w.heap.size + 2 ≤ ydm0.heap.size) := hZydm0
    generalize hgb4 : ydm0.heap.size = gb4 at hN4 hV4 ⊢
    generalize (ydm0.alloc (.cells #[] 76)) = ydm0m4 at *
    clear hgb4 hA4
    try simp only [N0]
    refine wpAnyH_ready (rs := [3]) (by kernel_rfl) (by simp) ?_
    refine AllReadyH.cons (o := _) rfl (fun Kq hK => ?_) AllReadyH.nil
    refine step_app _ rfl _ _ 22 rfl (w.heap.size + 2) 87 ia _ 4 32 Tryd.underlying22 hia hza0 hza1 hza2 rfl (by decide) (.slice (some ⟨gb0, 0, none⟩) 0 0) 0 [] rfl hN0'.out ydm0m4.heap.size A n c (pgs ps) rfl (HR.out _ (HSB.out _ hHeld)) (pgs_one _) ?c3 ?c4 ?c5 ?_
    case c3 => unfold maxLen; omega
    case c4 => omega
    case c5 => exact hZydm0m4.out
    intro v3 ydm0m4p3 hown hgr hat
    have hP3 := Lib.hid hown
    have hG3 := Lib.hid hgr
    have hB3 : Hid (∀ k, (Value.slice (some ⟨gb0, 0, none⟩) 0 0).ownBlock = some k → w.heap.size + 2 ≤ k) := by intro k hk; have := hV0.out; simp [Value.ownBlock] at hk; omega
    have hOydm0m4p3 : Hid (ydm0m4p3.heap[w.heap.size + 1]? = some (.cells #[.slice none 0 0, .slice none 0 0] 25 (0, 0))) := (hgr.block _ (by have := hZydm0m4.out; omega) (by have := hV0.out; simp [Value.ownBlock]; omega)).trans hOydm0m4.out
    have hZydm0m4p3 := Lib.hid (Nat.le_trans hZydm0m4.out hgr.size)
    have hN4q := Lib.hid (own_grown hN4.out hgr (by exact own_ap1 hN0'.out hN4.out))
    clear hgr hown hat
    skip
    refine hK.out _ _ ?_ (fun hHeld => ?_)
    · exact HS.out _ (Lib.hid ((HSB.out _ (by assumption)).grown hG3.out (HSZ1.out _ (by assumption)) (fun k hk => Nat.le_trans (by omega) (hB3.out k hk))))
    clear hK Kq
    try simp only [N0]
    refine wpAnyH_ready (rs := [7]) (by kernel_rfl) (by simp) ?_
    refine AllReadyH.cons (o := _) rfl (fun Kq hK => ?_) AllReadyH.nil
    refine step_app _ rfl _ _ 23 rfl (w.heap.size + 2) 76 ib _ 5 40 Tryd.underlying23 hib hzb0 hzb1 hzb2 rfl (by decide) (.slice (some ⟨gb4, 0, none⟩) 0 0) 0 [] rfl hN4q.out ydm0m4p3.heap.size A' n' c' (wgs ws) rfl (HW.out _ (HSB.out _ hHeld)) (wgs_one _) ?c3 ?c4 ?c5 ?_
    case c3 => unfold maxLen; omega
    case c4 => omega
    case c5 => exact hZydm0m4p3.out
    intro v7 ydm0m4p3p7 hown hgr hat
    have hP7 := Lib.hid hown
    have hG7 := Lib.hid hgr
    have hB7 : Hid (∀ k, (Value.slice (some ⟨gb4, 0, none⟩) 0 0).ownBlock = some k → w.heap.size + 2 ≤ k) := by intro k hk; have := hV4.out; simp [Value.ownBlock] at hk; omega
    have hOydm0m4p3p7 : Hid (ydm0m4p3p7.heap[w.heap.size + 1]? = some (.cells #[.slice none 0 0, .slice none 0 0] 25 (0, 0))) := (hgr.block _ (by have := hZydm0m4p3.out; omega) (by have := hV4.out; simp [Value.ownBlock]; omega)).trans hOydm0m4p3.out
    have hZydm0m4p3p7 := Lib.hid (Nat.le_trans hZydm0m4p3.out hgr.size)
    have hN3q := Lib.hid (own_grown hP3.out hgr (by exact own_ap1 hN4q.out hP3.out))
    clear hgr hown hat
    skip
    refine hK.out _ _ ?_ (fun hHeld => ?_)
    · exact HS.out _ (Lib.hid ((HSB.out _ (by assumption)).grown hG7.out (HSZ1.out _ (by assumption)) (fun k hk => Nat.le_trans (by omega) (hB7.out k hk))))
    clear hK Kq
    try simp only [N0]
    obtain ⟨A1, c1, hv1⟩ := own_val hN3q.out
    obtain ⟨A2, c2, hv2⟩ := own_val hP7.out
    simp only [Nat.zero_add] at hv1 hv2
    rw [hv1, hv2]
    obtain ⟨g0, g1, f0, f1⟩ := two_facts hOydm0m4p3p7.out
    refine tY (v := ?_) 8 11 ?_ ?_
    rotate_left
    · intro w hSw; rw [hSd] at hSw; obtain ⟨⟨q0, q1⟩, -⟩ := hSw; go_simp; (try with_reducible rfl)
    try simp only [N0]
    refine wpAnyH_ready (rs := [9]) (by kernel_rfl) (by simp) ?_
    refine AllReadyH.cons (o := _) rfl (fun Kq hK => ?_) AllReadyH.nil
    go_simp
    refine hK.out _ _ ?_ (fun hHeld => ?_)
    · exact HS.out _ (Lib.hid (((HSB.out _ (by assumption)).setCell (by simp) _).setCell (by simp) _))
    clear hK Kq
    try simp only [N0]
    refine wpAnyH_done (by kernel_rfl) ?_ _
    go_wp2_with fail
    obtain ⟨e0, e1⟩ := set_back hOydm0m4p3p7.out (.slice A1 n c1) (.slice A2 n' c2)
    have hF := HSB.out _ hHeld
    refine bodyPost_ret (v := .agg #[.slice A1 n c1, .slice A2 n' c2]) (by simp [results, Tryd.results10, go_sem, e0, e1]) rfl ⟨A1, c1, A2, c2, rfl, ?_, ?_, HWZ.out.trans (hF.mono (by omega))⟩
    · have h1 := hN3q.out
      rw [hv1] at h1
      simp only [Nat.zero_add, List.nil_append] at h1
      exact own_mono (own_far (p := ⟨w.heap.size + 1, 1, none⟩) (own_far (p := ⟨w.heap.size + 1, 0, none⟩) h1 (by simp only; omega) _) (by simp only; omega) _) (by omega)
    · have h1 := hP7.out
      rw [hv2] at h1
      simp only [Nat.zero_add, List.nil_append] at h1
      exact own_mono (own_far (p := ⟨w.heap.size + 1, 1, none⟩) (own_far (p := ⟨w.heap.size + 1, 0, none⟩) h1 (by simp only; omega) _) (by simp only; omega) _) (by omega)
  refine AllReadyH.cons (o := _) rfl (fun Kq hK => ?_) AllReadyH.nil
  go_simp
  refine hK.out _ _ ?_ (fun hHeld => ?_)
  · exact HS.out _ (Lib.hid ((HSB.out _ hHeld).alloc (HSZ1.out _ hHeld) _))
  clear hK Kq
  have hA4 : Hid (Below yd.heap.size yd (yd.alloc (.cells #[] 76))) := (Below.refl _ _).alloc (Nat.le_refl _) _
  have hN4 := Lib.hid (own_lit0 yd (w.heap.size + 2) hZyd.out 76 5)
  have hOydm4 := Lib.hid (keepO hA4.out hOyd.out)
  have hZydm4 := Lib.hid (Nat.le_trans hZyd.out hA4.out.size)
  have hV4 : Hid (w.heap.size + 2 ≤ yd.heap.size) := hZyd
  generalize hgb4 : yd.heap.size = gb4 at hN4 hV4 ⊢
  generalize (yd.alloc (.cells #[] 76)) = ydm4 at *
  clear hgb4 hA4
  try simp only [N0]
  refine wpAnyH_ready (rs := [0]) (by kernel_rfl) (by simp) ?_
  refine AllReadyH.cons (o := _) rfl (fun Kq hK => ?_) AllReadyH.nil
  go_simp
  refine hK.out _ _ ?_ (fun hHeld => ?_)
  · exact HS.out _ (Lib.hid ((HSB.out _ hHeld).alloc (HSZ1.out _ hHeld) _))
  clear hK Kq
  have hA0 : Hid (Below ydm4.heap.size ydm4 (ydm4.alloc (.cells #[] 87))) := (Below.refl _ _).alloc (Nat.le_refl _) _
  have hN0 := Lib.hid (own_lit0 ydm4 (w.heap.size + 2) hZydm4.out 87 4)
  have hN4' := Lib.hid (own_below hN4.out hA0.out)
  have hOydm4m0 := Lib.hid (keepO hA0.out hOydm4.out)
  have hZydm4m0 := Lib.hid (Nat.le_trans hZydm4.out hA0.out.size)
  have hV0 : Hid (w.heap.size + 2 ≤ ydm4.heap.size) := hZydm4
  generalize hgb0 : ydm4.heap.size = gb0 at hN0 hV0 ⊢
  generalize (ydm4.alloc (.cells #[] 87)) = ydm4m0 at *
  clear hgb0 hA0
  try simp only [N0]
  refine wpAnyH_ready (rs := [3]) (by kernel_rfl) (by simp) ?_
  refine AllReadyH.cons (o := _) rfl (fun Kq hK => ?_) AllReadyH.nil
  refine step_app _ rfl _ _ 22 rfl (w.heap.size + 2) 87 ia _ 4 32 Tryd.underlying22 hia hza0 hza1 hza2 rfl (by decide) (.slice (some ⟨gb0, 0, none⟩) 0 0) 0 [] rfl hN0.out ydm4m0.heap.size A n c (pgs ps) rfl (HR.out _ (HSB.out _ hHeld)) (pgs_one _) ?c3 ?c4 ?c5 ?_
  case c3 => unfold maxLen; omega
  case c4 => omega
  case c5 => exact hZydm4m0.out
  intro v3 ydm4m0p3 hown hgr hat
  have hP3 := Lib.hid hown
  have hG3 := Lib.hid hgr
  have hB3 : Hid (∀ k, (Value.slice (some ⟨gb0, 0, none⟩) 0 0).ownBlock = some k → w.heap.size + 2 ≤ k) := by intro k hk; have := hV0.out; simp [Value.ownBlock] at hk; omega
  have hOydm4m0p3 : Hid (ydm4m0p3.heap[w.heap.size + 1]? = some (.cells #[.slice none 0 0, .slice none 0 0] 25 (0, 0))) := (hgr.block _ (by have := hZydm4m0.out; omega) (by have := hV0.out; simp [Value.ownBlock]; omega)).trans hOydm4m0.out
  have hZydm4m0p3 := Lib.hid (Nat.le_trans hZydm4m0.out hgr.size)
  have hN4q := Lib.hid (own_grown hN4'.out hgr (by exact own_ap1 hN0.out hN4'.out))
  clear hgr hown hat
  skip
  refine hK.out _ _ ?_ (fun hHeld => ?_)
  · exact HS.out _ (Lib.hid ((HSB.out _ (by assumption)).grown hG3.out (HSZ1.out _ (by assumption)) (fun k hk => Nat.le_trans (by omega) (hB3.out k hk))))
  clear hK Kq
  try simp only [N0]
  refine wpAnyH_ready (rs := [7]) (by kernel_rfl) (by simp) ?_
  refine AllReadyH.cons (o := _) rfl (fun Kq hK => ?_) AllReadyH.nil
  refine step_app _ rfl _ _ 23 rfl (w.heap.size + 2) 76 ib _ 5 40 Tryd.underlying23 hib hzb0 hzb1 hzb2 rfl (by decide) (.slice (some ⟨gb4, 0, none⟩) 0 0) 0 [] rfl hN4q.out ydm4m0p3.heap.size A' n' c' (wgs ws) rfl (HW.out _ (HSB.out _ hHeld)) (wgs_one _) ?c3 ?c4 ?c5 ?_
  case c3 => unfold maxLen; omega
  case c4 => omega
  case c5 => exact hZydm4m0p3.out
  intro v7 ydm4m0p3p7 hown hgr hat
  have hP7 := Lib.hid hown
  have hG7 := Lib.hid hgr
  have hB7 : Hid (∀ k, (Value.slice (some ⟨gb4, 0, none⟩) 0 0).ownBlock = some k → w.heap.size + 2 ≤ k) := by intro k hk; have := hV4.out; simp [Value.ownBlock] at hk; omega
  have hOydm4m0p3p7 : Hid (ydm4m0p3p7.heap[w.heap.size + 1]? = some (.cells #[.slice none 0 0, .slice none 0 0] 25 (0, 0))) := (hgr.block _ (by have := hZydm4m0p3.out; omega) (by have := hV4.out; simp [Value.ownBlock]; omega)).trans hOydm4m0p3.out
  have hZydm4m0p3p7 := Lib.hid (Nat.le_trans hZydm4m0p3.out hgr.size)
  have hN3q := Lib.hid (own_grown hP3.out hgr (by exact own_ap1 hN4q.out hP3.out))
  clear hgr hown hat
  skip
  refine hK.out _ _ ?_ (fun hHeld => ?_)
  · exact HS.out _ (Lib.hid ((HSB.out _ (by assumption)).grown hG7.out (HSZ1.out _ (by assumption)) (fun k hk => Nat.le_trans (by omega) (hB7.out k hk))))
  clear hK Kq
  try simp only [N0]
  obtain ⟨A1, c1, hv1⟩ := own_val hN3q.out
  obtain ⟨A2, c2, hv2⟩ := own_val hP7.out
  simp only [Nat.zero_add] at hv1 hv2
  rw [hv1, hv2]
  obtain ⟨g0, g1, f0, f1⟩ := two_facts hOydm4m0p3p7.out
  refine tY (v := ?_) 8 11 ?_ ?_
  rotate_left
  · intro w hSw; rw [hSd] at hSw; obtain ⟨⟨q0, q1⟩, -⟩ := hSw; go_simp; (try with_reducible rfl)
  try simp only [N0]
  refine wpAnyH_ready (rs := [9]) (by kernel_rfl) (by simp) ?_
  refine AllReadyH.cons (o := _) rfl (fun Kq hK => ?_) AllReadyH.nil
  go_simp
  refine hK.out _ _ ?_ (fun hHeld => ?_)
  · exact HS.out _ (Lib.hid (((HSB.out _ (by assumption)).setCell (by simp) _).setCell (by simp) _))
  clear hK Kq
  try simp only [N0]
  refine wpAnyH_done (by kernel_rfl) ?_ _
  go_wp2_with fail
  obtain ⟨e0, e1⟩ := set_back hOydm4m0p3p7.out (.slice A1 n c1) (.slice A2 n' c2)
  have hF := HSB.out _ hHeld
  refine bodyPost_ret (v := .agg #[.slice A1 n c1, .slice A2 n' c2]) (by simp [results, Tryd.results10, go_sem, e0, e1]) rfl ⟨A1, c1, A2, c2, rfl, ?_, ?_, HWZ.out.trans (hF.mono (by omega))⟩
  · have h1 := hN3q.out
    rw [hv1] at h1
    simp only [Nat.zero_add, List.nil_append] at h1
    exact own_mono (own_far (p := ⟨w.heap.size + 1, 1, none⟩) (own_far (p := ⟨w.heap.size + 1, 0, none⟩) h1 (by simp only; omega) _) (by simp only; omega) _) (by omega)
  · have h1 := hP7.out
    rw [hv2] at h1
    simp only [Nat.zero_add, List.nil_append] at h1
    exact own_mono (own_far (p := ⟨w.heap.size + 1, 1, none⟩) (own_far (p := ⟨w.heap.size + 1, 0, none⟩) h1 (by simp only; omega) _) (by simp only; omega) _) (by omega)
end Go.Proofs.YtoakeclpakjbiaaDoor
