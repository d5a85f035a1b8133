/-
  The walk of the corners of what oil, and what goes in, can be together: the reference's.
-/
import Derived.Test.YtoakeclpakjbiaaDoorTk
import Derived.Test.YtoakeclpakjbiaaDoorRSd
import Derived.Test.YtoakeclpakjbiaaDoorPLs
import Derived.Test.YtoakeclpakjbiaaDoorApp0
namespace Go.Proofs.YtoakeclpakjbiaaDoor
open Go.RowKit
set_option linter.unusedVariables false
set_option linter.unusedSimpArgs false

def prs (l : List Sp) : List Value := l.flatMap spc
theorem prs_one (l : List Sp) : ∀ u ∈ prs l, u.oneCell' = true := by
  intro u hu
  simp only [prs, List.mem_flatMap] at hu
  obtain ⟨a, _, h⟩ := hu
  exact spc_one a u h
theorem prs_app (l m : List Sp) : prs (l ++ m) = prs l ++ prs m := by simp [prs]
theorem Reads.pr {w : World} {B n k : Nat} {A : Option Addr} {l : List Sp} (h : Reads w B 2 A n (prs l)) (hk : k < n) :
    ∃ b o x, A = some ⟨b, o, none⟩ ∧ b < B ∧ l[k]? = some x ∧ w.cell? ⟨b, o + k * 2, none⟩ = some (.int .i64 x.1) ∧ w.cell? ⟨b, o + k * 2 + 1, none⟩ = some (.int .i64 x.2) := by
  obtain ⟨b, o, x, e, hb, hx, hc⟩ := h.rec_at (m := 2) (fun _ => rfl) (by omega) hk
  exact ⟨b, o, x, e, hb, hx, hc 0 _ rfl, hc 1 _ rfl⟩
theorem Reads.pr_len {w : World} {B n : Nat} {A : Option Addr} {l : List Sp} (h : Reads w B 2 A n (prs l)) : l.length = n := h.rec_len (m := 2) (fun _ => rfl) (by omega)
theorem info_pi : (Tryd.prog.info? 131).map (fun i => (i.zero, i.size, i.bytes)) = some (some (.agg #[.int .i64 0, .int .i64 0]), 2, 16) := by kernel_rfl
theorem filt_step (p : Sp → Bool) {l : List Sp} {j : Nat} {x : Sp} (h : l[j]? = some x) : (l.take (j + 1)).filter p = (l.take j).filter p ++ (if p x = true then [x] else []) := by
  rw [List.take_add_one, h, List.filter_append]
  congr 1
  cases hp : p x <;> simp [hp]
theorem okC_rng (o r x : Sp) (m1 a2 : Int) : okC o r (m1, a2) x = (rng o.1 o.2 x.1 && rng m1 a2 x.2 && rng r.1 r.2 (x.2 - x.1)) := rfl
theorem rd_cells {w : World} {b size n : Nat} {cs : Array Value} {t : TypeId} (h : w.heap[b]? = some (.cells cs t (0, 0))) (hs : cs.size = n * size) : Reads w w.heap.size size (some ⟨b, 0, none⟩) n cs.toList := by
  refine ⟨by simp [hs], fun _ => ⟨b, 0, rfl, (Array.getElem?_eq_some_iff.1 h).1, fun j u hu => ?_⟩⟩
  have hu' : cs[j]? = some u := by simpa using hu
  simp [World.cell?, h, hu']

set_option maxRecDepth 100000 in
set_option maxHeartbeats 4000000 in
theorem corners_any (A A' : Option Addr) (n c n' c' : Nat) (ps : List PR) (ws : List WE) (i : Nat) (fr : Int) (w : World) (hR : Reads w w.heap.size 4 A n (pgs ps)) (hW : Reads w w.heap.size 5 A' n' (wgs ws)) (hv : validP ps ws = true) (ht : hasT ps ws = true) (hin : i < n) (hf : 0 ≤ fr ∧ fr ≤ 1) :
    Calls Tryd.prog 71 #[.agg #[.slice A n c, .slice A' n' c'], .int .i64 i, .int .i64 fr] w fun e w' =>
      (∃ A2 m c2, e = .returned (.slice A2 m c2) ∧ w'.ownsRow w.heap.size 131 2 (.slice A2 m c2) m (prs (corn (spanSp ps ws i 2) (othSp ps ws i) (max (inSp ps ws i).1 fr, (inSp ps ws i).2)))) ∧ Below w.heap.size w w' := by
  have hl : ps.length = n := hR.pg_len
  have HRd := Lib.hid (fun z (hz : Below w.heap.size w z) => (hR.below hz).more hz.size)
  have HWd := Lib.hid (fun z (hz : Below w.heap.size w z) => (hW.below hz).more hz.size)
  have hVF := valid_facts hv
  have hFw := hVF.fwd
  have hHo := has_Holds hVF ht
  have hIn := rows_InR hVF ps.length
  have hBd := oia_bounds hVF ht (i := i) (by omega)
  have hag := fun (inn rst : Sp) => holdsR_congr (t := toT ps) (at_ := (i : Int)) (inn := inn) (rst := rst) (notes_rows ps ws)
  have hlaw := fun (mid : Int) => sides_law hFw hHo hIn (i := i) (by omega) mid
  have hLo := Lib.hid (fun (mid : Int) (_ : 0 ≤ mid) (_ : mid < 1000000) => lo_law hFw hHo hIn (notes_rows ps ws) (i := i) (k := 2) (by omega) (by omega) (by omega) mid (0, 10000000) (0, 10000000))
  have hHi := Lib.hid (fun (mid : Int) (_ : 0 < mid) (_ : mid ≤ 1000000) => hi_law hFw hHo hIn (notes_rows ps ws) (i := i) (k := 2) (by omega) (by omega) (by omega) mid (0, 10000000) (0, 10000000))
  have hLo0 := Lib.hid (fun (mid : Int) (_ : 0 ≤ mid) (_ : mid < 10000000) => (hag _ _).trans (hlaw mid).1)
  have hHi0 := Lib.hid (fun (mid : Int) (_ : 0 < mid) (_ : mid ≤ 10000000) => (hag _ _).trans (hlaw mid).2.1)
  have hLo1 := Lib.hid (fun (mid : Int) (_ : 0 ≤ mid) (_ : mid < 10000000) => (hag _ _).trans (hlaw mid).2.2.1)
  have hHi1 := Lib.hid (fun (mid : Int) (_ : 0 < mid) (_ : mid ≤ 10000000) => (hag _ _).trans (hlaw mid).2.2.2.1)
  rw [← spanSp_P] at hLo hHi
  rw [← inSp_P'] at hLo0 hHi0
  rw [← othSp_P] at hLo1 hHi1
  generalize spanSp ps ws i 2 = o at *
  generalize othSp ps ws i = r at *
  generalize inSp ps ws i = a0 at *
  rw [hl] at hLo hHi hLo0 hHi0 hLo1 hHi1
  obtain ⟨b1, b2, b3, b4, b5, b6, b7, b8, b9, b10, b11⟩ := hBd
  have ho : Hid (0 ≤ o.1 ∧ o.1 ≤ 1000000 ∧ 0 ≤ o.2 ∧ o.2 ≤ 1000000) := by show _ ∧ _; omega
  have hr0 : Hid (0 ≤ a0.1 ∧ a0.1 ≤ 10000000 ∧ 0 ≤ a0.2 ∧ a0.2 ≤ 10000000) := by show _ ∧ _; omega
  have hr1 : Hid (0 ≤ r.1 ∧ r.1 ≤ 10000000 ∧ 0 ≤ r.2 ∧ r.2 ≤ 10000000) := by show _ ∧ _; omega
  have hRb : Hid (∀ i, i < n → ∀ q, q < 7 → Bd 10000000 (notesR ps ws i q)) := fun i _ q _ => notesR_bd hVF i q
  have hvh := Lib.hid hv
  have hq0 : Hid (Below w.heap.size w (w.alloc (.cells #[.slice A n c, .slice A' n' c'] 25))) := Lib.hid ((Below.refl _ _).alloc (Nat.le_refl _) _)
  have hO0 := Lib.hid (heap_alloc_new w (.cells #[.slice A n c, .slice A' n' c'] 25))
  clear hR hW hv ht hVF hFw hHo hIn hag hlaw hl
  go_enter Tryd.func71, Tryd.ntmps71
  go_wp2_with fail
  generalize (w.alloc (.cells #[.slice A n c, .slice A' n' c'] 25)) = wq at *
  have hBq := hq0.out
  have hw0 : w.heap.size < wq.heap.size := (Array.getElem?_eq_some_iff.1 hO0.out).1
  obtain ⟨p0, p1, -, -⟩ := two_facts hO0.out
  have HQ := Lib.hid (fun w' (hz : Hid (Kp wq.heap.size [] wq w')) => (⟨(hz.out.cell (by simp only; omega) (by simp; try omega)).trans p0, (hz.out.cell (by simp only; omega) (by simp; try omega)).trans p1⟩ : w'.cell? ⟨w.heap.size, 0, none⟩ = some (.slice A n c) ∧ w'.cell? ⟨w.heap.size, 1, none⟩ = some (.slice A' n' c')))
  obtain ⟨S, hSd⟩ : ∃ S : World → Prop, S = fun w' => (w'.cell? ⟨w.heap.size, 0, none⟩ = some (.slice A n c) ∧ w'.cell? ⟨w.heap.size, 1, none⟩ = some (.slice A' n' c')) ∧ Hid (Kp wq.heap.size [] wq w') := ⟨_, rfl⟩
  have HS := Lib.hid (fun w' (hz : Hid (Kp wq.heap.size [] wq w')) => (by rw [hSd]; exact ⟨HQ.out w' hz, hz⟩ : S w'))
  clear p0 p1
  go_cut [7] (fun s7 wx => ∃ wl, wl = wx ∧ ∃ b7, s7 = .pointer (some ⟨b7, 0, none⟩) ∧ wx.heap[b7]? = some (.cells #[.int .i64 o.1, .int .i64 o.2] 44 (0, 0)) ∧ Kp wq.heap.size [] wq wx ∧ wq.heap.size ≤ b7)
  case first =>
    refine wp_region_held_drew (S := S) (by kernel_rfl) ?_ (fun hHeld => ?_)
    · exact HS.out _ (Lib.hid (Kp.refl _ _ _).drew)
    have hKyd : Hid (Kp wq.heap.size [] wq wq.drew) := Lib.hid (Kp.refl _ _ _).drew
    have hSyd : wq.heap.size ≤ wq.drew.heap.size := Nat.le_refl _
    generalize wq.drew = yd at *
    refine tY (v := ?_) 0 17 ?_ ?_
    rotate_left
    · intro w hSw; rw [hSd] at hSw; obtain ⟨⟨q0, q1⟩, -⟩ := hSw; go_simp; (try with_reducible rfl)
    try simp only [N0]
    refine tY (v := ?_) 1 18 ?_ ?_
    rotate_left
    · intro w hSw; rw [hSd] at hSw; obtain ⟨⟨q0, q1⟩, -⟩ := hSw; go_simp; (try with_reducible rfl)
    try simp only [N0]
    refine tY (v := ?_) 3 20 ?_ ?_
    rotate_left
    · intro w hSw; rw [hSd] at hSw; obtain ⟨⟨q0, q1⟩, -⟩ := hSw; go_simp; (try with_reducible rfl)
    try simp only [N0]
    refine wpAnyH_ready (rs := [2, 5]) (by kernel_rfl) (by simp) ?_
    refine AllReadyH.cons (o := _) rfl (fun Kq hK => ?_) ?_
    · go_simp
      refine (noted_any A A' n c n' c' ps ws yd (HRd.out _ (hBq.trans (hKyd.out.below hBq.size (by simp)))) (HWd.out _ (hBq.trans (hKyd.out.below hBq.size (by simp)))) hvh.out).mono ?_
      rintro e c2yd ⟨rfl, hb⟩
      have hKc2yd := Lib.hid (hKyd.out.call hSyd hb)
      have hSc2yd := Nat.le_trans hSyd hb.size
      clear hb
      try go_simp
      refine hK.out _ _ ?_ (fun hHeld => ?_)
      · exact HS.out _ hKc2yd
      clear hK Kq
      try simp only [N0]
      refine wpAnyH_ready (rs := [4, 5]) (by kernel_rfl) (by simp) ?_
      refine AllReadyH.cons (o := _) rfl (fun Kq hK => ?_) ?_
      · go_simp
        refine (rspan_any A A' n c n' c' ps ws (notesR ps ws) i 2 o.1 o.2 c2yd (HRd.out _ (hBq.trans (hKc2yd.out.below hBq.size (by simp)))) hvh.out hRb.out hin (by omega) ho.out.1 ho.out.2.1 ho.out.2.2.1 ho.out.2.2.2 hLo.out hHi.out).mono ?_
        rintro e c4c2yd ⟨rfl, hb⟩
        have hKc4c2yd := Lib.hid (hKc2yd.out.call hSc2yd hb)
        have hSc4c2yd := Nat.le_trans hSc2yd hb.size
        clear hb
        try go_simp
        refine hK.out _ _ ?_ (fun hHeld => ?_)
        · exact HS.out _ hKc4c2yd
        clear hK Kq
        try simp only [N0]
        refine wpAnyH_ready (rs := [5]) (by kernel_rfl) (by simp) ?_
        refine AllReadyH.cons (o := _) rfl (fun Kq hK => ?_) AllReadyH.nil
        go_simp
        have hOa := heap_alloc_new c4c2yd (.cells #[.int .i64 0, .int .i64 0] 44)
        have hoba := hSc4c2yd
        have hKz5c4c2yd := Lib.hid (hKc4c2yd.out.alloc hSc4c2yd (.cells #[.int .i64 0, .int .i64 0] 44))
        have hSz5c4c2yd := Nat.le_trans hSc4c2yd ((Below.refl c4c2yd.heap.size c4c2yd).alloc (Nat.le_refl _) (.cells #[.int .i64 0, .int .i64 0] 44)).size
        generalize (c4c2yd.alloc (.cells #[.int .i64 0, .int .i64 0] 44)) = z5c4c2yd at *
        refine hK.out _ _ ?_ (fun hHeld => ?_)
        · exact HS.out _ hKz5c4c2yd
        clear hK Kq
        try simp only [N0]
        refine wpAnyH_ready (rs := [6]) (by kernel_rfl) (by simp) ?_
        refine AllReadyH.cons (o := _) rfl (fun Kq hK => ?_) AllReadyH.nil
        obtain ⟨e0, e1, g0, g1⟩ := two_facts hOa
        go_simp
        clear e0  e1  g0  g1
        obtain ⟨s6z5c4c2yd, hz_⟩ : ∃ z, z = ((z5c4c2yd.setCell ⟨c4c2yd.heap.size, 0, none⟩ (.int .i64 o.1)).setCell ⟨c4c2yd.heap.size, 1, none⟩ (.int .i64 o.2)) := ⟨_, rfl⟩
        rw [← hz_]
        have hOa := set_two z5c4c2yd c4c2yd.heap.size _ (.int .i64 o.1) (.int .i64 o.2) _ _ hOa
        rw [← hz_] at hOa
        have hKs6z5c4c2yd := Lib.hid ((hKz5c4c2yd.out.set (p := ⟨c4c2yd.heap.size, 0, none⟩) (Or.inr hoba) (.int .i64 o.1)).set (p := ⟨c4c2yd.heap.size, 1, none⟩) (Or.inr hoba) (.int .i64 o.2))
        rw [← hz_] at hKs6z5c4c2yd
        have hSs6z5c4c2yd := Nat.le_trans hSz5c4c2yd (show z5c4c2yd.heap.size ≤ s6z5c4c2yd.heap.size by rw [hz_]; simp)
        clear hz_
        refine hK.out _ _ ?_ (fun hHeld => ?_)
        · exact HS.out _ hKs6z5c4c2yd
        clear hK Kq
        try simp only [N0]
        refine wpAnyH_done (by kernel_rfl) ?_ _
        go_wp2_with fail
        go_meet
        exact ⟨_, rfl, _, rfl, hOa, hKs6z5c4c2yd.out, hoba⟩
      refine AllReadyH.cons (o := _) rfl (fun Kq hK => ?_) AllReadyH.nil
      go_simp
      have hOa := heap_alloc_new c2yd (.cells #[.int .i64 0, .int .i64 0] 44)
      have hoba := hSc2yd
      have hKz5c2yd := Lib.hid (hKc2yd.out.alloc hSc2yd (.cells #[.int .i64 0, .int .i64 0] 44))
      have hSz5c2yd := Nat.le_trans hSc2yd ((Below.refl c2yd.heap.size c2yd).alloc (Nat.le_refl _) (.cells #[.int .i64 0, .int .i64 0] 44)).size
      generalize (c2yd.alloc (.cells #[.int .i64 0, .int .i64 0] 44)) = z5c2yd at *
      refine hK.out _ _ ?_ (fun hHeld => ?_)
      · exact HS.out _ hKz5c2yd
      clear hK Kq
      try simp only [N0]
      refine wpAnyH_ready (rs := [4]) (by kernel_rfl) (by simp) ?_
      refine AllReadyH.cons (o := _) rfl (fun Kq hK => ?_) AllReadyH.nil
      go_simp
      refine (rspan_any A A' n c n' c' ps ws (notesR ps ws) i 2 o.1 o.2 z5c2yd (HRd.out _ (hBq.trans (hKz5c2yd.out.below hBq.size (by simp)))) hvh.out hRb.out hin (by omega) ho.out.1 ho.out.2.1 ho.out.2.2.1 ho.out.2.2.2 hLo.out hHi.out).mono ?_
      rintro e c4z5c2yd ⟨rfl, hb⟩
      have hKc4z5c2yd := Lib.hid (hKz5c2yd.out.call hSz5c2yd hb)
      have hOa := keepO hb hOa
      have hSc4z5c2yd := Nat.le_trans hSz5c2yd hb.size
      clear hb
      try go_simp
      refine hK.out _ _ ?_ (fun hHeld => ?_)
      · exact HS.out _ hKc4z5c2yd
      clear hK Kq
      try simp only [N0]
      refine wpAnyH_ready (rs := [6]) (by kernel_rfl) (by simp) ?_
      refine AllReadyH.cons (o := _) rfl (fun Kq hK => ?_) AllReadyH.nil
      obtain ⟨e0, e1, g0, g1⟩ := two_facts hOa
      go_simp
      clear e0  e1  g0  g1
      obtain ⟨s6c4z5c2yd, hz_⟩ : ∃ z, z = ((c4z5c2yd.setCell ⟨c2yd.heap.size, 0, none⟩ (.int .i64 o.1)).setCell ⟨c2yd.heap.size, 1, none⟩ (.int .i64 o.2)) := ⟨_, rfl⟩
      rw [← hz_]
      have hOa := set_two c4z5c2yd c2yd.heap.size _ (.int .i64 o.1) (.int .i64 o.2) _ _ hOa
      rw [← hz_] at hOa
      have hKs6c4z5c2yd := Lib.hid ((hKc4z5c2yd.out.set (p := ⟨c2yd.heap.size, 0, none⟩) (Or.inr hoba) (.int .i64 o.1)).set (p := ⟨c2yd.heap.size, 1, none⟩) (Or.inr hoba) (.int .i64 o.2))
      rw [← hz_] at hKs6c4z5c2yd
      have hSs6c4z5c2yd := Nat.le_trans hSc4z5c2yd (show c4z5c2yd.heap.size ≤ s6c4z5c2yd.heap.size by rw [hz_]; simp)
      clear hz_
      refine hK.out _ _ ?_ (fun hHeld => ?_)
      · exact HS.out _ hKs6c4z5c2yd
      clear hK Kq
      try simp only [N0]
      refine wpAnyH_done (by kernel_rfl) ?_ _
      go_wp2_with fail
      go_meet
      exact ⟨_, rfl, _, rfl, hOa, hKs6c4z5c2yd.out, hoba⟩
    refine AllReadyH.cons (o := _) rfl (fun Kq hK => ?_) AllReadyH.nil
    go_simp
    have hOa := heap_alloc_new yd (.cells #[.int .i64 0, .int .i64 0] 44)
    have hoba := hSyd
    have hKz5yd := Lib.hid (hKyd.out.alloc hSyd (.cells #[.int .i64 0, .int .i64 0] 44))
    have hSz5yd := Nat.le_trans hSyd ((Below.refl yd.heap.size yd).alloc (Nat.le_refl _) (.cells #[.int .i64 0, .int .i64 0] 44)).size
    generalize (yd.alloc (.cells #[.int .i64 0, .int .i64 0] 44)) = z5yd at *
    refine hK.out _ _ ?_ (fun hHeld => ?_)
    · exact HS.out _ hKz5yd
    clear hK Kq
    try simp only [N0]
    refine wpAnyH_ready (rs := [2]) (by kernel_rfl) (by simp) ?_
    refine AllReadyH.cons (o := _) rfl (fun Kq hK => ?_) AllReadyH.nil
    go_simp
    refine (noted_any A A' n c n' c' ps ws z5yd (HRd.out _ (hBq.trans (hKz5yd.out.below hBq.size (by simp)))) (HWd.out _ (hBq.trans (hKz5yd.out.below hBq.size (by simp)))) hvh.out).mono ?_
    rintro e c2z5yd ⟨rfl, hb⟩
    have hKc2z5yd := Lib.hid (hKz5yd.out.call hSz5yd hb)
    have hOa := keepO hb hOa
    have hSc2z5yd := Nat.le_trans hSz5yd hb.size
    clear hb
    try go_simp
    refine hK.out _ _ ?_ (fun hHeld => ?_)
    · exact HS.out _ hKc2z5yd
    clear hK Kq
    try simp only [N0]
    refine wpAnyH_ready (rs := [4]) (by kernel_rfl) (by simp) ?_
    refine AllReadyH.cons (o := _) rfl (fun Kq hK => ?_) AllReadyH.nil
    go_simp
    refine (rspan_any A A' n c n' c' ps ws (notesR ps ws) i 2 o.1 o.2 c2z5yd (HRd.out _ (hBq.trans (hKc2z5yd.out.below hBq.size (by simp)))) hvh.out hRb.out hin (by omega) ho.out.1 ho.out.2.1 ho.out.2.2.1 ho.out.2.2.2 hLo.out hHi.out).mono ?_
    rintro e c4c2z5yd ⟨rfl, hb⟩
    have hKc4c2z5yd := Lib.hid (hKc2z5yd.out.call hSc2z5yd hb)
    have hOa := keepO hb hOa
    have hSc4c2z5yd := Nat.le_trans hSc2z5yd hb.size
    clear hb
    try go_simp
    refine hK.out _ _ ?_ (fun hHeld => ?_)
    · exact HS.out _ hKc4c2z5yd
    clear hK Kq
    try simp only [N0]
    refine wpAnyH_ready (rs := [6]) (by kernel_rfl) (by simp) ?_
    refine AllReadyH.cons (o := _) rfl (fun Kq hK => ?_) AllReadyH.nil
    obtain ⟨e0, e1, g0, g1⟩ := two_facts hOa
    go_simp
    clear e0  e1  g0  g1
    obtain ⟨s6c4c2z5yd, hz_⟩ : ∃ z, z = ((c4c2z5yd.setCell ⟨yd.heap.size, 0, none⟩ (.int .i64 o.1)).setCell ⟨yd.heap.size, 1, none⟩ (.int .i64 o.2)) := ⟨_, rfl⟩
    rw [← hz_]
    have hOa := set_two c4c2z5yd yd.heap.size _ (.int .i64 o.1) (.int .i64 o.2) _ _ hOa
    rw [← hz_] at hOa
    have hKs6c4c2z5yd := Lib.hid ((hKc4c2z5yd.out.set (p := ⟨yd.heap.size, 0, none⟩) (Or.inr hoba) (.int .i64 o.1)).set (p := ⟨yd.heap.size, 1, none⟩) (Or.inr hoba) (.int .i64 o.2))
    rw [← hz_] at hKs6c4c2z5yd
    have hSs6c4c2z5yd := Nat.le_trans hSc4c2z5yd (show c4c2z5yd.heap.size ≤ s6c4c2z5yd.heap.size by rw [hz_]; simp)
    clear hz_
    refine hK.out _ _ ?_ (fun hHeld => ?_)
    · exact HS.out _ hKs6c4c2z5yd
    clear hK Kq
    try simp only [N0]
    refine wpAnyH_done (by kernel_rfl) ?_ _
    go_wp2_with fail
    go_meet
    exact ⟨_, rfl, _, rfl, hOa, hKs6c4c2z5yd.out, hoba⟩
  case rest =>
    clear S hSd HS HQ hLo hHi
    obtain ⟨wx, rfl, b7, rfl, hO7, hKx, h7⟩ := ‹∃ wl, wl = _ ∧ _›
    have hBx := hBq.trans (hKx.below hBq.size (by simp))
    obtain ⟨p0, p1, -, -⟩ := two_facts ((hKx.block w.heap.size hw0 (by simp)).trans hO0.out)
    have HO7 := Lib.hid hO7
    have HBx := Lib.hid hBx
    clear hO7 hKx hBq hq0 hO0 hBx
    go_wp2_with fail
    clear p0 p1
    refine (rsides_any A A' n c n' c' ps ws i a0.1 a0.2 r.1 r.2 wx (HRd.out _ HBx.out) (HWd.out _ HBx.out) hvh.out hin hr0.out hr1.out hLo0.out hHi0.out hLo1.out hHi1.out).mono ?_
    rintro e wy ⟨rfl, hb⟩
    have HO7 := Lib.hid (keepO hb HO7.out)
    have HBy := Lib.hid (HBx.out.trans (hb.mono HBx.out.size))
    have h7y : b7 < wy.heap.size := (Array.getElem?_eq_some_iff.1 HO7.out).1
    clear hb HBx hLo0 hHi0 hLo1 hHi1 hr0 hr1 hRb ho HRd HWd
    have hm : (if a0.1 < fr then fr else a0.1) = max a0.1 fr := mx_if _ _
    generalize hA1 : max a0.1 fr = m1 at *
    have hA1h := Lib.hid hA1
    have hm1b : 0 ≤ m1 ∧ m1 ≤ 10000000 := by omega
    clear hA1
    obtain ⟨ws_, hws⟩ : ∃ z, z = ((wy.alloc (.cells #[.int .i64 m1, .int .i64 a0.2] 44)).alloc (.cells #[.int .i64 r.1, .int .i64 r.2] 44)) := ⟨_, rfl⟩
    obtain ⟨a, ha⟩ : ∃ a : Sp, a = (m1, a0.2) := ⟨_, rfl⟩
    have HX : Hid (ws_.heap[b7]? = some (.cells #[.int .i64 o.1, .int .i64 o.2] 44 (0, 0)) ∧ ws_.heap[wy.heap.size]? = some (.cells #[.int .i64 m1, .int .i64 a0.2] 44 (0, 0)) ∧ ws_.heap[wy.heap.size + 1]? = some (.cells #[.int .i64 r.1, .int .i64 r.2] 44 (0, 0)) ∧ Below w.heap.size w ws_) := by
      show _ ∧ _ ∧ _ ∧ _
      rw [hws]
      have k1 := heap_alloc_new wy (.cells #[.int .i64 m1, .int .i64 a0.2] 44)
      have k2 := heap_alloc_new (wy.alloc (.cells #[.int .i64 m1, .int .i64 a0.2] 44)) (.cells #[.int .i64 r.1, .int .i64 r.2] 44)
      simp only [World.size_alloc] at k2
      refine ⟨?_, ?_, k2, ((HBy.out.alloc HBy.out.size _).alloc (by have := HBy.out.size; simp <;> omega) _)⟩
      · rw [heap_lt_alloc' _ _ _ (by simp <;> omega), heap_lt_alloc' _ _ _ h7y]; exact HO7.out
      · rw [heap_lt_alloc' _ _ _ (by simp)]; exact k1
    have hwsh := Lib.hid hws
    have haH := Lib.hid ha
    clear hws ha
    obtain ⟨ip, hip, hz0, hz1, hz2⟩ := info_parts info_pi
    go_wp2_with fail
    rw [← hwsh.out]
    clear hwsh
    go_loopw [10, 12] (fun vA vk wr => ∃ wl, wl = wr ∧ ∃ k A2 c2, k ≤ 4 ∧ vA = .slice A2 (5 * k) c2 ∧ vk = .int .i64 (k : Nat) ∧ Hid (wl.ownsRow ws_.heap.size 131 2 (.slice A2 (5 * k) c2) (5 * k) (prs (cornN o r a k))) ∧ Hid (Below ws_.heap.size ws_ wl)) (fun _ vk _ => 4 - (intOf vk).toNat)
    case atStart => exact ⟨_, rfl, 0, none, 0, by omega, rfl, rfl, Lib.hid (World.ownsRow_nil _ _ _ _), Lib.hid (Below.refl _ _)⟩
    case round =>
      obtain ⟨wr, rfl, k, A2, c2, hk4, rfl, rfl, HOw, HB⟩ := hrel
      by_cases hk : k < 4
      · have hki : (k : Int) < 4 := by omega
        have hO7 := keepO HB.out HX.out.1
        have hO8 := keepO HB.out HX.out.2.1
        have hO9 := keepO HB.out HX.out.2.2.1
        obtain ⟨a0_, a1_, -, -⟩ := two_facts hO8
        obtain ⟨o0, o1, -, -⟩ := two_facts hO7
        obtain ⟨r0, r1, -, -⟩ := two_facts hO9
        rcases (by omega : k = 0 ∨ k = 1 ∨ k = 2 ∨ k = 3) with rfl | rfl | rfl | rfl
        · simp only [Nat.reduceMul] at HOw ⊢
          rw [show (((0 : Nat) : Nat) : Int) = 0 from rfl]
          have e1 : IntKind.i64.wrap (o.1 + r.1) = o.1 + r.1 := IntWalk.i64_in _ (by omega)
          have e2 : IntKind.i64.wrap (m1 - r.1) = m1 - r.1 := IntWalk.i64_in _ (by omega)
          have e3 : IntKind.i64.wrap (a0.2 - r.1) = a0.2 - r.1 := IntWalk.i64_in _ (by omega)
          go_wp2_with fail
          go_quiet (fail)
          rename_i nq
          obtain ⟨wy, hwy⟩ : ∃ wy, wy = wr.drewN nq := ⟨_, rfl⟩
          rw [← hwy]
          have hby : Below wr.heap.size wr wy := by rw [hwy]; exact below_drewN (Below.refl _ _) nq
          clear hwy a0_ a1_ o0 o1 r0 r1
          have hO7 := keepO hby hO7
          have hO8 := keepO hby hO8
          have hO9 := keepO hby hO9
          obtain ⟨a0_, a1_, -, -⟩ := two_facts hO8
          obtain ⟨o0, o1, -, -⟩ := two_facts hO7
          obtain ⟨r0, r1, -, -⟩ := two_facts hO9
          have hbA : Below wr.heap.size wr (wy.alloc (.cells #[.int .i64 o.1, .int .i64 (o.1 + r.1), .int .i64 o.1, .int .i64 m1, .int .i64 o.1, .int .i64 a0.2, .int .i64 (m1 - r.1), .int .i64 m1, .int .i64 (a0.2 - r.1), .int .i64 a0.2] 131)) := hby.alloc hby.size _
          have HOy := Lib.hid (ownR_below HOw.out hbA)
          have HL : Hid (Reads (wy.alloc (.cells #[.int .i64 o.1, .int .i64 (o.1 + r.1), .int .i64 o.1, .int .i64 m1, .int .i64 o.1, .int .i64 a0.2, .int .i64 (m1 - r.1), .int .i64 m1, .int .i64 (a0.2 - r.1), .int .i64 a0.2] 131)) (wy.alloc (.cells #[.int .i64 o.1, .int .i64 (o.1 + r.1), .int .i64 o.1, .int .i64 m1, .int .i64 o.1, .int .i64 a0.2, .int .i64 (m1 - r.1), .int .i64 m1, .int .i64 (a0.2 - r.1), .int .i64 a0.2] 131)).heap.size 2 (some ⟨wy.heap.size, 0, none⟩) 5 (prs (cornK o r a 0))) := by
            show Reads _ _ _ _ _ _
            rw [haH.out, show prs (cornK o r (m1, a0.2) 0) = [.int .i64 o.1, .int .i64 (o.1 + r.1), .int .i64 o.1, .int .i64 m1, .int .i64 o.1, .int .i64 a0.2, .int .i64 (m1 - r.1), .int .i64 m1, .int .i64 (a0.2 - r.1), .int .i64 a0.2] from rfl]
            exact rd_cells (heap_alloc_new wy _) rfl
          have HBA := Lib.hid (below_via HB.out HB.out.size hbA)
          clear hO7 hO8 hO9 hby hbA
          go_wp2_with (first | (at_builtin; refine wpList_app _ rfl _ _ 128 rfl ws_.heap.size 131 ip _ 2 16 Tryd.underlying128 hip hz0 hz1 hz2 rfl (by decide) (.slice A2 0 c2) 0 (prs (cornN o r a 0)) rfl HOy.out _ (some ⟨wy.heap.size, 0, none⟩) 5 5 (prs (cornK o r a 0)) rfl HL.out (prs_one _) ?c3 ?c4 ?c5 ?_))
          case c3 => unfold maxLen; omega
          case c4 => omega
          case c5 => exact HBA.out.size
          intro v5 w4 hown4 hgr4 hat4
          clear hat4
          obtain ⟨A3, c3, rfl⟩ := ownR_val hown4
          have HO4 := Lib.hid (show w4.ownsRow ws_.heap.size 131 2 (.slice A3 5 c3) 5 (prs (cornN o r a 1)) by rw [show cornN o r a 1 = cornN o r a 0 ++ cornK o r a 0 from rfl, prs_app]; exact hown4)
          have HB4 := Lib.hid (HBA.out.grown hgr4 HBA.out.size (fun q hq => (ownR_lt HOy.out hq).1))
          clear hown4 hgr4 HOy HL HBA a0_ a1_ o0 o1 r0 r1 e1 e2 e3 HOw HB
          go_wp2
          go_roundw
          case rel => exact ⟨_, rfl, 1, A3, c3, by omega, rfl, rfl, HO4, HB4⟩
          case measure => simp [intOf]
        · simp only [Nat.reduceMul] at HOw ⊢
          rw [show (((1 : Nat) : Nat) : Int) = 1 from rfl]
          have e1 : IntKind.i64.wrap (o.2 + r.1) = o.2 + r.1 := IntWalk.i64_in _ (by omega)
          have e2 : IntKind.i64.wrap (m1 - r.1) = m1 - r.1 := IntWalk.i64_in _ (by omega)
          have e3 : IntKind.i64.wrap (a0.2 - r.1) = a0.2 - r.1 := IntWalk.i64_in _ (by omega)
          go_wp2_with fail
          go_quiet (fail)
          rename_i nq
          obtain ⟨wy, hwy⟩ : ∃ wy, wy = wr.drewN nq := ⟨_, rfl⟩
          rw [← hwy]
          have hby : Below wr.heap.size wr wy := by rw [hwy]; exact below_drewN (Below.refl _ _) nq
          clear hwy a0_ a1_ o0 o1 r0 r1
          have hO7 := keepO hby hO7
          have hO8 := keepO hby hO8
          have hO9 := keepO hby hO9
          obtain ⟨a0_, a1_, -, -⟩ := two_facts hO8
          obtain ⟨o0, o1, -, -⟩ := two_facts hO7
          obtain ⟨r0, r1, -, -⟩ := two_facts hO9
          have hbA : Below wr.heap.size wr (wy.alloc (.cells #[.int .i64 o.2, .int .i64 (o.2 + r.1), .int .i64 o.2, .int .i64 m1, .int .i64 o.2, .int .i64 a0.2, .int .i64 (m1 - r.1), .int .i64 m1, .int .i64 (a0.2 - r.1), .int .i64 a0.2] 131)) := hby.alloc hby.size _
          have HOy := Lib.hid (ownR_below HOw.out hbA)
          have HL : Hid (Reads (wy.alloc (.cells #[.int .i64 o.2, .int .i64 (o.2 + r.1), .int .i64 o.2, .int .i64 m1, .int .i64 o.2, .int .i64 a0.2, .int .i64 (m1 - r.1), .int .i64 m1, .int .i64 (a0.2 - r.1), .int .i64 a0.2] 131)) (wy.alloc (.cells #[.int .i64 o.2, .int .i64 (o.2 + r.1), .int .i64 o.2, .int .i64 m1, .int .i64 o.2, .int .i64 a0.2, .int .i64 (m1 - r.1), .int .i64 m1, .int .i64 (a0.2 - r.1), .int .i64 a0.2] 131)).heap.size 2 (some ⟨wy.heap.size, 0, none⟩) 5 (prs (cornK o r a 1))) := by
            show Reads _ _ _ _ _ _
            rw [haH.out, show prs (cornK o r (m1, a0.2) 1) = [.int .i64 o.2, .int .i64 (o.2 + r.1), .int .i64 o.2, .int .i64 m1, .int .i64 o.2, .int .i64 a0.2, .int .i64 (m1 - r.1), .int .i64 m1, .int .i64 (a0.2 - r.1), .int .i64 a0.2] from rfl]
            exact rd_cells (heap_alloc_new wy _) rfl
          have HBA := Lib.hid (below_via HB.out HB.out.size hbA)
          clear hO7 hO8 hO9 hby hbA
          go_wp2_with (first | (at_builtin; refine wpList_app _ rfl _ _ 128 rfl ws_.heap.size 131 ip _ 2 16 Tryd.underlying128 hip hz0 hz1 hz2 rfl (by decide) (.slice A2 5 c2) 5 (prs (cornN o r a 1)) rfl HOy.out _ (some ⟨wy.heap.size, 0, none⟩) 5 5 (prs (cornK o r a 1)) rfl HL.out (prs_one _) ?c3 ?c4 ?c5 ?_))
          case c3 => unfold maxLen; omega
          case c4 => omega
          case c5 => exact HBA.out.size
          intro v5 w4 hown4 hgr4 hat4
          clear hat4
          obtain ⟨A3, c3, rfl⟩ := ownR_val hown4
          have HO4 := Lib.hid (show w4.ownsRow ws_.heap.size 131 2 (.slice A3 10 c3) 10 (prs (cornN o r a 2)) by rw [show cornN o r a 2 = cornN o r a 1 ++ cornK o r a 1 from rfl, prs_app]; exact hown4)
          have HB4 := Lib.hid (HBA.out.grown hgr4 HBA.out.size (fun q hq => (ownR_lt HOy.out hq).1))
          clear hown4 hgr4 HOy HL HBA a0_ a1_ o0 o1 r0 r1 e1 e2 e3 HOw HB
          go_wp2
          go_roundw
          case rel => exact ⟨_, rfl, 2, A3, c3, by omega, rfl, rfl, HO4, HB4⟩
          case measure => simp [intOf]
        · simp only [Nat.reduceMul] at HOw ⊢
          rw [show (((2 : Nat) : Nat) : Int) = 2 from rfl]
          have e1 : IntKind.i64.wrap (o.1 + r.2) = o.1 + r.2 := IntWalk.i64_in _ (by omega)
          have e2 : IntKind.i64.wrap (m1 - r.2) = m1 - r.2 := IntWalk.i64_in _ (by omega)
          have e3 : IntKind.i64.wrap (a0.2 - r.2) = a0.2 - r.2 := IntWalk.i64_in _ (by omega)
          go_wp2_with fail
          go_quiet (fail)
          rename_i nq
          obtain ⟨wy, hwy⟩ : ∃ wy, wy = wr.drewN nq := ⟨_, rfl⟩
          rw [← hwy]
          have hby : Below wr.heap.size wr wy := by rw [hwy]; exact below_drewN (Below.refl _ _) nq
          clear hwy a0_ a1_ o0 o1 r0 r1
          have hO7 := keepO hby hO7
          have hO8 := keepO hby hO8
          have hO9 := keepO hby hO9
          obtain ⟨a0_, a1_, -, -⟩ := two_facts hO8
          obtain ⟨o0, o1, -, -⟩ := two_facts hO7
          obtain ⟨r0, r1, -, -⟩ := two_facts hO9
          have hbA : Below wr.heap.size wr (wy.alloc (.cells #[.int .i64 o.1, .int .i64 (o.1 + r.2), .int .i64 o.1, .int .i64 m1, .int .i64 o.1, .int .i64 a0.2, .int .i64 (m1 - r.2), .int .i64 m1, .int .i64 (a0.2 - r.2), .int .i64 a0.2] 131)) := hby.alloc hby.size _
          have HOy := Lib.hid (ownR_below HOw.out hbA)
          have HL : Hid (Reads (wy.alloc (.cells #[.int .i64 o.1, .int .i64 (o.1 + r.2), .int .i64 o.1, .int .i64 m1, .int .i64 o.1, .int .i64 a0.2, .int .i64 (m1 - r.2), .int .i64 m1, .int .i64 (a0.2 - r.2), .int .i64 a0.2] 131)) (wy.alloc (.cells #[.int .i64 o.1, .int .i64 (o.1 + r.2), .int .i64 o.1, .int .i64 m1, .int .i64 o.1, .int .i64 a0.2, .int .i64 (m1 - r.2), .int .i64 m1, .int .i64 (a0.2 - r.2), .int .i64 a0.2] 131)).heap.size 2 (some ⟨wy.heap.size, 0, none⟩) 5 (prs (cornK o r a 2))) := by
            show Reads _ _ _ _ _ _
            rw [haH.out, show prs (cornK o r (m1, a0.2) 2) = [.int .i64 o.1, .int .i64 (o.1 + r.2), .int .i64 o.1, .int .i64 m1, .int .i64 o.1, .int .i64 a0.2, .int .i64 (m1 - r.2), .int .i64 m1, .int .i64 (a0.2 - r.2), .int .i64 a0.2] from rfl]
            exact rd_cells (heap_alloc_new wy _) rfl
          have HBA := Lib.hid (below_via HB.out HB.out.size hbA)
          clear hO7 hO8 hO9 hby hbA
          go_wp2_with (first | (at_builtin; refine wpList_app _ rfl _ _ 128 rfl ws_.heap.size 131 ip _ 2 16 Tryd.underlying128 hip hz0 hz1 hz2 rfl (by decide) (.slice A2 10 c2) 10 (prs (cornN o r a 2)) rfl HOy.out _ (some ⟨wy.heap.size, 0, none⟩) 5 5 (prs (cornK o r a 2)) rfl HL.out (prs_one _) ?c3 ?c4 ?c5 ?_))
          case c3 => unfold maxLen; omega
          case c4 => omega
          case c5 => exact HBA.out.size
          intro v5 w4 hown4 hgr4 hat4
          clear hat4
          obtain ⟨A3, c3, rfl⟩ := ownR_val hown4
          have HO4 := Lib.hid (show w4.ownsRow ws_.heap.size 131 2 (.slice A3 15 c3) 15 (prs (cornN o r a 3)) by rw [show cornN o r a 3 = cornN o r a 2 ++ cornK o r a 2 from rfl, prs_app]; exact hown4)
          have HB4 := Lib.hid (HBA.out.grown hgr4 HBA.out.size (fun q hq => (ownR_lt HOy.out hq).1))
          clear hown4 hgr4 HOy HL HBA a0_ a1_ o0 o1 r0 r1 e1 e2 e3 HOw HB
          go_wp2
          go_roundw
          case rel => exact ⟨_, rfl, 3, A3, c3, by omega, rfl, rfl, HO4, HB4⟩
          case measure => simp [intOf]
        · simp only [Nat.reduceMul] at HOw ⊢
          rw [show (((3 : Nat) : Nat) : Int) = 3 from rfl]
          have e1 : IntKind.i64.wrap (o.2 + r.2) = o.2 + r.2 := IntWalk.i64_in _ (by omega)
          have e2 : IntKind.i64.wrap (m1 - r.2) = m1 - r.2 := IntWalk.i64_in _ (by omega)
          have e3 : IntKind.i64.wrap (a0.2 - r.2) = a0.2 - r.2 := IntWalk.i64_in _ (by omega)
          go_wp2_with fail
          go_quiet (fail)
          rename_i nq
          obtain ⟨wy, hwy⟩ : ∃ wy, wy = wr.drewN nq := ⟨_, rfl⟩
          rw [← hwy]
          have hby : Below wr.heap.size wr wy := by rw [hwy]; exact below_drewN (Below.refl _ _) nq
          clear hwy a0_ a1_ o0 o1 r0 r1
          have hO7 := keepO hby hO7
          have hO8 := keepO hby hO8
          have hO9 := keepO hby hO9
          obtain ⟨a0_, a1_, -, -⟩ := two_facts hO8
          obtain ⟨o0, o1, -, -⟩ := two_facts hO7
          obtain ⟨r0, r1, -, -⟩ := two_facts hO9
          have hbA : Below wr.heap.size wr (wy.alloc (.cells #[.int .i64 o.2, .int .i64 (o.2 + r.2), .int .i64 o.2, .int .i64 m1, .int .i64 o.2, .int .i64 a0.2, .int .i64 (m1 - r.2), .int .i64 m1, .int .i64 (a0.2 - r.2), .int .i64 a0.2] 131)) := hby.alloc hby.size _
          have HOy := Lib.hid (ownR_below HOw.out hbA)
          have HL : Hid (Reads (wy.alloc (.cells #[.int .i64 o.2, .int .i64 (o.2 + r.2), .int .i64 o.2, .int .i64 m1, .int .i64 o.2, .int .i64 a0.2, .int .i64 (m1 - r.2), .int .i64 m1, .int .i64 (a0.2 - r.2), .int .i64 a0.2] 131)) (wy.alloc (.cells #[.int .i64 o.2, .int .i64 (o.2 + r.2), .int .i64 o.2, .int .i64 m1, .int .i64 o.2, .int .i64 a0.2, .int .i64 (m1 - r.2), .int .i64 m1, .int .i64 (a0.2 - r.2), .int .i64 a0.2] 131)).heap.size 2 (some ⟨wy.heap.size, 0, none⟩) 5 (prs (cornK o r a 3))) := by
            show Reads _ _ _ _ _ _
            rw [haH.out, show prs (cornK o r (m1, a0.2) 3) = [.int .i64 o.2, .int .i64 (o.2 + r.2), .int .i64 o.2, .int .i64 m1, .int .i64 o.2, .int .i64 a0.2, .int .i64 (m1 - r.2), .int .i64 m1, .int .i64 (a0.2 - r.2), .int .i64 a0.2] from rfl]
            exact rd_cells (heap_alloc_new wy _) rfl
          have HBA := Lib.hid (below_via HB.out HB.out.size hbA)
          clear hO7 hO8 hO9 hby hbA
          go_wp2_with (first | (at_builtin; refine wpList_app _ rfl _ _ 128 rfl ws_.heap.size 131 ip _ 2 16 Tryd.underlying128 hip hz0 hz1 hz2 rfl (by decide) (.slice A2 15 c2) 15 (prs (cornN o r a 3)) rfl HOy.out _ (some ⟨wy.heap.size, 0, none⟩) 5 5 (prs (cornK o r a 3)) rfl HL.out (prs_one _) ?c3 ?c4 ?c5 ?_))
          case c3 => unfold maxLen; omega
          case c4 => omega
          case c5 => exact HBA.out.size
          intro v5 w4 hown4 hgr4 hat4
          clear hat4
          obtain ⟨A3, c3, rfl⟩ := ownR_val hown4
          have HO4 := Lib.hid (show w4.ownsRow ws_.heap.size 131 2 (.slice A3 20 c3) 20 (prs (cornN o r a 4)) by rw [show cornN o r a 4 = cornN o r a 3 ++ cornK o r a 3 from rfl, prs_app]; exact hown4)
          have HB4 := Lib.hid (HBA.out.grown hgr4 HBA.out.size (fun q hq => (ownR_lt HOy.out hq).1))
          clear hown4 hgr4 HOy HL HBA a0_ a1_ o0 o1 r0 r1 e1 e2 e3 HOw HB
          go_wp2
          go_roundw
          case rel => exact ⟨_, rfl, 4, A3, c3, by omega, rfl, rfl, HO4, HB4⟩
          case measure => simp [intOf]
      · obtain rfl : k = 4 := by omega
        have hki : ¬ (4 : Int) < 4 := by omega
        simp only [Nat.reduceMul] at HOw ⊢
        rw [show (((4 : Nat) : Nat) : Int) = 4 from rfl]
        obtain ⟨L, hL⟩ : ∃ L, L = cornN o r a 4 := ⟨_, rfl⟩
        rw [← hL] at HOw
        have hLh := Lib.hid hL
        clear hL
        have HRL := Lib.hid (Reads.of_own HOw.out)
        have hLn : Hid (L.length = 20) := HRL.out.pr_len
        have HXr := Lib.hid (And.intro (keepO HB.out HX.out.1) (And.intro (keepO HB.out HX.out.2.1) (keepO HB.out HX.out.2.2.1)))
        have HBr := Lib.hid (HX.out.2.2.2.trans (HB.out.mono HX.out.2.2.2.size))
        clear HX HB HOw
        go_wp2_with fail
        go_loopw [11, 83] (fun vO vj wz => ∃ wl, wl = wz ∧ ∃ j A3 m c3, j ≤ 20 ∧ m ≤ j ∧ vO = .slice A3 m c3 ∧ vj = .int .i64 (j : Nat) ∧ Hid (wl.ownsRow wr.heap.size 131 2 (.slice A3 m c3) m (prs ((L.take j).filter (okC o r a)))) ∧ Hid (Below wr.heap.size wr wl)) (fun _ vj _ => 20 - (intOf vj).toNat)
        case atStart => exact ⟨_, rfl, 0, none, 0, 0, by omega, by omega, rfl, rfl, Lib.hid (World.ownsRow_nil _ _ _ _), Lib.hid (Below.refl _ _)⟩
        case round =>
          obtain ⟨wz, rfl, j, A3, m, c3, hj20, hmj, rfl, rfl, HOz, HBz⟩ := hrel
          by_cases hj : j < 20
          · have hji : (j : Int) < 20 := by omega
            have j0 : (0 : Int) ≤ (j : Int) := by omega
            obtain ⟨bA, oA, x, rfl, hbA, hx, y0, y1⟩ := (HRL.out.below HBz.out).pr hj
            have hst := Lib.hid (filt_step (okC o r a) hx)
            have hok := Lib.hid (okC_rng o r x m1 a0.2)
            rw [← haH.out] at hok
            clear hx
            obtain ⟨zx, hzx⟩ : ∃ z, z = wz.alloc (.cells #[.int .i64 x.1, .int .i64 x.2] 131) := ⟨_, rfl⟩
            have hbx : Below wz.heap.size wz zx := by rw [hzx]; exact (Below.refl _ _).alloc (Nat.le_refl _) _
            have HBx := Lib.hid (below_via HBz.out HBz.out.size hbx)
            have HOx := Lib.hid (ownR_below HOz.out hbx)
            have HZx : Hid (zx.heap[wz.heap.size]? = some (.cells #[.int .i64 x.1, .int .i64 x.2] 131 (0, 0))) := by show _ = _; rw [hzx]; exact heap_alloc_new wz _
            have hO7 := keepO HBx.out HXr.out.1
            have hO8 := keepO HBx.out HXr.out.2.1
            have hO9 := keepO HBx.out HXr.out.2.2
            obtain ⟨a0_, a1_, -, -⟩ := two_facts hO8
            obtain ⟨o0, o1, -, -⟩ := two_facts hO7
            obtain ⟨r0, r1, -, -⟩ := two_facts hO9
            obtain ⟨x0, x1, -, -⟩ := two_facts HZx.out
            have HF := Lib.hid (And.intro a0_ (And.intro a1_ (And.intro o0 (And.intro o1 (And.intro r0 (And.intro r1 (And.intro x0 x1)))))))
            rw [hzx] at o0 o1 x0
            have hzxh := Lib.hid hzx
            clear hzx hbx hO7 hO8 hO9 HOz HBz a0_ a1_ r0 r1 x1
            go_wp2_with fail
            rw [← hzxh.out]
            clear o0 o1 x0 y0 y1
            refine (withinR x.1 o.1 o.2 zx).mono ?_
            rintro e z1 ⟨rfl, rfl⟩
            cases h1 : rng o.1 o.2 x.1
            · have hno : Hid (okC o r a x = false) := by show _ = _; rw [hok.out, h1]; rfl
              clear h1
              have HO4 := Lib.hid (show z1.ownsRow wr.heap.size 131 2 (.slice A3 m c3) m (prs ((L.take (j + 1)).filter (okC o r a))) by rw [hst.out, hno.out, if_neg (by decide), List.append_nil]; exact HOx.out)
              clear HOx HF HZx hzxh hst hok
              go_wp2
              go_roundw
              case rel => exact ⟨_, rfl, j + 1, A3, m, c3, by omega, by omega, rfl, by go_num, HO4, HBx⟩
              case measure => simp [intOf]; omega
            have hR1 := rng_iff h1
            have h1h := Lib.hid h1
            clear h1
            obtain ⟨a0_, a1_, o0, o1, r0, r1, x0, x1⟩ := HF.out
            go_wp2_with fail
            refine (withinR x.2 m1 a0.2 z1).mono ?_
            rintro e z2 ⟨rfl, rfl⟩
            cases h2 : rng m1 a0.2 x.2
            · have hno : Hid (okC o r a x = false) := by show _ = _; rw [hok.out, h1h.out, h2]; rfl
              clear h2 a0_ a1_ o0 o1 r0 r1 x0 x1
              have HO4 := Lib.hid (show z2.ownsRow wr.heap.size 131 2 (.slice A3 m c3) m (prs ((L.take (j + 1)).filter (okC o r a))) by rw [hst.out, hno.out, if_neg (by decide), List.append_nil]; exact HOx.out)
              clear HOx HF HZx hzxh hst hok
              go_wp2
              go_roundw
              case rel => exact ⟨_, rfl, j + 1, A3, m, c3, by omega, by omega, rfl, by go_num, HO4, HBx⟩
              case measure => simp [intOf]; omega
            have hR2 := rng_iff h2
            have h2h := Lib.hid h2
            clear h2
            have e1 : IntKind.i64.wrap (x.2 - x.1) = x.2 - x.1 := IntWalk.i64_in _ (by omega)
            go_wp2_with fail
            refine (withinR (x.2 - x.1) r.1 r.2 z2).mono ?_
            rintro e z3 ⟨rfl, rfl⟩
            cases h3 : rng r.1 r.2 (x.2 - x.1)
            · have hno : Hid (okC o r a x = false) := by show _ = _; rw [hok.out, h1h.out, h2h.out, h3]; rfl
              clear h3 a0_ a1_ o0 o1 r0 r1 x0 x1
              have HO4 := Lib.hid (show z3.ownsRow wr.heap.size 131 2 (.slice A3 m c3) m (prs ((L.take (j + 1)).filter (okC o r a))) by rw [hst.out, hno.out, if_neg (by decide), List.append_nil]; exact HOx.out)
              clear HOx HF HZx hzxh hst hok
              go_wp2
              go_roundw
              case rel => exact ⟨_, rfl, j + 1, A3, m, c3, by omega, by omega, rfl, by go_num, HO4, HBx⟩
              case measure => simp [intOf]; omega
            have hyes : Hid (okC o r a x = true) := by show _ = _; rw [hok.out, h1h.out, h2h.out, h3]; rfl
            clear h3
            have hbA2 : Below z3.heap.size z3 (z3.alloc (.cells #[.int .i64 x.1, .int .i64 x.2] 131)) := (Below.refl _ _).alloc (Nat.le_refl _) _
            have HOy := Lib.hid (ownR_below HOx.out hbA2)
            have HL : Hid (Reads (z3.alloc (.cells #[.int .i64 x.1, .int .i64 x.2] 131)) (z3.alloc (.cells #[.int .i64 x.1, .int .i64 x.2] 131)).heap.size 2 (some ⟨z3.heap.size, 0, none⟩) 1 (prs [x])) := by
              show Reads _ _ _ _ _ _
              rw [show prs [x] = [.int .i64 x.1, .int .i64 x.2] from rfl]
              exact rd_cells (heap_alloc_new z3 _) rfl
            have HBA := Lib.hid (below_via HBx.out HBx.out.size hbA2)
            clear hbA2 a0_ a1_ o0 o1 r0 r1
            go_wp2_with (first | (at_builtin; refine wpList_app _ rfl _ _ 128 rfl wr.heap.size 131 ip _ 2 16 Tryd.underlying128 hip hz0 hz1 hz2 rfl (by decide) (.slice A3 m c3) m (prs ((L.take j).filter (okC o r a))) rfl HOy.out _ (some ⟨z3.heap.size, 0, none⟩) 1 1 (prs [x]) rfl HL.out (prs_one _) ?c3 ?c4 ?c5 ?_))
            case c3 => unfold maxLen; omega
            case c4 => omega
            case c5 => exact HBA.out.size
            intro v5 w4 hown4 hgr4 hat4
            clear hat4
            obtain ⟨A4, c4, rfl⟩ := ownR_val hown4
            have HO4 := Lib.hid (show w4.ownsRow wr.heap.size 131 2 (.slice A4 (m + 1) c4) (m + 1) (prs ((L.take (j + 1)).filter (okC o r a))) by rw [hst.out, hyes.out, if_pos rfl, prs_app]; exact hown4)
            have HB4 := Lib.hid (HBA.out.grown hgr4 HBA.out.size (fun q hq => (ownR_lt HOy.out hq).1))
            clear hown4 hgr4 HOy HL HBA e1 x0 x1 HOx HBx
            go_wp2
            go_roundw
            case rel => exact ⟨_, rfl, j + 1, A4, m + 1, c4, by omega, by omega, rfl, by go_num, HO4, HB4⟩
            case measure => simp [intOf]; omega
          · obtain rfl : j = 20 := by omega
            have hji : ¬ (20 : Int) < 20 := by omega
            rw [show (((20 : Nat) : Nat) : Int) = 20 from rfl]
            have hfin : Hid ((L.take 20).filter (okC o r a) = corn o r a) := by show _ = _; rw [List.take_of_length_le (by rw [hLn.out]; omega), hLh.out]; rfl
            have HOf := Lib.hid (Go.Joins.ownsRow_le HOz.out HBr.out.size)
            have HBf := Lib.hid (below_via HBr.out HBr.out.size HBz.out)
            clear HOz HBz HRL HXr HBr
            go_wp2
            go_ret
            refine ⟨⟨A3, m, c3, rfl, ?_⟩, HBf.out⟩
            have hh := HOf.out
            rw [hfin.out, haH.out, ← hA1h.out] at hh
            exact hh
end Go.Proofs.YtoakeclpakjbiaaDoor
