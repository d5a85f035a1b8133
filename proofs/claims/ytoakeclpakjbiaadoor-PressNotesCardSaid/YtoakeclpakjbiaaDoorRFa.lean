/-
  The fewest weighings that must be false: the reference's, of how many on it is asked.
-/
import Derived.Test.YtoakeclpakjbiaaDoorTk
import Derived.Test.YtoakeclpakjbiaaDoorFal
import Derived.Test.YtoakeclpakjbiaaDoorRWo
import Derived.Test.YtoakeclpakjbiaaDoorPut
import Derived.Test.YtoakeclpakjbiaaDoorApp0
namespace Go.Proofs.YtoakeclpakjbiaaDoor
open Go.RowKit
set_option linter.unusedVariables false
set_option linter.unusedSimpArgs false

set_option maxRecDepth 100000 in
set_option maxHeartbeats 4000000 in
theorem struck_any (A A' : Option Addr) (n c n' c' : Nat) (ps : List PR) (ws : List WE) (hv : validP ps ws = true) :
    ∀ (mo f : Nat) (L : List Int) (A1 : Option Addr) (m c1 : Nat) (W : World), f ≤ n' → m + mo ≤ 3 → Reads W W.heap.size 4 A n (pgs ps) → Reads W W.heap.size 5 A' n' (wgs ws) → Reads W W.heap.size 1 A1 m (ints L) → Laid W →
      Calls Tryd.prog 77 #[.agg #[.slice A n c, .slice A' n' c'], .int .i64 (mo : Nat), .int .i64 (f : Nat), .slice A1 m c1] W fun e W' =>
        (∃ Ar mr cr, e = .returned (.tuple #[.slice Ar mr cr, .bool (strk ps ws mo f L).isSome]) ∧ (∀ r, strk ps ws mo f L = some r → mr ≤ 3 ∧ Reads W' W'.heap.size 1 Ar mr (ints r))) ∧ Below W.heap.size W W'
  | 0, f, L, A1, m, c1, W, hf, hm, hR, hW, hL, hLd => by
    have hl : ps.length = n := hR.pg_len
    have hn10 : n ≤ 10 := by have := (valid_facts hv).n10; omega
    have hn30 : n' ≤ 30 := by have := (valid_facts hv).m30; have := hW.wg_len; omega
    have hb0 : Below W.heap.size W (W.alloc (.cells #[.slice A n c, .slice A' n' c'] 25)) := (Below.refl _ _).alloc (Nat.le_refl _) _
    have HWo := Lib.hid (rwithout_any A A' n c n' c' ps ws A1 m c1 L (W.alloc (.cells #[.slice A n c, .slice A' n' c'] 25)) (by omega) (by omega) (by omega) ((hR.below hb0).more hb0.size) ((hW.below hb0).more hb0.size) ((hL.below hb0).more hb0.size) (hLd.below hb0 hLd.2.2.2))
    have hvl := Lib.hid (valid_less L hv)
    have HL := Lib.hid (fun z (hz : Below W.heap.size W z) => (hL.below hz).more hz.size)
    have HB0 := Lib.hid hb0
    clear hR hW hL hLd hb0
    go_enter Tryd.func77, Tryd.ntmps77
    go_wp2_with fail
    refine HWo.out.mono ?_
    rintro e x1 ⟨Aw1, cw1, Aw2, m2, cw2, rfl, ho1, ho2, hx1⟩
    have HB1 := Lib.hid (below_via HB0.out HB0.out.size hx1)
    have HT := Lib.hid (RTrue_any Aw1 Aw2 n cw1 m2 cw2 ps (lessW ws L) x1 (Reads.of_own ho1) (Reads.of_own ho2) hvl.out)
    clear ho1 ho2 hx1 HWo
    go_wp2_with fail
    refine HT.out.mono ?_
    rintro e x2 ⟨rfl, hb⟩
    have HB2 := Lib.hid (below_via HB1.out HB1.out.size hb)
    have hst := Lib.hid (strk_0 (ps := ps) (ws := ws) f L)
    clear hb HT
    generalize hasT ps (lessW ws L) = b at *
    go_wp2
    refine bodyPost_ret (v := .tuple #[.slice A1 m c1, .bool b]) (by simp [results, Tryd.results77, go_sem]) rfl ⟨⟨A1, m, c1, by rw [hst.out]; cases b <;> rfl, fun r h => ?_⟩, HB2.out⟩
    rw [hst.out] at h
    cases b with
    | false => cases h
    | true => cases h; exact ⟨by omega, HL.out _ HB2.out⟩
  | mo + 1, f, L, A1, m, c1, W, hf, hm, hR, hW, hL, hLd => by
    have ih := Lib.hid (struck_any A A' n c n' c' ps ws hv mo)
    obtain ⟨i0, hi, hz0, hz1, hz2⟩ := info_parts info_int
    have hn30 : n' ≤ 30 := by have := (valid_facts hv).m30; have := hW.wg_len; omega
    have hwl : Hid (ws.length = n') := hW.wg_len
    have HRd := Lib.hid (fun z (hz : Below W.heap.size W z) => (hR.below hz).more hz.size)
    have HWd := Lib.hid (fun z (hz : Below W.heap.size W z) => (hW.below hz).more hz.size)
    have HLd := Lib.hid (fun z (hz : Below W.heap.size W z) => (hL.below hz).more hz.size)
    have HLa := Lib.hid (fun z (hz : Below W.heap.size W z) => hLd.below hz hLd.2.2.2)
    obtain ⟨M, hM⟩ : ∃ M : Int, M = ((mo + 1 : Nat) : Int) := ⟨_, rfl⟩
    rw [← hM]
    have hM1 : 1 ≤ M ∧ M ≤ 3 := by omega
    have hmo : ¬ M = 0 := by omega
    have hmb : (M == 0) = false := by simpa using hmo
    have e1 : IntKind.i64.wrap (M - 1) = (mo : Int) := by rw [IntWalk.i64_in _ (by omega)]; omega
    have hb0 : Hid (Below W.heap.size W (W.alloc (.cells #[.slice A n c, .slice A' n' c'] 25))) := Lib.hid ((Below.refl _ _).alloc (Nat.le_refl _) _)
    have hO0 := Lib.hid (heap_alloc_new W (.cells #[.slice A n c, .slice A' n' c'] 25))
    clear hR hW hL hLd hM hv
    go_enter Tryd.func77, Tryd.ntmps77
    go_wp2_with fail
    generalize (W.alloc (.cells #[.slice A n c, .slice A' n' c'] 25)) = wb at *
    have HOp := Lib.hid (fun z (hz : Below wb.heap.size wb z) => keepO hz hO0.out)
    go_loopw [10] (fun v wr => ∃ wl, wl = wr ∧ ∃ i : Nat, f ≤ i ∧ i ≤ n' ∧ v = .int .i64 i ∧ Hid (Below wb.heap.size wb wl) ∧ Hid (strk ps ws (mo + 1) f L = strk ps ws (mo + 1) i L)) (fun v _ => n' - (intOf v).toNat)
    case atStart => exact ⟨_, rfl, f, Nat.le_refl _, hf, rfl, Lib.hid (Below.refl _ _), Lib.hid rfl⟩
    case round =>
      obtain ⟨wq, rfl, i, hfi, hin, rfl, HBb, hrel⟩ := hrel
      have HBr := Lib.hid (below_via hb0.out hb0.out.size HBb.out)
      have hOq := HOp.out _ HBb.out
      obtain ⟨r0, r1, -, -⟩ := two_facts hOq
      have hlq : W.heap.size < wq.heap.size := (Array.getElem?_eq_some_iff.1 hOq).1
      by_cases hi' : i < n'
      · have hii : (i : Int) < (n' : Int) := by omega
        have i0i : (0 : Int) ≤ (i : Int) := by omega
        obtain ⟨bw, ow, N, P, K, Lo, Hi, rfl, hbw, hx, y0, -, -, -, -⟩ := (HWd.out _ HBr.out).wg hi'
        have hnum := nmW_at hx
        simp only at hnum
        have hmiss := Lib.hid (fun h => strk_miss (ps := ps) mo L (f := i) (by rw [hwl.out]; exact hi') h)
        have hhit := Lib.hid (fun r h => strk_hit (ps := ps) mo L (f := i) (by rw [hwl.out]; exact hi') (r := r) h)
        rw [hnum] at hmiss hhit
        have e2 : IntKind.i64.wrap ((i : Int) + 1) = ((i + 1 : Nat) : Int) := by rw [IntWalk.i64_in _ (by omega)]; omega
        have HLr := Lib.hid (fun z (hz : Hid (Kp wq.heap.size [] wq z)) => (HLd.out z (HBr.out.trans (hz.out.below HBr.out.size (by simp))) : Reads z z.heap.size 1 A1 m (ints L)))
        have HREC := Lib.hid (fun (A3 : Option Addr) (c3 : Nat) (z : World) (hz : Below W.heap.size W z) (ho : z.ownsRow wq.heap.size 3 1 (.slice A3 (m + 1) c3) (m + 1) (ints L ++ ints [N])) =>
          ih.out (i + 1) (L ++ [N]) A3 (m + 1) c3 z (by omega) (by omega) (HRd.out z hz) (HWd.out z hz) (by have := Reads.of_own ho; simpa [ints] using this) (HLa.out z hz))
        replace HOp := Lib.hid (fun z (hz : Below W.heap.size W z) (hz2 : Below wq.heap.size wq z) => keepO hz2 hOq)
        clear hx hnum
        go_wp2_with fail
        have HQ := Lib.hid (fun w' (hz : Hid (Kp wq.heap.size [] wq w')) => (⟨(hz.out.cell (by simp only; omega) (by simp; try omega)).trans r1, (hz.out.cell (by simp only; omega) (by simp; try omega)).trans y0⟩ : w'.cell? ⟨W.heap.size, 1, none⟩ = some (.slice (some ⟨bw, ow, none⟩) n' c') ∧ w'.cell? ⟨bw, ow + i * 5, none⟩ = some (.int .i64 N)))
        obtain ⟨S, hSd⟩ : ∃ S : World → Prop, S = fun w' => (w'.cell? ⟨W.heap.size, 1, none⟩ = some (.slice (some ⟨bw, ow, none⟩) n' c') ∧ w'.cell? ⟨bw, ow + i * 5, none⟩ = some (.int .i64 N)) ∧ Hid (Kp wq.heap.size [] wq w') := ⟨_, rfl⟩
        have HS := Lib.hid (fun w' (hz : Hid (Kp wq.heap.size [] wq w')) => (by rw [hSd]; exact ⟨HQ.out w' hz, hz⟩ : S w'))
        clear r0 r1 y0 hOq
        refine wp_region_held_drew (S := S) (by kernel_rfl) ?_ (fun hHeld => ?_)
        · exact HS.out _ (Lib.hid (Kp.refl _ _ _).drew)
        have hKyd : Hid (Kp wq.heap.size [] wq wq.drew) := Lib.hid (Kp.refl _ _ _).drew
        have hSyd : wq.heap.size ≤ wq.drew.heap.size := Nat.le_refl _
        generalize wq.drew = yd at *
        refine tY (v := ?_) 1 30 ?_ ?_
        rotate_left
        · intro w hSw; rw [hSd] at hSw; obtain ⟨⟨q1, q2⟩, -⟩ := hSw; go_simp; (try with_reducible rfl)
        try simp only [N0]
        refine tY (v := ?_) 3 32 ?_ ?_
        rotate_left
        · intro w hSw; rw [hSd] at hSw; obtain ⟨⟨q1, q2⟩, -⟩ := hSw; go_simp; (try with_reducible rfl)
        try simp only [N0]
        refine tY (v := ?_) 4 33 ?_ ?_
        rotate_left
        · intro w hSw; rw [hSd] at hSw; obtain ⟨⟨q1, q2⟩, -⟩ := hSw; go_simp; (try with_reducible rfl)
        try simp only [N0]
        refine tY (v := ?_) 5 34 ?_ ?_
        rotate_left
        · intro w hSw; rw [hSd] at hSw; obtain ⟨⟨q1, q2⟩, -⟩ := hSw; go_simp; (try with_reducible rfl)
        try simp only [N0]
        refine tY (v := ?_) 6 35 ?_ ?_
        rotate_left
        · intro w hSw; rw [hSd] at hSw; obtain ⟨⟨q1, q2⟩, -⟩ := hSw; go_simp; (try with_reducible rfl)
        try simp only [N0]
        refine tY (v := ?_) 7 36 ?_ ?_
        rotate_left
        · intro w hSw; rw [hSd] at hSw; obtain ⟨⟨q1, q2⟩, -⟩ := hSw; go_simp; (try with_reducible rfl)
        try simp only [N0]
        refine tY (v := ?_) 8 37 ?_ ?_
        rotate_left
        · intro w hSw; rw [hSd] at hSw; obtain ⟨⟨q1, q2⟩, -⟩ := hSw; go_simp; (try with_reducible rfl)
        try simp only [N0]
        refine wpAnyH_ready (rs := [0, 9]) (by kernel_rfl) (by simp) ?_
        refine AllReadyH.cons (o := _) rfl (fun Kq hK => ?_) ?_
        · have HOE : Hid ((yd.alloc (.cells #[] 3)).ownsRow wq.heap.size 3 1 (.slice (some ⟨yd.heap.size, 0, none⟩) 0 0) 0 []) := World.ownsRow_lit yd #[] 0 hSyd (by unfold maxLen; omega) rfl
          go_simp
          have hOe := heap_alloc_new yd (.cells #[] 3)
          have hobe := hSyd
          have hKz0yd := Lib.hid (hKyd.out.alloc hSyd (.cells #[] 3))
          have hSz0yd := Nat.le_trans hSyd ((Below.refl yd.heap.size yd).alloc (Nat.le_refl _) (.cells #[] 3)).size
          generalize (yd.alloc (.cells #[] 3)) = z0yd at *
          refine hK.out _ _ ?_ (fun hHeld => ?_)
          · exact HS.out _ hKz0yd
          clear hK Kq
          try simp only [N0]
          refine wpAnyH_ready (rs := [2, 9]) (by kernel_rfl) (by simp) ?_
          refine AllReadyH.cons (o := _) rfl (fun Kq hK => ?_) ?_
          · refine step_app _ rfl _ _ 51 rfl wq.heap.size 3 i0 _ 1 8 Tryd.underlying51 hi hz0 hz1 hz2 rfl (by decide) (.slice (some ⟨yd.heap.size, 0, none⟩) 0 0) 0 [] rfl HOE.out z0yd.heap.size A1 m c1 (ints L) rfl (HLr.out _ hKz0yd) (ints_one _) (by unfold maxLen; omega) (by omega) hSz0yd ?_
            intro v' a2z0yd hown hgr hat
            clear hat
            obtain ⟨A2, c2, rfl⟩ := ownR_val hown
            have hKa2z0yd := Lib.hid (hKz0yd.out.grown hgr hSz0yd (fun q hq => Or.inr (ownR_lt HOE.out hq).1))
            have hSa2z0yd := Nat.le_trans hSz0yd hgr.size
            rw [Nat.zero_add, List.nil_append] at hown
            have HO1 := Lib.hid hown
            clear hown hgr
            try rw [Nat.zero_add]
            refine hK.out _ _ ?_ (fun hHeld => ?_)
            · exact HS.out _ hKa2z0yd
            clear hK Kq
            try simp only [N0]
            refine wpAnyH_ready (rs := [9]) (by kernel_rfl) (by simp) ?_
            refine AllReadyH.cons (o := _) rfl (fun Kq hK => ?_) AllReadyH.nil
            have hNE := (Array.getElem?_eq_some_iff.1 hOe).1
            replace HO1 := Lib.hid (ownR_below HO1.out ((Below.refl a2z0yd.heap.size a2z0yd).alloc (Nat.le_refl _) (.cells #[.int .i64 N] 3)))
            go_simp
            have hOn := heap_alloc_new a2z0yd (.cells #[.int .i64 N] 3)
            have hobn := hSa2z0yd
            have hKz9a2z0yd := Lib.hid (hKa2z0yd.out.alloc hSa2z0yd (.cells #[.int .i64 N] 3))
            have hSz9a2z0yd := Nat.le_trans hSa2z0yd ((Below.refl a2z0yd.heap.size a2z0yd).alloc (Nat.le_refl _) (.cells #[.int .i64 N] 3)).size
            generalize (a2z0yd.alloc (.cells #[.int .i64 N] 3)) = z9a2z0yd at *
            refine hK.out _ _ ?_ (fun hHeld => ?_)
            · exact HS.out _ hKz9a2z0yd
            clear hK Kq
            try simp only [N0]
            refine wpAnyH_ready (rs := [10]) (by kernel_rfl) (by simp) ?_
            refine AllReadyH.cons (o := _) rfl (fun Kq hK => ?_) AllReadyH.nil
            refine step_app _ rfl _ _ 51 rfl wq.heap.size 3 i0 _ 1 8 Tryd.underlying51 hi hz0 hz1 hz2 rfl (by decide) (.slice A2 m c2) m (ints L) rfl HO1.out _ (some ⟨a2z0yd.heap.size, 0, none⟩) 1 1 (ints [N]) rfl (rd_one hOn) (ints_one _) (by unfold maxLen; omega) (by omega) hSz9a2z0yd ?_
            intro v' b10z9a2z0yd hown hgr hat
            clear hat
            obtain ⟨A3, c3, rfl⟩ := ownR_val hown
            have hKb10z9a2z0yd := Lib.hid (hKz9a2z0yd.out.grown hgr hSz9a2z0yd (fun q hq => Or.inr (ownR_lt HO1.out hq).1))
            have hSb10z9a2z0yd := Nat.le_trans hSz9a2z0yd hgr.size
            have HO2 := Lib.hid hown
            clear hown hgr
            refine hK.out _ _ ?_ (fun hHeld => ?_)
            · exact HS.out _ hKb10z9a2z0yd
            clear hK Kq
            try simp only [N0]
            refine wpAnyH_ready (rs := [11]) (by kernel_rfl) (by simp) ?_
            refine AllReadyH.cons (o := _) rfl (fun Kq hK => ?_) AllReadyH.nil
            go_simp
            refine hK.out _ _ ?_ (fun hHeld => ?_)
            · exact HS.out _ hKb10z9a2z0yd
            clear hK Kq
            try simp only [N0]
            refine wpAnyH_done (by kernel_rfl) ?_ _
            clear HS HQ hSd
            have HBz := Lib.hid (HBr.out.trans (hKb10z9a2z0yd.out.below (B' := W.heap.size) HBr.out.size (by simp)))
            have hBk := hKb10z9a2z0yd.out.below (B' := wq.heap.size) (Nat.le_refl _) (by simp)
            have HR1 := Lib.hid (HREC.out A3 c3 b10z9a2z0yd HBz.out HO2.out)
            have hO1 := HOp.out _ HBz.out hBk
            obtain ⟨o0, o1, -, -⟩ := two_facts hO1
            clear HREC HLr hO1 HOp
            go_wp2_with fail
            refine HR1.out.mono ?_
            rintro e wz ⟨⟨Ar, mr, cr, rfl, hrr⟩, hb⟩
            have HBw := Lib.hid (HBz.out.trans (hb.mono HBz.out.size))
            have HBw2 := Lib.hid (below_via HBb.out HBb.out.size (below_via hBk hBk.size hb))
            obtain ⟨bb, hbb_⟩ : ∃ x, x = (strk ps ws mo (i + 1) (L ++ [N])).isSome := ⟨_, rfl⟩
            rw [← hbb_]
            have hbb := Lib.hid hbb_
            have hrh := Lib.hid hrr
            clear hbb_ hrr hb o0 o1 HR1
            cases bb
            · have hs : strk ps ws mo (i + 1) (L ++ [N]) = none := by
                have h := hbb.out
                cases h2 : strk ps ws mo (i + 1) (L ++ [N]) with
                | none => rfl
                | some r => rw [h2] at h; cases h
              have hst := Lib.hid (hrel.out.trans (hmiss.out hs))
              clear hs hmiss hhit hbb hrh
              go_wp2
              go_roundw
              case rel => exact ⟨_, rfl, i + 1, by omega, by omega, by go_num, HBw2, hst⟩
              case measure => simp [intOf]; omega
            · obtain ⟨r, hs⟩ : ∃ r, strk ps ws mo (i + 1) (L ++ [N]) = some r := by
                have h := hbb.out
                cases h2 : strk ps ws mo (i + 1) (L ++ [N]) with
                | none => rw [h2] at h; cases h
                | some r => exact ⟨r, rfl⟩
              have hst := Lib.hid (hrel.out.trans (hhit.out r hs))
              have hrd := Lib.hid (hrh.out r hs)
              clear hs hmiss hhit hbb hrh
              go_wp2
              exact bodyPost_ret (v := .tuple #[.slice Ar mr cr, .bool true]) (by simp [results, Tryd.results77, go_sem]) rfl ⟨⟨Ar, mr, cr, by rw [hst.out]; rfl, fun r' h => by (rw [hst.out] at h; cases h; exact hrd.out)⟩, HBw.out⟩
          refine AllReadyH.cons (o := _) rfl (fun Kq hK => ?_) AllReadyH.nil
          have hNE := (Array.getElem?_eq_some_iff.1 hOe).1
          replace HOE := Lib.hid (ownR_below HOE.out ((Below.refl z0yd.heap.size z0yd).alloc (Nat.le_refl _) (.cells #[.int .i64 N] 3)))
          go_simp
          have hOn := heap_alloc_new z0yd (.cells #[.int .i64 N] 3)
          have hobn := hSz0yd
          have hOe := keepO ((Below.refl z0yd.heap.size z0yd).alloc (Nat.le_refl _) (.cells #[.int .i64 N] 3)) hOe
          have hKz9z0yd := Lib.hid (hKz0yd.out.alloc hSz0yd (.cells #[.int .i64 N] 3))
          have hSz9z0yd := Nat.le_trans hSz0yd ((Below.refl z0yd.heap.size z0yd).alloc (Nat.le_refl _) (.cells #[.int .i64 N] 3)).size
          generalize (z0yd.alloc (.cells #[.int .i64 N] 3)) = z9z0yd at *
          refine hK.out _ _ ?_ (fun hHeld => ?_)
          · exact HS.out _ hKz9z0yd
          clear hK Kq
          try simp only [N0]
          refine wpAnyH_ready (rs := [2]) (by kernel_rfl) (by simp) ?_
          refine AllReadyH.cons (o := _) rfl (fun Kq hK => ?_) AllReadyH.nil
          refine step_app _ rfl _ _ 51 rfl wq.heap.size 3 i0 _ 1 8 Tryd.underlying51 hi hz0 hz1 hz2 rfl (by decide) (.slice (some ⟨yd.heap.size, 0, none⟩) 0 0) 0 [] rfl HOE.out z9z0yd.heap.size A1 m c1 (ints L) rfl (HLr.out _ hKz9z0yd) (ints_one _) (by unfold maxLen; omega) (by omega) hSz9z0yd ?_
          intro v' a2z9z0yd hown hgr hat
          clear hat
          obtain ⟨A2, c2, rfl⟩ := ownR_val hown
          have hKa2z9z0yd := Lib.hid (hKz9z0yd.out.grown hgr hSz9z0yd (fun q hq => Or.inr (ownR_lt HOE.out hq).1))
          have hSa2z9z0yd := Nat.le_trans hSz9z0yd hgr.size
          have hOn := (hgr.block _ (Array.getElem?_eq_some_iff.1 hOn).1 (fun e => by simp [Value.ownBlock] at e; omega)).trans hOn
          rw [Nat.zero_add, List.nil_append] at hown
          have HO1 := Lib.hid hown
          clear hown hgr
          try rw [Nat.zero_add]
          refine hK.out _ _ ?_ (fun hHeld => ?_)
          · exact HS.out _ hKa2z9z0yd
          clear hK Kq
          try simp only [N0]
          refine wpAnyH_ready (rs := [10]) (by kernel_rfl) (by simp) ?_
          refine AllReadyH.cons (o := _) rfl (fun Kq hK => ?_) AllReadyH.nil
          refine step_app _ rfl _ _ 51 rfl wq.heap.size 3 i0 _ 1 8 Tryd.underlying51 hi hz0 hz1 hz2 rfl (by decide) (.slice A2 m c2) m (ints L) rfl HO1.out _ (some ⟨z0yd.heap.size, 0, none⟩) 1 1 (ints [N]) rfl (rd_one hOn) (ints_one _) (by unfold maxLen; omega) (by omega) hSa2z9z0yd ?_
          intro v' b10a2z9z0yd hown hgr hat
          clear hat
          obtain ⟨A3, c3, rfl⟩ := ownR_val hown
          have hKb10a2z9z0yd := Lib.hid (hKa2z9z0yd.out.grown hgr hSa2z9z0yd (fun q hq => Or.inr (ownR_lt HO1.out hq).1))
          have hSb10a2z9z0yd := Nat.le_trans hSa2z9z0yd hgr.size
          have HO2 := Lib.hid hown
          clear hown hgr
          refine hK.out _ _ ?_ (fun hHeld => ?_)
          · exact HS.out _ hKb10a2z9z0yd
          clear hK Kq
          try simp only [N0]
          refine wpAnyH_ready (rs := [11]) (by kernel_rfl) (by simp) ?_
          refine AllReadyH.cons (o := _) rfl (fun Kq hK => ?_) AllReadyH.nil
          go_simp
          refine hK.out _ _ ?_ (fun hHeld => ?_)
          · exact HS.out _ hKb10a2z9z0yd
          clear hK Kq
          try simp only [N0]
          refine wpAnyH_done (by kernel_rfl) ?_ _
          clear HS HQ hSd
          have HBz := Lib.hid (HBr.out.trans (hKb10a2z9z0yd.out.below (B' := W.heap.size) HBr.out.size (by simp)))
          have hBk := hKb10a2z9z0yd.out.below (B' := wq.heap.size) (Nat.le_refl _) (by simp)
          have HR1 := Lib.hid (HREC.out A3 c3 b10a2z9z0yd HBz.out HO2.out)
          have hO1 := HOp.out _ HBz.out hBk
          obtain ⟨o0, o1, -, -⟩ := two_facts hO1
          clear HREC HLr hO1 HOp
          go_wp2_with fail
          refine HR1.out.mono ?_
          rintro e wz ⟨⟨Ar, mr, cr, rfl, hrr⟩, hb⟩
          have HBw := Lib.hid (HBz.out.trans (hb.mono HBz.out.size))
          have HBw2 := Lib.hid (below_via HBb.out HBb.out.size (below_via hBk hBk.size hb))
          obtain ⟨bb, hbb_⟩ : ∃ x, x = (strk ps ws mo (i + 1) (L ++ [N])).isSome := ⟨_, rfl⟩
          rw [← hbb_]
          have hbb := Lib.hid hbb_
          have hrh := Lib.hid hrr
          clear hbb_ hrr hb o0 o1 HR1
          cases bb
          · have hs : strk ps ws mo (i + 1) (L ++ [N]) = none := by
              have h := hbb.out
              cases h2 : strk ps ws mo (i + 1) (L ++ [N]) with
              | none => rfl
              | some r => rw [h2] at h; cases h
            have hst := Lib.hid (hrel.out.trans (hmiss.out hs))
            clear hs hmiss hhit hbb hrh
            go_wp2
            go_roundw
            case rel => exact ⟨_, rfl, i + 1, by omega, by omega, by go_num, HBw2, hst⟩
            case measure => simp [intOf]; omega
          · obtain ⟨r, hs⟩ : ∃ r, strk ps ws mo (i + 1) (L ++ [N]) = some r := by
              have h := hbb.out
              cases h2 : strk ps ws mo (i + 1) (L ++ [N]) with
              | none => rw [h2] at h; cases h
              | some r => exact ⟨r, rfl⟩
            have hst := Lib.hid (hrel.out.trans (hhit.out r hs))
            have hrd := Lib.hid (hrh.out r hs)
            clear hs hmiss hhit hbb hrh
            go_wp2
            exact bodyPost_ret (v := .tuple #[.slice Ar mr cr, .bool true]) (by simp [results, Tryd.results77, go_sem]) rfl ⟨⟨Ar, mr, cr, by rw [hst.out]; rfl, fun r' h => by (rw [hst.out] at h; cases h; exact hrd.out)⟩, HBw.out⟩
        refine AllReadyH.cons (o := _) rfl (fun Kq hK => ?_) AllReadyH.nil
        go_simp
        have hOn := heap_alloc_new yd (.cells #[.int .i64 N] 3)
        have hobn := hSyd
        have hKz9yd := Lib.hid (hKyd.out.alloc hSyd (.cells #[.int .i64 N] 3))
        have hSz9yd := Nat.le_trans hSyd ((Below.refl yd.heap.size yd).alloc (Nat.le_refl _) (.cells #[.int .i64 N] 3)).size
        generalize (yd.alloc (.cells #[.int .i64 N] 3)) = z9yd at *
        refine hK.out _ _ ?_ (fun hHeld => ?_)
        · exact HS.out _ hKz9yd
        clear hK Kq
        try simp only [N0]
        refine wpAnyH_ready (rs := [0]) (by kernel_rfl) (by simp) ?_
        refine AllReadyH.cons (o := _) rfl (fun Kq hK => ?_) AllReadyH.nil
        have hNE := (Array.getElem?_eq_some_iff.1 hOn).1
        have HOE : Hid ((z9yd.alloc (.cells #[] 3)).ownsRow wq.heap.size 3 1 (.slice (some ⟨z9yd.heap.size, 0, none⟩) 0 0) 0 []) := World.ownsRow_lit z9yd #[] 0 hSz9yd (by unfold maxLen; omega) rfl
        go_simp
        have hOe := heap_alloc_new z9yd (.cells #[] 3)
        have hobe := hSz9yd
        have hOn := keepO ((Below.refl z9yd.heap.size z9yd).alloc (Nat.le_refl _) (.cells #[] 3)) hOn
        have hKz0z9yd := Lib.hid (hKz9yd.out.alloc hSz9yd (.cells #[] 3))
        have hSz0z9yd := Nat.le_trans hSz9yd ((Below.refl z9yd.heap.size z9yd).alloc (Nat.le_refl _) (.cells #[] 3)).size
        generalize (z9yd.alloc (.cells #[] 3)) = z0z9yd at *
        refine hK.out _ _ ?_ (fun hHeld => ?_)
        · exact HS.out _ hKz0z9yd
        clear hK Kq
        try simp only [N0]
        refine wpAnyH_ready (rs := [2]) (by kernel_rfl) (by simp) ?_
        refine AllReadyH.cons (o := _) rfl (fun Kq hK => ?_) AllReadyH.nil
        refine step_app _ rfl _ _ 51 rfl wq.heap.size 3 i0 _ 1 8 Tryd.underlying51 hi hz0 hz1 hz2 rfl (by decide) (.slice (some ⟨z9yd.heap.size, 0, none⟩) 0 0) 0 [] rfl HOE.out z0z9yd.heap.size A1 m c1 (ints L) rfl (HLr.out _ hKz0z9yd) (ints_one _) (by unfold maxLen; omega) (by omega) hSz0z9yd ?_
        intro v' a2z0z9yd hown hgr hat
        clear hat
        obtain ⟨A2, c2, rfl⟩ := ownR_val hown
        have hKa2z0z9yd := Lib.hid (hKz0z9yd.out.grown hgr hSz0z9yd (fun q hq => Or.inr (ownR_lt HOE.out hq).1))
        have hSa2z0z9yd := Nat.le_trans hSz0z9yd hgr.size
        have hOn := (hgr.block _ (Array.getElem?_eq_some_iff.1 hOn).1 (fun e => by simp [Value.ownBlock] at e; omega)).trans hOn
        rw [Nat.zero_add, List.nil_append] at hown
        have HO1 := Lib.hid hown
        clear hown hgr
        try rw [Nat.zero_add]
        refine hK.out _ _ ?_ (fun hHeld => ?_)
        · exact HS.out _ hKa2z0z9yd
        clear hK Kq
        try simp only [N0]
        refine wpAnyH_ready (rs := [10]) (by kernel_rfl) (by simp) ?_
        refine AllReadyH.cons (o := _) rfl (fun Kq hK => ?_) AllReadyH.nil
        refine step_app _ rfl _ _ 51 rfl wq.heap.size 3 i0 _ 1 8 Tryd.underlying51 hi hz0 hz1 hz2 rfl (by decide) (.slice A2 m c2) m (ints L) rfl HO1.out _ (some ⟨yd.heap.size, 0, none⟩) 1 1 (ints [N]) rfl (rd_one hOn) (ints_one _) (by unfold maxLen; omega) (by omega) hSa2z0z9yd ?_
        intro v' b10a2z0z9yd hown hgr hat
        clear hat
        obtain ⟨A3, c3, rfl⟩ := ownR_val hown
        have hKb10a2z0z9yd := Lib.hid (hKa2z0z9yd.out.grown hgr hSa2z0z9yd (fun q hq => Or.inr (ownR_lt HO1.out hq).1))
        have hSb10a2z0z9yd := Nat.le_trans hSa2z0z9yd hgr.size
        have HO2 := Lib.hid hown
        clear hown hgr
        refine hK.out _ _ ?_ (fun hHeld => ?_)
        · exact HS.out _ hKb10a2z0z9yd
        clear hK Kq
        try simp only [N0]
        refine wpAnyH_ready (rs := [11]) (by kernel_rfl) (by simp) ?_
        refine AllReadyH.cons (o := _) rfl (fun Kq hK => ?_) AllReadyH.nil
        go_simp
        refine hK.out _ _ ?_ (fun hHeld => ?_)
        · exact HS.out _ hKb10a2z0z9yd
        clear hK Kq
        try simp only [N0]
        refine wpAnyH_done (by kernel_rfl) ?_ _
        clear HS HQ hSd
        have HBz := Lib.hid (HBr.out.trans (hKb10a2z0z9yd.out.below (B' := W.heap.size) HBr.out.size (by simp)))
        have hBk := hKb10a2z0z9yd.out.below (B' := wq.heap.size) (Nat.le_refl _) (by simp)
        have HR1 := Lib.hid (HREC.out A3 c3 b10a2z0z9yd HBz.out HO2.out)
        have hO1 := HOp.out _ HBz.out hBk
        obtain ⟨o0, o1, -, -⟩ := two_facts hO1
        clear HREC HLr hO1 HOp
        go_wp2_with fail
        refine HR1.out.mono ?_
        rintro e wz ⟨⟨Ar, mr, cr, rfl, hrr⟩, hb⟩
        have HBw := Lib.hid (HBz.out.trans (hb.mono HBz.out.size))
        have HBw2 := Lib.hid (below_via HBb.out HBb.out.size (below_via hBk hBk.size hb))
        obtain ⟨bb, hbb_⟩ : ∃ x, x = (strk ps ws mo (i + 1) (L ++ [N])).isSome := ⟨_, rfl⟩
        rw [← hbb_]
        have hbb := Lib.hid hbb_
        have hrh := Lib.hid hrr
        clear hbb_ hrr hb o0 o1 HR1
        cases bb
        · have hs : strk ps ws mo (i + 1) (L ++ [N]) = none := by
            have h := hbb.out
            cases h2 : strk ps ws mo (i + 1) (L ++ [N]) with
            | none => rfl
            | some r => rw [h2] at h; cases h
          have hst := Lib.hid (hrel.out.trans (hmiss.out hs))
          clear hs hmiss hhit hbb hrh
          go_wp2
          go_roundw
          case rel => exact ⟨_, rfl, i + 1, by omega, by omega, by go_num, HBw2, hst⟩
          case measure => simp [intOf]; omega
        · obtain ⟨r, hs⟩ : ∃ r, strk ps ws mo (i + 1) (L ++ [N]) = some r := by
            have h := hbb.out
            cases h2 : strk ps ws mo (i + 1) (L ++ [N]) with
            | none => rw [h2] at h; cases h
            | some r => exact ⟨r, rfl⟩
          have hst := Lib.hid (hrel.out.trans (hhit.out r hs))
          have hrd := Lib.hid (hrh.out r hs)
          clear hs hmiss hhit hbb hrh
          go_wp2
          exact bodyPost_ret (v := .tuple #[.slice Ar mr cr, .bool true]) (by simp [results, Tryd.results77, go_sem]) rfl ⟨⟨Ar, mr, cr, by rw [hst.out]; rfl, fun r' h => by (rw [hst.out] at h; cases h; exact hrd.out)⟩, HBw.out⟩
      · obtain rfl : i = n' := by omega
        have hii : ¬ (i : Int) < (i : Int) := by omega
        have hend := Lib.hid (hrel.out.trans (strk_end (ps := ps) mo L (by rw [hwl.out]; exact Nat.le_refl _)))
        clear hOq HOp ih hrel
        go_wp2
        exact bodyPost_ret (v := .tuple #[.slice none 0 0, .bool false]) (by simp [results, Tryd.results77, go_sem]) rfl ⟨⟨none, 0, ⟨0, by rw [hend.out]; rfl⟩, fun r h => by (rw [hend.out] at h; cases h)⟩, HBr.out⟩
end Go.Proofs.YtoakeclpakjbiaaDoor
namespace Go.Proofs.YtoakeclpakjbiaaDoor
open Go.RowKit
set_option linter.unusedVariables false
set_option linter.unusedSimpArgs false

set_option maxRecDepth 100000 in
set_option maxHeartbeats 4000000 in
theorem rFalse_any (A A' : Option Addr) (n c n' c' : Nat) (ps : List PR) (ws : List WE) (w : World) (hnm : n ≤ maxLen) (hnm' : n' ≤ maxLen) (hR : Reads w w.heap.size 4 A n (pgs ps)) (hW : Reads w w.heap.size 5 A' n' (wgs ws)) (hL : Laid w) :
    Calls Tryd.prog 33 #[.agg #[.slice A n c, .slice A' n' c']] w fun e w' => (∃ A1 m c1, e = .returned (.tuple #[.slice A1 m c1, .int .i64 (falE ps ws)]) ∧ m ≤ 3 ∧ Reads w' w'.heap.size 1 A1 m (ints (falL ps ws))) ∧ Below w.heap.size w w' := by
  have HRd := Lib.hid (fun z (hz : Below w.heap.size w z) => (hR.below hz).more hz.size)
  have HWd := Lib.hid (fun z (hz : Below w.heap.size w z) => (hW.below hz).more hz.size)
  have HLa := Lib.hid (fun z (hz : Below w.heap.size w z) => hL.below hz hL.2.2.2)
  have hO0 := Lib.hid (heap_alloc_new w (.cells #[.slice A n c, .slice A' n' c'] 25))
  have hB0 : Hid (Below w.heap.size w (w.alloc (.cells #[.slice A n c, .slice A' n' c'] 25))) := Lib.hid ((Below.refl _ _).alloc (Nat.le_refl _) _)
  clear hR hW hL
  go_enter Tryd.func33, Tryd.ntmps33
  go_wp2_with fail
  refine (Press_any A A' n c n' c' ps ws _ hnm hnm' (HRd.out _ hB0.out) (HWd.out _ hB0.out)).mono ?_
  rintro e z1 ⟨rfl, hb⟩
  have hO1 := Lib.hid (keepO hb hO0.out)
  have hB1 := Lib.hid (below_via hB0.out hB0.out.size hb)
  clear hb hO0 hB0
  cases hv : validP ps ws
  · have hE := Lib.hid (fal_bad hv)
    clear hv
    go_wp2
    refine bodyPost_ret (v := .tuple #[.slice none 0 0, .int .i64 20]) (by simp [results, Tryd.results33, go_sem]) rfl ?_
    have hfin : (∃ A1 m c1, Ending.returned (.tuple #[.slice none 0 0, .int .i64 20]) = .returned (.tuple #[.slice A1 m c1, .int .i64 (falE ps ws)]) ∧ m ≤ 3 ∧ Reads z1 z1.heap.size 1 A1 m (ints (falL ps ws))) ∧ Below w.heap.size w z1 :=
      ⟨⟨none, 0, 0, by rw [hE.out.1], by omega, by rw [hE.out.2]; exact ⟨rfl, fun h => absurd h (by omega)⟩⟩, hB1.out⟩
    first | exact hfin | simpa using hfin
  have HST := Lib.hid (fun (mo : Nat) (h3 : mo ≤ 3) (z : World) (hz : Below w.heap.size w z) => struck_any A A' n c n' c' ps ws hv mo 0 [] none 0 0 z (Nat.zero_le _) (by omega) (HRd.out z hz) (HWd.out z hz) ⟨rfl, fun h => absurd h (by omega)⟩ (HLa.out z hz))
  have hvh := Lib.hid hv
  clear hv
  go_wp2_with fail
  go_loopw [4] (fun v wr => ∃ wl, wl = wr ∧ ∃ i : Nat, i ≤ 4 ∧ v = .int .i64 i ∧ Hid (Below z1.heap.size z1 wl) ∧ Hid (falF ps ws i (4 - i) = falS ps ws)) (fun v _ => 4 - (intOf v).toNat)
  case atStart => exact ⟨_, rfl, 0, by omega, rfl, Lib.hid (Below.refl _ _), Lib.hid rfl⟩
  case round =>
    obtain ⟨wq, rfl, i, hi4, rfl, HBz, hrel⟩ := hrel
    have HBq := Lib.hid (below_via hB1.out hB1.out.size HBz.out)
    by_cases hi' : i < 4
    · have hii : (i : Int) ≤ 3 := by omega
      have hd4 : 4 - i = (4 - (i + 1)) + 1 := by omega
      rw [hd4] at hrel
      obtain ⟨o0, o1, -, -⟩ := two_facts (keepO HBz.out hO1.out)
      have hcall := Lib.hid (HST.out i (by omega) wq HBq.out)
      clear hd4
      go_wp2_with fail
      refine hcall.out.mono ?_
      rintro e wz ⟨⟨Ar, mr, cr, rfl, hrr⟩, hb⟩
      have HBw := Lib.hid (below_via HBz.out HBz.out.size hb)
      have HBx := Lib.hid (below_via HBq.out HBq.out.size hb)
      cases hs : strk ps ws i 0 [] with
      | none =>
        have hst := Lib.hid ((fal_miss hs).symm.trans hrel.out)
        simp only [Option.isSome_none]
        clear hs hrr hb hcall o0 o1
        go_wp2
        go_roundw
        case rel => exact ⟨_, rfl, i + 1, by omega, by go_num, HBw, hst⟩
        case measure => simp [intOf]; omega
      | some r =>
        have hst := Lib.hid (fal_some hvh.out (hrel.out.symm.trans (fal_hit hs)))
        have hrd := Lib.hid (hrr r hs)
        simp only [Option.isSome_some]
        clear hs hrr hb hcall o0 o1
        go_wp2
        refine bodyPost_ret (v := .tuple #[.slice Ar mr cr, .int .i64 0]) (by simp [results, Tryd.results33, go_sem]) rfl ?_
        exact ⟨⟨Ar, mr, cr, by rw [hst.out.1], hrd.out.1, by rw [hst.out.2]; exact hrd.out.2⟩, HBx.out⟩
    · obtain rfl : i = 4 := by omega
      have hii : ¬ (4 : Int) ≤ 3 := by omega
      rw [show (((4 : Nat) : Nat) : Int) = 4 from rfl]
      have hE := Lib.hid (fal_none hvh.out (hrel.out.symm.trans (show falF ps ws 4 (4 - 4) = none from rfl)))
      clear hrel HST
      go_wp2
      refine bodyPost_ret (v := .tuple #[.slice none 0 0, .int .i64 4]) (by simp [results, Tryd.results33, go_sem]) rfl ?_
      have hfin : (∃ A1 m c1, Ending.returned (.tuple #[.slice none 0 0, .int .i64 4]) = .returned (.tuple #[.slice A1 m c1, .int .i64 (falE ps ws)]) ∧ m ≤ 3 ∧ Reads wq wq.heap.size 1 A1 m (ints (falL ps ws))) ∧ Below w.heap.size w wq :=
        ⟨⟨none, 0, 0, by rw [hE.out.1], by omega, by rw [hE.out.2]; exact ⟨rfl, fun h => absurd h (by omega)⟩⟩, HBq.out⟩
      first | exact hfin | simpa using hfin
end Go.Proofs.YtoakeclpakjbiaaDoor
