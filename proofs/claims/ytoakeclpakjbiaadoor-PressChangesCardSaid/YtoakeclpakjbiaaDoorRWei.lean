/-
  The walk of the reference's press with one weighing more.
-/
import Derived.Test.YtoakeclpakjbiaaDoorRWo
import Derived.Deep.DeepCutAuto
import Derived.Deep.CutBlock
namespace Go.Proofs.YtoakeclpakjbiaaDoor
open Go.RowKit
set_option linter.unusedVariables false
set_option linter.unusedSimpArgs false

theorem reads_take {w : World} {B n k : Nat} {A : Option Addr} {ws : List WE} (h : Reads w B 5 A n (wgs ws)) (hk : k ≤ n) : Reads w B 5 A k (wgs (ws.take k)) := by
  have hl := h.wg_len
  refine ⟨by rw [wgs_len]; simp; omega, fun hn => ?_⟩
  obtain ⟨b, o, e, hb, hc⟩ := h.2 (by omega)
  refine ⟨b, o, e, hb, fun j u hu => hc j u ?_⟩
  have hj := (List.getElem?_eq_some_iff.1 hu).1
  rw [wgs_len] at hj
  simp at hj
  have e1 : wgs ws = wgs (ws.take k) ++ wgs (ws.drop k) := by rw [wgs_append, List.take_append_drop]
  rw [e1, List.getElem?_append_left (by rw [wgs_len]; simp; omega)]
  exact hu
theorem reads_drop {w : World} {B n k b o : Nat} {ws : List WE} (h : Reads w B 5 (some ⟨b, o, none⟩) n (wgs ws)) (hk : k ≤ n) : Reads w B 5 (some ⟨b, o + k * 5, none⟩) (n - k) (wgs (ws.drop k)) := by
  have hl := h.wg_len
  refine ⟨by rw [wgs_len]; simp [hl], fun hn => ?_⟩
  obtain ⟨b', o', e, hb, hc⟩ := h.2 (by omega)
  simp only [Option.some.injEq, Addr.mk.injEq, and_true] at e
  obtain ⟨rfl, rfl⟩ := e
  refine ⟨b, o + k * 5, rfl, hb, fun j u hu => ?_⟩
  rw [wgs_drop, List.getElem?_drop] at hu
  have := hc _ _ hu
  rwa [show o + k * 5 + j = o + (k * 5 + j) by omega]

theorem x_reads {W : World} {gb : Nat} {x : WE} (h : W.heap[gb]? = some (.cells #[.int .i64 x.1, .int .i64 x.2.1, .int .i64 x.2.2.1, .int .i64 x.2.2.2.1, .int .i64 x.2.2.2.2] 76 (0, 0))) : Reads W (gb + 1) 5 (some ⟨gb, 0, none⟩) 1 (wgs [x]) :=
  ⟨rfl, fun _ => ⟨gb, 0, rfl, by omega, fun j u hu => by
    rw [Nat.zero_add]
    simp only [World.cell?, h]
    simpa [wgs, wgc] using hu⟩⟩
theorem pc_low {w z y : World} {A A' : Option Addr} {n c n' c' : Nat} {ps : List PR} {ws : List WE} {x : WE} {B : Nat} (h : PC w A A' n c n' c' ps ws x y) (hb : Below B y z) (hB : w.heap.size + 3 ≤ B) (hg : 0 < w.heap.size) (hs : B ≤ y.heap.size) : PC w A A' n c n' c' ps ws x z := by
  have hs2 := hb.size
  exact ⟨(hb.block _ (by omega)).trans h.b0, (hb.block _ (by omega)).trans h.bx, (hb.block _ (by omega)).trans h.b1, h.bel.trans (hb.mono (by omega)), by omega, h.laid.below hb (by have := hg; omega)⟩
theorem own_low {w w' : World} {base B : Nat} {e : TypeId} {size n : Nat} {v : Value} {xs : List Value} (h : w.ownsRow base e size v n xs) (hb : Below B w w') (hv : ∀ k, v.ownBlock = some k → k < B) : w'.ownsRow base e size v n xs :=
  own_block h (fun k hk => hb.block k (hv k hk))
theorem posW_at {ws : List WE} {t : Int} {k : Nat} (hk : k ≤ ws.length) (h1 : ∀ (j : Nat) (y : WE), j < k → ws[j]? = some y → y.1 < t) (h2 : ∀ y, ws[k]? = some y → t ≤ y.1) : posW ws t = k :=
  takeWhile_len _ ws k hk (fun j y hj hy => by simpa using h1 j y hj hy) (fun y hy => by simpa using h2 y hy)

set_option maxRecDepth 100000 in
set_option maxHeartbeats 8000000 in
theorem rweigh_any (A A' : Option Addr) (n c n' c' : Nat) (ps : List PR) (ws : List WE) (x : WE) (w : World) (hnm : n ≤ maxLen) (hnm' : n' ≤ maxLen) (hcap : n' ≤ c') (hcm : c' ≤ maxLen) (hnil : A' = none → c' = 0) (hR : Reads w w.heap.size 4 A n (pgs ps)) (hW : Reads w w.heap.size 5 A' n' (wgs ws)) (hL : Laid w) :
    Calls Tryd.prog 37 #[.agg #[.slice A n c, .slice A' n' c'], .agg #[.int .i64 x.1, .int .i64 x.2.1, .int .i64 x.2.2.1, .int .i64 x.2.2.2.1, .int .i64 x.2.2.2.2]] w fun e w' => Res w.heap.size (weighS ps ws x) e w' ∧ Below w.heap.size w w' := by
  have hl := hR.pg_len
  have hl' := hW.wg_len
  obtain ⟨ib, hib, hzb0, hzb1, hzb2⟩ := info_parts info_wg
  obtain ⟨wb, hwb⟩ : ∃ wb, wb = ((w.alloc (.cells #[.slice A n c, .slice A' n' c'] 25)).alloc (.cells #[.int .i64 x.1, .int .i64 x.2.1, .int .i64 x.2.2.1, .int .i64 x.2.2.2.1, .int .i64 x.2.2.2.2] 76)).alloc (.cells #[.slice none 0 0, .slice none 0 0] 25) := ⟨_, rfl⟩
  have hbb : Below w.heap.size w wb := by rw [hwb]; exact (((Below.refl _ _).alloc (Nat.le_refl _) _).alloc (by simp) _).alloc (by simp <;> omega) _
  have HP0 : Hid (PC w A A' n c n' c' ps ws x wb) := by
    refine ⟨?_, ?_, ?_, hbb, by rw [hwb]; simp, hL.below hbb hL.2.2.2⟩
    · rw [hwb, heap_lt_alloc' _ _ _ (by simp <;> omega), heap_lt_alloc' _ _ _ (by simp)]; exact heap_alloc_new w _
    · rw [hwb, heap_lt_alloc' _ _ _ (by simp)]
      have := heap_alloc_new (w.alloc (.cells #[.slice A n c, .slice A' n' c'] 25)) (.cells #[.int .i64 x.1, .int .i64 x.2.1, .int .i64 x.2.2.1, .int .i64 x.2.2.2.1, .int .i64 x.2.2.2.2] 76)
      simpa using this
    · rw [hwb]
      have := heap_alloc_new ((w.alloc (.cells #[.slice A n c, .slice A' n' c'] 25)).alloc (.cells #[.int .i64 x.1, .int .i64 x.2.1, .int .i64 x.2.2.1, .int .i64 x.2.2.2.1, .int .i64 x.2.2.2.2] 76)) (.cells #[.slice none 0 0, .slice none 0 0] 25)
      simpa using this
  have HRp := Lib.hid (fun z (hz : PC w A A' n c n' c' ps ws x z) => (hR.below hz.bel).more hz.bel.size)
  have HRw := Lib.hid (fun z (hz : PC w A A' n c n' c' ps ws x z) => (hW.below hz.bel).more hz.bel.size)
  have HCk := Lib.hid (fun z (hz : PC w A A' n c n' c' ps ws x z) => Press_any A A' n c n' c' ps ws z hnm hnm' (HRp.out z hz) (HRw.out z hz))
  have HG0 := Lib.hid hL.2.2.2
  clear hR hW hL hbb
  cases hv : validP ps ws
  · have hs : Hid (weighS ps ws x = (([], []), 20)) := by show _ = _; unfold weighS; rw [hv]; rfl
    rw [hv] at HCk
    clear hv hl hl'
    go_enter Tryd.func37, Tryd.ntmps37
    go_wp2_with fail
    rw [← hwb]
    clear hwb
    refine (HCk.out _ HP0.out).mono ?_
    rintro e z1 ⟨rfl, hb1⟩
    have HP1 := Lib.hid (HP0.out.below hb1)
    clear hb1
    obtain ⟨g0, g1, f0, f1⟩ := two_facts HP1.out.b1
    go_wp2
    obtain ⟨e0, e1⟩ := set_back HP1.out.b1 (.slice none 0 0) (.slice none 0 0)
    exact bodyPost_ret (v := .tuple #[.agg #[.slice none 0 0, .slice none 0 0], .int .i64 20]) (by simp [results, Tryd.results37, go_sem, e0, e1]) rfl ⟨Res.nil hs.out, below_two HP1.out.bel (by omega) _ _⟩
  · rw [hv] at HCk
    have hn : n ≤ 10 := by
      have h := hv
      simp only [validP, Bool.and_eq_true, decide_eq_true_eq] at h
      omega
    have hn' : n' ≤ 30 := by
      have h := hv
      simp only [validP, Bool.and_eq_true, decide_eq_true_eq] at h
      omega
    by_cases h30 : n' = 30
    · have hs : Hid (weighS ps ws x = (([], []), 9)) := by show _ = _; unfold weighS; rw [hv, if_pos rfl, if_pos (by omega)]
      subst h30
      clear hv hl hl'
      go_enter Tryd.func37, Tryd.ntmps37
      go_wp2_with fail
      rw [← hwb]
      clear hwb
      refine (HCk.out _ HP0.out).mono ?_
      rintro e z1 ⟨rfl, hb1⟩
      have HP1 := Lib.hid (HP0.out.below hb1)
      clear hb1
      obtain ⟨p0, p1, -, -⟩ := two_facts HP1.out.b0
      obtain ⟨g0, g1, f0, f1⟩ := two_facts HP1.out.b1
      go_wp2
      obtain ⟨e0, e1⟩ := set_back HP1.out.b1 (.slice none 0 0) (.slice none 0 0)
      exact bodyPost_ret (v := .tuple #[.agg #[.slice none 0 0, .slice none 0 0], .int .i64 9]) (by simp [results, Tryd.results37, go_sem, e0, e1]) rfl ⟨Res.nil hs.out, below_two HP1.out.bel (by omega) _ _⟩
    · have HS : Hid (weighS ps ws x = if validP ps (insW ws (posW ws x.1) x) then ((ps, insW ws (posW ws x.1) x), 0) else (([], []), 21)) := by
        show _ = _; unfold weighS; rw [hv, if_pos rfl, if_neg (by omega)]
      have HTw := Lib.hid (fun z (hz : PC w A A' n c n' c' ps ws x z) => Twin_any A A' n c n' c' ps ws z (by omega) (by omega) (HRp.out z hz) (HRw.out z hz))
      have h30' : ((n' : Int) == 30) = false := by simp; omega
      have HL' := Lib.hid hl'
      clear hv hl hl' h30
      go_enter Tryd.func37, Tryd.ntmps37
      go_wp2_with fail
      rw [← hwb]
      clear hwb
      refine (HCk.out _ HP0.out).mono ?_
      rintro e z1 ⟨rfl, hb1⟩
      have HP1 := Lib.hid (HP0.out.below hb1)
      clear hb1
      obtain ⟨p0, p1, -, -⟩ := two_facts HP1.out.b0
      go_wp2_with fail
      refine (HTw.out _ HP1.out).mono ?_
      rintro e z2 ⟨A1, c1, A2, c2, rfl, ho1, ho2, hb2⟩
      have HP2 := Lib.hid (HP1.out.below hb2)
      have hz1 := HP1.out.size
      have hz12 := hb2.size
      obtain ⟨ob, hob⟩ : ∃ ob, ob = z2.heap.size := ⟨_, rfl⟩
      obtain ⟨y0, hy0⟩ : ∃ y0, y0 = z2.alloc (.cells #[.slice A1 n c1, .slice A2 n' c2] 25) := ⟨_, rfl⟩
      have hby : Below z2.heap.size z2 y0 := by rw [hy0]; exact (Below.refl _ _).alloc (Nat.le_refl _) _
      have HPy := HP2.out.below hby
      have hO1y := own_below ho1 hby
      have hOb := heap_alloc_new z2 (.cells #[.slice A1 n c1, .slice A2 n' c2] 25)
      rw [← hy0, ← hob] at hOb
      have hyz : y0.heap.size = ob + 1 := by rw [hy0, hob]; simp
      have hg0 := HG0.out
      have HPC := Lib.hid (fun z (hz : Below (ob + 1) y0 z) => pc_low HPy hz (by omega) hg0 (by omega))
      have HPC0 := Lib.hid (fun z (hz : Below ob y0 z) => pc_low HPy hz (by omega) hg0 (by omega))
      have HO1f := Lib.hid (fun z (hz : Below ob y0 z) => own_low hO1y hz (by rw [hob]; exact fun k hk => (own_lt ho1 hk).2))
      have HOb := Lib.hid hOb
      have HYz := Lib.hid hyz
      have HZZ : Hid (w.heap.size + 3 ≤ z1.heap.size ∧ z1.heap.size ≤ ob) := ⟨hz1, by omega⟩
      clear ho1 ho2 hb2 hby HPy hO1y hOb hyz hz1 hz12 p0 p1 hg0
      go_upto_block 0 with (fail)
      rw [← hy0, ← hob]
      clear hy0 hob
      go_cut [7] (fun s7 wx => ∃ wl, wl = wx ∧ ∃ k : Nat, k ≤ n' ∧ s7 = .int .i64 k ∧ Hid (posW ws x.1 = k) ∧ Hid (Below (ob + 1) y0 wl))
      case first =>
        go_wp2_with fail
        go_loopw [7] (fun s7 wr => ∃ k : Nat, k ≤ n' ∧ s7 = .int .i64 k ∧ Hid (∀ (j : Nat) (y : WE), j < k → ws[j]? = some y → y.1 < x.1) ∧ Hid (Below (ob + 1) y0 wr)) (fun s7 _ => n' - (intOf s7).toNat)
        case atStart => exact ⟨0, by omega, rfl, fun j y h => absurd h (by omega), Below.refl _ _⟩
        case round =>
          obtain ⟨k, hk, rfl, hlo, hB⟩ := hrel
          have HPr := Lib.hid (HPC.out wr hB.out)
          obtain ⟨p0, p1, -, -⟩ := two_facts HPr.out.b0
          obtain ⟨x0, -, -, -, -⟩ := five_facts HPr.out.bx
          by_cases hkt : k < n'
          · obtain ⟨b, o, N, P, K, L, H, rfl, hbb, hx, c0, -, -, -, -⟩ := (HRw.out _ HPr.out).wg hkt
            have hki : (k : Int) < (n' : Int) := by omega
            have hk0 : (0 : Int) ≤ (k : Int) := by omega
            have hd : decide ((k : Int) < (n' : Int)) = true := by simpa using hkt
            by_cases he : N < x.1
            · have he' : decide (N < x.1) = true := by simpa using he
              have hlo' : Hid (∀ (j : Nat) (y : WE), j < k + 1 → ws[j]? = some y → y.1 < x.1) := by
                intro j y hj hy
                by_cases e : j = k
                · subst e; rw [hx] at hy; cases hy; exact he
                · exact hlo.out j y (by omega) hy
              clear he hx
              go_wp2_with fail
              go_quiet (fail)
              go_wp2
              go_roundw
              case rel => exact ⟨k + 1, by omega, by go_num, hlo', Lib.hid (below_drewN hB.out _)⟩
              case measure => simp [intOf]; omega
            · have he' : decide (N < x.1) = false := by simpa using he
              have hpos : Hid (posW ws x.1 = k) := posW_at (by have := HL'.out; omega) hlo.out (fun y hy => by rw [hx] at hy; cases hy; simp only; omega)
              clear he hx
              go_wp2_with fail
              go_quiet (fail)
              go_wp2_with fail
              go_meet
              exact ⟨_, rfl, k, by omega, rfl, hpos, Lib.hid (below_drewN hB.out _)⟩
          · obtain rfl : k = n' := by omega
            have hd : decide ((k : Int) < (k : Int)) = false := by simp
            have hki : ¬ (k : Int) < (k : Int) := by omega
            have hpos : Hid (posW ws x.1 = k) := posW_at (by have := HL'.out; omega) hlo.out (fun y hy => absurd (List.getElem?_eq_some_iff.1 hy).1 (by have := HL'.out; omega))
            go_wp2_with fail
            go_quiet (fail)
            go_wp2_with fail
            go_meet
            exact ⟨_, rfl, k, by omega, rfl, hpos, Lib.hid (below_drewN hB.out _)⟩
      case rest =>
        obtain ⟨wl, rfl, k, hk, rfl, hpos, hBl⟩ := ‹∃ wl, wl = _ ∧ _›
        have HS9 : Hid (weighS ps ws x = if validP ps (insW ws k x) then ((ps, insW ws k x), 0) else (([], []), 21)) := by show _ = _; rw [HS.out, hpos.out]
        have hOyd : Hid (wl.drew.heap[ob]? = some (.cells #[.slice A1 n c1, .slice A2 n' c2] 25 (0, 0))) := (hBl.out.block ob (by omega)).trans HOb.out
        have hZyd : Hid (ob + 1 ≤ wl.drew.heap.size) := by have := hBl.out.size; have := HYz.out; show _ ≤ wl.heap.size; omega
        have hlow : ∀ z, Below ob wl z → Below ob y0 z := fun z hz => (hBl.out.mono (by omega)).trans hz
        have HPC := Lib.hid (fun z (hz : Below ob wl z) => HPC0.out z (hlow z hz))
        have HO1f := Lib.hid (fun z (hz : Below ob wl z) => HO1f.out z (hlow z hz))
        have hZ0 : Hid (Below ob wl wl.drew) := (Below.refl _ _).drew
        have hsl : ob ≤ wl.heap.size := by have := hBl.out.size; have := HYz.out; omega
        have hins : Hid ([] ++ wgs (ws.take k) ++ wgs [x] ++ wgs (ws.drop k) = wgs (insW ws k x)) := by show _ = _; rw [List.nil_append, wgs_append, wgs_append]; unfold insW; simp
        obtain ⟨S, hSd⟩ : ∃ S : World → Prop, S = fun z => (z.cell? ⟨w.heap.size, 1, none⟩ = some (.slice A' n' c') ∧ z.cell? ⟨w.heap.size + 1, 0, none⟩ = some (.int .i64 x.1) ∧ z.cell? ⟨w.heap.size + 1, 1, none⟩ = some (.int .i64 x.2.1) ∧ z.cell? ⟨w.heap.size + 1, 2, none⟩ = some (.int .i64 x.2.2.1) ∧ z.cell? ⟨w.heap.size + 1, 3, none⟩ = some (.int .i64 x.2.2.2.1) ∧ z.cell? ⟨w.heap.size + 1, 4, none⟩ = some (.int .i64 x.2.2.2.2)) ∧ Hid (Below ob wl z) := ⟨_, rfl⟩
        have HS := Lib.hid (fun z (hz : Hid (Below ob wl z)) => (by
          rw [hSd]
          obtain ⟨-, e0, -, -⟩ := two_facts (HPC.out z hz.out).b0
          obtain ⟨e1, e2, e3, e4, e5⟩ := five_facts (HPC.out z hz.out).bx
          exact ⟨⟨e0, e1, e2, e3, e4, e5⟩, hz⟩ : S z))
        have HSB := Lib.hid (fun z (hz : S z) => (show Hid (Below ob wl z) from (by rw [hSd] at hz; exact hz.2)).out)
        have HSZ1 := Lib.hid (fun z (hz : S z) => (Nat.le_trans hsl (HSB.out z hz).size : ob ≤ z.heap.size))
        have HT := Lib.hid (fun z (hz : Below ob wl z) => reads_take (HRw.out z (HPC.out z hz)) hk)
        have hkc : k ≤ c' := Nat.le_trans hk hcap
        unfold maxLen at hcm
        clear hlow hpos hsl
        rcases A' with _ | a0
        · obtain rfl : c' = 0 := hnil rfl
          obtain rfl : n' = 0 := by omega
          obtain rfl : k = 0 := by omega
          have hdr : ws.drop 0 = [] := by rw [List.drop_zero]; exact List.eq_nil_of_length_eq_zero HL'.out
          have HD := Lib.hid (fun z (hz : Below ob wl z) => (⟨by rw [hdr]; rfl, fun h => absurd h (by omega)⟩ : Reads z z.heap.size 5 none 0 (wgs (ws.drop 0))))
          clear hdr
          have hk00 : ((0 : Nat) : Int) = 0 := rfl
          go_wp2_with fail
          refine wp_region_held_drew (S := S) (by kernel_rfl) ?_ (fun hHeld => ?_)
          · exact HS.out _ hZ0
          generalize wl.drew = yd at *
          refine tkY (v := ?_) 1 38 rfl rfl (by kernel_rfl) (by kernel_rfl) (by kernel_rfl) (fun _ _ _ h => h) (by kernel_rfl) ?_ (by assumption) ?_
          rotate_left
          · intro w hSw; rw [hSd] at hSw; obtain ⟨⟨q0, q1, q2, q3, q4, q5⟩, -⟩ := hSw; go_simp; (try with_reducible rfl)
          try simp only [Act.put, List.setIfInBounds_toArray, List.set_cons_zero, List.set_cons_succ]
          refine tkY (v := ?_) 2 39 rfl rfl (by kernel_rfl) (by kernel_rfl) (by kernel_rfl) (fun _ _ _ h => h) (by kernel_rfl) ?_ (by assumption) ?_
          rotate_left
          · intro w hSw; rw [hSd] at hSw; obtain ⟨⟨q0, q1, q2, q3, q4, q5⟩, -⟩ := hSw; go_simp; (try with_reducible rfl)
          try simp only [Act.put, List.setIfInBounds_toArray, List.set_cons_zero, List.set_cons_succ]
          refine tkY (v := ?_) 3 40 rfl rfl (by kernel_rfl) (by kernel_rfl) (by kernel_rfl) (fun _ _ _ h => h) (by kernel_rfl) ?_ (by assumption) ?_
          rotate_left
          · intro w hSw; rw [hSd] at hSw; obtain ⟨⟨q0, q1, q2, q3, q4, q5⟩, -⟩ := hSw; go_simp; (try with_reducible rfl)
          try simp only [Act.put, List.setIfInBounds_toArray, List.set_cons_zero, List.set_cons_succ]
          refine tkY (v := ?_) 4 41 rfl rfl (by kernel_rfl) (by kernel_rfl) (by kernel_rfl) (fun _ _ _ h => h) (by kernel_rfl) ?_ (by assumption) ?_
          rotate_left
          · intro w hSw; rw [hSd] at hSw; obtain ⟨⟨q0, q1, q2, q3, q4, q5⟩, -⟩ := hSw; go_simp; (try with_reducible rfl)
          try simp only [Act.put, List.setIfInBounds_toArray, List.set_cons_zero, List.set_cons_succ]
          refine tkY (v := ?_) 6 43 rfl rfl (by kernel_rfl) (by kernel_rfl) (by kernel_rfl) (fun _ _ _ h => h) (by kernel_rfl) ?_ (by assumption) ?_
          rotate_left
          · intro w hSw; rw [hSd] at hSw; obtain ⟨⟨q0, q1, q2, q3, q4, q5⟩, -⟩ := hSw; go_simp; (try with_reducible rfl)
          try simp only [Act.put, List.setIfInBounds_toArray, List.set_cons_zero, List.set_cons_succ]
          refine tkY (v := ?_) 9 46 rfl rfl (by kernel_rfl) (by kernel_rfl) (by kernel_rfl) (fun _ _ _ h => h) (by kernel_rfl) ?_ (by assumption) ?_
          rotate_left
          · intro w hSw; rw [hSd] at hSw; obtain ⟨⟨q0, q1, q2, q3, q4, q5⟩, -⟩ := hSw; go_simp; (try with_reducible rfl)
          try simp only [Act.put, List.setIfInBounds_toArray, List.set_cons_zero, List.set_cons_succ]
          refine tkY (v := ?_) 10 47 rfl rfl (by kernel_rfl) (by kernel_rfl) (by kernel_rfl) (fun _ _ _ h => h) (by kernel_rfl) ?_ (by assumption) ?_
          rotate_left
          · intro w hSw; rw [hSd] at hSw; obtain ⟨⟨q0, q1, q2, q3, q4, q5⟩, -⟩ := hSw; go_simp; (try with_reducible rfl)
          try simp only [Act.put, List.setIfInBounds_toArray, List.set_cons_zero, List.set_cons_succ]
          refine tkY (v := ?_) 11 48 rfl rfl (by kernel_rfl) (by kernel_rfl) (by kernel_rfl) (fun _ _ _ h => h) (by kernel_rfl) ?_ (by assumption) ?_
          rotate_left
          · intro w hSw; rw [hSd] at hSw; obtain ⟨⟨q0, q1, q2, q3, q4, q5⟩, -⟩ := hSw; go_simp; (try with_reducible rfl)
          try simp only [Act.put, List.setIfInBounds_toArray, List.set_cons_zero, List.set_cons_succ]
          refine tkY (v := ?_) 12 49 rfl rfl (by kernel_rfl) (by kernel_rfl) (by kernel_rfl) (fun _ _ _ h => h) (by kernel_rfl) ?_ (by assumption) ?_
          rotate_left
          · intro w hSw; rw [hSd] at hSw; obtain ⟨⟨q0, q1, q2, q3, q4, q5⟩, -⟩ := hSw; go_simp; (try with_reducible rfl)
          try simp only [Act.put, List.setIfInBounds_toArray, List.set_cons_zero, List.set_cons_succ]
          refine wpAnyH_ready (rs := [0, 7]) (by kernel_rfl) (by simp) ?_
          refine AllReadyH.cons (o := _) rfl (fun Kq hK => ?_) ?_
          · go_simp
            refine hK.out _ _ ?_ (fun hHeld => ?_)
            · exact HS.out _ (Lib.hid ((HSB.out _ (by assumption)).alloc (HSZ1.out _ (by assumption)) _))
            clear hK Kq
            have hA0 : Hid (Below yd.heap.size yd (yd.alloc (.cells #[] 76))) := (Below.refl _ _).alloc (Nat.le_refl _) _
            have hN0 := Lib.hid (own_lit0 yd (ob + 1) hZyd.out 76 5)
            have hOydm0 := Lib.hid (keepO hA0.out hOyd.out)
            have hZydm0 := Lib.hid (Nat.le_trans hZyd.out hA0.out.size)
            have hV0 : Hid (ob + 1 ≤ yd.heap.size) := hZyd
            generalize hgb0 : yd.heap.size = gb0 at hN0 hV0 ⊢
            generalize (yd.alloc (.cells #[] 76)) = ydm0 at *
            clear hgb0 hA0
            try simp only [Act.put, List.setIfInBounds_toArray, List.set_cons_zero, List.set_cons_succ]
            refine wpAnyH_ready (rs := [5, 7]) (by kernel_rfl) (by simp) ?_
            refine AllReadyH.cons (o := _) rfl (fun Kq hK => ?_) ?_
            · refine step_app _ rfl _ _ 23 rfl (ob + 1) 76 ib _ 5 40 Tryd.underlying23 hib hzb0 hzb1 hzb2 rfl (by decide) (.slice (some ⟨gb0, 0, none⟩) 0 0) 0 [] rfl hN0.out ydm0.heap.size none 0 _ (wgs (ws.take 0)) rfl (HT.out _ (HSB.out _ (by assumption))) (wgs_one _) ?c3 ?c4 ?c5 ?_
              case c3 => unfold maxLen; omega
              case c4 => omega
              case c5 => exact hZydm0.out
              intro v5 ydm0p5 hown hgr hat
              have hP5 := Lib.hid hown
              have hG5 := Lib.hid hgr
              have hB5 : Hid (∀ j, (Value.slice (some ⟨gb0, 0, none⟩) 0 0).ownBlock = some j → ob + 1 ≤ j) := fun j hj => (own_lt hN0.out hj).1
              have hOydm0p5 : Hid (ydm0p5.heap[ob]? = some (.cells #[.slice A1 n c1, .slice A2 0 c2] 25 (0, 0))) := (hgr.block _ (by have := hZydm0.out; omega) (fun e => by have := hB5.out _ e.symm; omega)).trans hOydm0.out
              have hZydm0p5 := Lib.hid (Nat.le_trans hZydm0.out hgr.size)
              clear hgr hown hat
              refine hK.out _ _ ?_ (fun hHeld => ?_)
              · exact HS.out _ (Lib.hid ((HSB.out _ (by assumption)).grown hG5.out (HSZ1.out _ (by assumption)) (fun j hj => Nat.le_trans (by omega) (hB5.out j hj))))
              clear hK Kq
              try simp only [Act.put, List.setIfInBounds_toArray, List.set_cons_zero, List.set_cons_succ]
              refine wpAnyH_ready (rs := [7]) (by kernel_rfl) (by simp) ?_
              refine AllReadyH.cons (o := _) rfl (fun Kq hK => ?_) AllReadyH.nil
              go_simp
              refine hK.out _ _ ?_ (fun hHeld => ?_)
              · exact HS.out _ (Lib.hid ((HSB.out _ (by assumption)).alloc (HSZ1.out _ (by assumption)) _))
              clear hK Kq
              have hA7 : Hid (Below ydm0p5.heap.size ydm0p5 (ydm0p5.alloc (.cells #[.int .i64 x.1, .int .i64 x.2.1, .int .i64 x.2.2.1, .int .i64 x.2.2.2.1, .int .i64 x.2.2.2.2] 76))) := (Below.refl _ _).alloc (Nat.le_refl _) _
              have hN7 := Lib.hid (heap_alloc_new ydm0p5 (.cells #[.int .i64 x.1, .int .i64 x.2.1, .int .i64 x.2.2.1, .int .i64 x.2.2.2.1, .int .i64 x.2.2.2.2] 76))
              have hN5' := Lib.hid (own_below hP5.out hA7.out)
              have hOydm0p5m7 := Lib.hid (keepO hA7.out hOydm0p5.out)
              have hZydm0p5m7 := Lib.hid (Nat.le_trans hZydm0p5.out hA7.out.size)
              have hV7 : Hid (ob + 1 ≤ ydm0p5.heap.size) := hZydm0p5
              generalize hgb7 : ydm0p5.heap.size = gb7 at hN7 hV7 ⊢
              generalize (ydm0p5.alloc (.cells #[.int .i64 x.1, .int .i64 x.2.1, .int .i64 x.2.2.1, .int .i64 x.2.2.2.1, .int .i64 x.2.2.2.2] 76)) = ydm0p5m7 at *
              clear hgb7 hA7
              try simp only [Act.put, List.setIfInBounds_toArray, List.set_cons_zero, List.set_cons_succ]
              refine wpAnyH_ready (rs := [8]) (by kernel_rfl) (by simp) ?_
              refine AllReadyH.cons (o := _) rfl (fun Kq hK => ?_) AllReadyH.nil
              refine step_app _ rfl _ _ 23 rfl (ob + 1) 76 ib _ 5 40 Tryd.underlying23 hib hzb0 hzb1 hzb2 rfl (by decide) v5 (0 + 0) ([] ++ wgs (ws.take 0)) rfl hN5'.out (gb7 + 1) (some ⟨gb7, 0, none⟩) 1 1 (wgs [x]) rfl (x_reads hN7.out) (wgs_one _) ?c3 ?c4 ?c5 ?_
              case c3 => unfold maxLen; omega
              case c4 => omega
              case c5 => exact hZydm0p5m7.out
              intro v8 ydm0p5m7p8 hown hgr hat
              have hP8 := Lib.hid hown
              have hG8 := Lib.hid hgr
              have hB8 : Hid (∀ j, v5.ownBlock = some j → ob + 1 ≤ j) := fun j hj => (own_lt hN5'.out hj).1
              have hOydm0p5m7p8 : Hid (ydm0p5m7p8.heap[ob]? = some (.cells #[.slice A1 n c1, .slice A2 0 c2] 25 (0, 0))) := (hgr.block _ (by have := hZydm0p5m7.out; omega) (fun e => by have := hB8.out _ e.symm; omega)).trans hOydm0p5m7.out
              have hZydm0p5m7p8 := Lib.hid (Nat.le_trans hZydm0p5m7.out hgr.size)
              clear hgr hown hat
              refine hK.out _ _ ?_ (fun hHeld => ?_)
              · exact HS.out _ (Lib.hid ((HSB.out _ (by assumption)).grown hG8.out (HSZ1.out _ (by assumption)) (fun j hj => Nat.le_trans (by omega) (hB8.out j hj))))
              clear hK Kq
              try simp only [Act.put, List.setIfInBounds_toArray, List.set_cons_zero, List.set_cons_succ]
              refine wpAnyH_ready (rs := [13]) (by kernel_rfl) (by simp) ?_
              refine AllReadyH.cons (o := _) rfl (fun Kq hK => ?_) AllReadyH.nil
              refine step_app _ rfl _ _ 23 rfl (ob + 1) 76 ib _ 5 40 Tryd.underlying23 hib hzb0 hzb1 hzb2 rfl (by decide) v8 (0 + 0 + 1) ([] ++ wgs (ws.take 0) ++ wgs [x]) rfl hP8.out ydm0p5m7p8.heap.size none 0 _ (wgs (ws.drop 0)) rfl (HD.out _ (HSB.out _ (by assumption))) (wgs_one _) ?c3 ?c4 ?c5 ?_
              case c3 => unfold maxLen; omega
              case c4 => omega
              case c5 => exact hZydm0p5m7p8.out
              intro v13 ydm0p5m7p8p13 hown hgr hat
              have hP13 := Lib.hid hown
              have hG13 := Lib.hid hgr
              have hB13 : Hid (∀ j, v8.ownBlock = some j → ob + 1 ≤ j) := fun j hj => (own_lt hP8.out hj).1
              have hOydm0p5m7p8p13 : Hid (ydm0p5m7p8p13.heap[ob]? = some (.cells #[.slice A1 n c1, .slice A2 0 c2] 25 (0, 0))) := (hgr.block _ (by have := hZydm0p5m7p8.out; omega) (fun e => by have := hB13.out _ e.symm; omega)).trans hOydm0p5m7p8.out
              have hZydm0p5m7p8p13 := Lib.hid (Nat.le_trans hZydm0p5m7p8.out hgr.size)
              clear hgr hown hat
              refine hK.out _ _ ?_ (fun hHeld => ?_)
              · exact HS.out _ (Lib.hid ((HSB.out _ (by assumption)).grown hG13.out (HSZ1.out _ (by assumption)) (fun j hj => Nat.le_trans (by omega) (hB13.out j hj))))
              clear hK Kq
              try simp only [Act.put, List.setIfInBounds_toArray, List.set_cons_zero, List.set_cons_succ]
              obtain ⟨A9, c9, hv9⟩ := own_val hP13.out
              have ho9 := hP13.out
              rw [hv9] at ho9
              rw [hv9]
              have e9 : 0 + 0 + 1 + 0 = 0 + 1 := by omega
              rw [e9] at ho9 ⊢
              rw [hins.out] at ho9
              obtain ⟨g0, g1, f0, f1⟩ := two_facts hOydm0p5m7p8p13.out
              refine tkY (v := ?_) 14 51 rfl rfl (by kernel_rfl) (by kernel_rfl) (by kernel_rfl) (fun _ _ _ h => h) (by kernel_rfl) ?_ (by assumption) ?_
              rotate_left
              · intro w hSw; rw [hSd] at hSw; obtain ⟨⟨q0, q1, q2, q3, q4, q5⟩, -⟩ := hSw; go_simp; (try with_reducible rfl)
              try simp only [Act.put, List.setIfInBounds_toArray, List.set_cons_zero, List.set_cons_succ]
              refine wpAnyH_ready (rs := [15]) (by kernel_rfl) (by simp) ?_
              refine AllReadyH.cons (o := _) rfl (fun Kq hK => ?_) AllReadyH.nil
              go_simp
              refine hK.out _ _ ?_ (fun hHeld => ?_)
              · exact HS.out _ (Lib.hid ((HSB.out _ (by assumption)).setCell (by simp) _))
              clear hK Kq
              try simp only [Act.put, List.setIfInBounds_toArray, List.set_cons_zero, List.set_cons_succ]
              have hob9 := set_one1 hOydm0p5m7p8p13.out (.slice A9 (0 + 1) c9)
              have hO9 := Lib.hid (own_far (p := ⟨ob, 1, none⟩) ho9 (by simp) (.slice A9 (0 + 1) c9))
              have hHF := Lib.hid (HSB.out _ hHeld)
              clear g0 g1 f0 f1 ho9
              generalize (ydm0p5m7p8p13.setCell ⟨ob, 1, none⟩ (.slice A9 (0 + 1) c9)) = wf at *
              refine wpAnyH_done (by kernel_rfl) ?_ _
              obtain ⟨p0, p1, -, -⟩ := two_facts hob9
              have HOb := Lib.hid hob9
              clear hob9
              have hPf := HPC.out wf hHF.out
              have HPf := Lib.hid hPf
              have hO1f := Lib.hid (HO1f.out wf hHF.out)
              clear hPf
              go_wp2_with fail
              refine (Press_any A1 A9 n c1 (0 + 1) c9 ps (insW ws 0 x) wf hnm (by unfold maxLen; omega) (Reads.of_own hO1f.out) (Reads.of_own hO9.out)).mono ?_
              rintro e z5 ⟨rfl, hb5⟩
              have HP5 := Lib.hid (HPf.out.below hb5)
              have hOb5 := keepO hb5 HOb.out
              have hO1' := Lib.hid (own_below hO1f.out hb5)
              have hO2' := Lib.hid (own_below hO9.out hb5)
              clear hb5 p0 p1
              obtain ⟨p0, p1, -, -⟩ := two_facts hOb5
              obtain ⟨g0, g1, f0, f1⟩ := two_facts HP5.out.b1
              have hzz := HZZ.out
              cases hv2 : validP ps (insW ws 0 x)
              · have hs : Hid (weighS ps ws x = (([], []), 21)) := by show _ = _; rw [HS9.out, hv2]; rfl
                clear hv2
                go_wp2
                obtain ⟨e0, e1⟩ := set_back HP5.out.b1 (.slice none 0 0) (.slice none 0 0)
                exact bodyPost_ret (v := .tuple #[.agg #[.slice none 0 0, .slice none 0 0], .int .i64 21]) (by simp [results, Tryd.results37, go_sem, e0, e1]) rfl ⟨Res.nil hs.out, below_two HP5.out.bel (by omega) _ _⟩
              · have hs : Hid (weighS ps ws x = ((ps, insW ws 0 x), 0)) := by show _ = _; rw [HS9.out, hv2]; rfl
                clear hv2
                go_wp2
                obtain ⟨e0, e1⟩ := set_back HP5.out.b1 (.slice A1 n c1) (.slice A9 (0 + 1) c9)
                refine bodyPost_ret (v := .tuple #[.agg #[.slice A1 n c1, .slice A9 (0 + 1) c9], .int .i64 0]) (by simp [results, Tryd.results37, go_sem, e0, e1]) rfl ⟨?_, below_two HP5.out.bel (by omega) _ _⟩
                rw [hs.out]
                exact ⟨_, _, _, _, _, _, rfl, own_mono (own_far (p := ⟨w.heap.size + 2, 1, none⟩) (own_far (p := ⟨w.heap.size + 2, 0, none⟩) hO1'.out (by simp only; omega) _) (by simp only; omega) _) (by omega),
                  own_mono (own_far (p := ⟨w.heap.size + 2, 1, none⟩) (own_far (p := ⟨w.heap.size + 2, 0, none⟩) hO2'.out (by simp only; omega) _) (by simp only; omega) _) (by omega)⟩
            refine AllReadyH.cons (o := _) rfl (fun Kq hK => ?_) AllReadyH.nil
            go_simp
            refine hK.out _ _ ?_ (fun hHeld => ?_)
            · exact HS.out _ (Lib.hid ((HSB.out _ (by assumption)).alloc (HSZ1.out _ (by assumption)) _))
            clear hK Kq
            have hA7 : Hid (Below ydm0.heap.size ydm0 (ydm0.alloc (.cells #[.int .i64 x.1, .int .i64 x.2.1, .int .i64 x.2.2.1, .int .i64 x.2.2.2.1, .int .i64 x.2.2.2.2] 76))) := (Below.refl _ _).alloc (Nat.le_refl _) _
            have hN7 := Lib.hid (heap_alloc_new ydm0 (.cells #[.int .i64 x.1, .int .i64 x.2.1, .int .i64 x.2.2.1, .int .i64 x.2.2.2.1, .int .i64 x.2.2.2.2] 76))
            have hN0' := Lib.hid (own_below hN0.out hA7.out)
            have hD7 : Hid (gb0 < ydm0.heap.size) := (own_lt hN0.out rfl).2
            have hOydm0m7 := Lib.hid (keepO hA7.out hOydm0.out)
            have hZydm0m7 := Lib.hid (Nat.le_trans hZydm0.out hA7.out.size)
            have hV7 : Hid (ob + 1 ≤ ydm0.heap.size) := hZydm0
            generalize hgb7 : ydm0.heap.size = gb7 at hN7 hV7 hD7 ⊢
            generalize (ydm0.alloc (.cells #[.int .i64 x.1, .int .i64 x.2.1, .int .i64 x.2.2.1, .int .i64 x.2.2.2.1, .int .i64 x.2.2.2.2] 76)) = ydm0m7 at *
            clear hgb7 hA7
            try simp only [Act.put, List.setIfInBounds_toArray, List.set_cons_zero, List.set_cons_succ]
            refine wpAnyH_ready (rs := [5]) (by kernel_rfl) (by simp) ?_
            refine AllReadyH.cons (o := _) rfl (fun Kq hK => ?_) AllReadyH.nil
            refine step_app _ rfl _ _ 23 rfl (ob + 1) 76 ib _ 5 40 Tryd.underlying23 hib hzb0 hzb1 hzb2 rfl (by decide) (.slice (some ⟨gb0, 0, none⟩) 0 0) 0 [] rfl hN0'.out ydm0m7.heap.size none 0 _ (wgs (ws.take 0)) rfl (HT.out _ (HSB.out _ (by assumption))) (wgs_one _) ?c3 ?c4 ?c5 ?_
            case c3 => unfold maxLen; omega
            case c4 => omega
            case c5 => exact hZydm0m7.out
            intro v5 ydm0m7p5 hown hgr hat
            have hP5 := Lib.hid hown
            have hG5 := Lib.hid hgr
            have hB5 : Hid (∀ j, (Value.slice (some ⟨gb0, 0, none⟩) 0 0).ownBlock = some j → ob + 1 ≤ j) := fun j hj => (own_lt hN0'.out hj).1
            have hOydm0m7p5 : Hid (ydm0m7p5.heap[ob]? = some (.cells #[.slice A1 n c1, .slice A2 0 c2] 25 (0, 0))) := (hgr.block _ (by have := hZydm0m7.out; omega) (fun e => by have := hB5.out _ e.symm; omega)).trans hOydm0m7.out
            have hZydm0m7p5 := Lib.hid (Nat.le_trans hZydm0m7.out hgr.size)
            have hN7q := Lib.hid ((hgr.block gb7 (Array.getElem?_eq_some_iff.1 hN7.out).1 (fun e => by have := hD7.out; simp [Value.ownBlock] at e; omega)).trans hN7.out)
            clear hgr hown hat
            refine hK.out _ _ ?_ (fun hHeld => ?_)
            · exact HS.out _ (Lib.hid ((HSB.out _ (by assumption)).grown hG5.out (HSZ1.out _ (by assumption)) (fun j hj => Nat.le_trans (by omega) (hB5.out j hj))))
            clear hK Kq
            try simp only [Act.put, List.setIfInBounds_toArray, List.set_cons_zero, List.set_cons_succ]
            refine wpAnyH_ready (rs := [8]) (by kernel_rfl) (by simp) ?_
            refine AllReadyH.cons (o := _) rfl (fun Kq hK => ?_) AllReadyH.nil
            refine step_app _ rfl _ _ 23 rfl (ob + 1) 76 ib _ 5 40 Tryd.underlying23 hib hzb0 hzb1 hzb2 rfl (by decide) v5 (0 + 0) ([] ++ wgs (ws.take 0)) rfl hP5.out (gb7 + 1) (some ⟨gb7, 0, none⟩) 1 1 (wgs [x]) rfl (x_reads hN7q.out) (wgs_one _) ?c3 ?c4 ?c5 ?_
            case c3 => unfold maxLen; omega
            case c4 => omega
            case c5 => exact hZydm0m7p5.out
            intro v8 ydm0m7p5p8 hown hgr hat
            have hP8 := Lib.hid hown
            have hG8 := Lib.hid hgr
            have hB8 : Hid (∀ j, v5.ownBlock = some j → ob + 1 ≤ j) := fun j hj => (own_lt hP5.out hj).1
            have hOydm0m7p5p8 : Hid (ydm0m7p5p8.heap[ob]? = some (.cells #[.slice A1 n c1, .slice A2 0 c2] 25 (0, 0))) := (hgr.block _ (by have := hZydm0m7p5.out; omega) (fun e => by have := hB8.out _ e.symm; omega)).trans hOydm0m7p5.out
            have hZydm0m7p5p8 := Lib.hid (Nat.le_trans hZydm0m7p5.out hgr.size)
            clear hgr hown hat
            refine hK.out _ _ ?_ (fun hHeld => ?_)
            · exact HS.out _ (Lib.hid ((HSB.out _ (by assumption)).grown hG8.out (HSZ1.out _ (by assumption)) (fun j hj => Nat.le_trans (by omega) (hB8.out j hj))))
            clear hK Kq
            try simp only [Act.put, List.setIfInBounds_toArray, List.set_cons_zero, List.set_cons_succ]
            refine wpAnyH_ready (rs := [13]) (by kernel_rfl) (by simp) ?_
            refine AllReadyH.cons (o := _) rfl (fun Kq hK => ?_) AllReadyH.nil
            refine step_app _ rfl _ _ 23 rfl (ob + 1) 76 ib _ 5 40 Tryd.underlying23 hib hzb0 hzb1 hzb2 rfl (by decide) v8 (0 + 0 + 1) ([] ++ wgs (ws.take 0) ++ wgs [x]) rfl hP8.out ydm0m7p5p8.heap.size none 0 _ (wgs (ws.drop 0)) rfl (HD.out _ (HSB.out _ (by assumption))) (wgs_one _) ?c3 ?c4 ?c5 ?_
            case c3 => unfold maxLen; omega
            case c4 => omega
            case c5 => exact hZydm0m7p5p8.out
            intro v13 ydm0m7p5p8p13 hown hgr hat
            have hP13 := Lib.hid hown
            have hG13 := Lib.hid hgr
            have hB13 : Hid (∀ j, v8.ownBlock = some j → ob + 1 ≤ j) := fun j hj => (own_lt hP8.out hj).1
            have hOydm0m7p5p8p13 : Hid (ydm0m7p5p8p13.heap[ob]? = some (.cells #[.slice A1 n c1, .slice A2 0 c2] 25 (0, 0))) := (hgr.block _ (by have := hZydm0m7p5p8.out; omega) (fun e => by have := hB13.out _ e.symm; omega)).trans hOydm0m7p5p8.out
            have hZydm0m7p5p8p13 := Lib.hid (Nat.le_trans hZydm0m7p5p8.out hgr.size)
            clear hgr hown hat
            refine hK.out _ _ ?_ (fun hHeld => ?_)
            · exact HS.out _ (Lib.hid ((HSB.out _ (by assumption)).grown hG13.out (HSZ1.out _ (by assumption)) (fun j hj => Nat.le_trans (by omega) (hB13.out j hj))))
            clear hK Kq
            try simp only [Act.put, List.setIfInBounds_toArray, List.set_cons_zero, List.set_cons_succ]
            obtain ⟨A9, c9, hv9⟩ := own_val hP13.out
            have ho9 := hP13.out
            rw [hv9] at ho9
            rw [hv9]
            have e9 : 0 + 0 + 1 + 0 = 0 + 1 := by omega
            rw [e9] at ho9 ⊢
            rw [hins.out] at ho9
            obtain ⟨g0, g1, f0, f1⟩ := two_facts hOydm0m7p5p8p13.out
            refine tkY (v := ?_) 14 51 rfl rfl (by kernel_rfl) (by kernel_rfl) (by kernel_rfl) (fun _ _ _ h => h) (by kernel_rfl) ?_ (by assumption) ?_
            rotate_left
            · intro w hSw; rw [hSd] at hSw; obtain ⟨⟨q0, q1, q2, q3, q4, q5⟩, -⟩ := hSw; go_simp; (try with_reducible rfl)
            try simp only [Act.put, List.setIfInBounds_toArray, List.set_cons_zero, List.set_cons_succ]
            refine wpAnyH_ready (rs := [15]) (by kernel_rfl) (by simp) ?_
            refine AllReadyH.cons (o := _) rfl (fun Kq hK => ?_) AllReadyH.nil
            go_simp
            refine hK.out _ _ ?_ (fun hHeld => ?_)
            · exact HS.out _ (Lib.hid ((HSB.out _ (by assumption)).setCell (by simp) _))
            clear hK Kq
            try simp only [Act.put, List.setIfInBounds_toArray, List.set_cons_zero, List.set_cons_succ]
            have hob9 := set_one1 hOydm0m7p5p8p13.out (.slice A9 (0 + 1) c9)
            have hO9 := Lib.hid (own_far (p := ⟨ob, 1, none⟩) ho9 (by simp) (.slice A9 (0 + 1) c9))
            have hHF := Lib.hid (HSB.out _ hHeld)
            clear g0 g1 f0 f1 ho9
            generalize (ydm0m7p5p8p13.setCell ⟨ob, 1, none⟩ (.slice A9 (0 + 1) c9)) = wf at *
            refine wpAnyH_done (by kernel_rfl) ?_ _
            obtain ⟨p0, p1, -, -⟩ := two_facts hob9
            have HOb := Lib.hid hob9
            clear hob9
            have hPf := HPC.out wf hHF.out
            have HPf := Lib.hid hPf
            have hO1f := Lib.hid (HO1f.out wf hHF.out)
            clear hPf
            go_wp2_with fail
            refine (Press_any A1 A9 n c1 (0 + 1) c9 ps (insW ws 0 x) wf hnm (by unfold maxLen; omega) (Reads.of_own hO1f.out) (Reads.of_own hO9.out)).mono ?_
            rintro e z5 ⟨rfl, hb5⟩
            have HP5 := Lib.hid (HPf.out.below hb5)
            have hOb5 := keepO hb5 HOb.out
            have hO1' := Lib.hid (own_below hO1f.out hb5)
            have hO2' := Lib.hid (own_below hO9.out hb5)
            clear hb5 p0 p1
            obtain ⟨p0, p1, -, -⟩ := two_facts hOb5
            obtain ⟨g0, g1, f0, f1⟩ := two_facts HP5.out.b1
            have hzz := HZZ.out
            cases hv2 : validP ps (insW ws 0 x)
            · have hs : Hid (weighS ps ws x = (([], []), 21)) := by show _ = _; rw [HS9.out, hv2]; rfl
              clear hv2
              go_wp2
              obtain ⟨e0, e1⟩ := set_back HP5.out.b1 (.slice none 0 0) (.slice none 0 0)
              exact bodyPost_ret (v := .tuple #[.agg #[.slice none 0 0, .slice none 0 0], .int .i64 21]) (by simp [results, Tryd.results37, go_sem, e0, e1]) rfl ⟨Res.nil hs.out, below_two HP5.out.bel (by omega) _ _⟩
            · have hs : Hid (weighS ps ws x = ((ps, insW ws 0 x), 0)) := by show _ = _; rw [HS9.out, hv2]; rfl
              clear hv2
              go_wp2
              obtain ⟨e0, e1⟩ := set_back HP5.out.b1 (.slice A1 n c1) (.slice A9 (0 + 1) c9)
              refine bodyPost_ret (v := .tuple #[.agg #[.slice A1 n c1, .slice A9 (0 + 1) c9], .int .i64 0]) (by simp [results, Tryd.results37, go_sem, e0, e1]) rfl ⟨?_, below_two HP5.out.bel (by omega) _ _⟩
              rw [hs.out]
              exact ⟨_, _, _, _, _, _, rfl, own_mono (own_far (p := ⟨w.heap.size + 2, 1, none⟩) (own_far (p := ⟨w.heap.size + 2, 0, none⟩) hO1'.out (by simp only; omega) _) (by simp only; omega) _) (by omega),
                own_mono (own_far (p := ⟨w.heap.size + 2, 1, none⟩) (own_far (p := ⟨w.heap.size + 2, 0, none⟩) hO2'.out (by simp only; omega) _) (by simp only; omega) _) (by omega)⟩
          refine AllReadyH.cons (o := _) rfl (fun Kq hK => ?_) AllReadyH.nil
          go_simp
          refine hK.out _ _ ?_ (fun hHeld => ?_)
          · exact HS.out _ (Lib.hid ((HSB.out _ (by assumption)).alloc (HSZ1.out _ (by assumption)) _))
          clear hK Kq
          have hA7 : Hid (Below yd.heap.size yd (yd.alloc (.cells #[.int .i64 x.1, .int .i64 x.2.1, .int .i64 x.2.2.1, .int .i64 x.2.2.2.1, .int .i64 x.2.2.2.2] 76))) := (Below.refl _ _).alloc (Nat.le_refl _) _
          have hN7 := Lib.hid (heap_alloc_new yd (.cells #[.int .i64 x.1, .int .i64 x.2.1, .int .i64 x.2.2.1, .int .i64 x.2.2.2.1, .int .i64 x.2.2.2.2] 76))
          have hOydm7 := Lib.hid (keepO hA7.out hOyd.out)
          have hZydm7 := Lib.hid (Nat.le_trans hZyd.out hA7.out.size)
          have hV7 : Hid (ob + 1 ≤ yd.heap.size) := hZyd
          generalize hgb7 : yd.heap.size = gb7 at hN7 hV7 ⊢
          generalize (yd.alloc (.cells #[.int .i64 x.1, .int .i64 x.2.1, .int .i64 x.2.2.1, .int .i64 x.2.2.2.1, .int .i64 x.2.2.2.2] 76)) = ydm7 at *
          clear hgb7 hA7
          try simp only [Act.put, List.setIfInBounds_toArray, List.set_cons_zero, List.set_cons_succ]
          refine wpAnyH_ready (rs := [0]) (by kernel_rfl) (by simp) ?_
          refine AllReadyH.cons (o := _) rfl (fun Kq hK => ?_) AllReadyH.nil
          go_simp
          refine hK.out _ _ ?_ (fun hHeld => ?_)
          · exact HS.out _ (Lib.hid ((HSB.out _ (by assumption)).alloc (HSZ1.out _ (by assumption)) _))
          clear hK Kq
          have hA0 : Hid (Below ydm7.heap.size ydm7 (ydm7.alloc (.cells #[] 76))) := (Below.refl _ _).alloc (Nat.le_refl _) _
          have hN0 := Lib.hid (own_lit0 ydm7 (ob + 1) hZydm7.out 76 5)
          have hN7' := Lib.hid (keepO hA0.out hN7.out)
          have hD7 : Hid (gb7 < ydm7.heap.size) := (Array.getElem?_eq_some_iff.1 hN7.out).1
          have hOydm7m0 := Lib.hid (keepO hA0.out hOydm7.out)
          have hZydm7m0 := Lib.hid (Nat.le_trans hZydm7.out hA0.out.size)
          have hV0 : Hid (ob + 1 ≤ ydm7.heap.size) := hZydm7
          generalize hgb0 : ydm7.heap.size = gb0 at hN0 hV0 hD7 ⊢
          generalize (ydm7.alloc (.cells #[] 76)) = ydm7m0 at *
          clear hgb0 hA0
          try simp only [Act.put, List.setIfInBounds_toArray, List.set_cons_zero, List.set_cons_succ]
          refine wpAnyH_ready (rs := [5]) (by kernel_rfl) (by simp) ?_
          refine AllReadyH.cons (o := _) rfl (fun Kq hK => ?_) AllReadyH.nil
          refine step_app _ rfl _ _ 23 rfl (ob + 1) 76 ib _ 5 40 Tryd.underlying23 hib hzb0 hzb1 hzb2 rfl (by decide) (.slice (some ⟨gb0, 0, none⟩) 0 0) 0 [] rfl hN0.out ydm7m0.heap.size none 0 _ (wgs (ws.take 0)) rfl (HT.out _ (HSB.out _ (by assumption))) (wgs_one _) ?c3 ?c4 ?c5 ?_
          case c3 => unfold maxLen; omega
          case c4 => omega
          case c5 => exact hZydm7m0.out
          intro v5 ydm7m0p5 hown hgr hat
          have hP5 := Lib.hid hown
          have hG5 := Lib.hid hgr
          have hB5 : Hid (∀ j, (Value.slice (some ⟨gb0, 0, none⟩) 0 0).ownBlock = some j → ob + 1 ≤ j) := fun j hj => (own_lt hN0.out hj).1
          have hOydm7m0p5 : Hid (ydm7m0p5.heap[ob]? = some (.cells #[.slice A1 n c1, .slice A2 0 c2] 25 (0, 0))) := (hgr.block _ (by have := hZydm7m0.out; omega) (fun e => by have := hB5.out _ e.symm; omega)).trans hOydm7m0.out
          have hZydm7m0p5 := Lib.hid (Nat.le_trans hZydm7m0.out hgr.size)
          have hN7q := Lib.hid ((hgr.block gb7 (Array.getElem?_eq_some_iff.1 hN7'.out).1 (fun e => by have := hD7.out; simp [Value.ownBlock] at e; omega)).trans hN7'.out)
          clear hgr hown hat
          refine hK.out _ _ ?_ (fun hHeld => ?_)
          · exact HS.out _ (Lib.hid ((HSB.out _ (by assumption)).grown hG5.out (HSZ1.out _ (by assumption)) (fun j hj => Nat.le_trans (by omega) (hB5.out j hj))))
          clear hK Kq
          try simp only [Act.put, List.setIfInBounds_toArray, List.set_cons_zero, List.set_cons_succ]
          refine wpAnyH_ready (rs := [8]) (by kernel_rfl) (by simp) ?_
          refine AllReadyH.cons (o := _) rfl (fun Kq hK => ?_) AllReadyH.nil
          refine step_app _ rfl _ _ 23 rfl (ob + 1) 76 ib _ 5 40 Tryd.underlying23 hib hzb0 hzb1 hzb2 rfl (by decide) v5 (0 + 0) ([] ++ wgs (ws.take 0)) rfl hP5.out (gb7 + 1) (some ⟨gb7, 0, none⟩) 1 1 (wgs [x]) rfl (x_reads hN7q.out) (wgs_one _) ?c3 ?c4 ?c5 ?_
          case c3 => unfold maxLen; omega
          case c4 => omega
          case c5 => exact hZydm7m0p5.out
          intro v8 ydm7m0p5p8 hown hgr hat
          have hP8 := Lib.hid hown
          have hG8 := Lib.hid hgr
          have hB8 : Hid (∀ j, v5.ownBlock = some j → ob + 1 ≤ j) := fun j hj => (own_lt hP5.out hj).1
          have hOydm7m0p5p8 : Hid (ydm7m0p5p8.heap[ob]? = some (.cells #[.slice A1 n c1, .slice A2 0 c2] 25 (0, 0))) := (hgr.block _ (by have := hZydm7m0p5.out; omega) (fun e => by have := hB8.out _ e.symm; omega)).trans hOydm7m0p5.out
          have hZydm7m0p5p8 := Lib.hid (Nat.le_trans hZydm7m0p5.out hgr.size)
          clear hgr hown hat
          refine hK.out _ _ ?_ (fun hHeld => ?_)
          · exact HS.out _ (Lib.hid ((HSB.out _ (by assumption)).grown hG8.out (HSZ1.out _ (by assumption)) (fun j hj => Nat.le_trans (by omega) (hB8.out j hj))))
          clear hK Kq
          try simp only [Act.put, List.setIfInBounds_toArray, List.set_cons_zero, List.set_cons_succ]
          refine wpAnyH_ready (rs := [13]) (by kernel_rfl) (by simp) ?_
          refine AllReadyH.cons (o := _) rfl (fun Kq hK => ?_) AllReadyH.nil
          refine step_app _ rfl _ _ 23 rfl (ob + 1) 76 ib _ 5 40 Tryd.underlying23 hib hzb0 hzb1 hzb2 rfl (by decide) v8 (0 + 0 + 1) ([] ++ wgs (ws.take 0) ++ wgs [x]) rfl hP8.out ydm7m0p5p8.heap.size none 0 _ (wgs (ws.drop 0)) rfl (HD.out _ (HSB.out _ (by assumption))) (wgs_one _) ?c3 ?c4 ?c5 ?_
          case c3 => unfold maxLen; omega
          case c4 => omega
          case c5 => exact hZydm7m0p5p8.out
          intro v13 ydm7m0p5p8p13 hown hgr hat
          have hP13 := Lib.hid hown
          have hG13 := Lib.hid hgr
          have hB13 : Hid (∀ j, v8.ownBlock = some j → ob + 1 ≤ j) := fun j hj => (own_lt hP8.out hj).1
          have hOydm7m0p5p8p13 : Hid (ydm7m0p5p8p13.heap[ob]? = some (.cells #[.slice A1 n c1, .slice A2 0 c2] 25 (0, 0))) := (hgr.block _ (by have := hZydm7m0p5p8.out; omega) (fun e => by have := hB13.out _ e.symm; omega)).trans hOydm7m0p5p8.out
          have hZydm7m0p5p8p13 := Lib.hid (Nat.le_trans hZydm7m0p5p8.out hgr.size)
          clear hgr hown hat
          refine hK.out _ _ ?_ (fun hHeld => ?_)
          · exact HS.out _ (Lib.hid ((HSB.out _ (by assumption)).grown hG13.out (HSZ1.out _ (by assumption)) (fun j hj => Nat.le_trans (by omega) (hB13.out j hj))))
          clear hK Kq
          try simp only [Act.put, List.setIfInBounds_toArray, List.set_cons_zero, List.set_cons_succ]
          obtain ⟨A9, c9, hv9⟩ := own_val hP13.out
          have ho9 := hP13.out
          rw [hv9] at ho9
          rw [hv9]
          have e9 : 0 + 0 + 1 + 0 = 0 + 1 := by omega
          rw [e9] at ho9 ⊢
          rw [hins.out] at ho9
          obtain ⟨g0, g1, f0, f1⟩ := two_facts hOydm7m0p5p8p13.out
          refine tkY (v := ?_) 14 51 rfl rfl (by kernel_rfl) (by kernel_rfl) (by kernel_rfl) (fun _ _ _ h => h) (by kernel_rfl) ?_ (by assumption) ?_
          rotate_left
          · intro w hSw; rw [hSd] at hSw; obtain ⟨⟨q0, q1, q2, q3, q4, q5⟩, -⟩ := hSw; go_simp; (try with_reducible rfl)
          try simp only [Act.put, List.setIfInBounds_toArray, List.set_cons_zero, List.set_cons_succ]
          refine wpAnyH_ready (rs := [15]) (by kernel_rfl) (by simp) ?_
          refine AllReadyH.cons (o := _) rfl (fun Kq hK => ?_) AllReadyH.nil
          go_simp
          refine hK.out _ _ ?_ (fun hHeld => ?_)
          · exact HS.out _ (Lib.hid ((HSB.out _ (by assumption)).setCell (by simp) _))
          clear hK Kq
          try simp only [Act.put, List.setIfInBounds_toArray, List.set_cons_zero, List.set_cons_succ]
          have hob9 := set_one1 hOydm7m0p5p8p13.out (.slice A9 (0 + 1) c9)
          have hO9 := Lib.hid (own_far (p := ⟨ob, 1, none⟩) ho9 (by simp) (.slice A9 (0 + 1) c9))
          have hHF := Lib.hid (HSB.out _ hHeld)
          clear g0 g1 f0 f1 ho9
          generalize (ydm7m0p5p8p13.setCell ⟨ob, 1, none⟩ (.slice A9 (0 + 1) c9)) = wf at *
          refine wpAnyH_done (by kernel_rfl) ?_ _
          obtain ⟨p0, p1, -, -⟩ := two_facts hob9
          have HOb := Lib.hid hob9
          clear hob9
          have hPf := HPC.out wf hHF.out
          have HPf := Lib.hid hPf
          have hO1f := Lib.hid (HO1f.out wf hHF.out)
          clear hPf
          go_wp2_with fail
          refine (Press_any A1 A9 n c1 (0 + 1) c9 ps (insW ws 0 x) wf hnm (by unfold maxLen; omega) (Reads.of_own hO1f.out) (Reads.of_own hO9.out)).mono ?_
          rintro e z5 ⟨rfl, hb5⟩
          have HP5 := Lib.hid (HPf.out.below hb5)
          have hOb5 := keepO hb5 HOb.out
          have hO1' := Lib.hid (own_below hO1f.out hb5)
          have hO2' := Lib.hid (own_below hO9.out hb5)
          clear hb5 p0 p1
          obtain ⟨p0, p1, -, -⟩ := two_facts hOb5
          obtain ⟨g0, g1, f0, f1⟩ := two_facts HP5.out.b1
          have hzz := HZZ.out
          cases hv2 : validP ps (insW ws 0 x)
          · have hs : Hid (weighS ps ws x = (([], []), 21)) := by show _ = _; rw [HS9.out, hv2]; rfl
            clear hv2
            go_wp2
            obtain ⟨e0, e1⟩ := set_back HP5.out.b1 (.slice none 0 0) (.slice none 0 0)
            exact bodyPost_ret (v := .tuple #[.agg #[.slice none 0 0, .slice none 0 0], .int .i64 21]) (by simp [results, Tryd.results37, go_sem, e0, e1]) rfl ⟨Res.nil hs.out, below_two HP5.out.bel (by omega) _ _⟩
          · have hs : Hid (weighS ps ws x = ((ps, insW ws 0 x), 0)) := by show _ = _; rw [HS9.out, hv2]; rfl
            clear hv2
            go_wp2
            obtain ⟨e0, e1⟩ := set_back HP5.out.b1 (.slice A1 n c1) (.slice A9 (0 + 1) c9)
            refine bodyPost_ret (v := .tuple #[.agg #[.slice A1 n c1, .slice A9 (0 + 1) c9], .int .i64 0]) (by simp [results, Tryd.results37, go_sem, e0, e1]) rfl ⟨?_, below_two HP5.out.bel (by omega) _ _⟩
            rw [hs.out]
            exact ⟨_, _, _, _, _, _, rfl, own_mono (own_far (p := ⟨w.heap.size + 2, 1, none⟩) (own_far (p := ⟨w.heap.size + 2, 0, none⟩) hO1'.out (by simp only; omega) _) (by simp only; omega) _) (by omega),
              own_mono (own_far (p := ⟨w.heap.size + 2, 1, none⟩) (own_far (p := ⟨w.heap.size + 2, 0, none⟩) hO2'.out (by simp only; omega) _) (by simp only; omega) _) (by omega)⟩
        · by_cases hck : c' = k
          · obtain rfl : n' = k := by omega
            obtain rfl : c' = n' := hck
            have hdr : ws.drop c' = [] := List.drop_eq_nil_of_le (by have := HL'.out; omega)
            have HD := Lib.hid (fun z (hz : Below ob wl z) => (⟨by rw [hdr]; rfl, fun h => absurd h (by omega)⟩ : Reads z z.heap.size 5 (some a0) 0 (wgs (ws.drop c'))))
            clear hdr
            go_wp2_with fail
            refine wp_region_held_drew (S := S) (by kernel_rfl) ?_ (fun hHeld => ?_)
            · exact HS.out _ hZ0
            generalize wl.drew = yd at *
            refine tkY (v := ?_) 1 38 rfl rfl (by kernel_rfl) (by kernel_rfl) (by kernel_rfl) (fun _ _ _ h => h) (by kernel_rfl) ?_ (by assumption) ?_
            rotate_left
            · intro w hSw; rw [hSd] at hSw; obtain ⟨⟨q0, q1, q2, q3, q4, q5⟩, -⟩ := hSw; go_simp; (try with_reducible rfl)
            try simp only [Act.put, List.setIfInBounds_toArray, List.set_cons_zero, List.set_cons_succ]
            refine tkY (v := ?_) 2 39 rfl rfl (by kernel_rfl) (by kernel_rfl) (by kernel_rfl) (fun _ _ _ h => h) (by kernel_rfl) ?_ (by assumption) ?_
            rotate_left
            · intro w hSw; rw [hSd] at hSw; obtain ⟨⟨q0, q1, q2, q3, q4, q5⟩, -⟩ := hSw; go_simp; (try with_reducible rfl)
            try simp only [Act.put, List.setIfInBounds_toArray, List.set_cons_zero, List.set_cons_succ]
            refine tkY (v := ?_) 3 40 rfl rfl (by kernel_rfl) (by kernel_rfl) (by kernel_rfl) (fun _ _ _ h => h) (by kernel_rfl) ?_ (by assumption) ?_
            rotate_left
            · intro w hSw; rw [hSd] at hSw; obtain ⟨⟨q0, q1, q2, q3, q4, q5⟩, -⟩ := hSw; go_simp; (try with_reducible rfl)
            try simp only [Act.put, List.setIfInBounds_toArray, List.set_cons_zero, List.set_cons_succ]
            refine tkY (v := ?_) 4 41 rfl rfl (by kernel_rfl) (by kernel_rfl) (by kernel_rfl) (fun _ _ _ h => h) (by kernel_rfl) ?_ (by assumption) ?_
            rotate_left
            · intro w hSw; rw [hSd] at hSw; obtain ⟨⟨q0, q1, q2, q3, q4, q5⟩, -⟩ := hSw; go_simp; (try with_reducible rfl)
            try simp only [Act.put, List.setIfInBounds_toArray, List.set_cons_zero, List.set_cons_succ]
            refine tkY (v := ?_) 6 43 rfl rfl (by kernel_rfl) (by kernel_rfl) (by kernel_rfl) (fun _ _ _ h => h) (by kernel_rfl) ?_ (by assumption) ?_
            rotate_left
            · intro w hSw; rw [hSd] at hSw; obtain ⟨⟨q0, q1, q2, q3, q4, q5⟩, -⟩ := hSw; go_simp; (try with_reducible rfl)
            try simp only [Act.put, List.setIfInBounds_toArray, List.set_cons_zero, List.set_cons_succ]
            refine tkY (v := ?_) 9 46 rfl rfl (by kernel_rfl) (by kernel_rfl) (by kernel_rfl) (fun _ _ _ h => h) (by kernel_rfl) ?_ (by assumption) ?_
            rotate_left
            · intro w hSw; rw [hSd] at hSw; obtain ⟨⟨q0, q1, q2, q3, q4, q5⟩, -⟩ := hSw; go_simp; (try with_reducible rfl)
            try simp only [Act.put, List.setIfInBounds_toArray, List.set_cons_zero, List.set_cons_succ]
            refine tkY (v := ?_) 10 47 rfl rfl (by kernel_rfl) (by kernel_rfl) (by kernel_rfl) (fun _ _ _ h => h) (by kernel_rfl) ?_ (by assumption) ?_
            rotate_left
            · intro w hSw; rw [hSd] at hSw; obtain ⟨⟨q0, q1, q2, q3, q4, q5⟩, -⟩ := hSw; go_simp; (try with_reducible rfl)
            try simp only [Act.put, List.setIfInBounds_toArray, List.set_cons_zero, List.set_cons_succ]
            refine tkY (v := ?_) 11 48 rfl rfl (by kernel_rfl) (by kernel_rfl) (by kernel_rfl) (fun _ _ _ h => h) (by kernel_rfl) ?_ (by assumption) ?_
            rotate_left
            · intro w hSw; rw [hSd] at hSw; obtain ⟨⟨q0, q1, q2, q3, q4, q5⟩, -⟩ := hSw; go_simp; (try with_reducible rfl)
            try simp only [Act.put, List.setIfInBounds_toArray, List.set_cons_zero, List.set_cons_succ]
            refine tkY (v := ?_) 12 49 rfl rfl (by kernel_rfl) (by kernel_rfl) (by kernel_rfl) (fun _ _ _ h => h) (by kernel_rfl) ?_ (by assumption) ?_
            rotate_left
            · intro w hSw; rw [hSd] at hSw; obtain ⟨⟨q0, q1, q2, q3, q4, q5⟩, -⟩ := hSw; go_simp; (try with_reducible rfl)
            try simp only [Act.put, List.setIfInBounds_toArray, List.set_cons_zero, List.set_cons_succ]
            refine wpAnyH_ready (rs := [0, 7]) (by kernel_rfl) (by simp) ?_
            refine AllReadyH.cons (o := _) rfl (fun Kq hK => ?_) ?_
            · go_simp
              refine hK.out _ _ ?_ (fun hHeld => ?_)
              · exact HS.out _ (Lib.hid ((HSB.out _ (by assumption)).alloc (HSZ1.out _ (by assumption)) _))
              clear hK Kq
              have hA0 : Hid (Below yd.heap.size yd (yd.alloc (.cells #[] 76))) := (Below.refl _ _).alloc (Nat.le_refl _) _
              have hN0 := Lib.hid (own_lit0 yd (ob + 1) hZyd.out 76 5)
              have hOydm0 := Lib.hid (keepO hA0.out hOyd.out)
              have hZydm0 := Lib.hid (Nat.le_trans hZyd.out hA0.out.size)
              have hV0 : Hid (ob + 1 ≤ yd.heap.size) := hZyd
              generalize hgb0 : yd.heap.size = gb0 at hN0 hV0 ⊢
              generalize (yd.alloc (.cells #[] 76)) = ydm0 at *
              clear hgb0 hA0
              try simp only [Act.put, List.setIfInBounds_toArray, List.set_cons_zero, List.set_cons_succ]
              refine wpAnyH_ready (rs := [5, 7]) (by kernel_rfl) (by simp) ?_
              refine AllReadyH.cons (o := _) rfl (fun Kq hK => ?_) ?_
              · refine step_app _ rfl _ _ 23 rfl (ob + 1) 76 ib _ 5 40 Tryd.underlying23 hib hzb0 hzb1 hzb2 rfl (by decide) (.slice (some ⟨gb0, 0, none⟩) 0 0) 0 [] rfl hN0.out ydm0.heap.size (some a0) c' _ (wgs (ws.take c')) rfl (HT.out _ (HSB.out _ (by assumption))) (wgs_one _) ?c3 ?c4 ?c5 ?_
                case c3 => unfold maxLen; omega
                case c4 => omega
                case c5 => exact hZydm0.out
                intro v5 ydm0p5 hown hgr hat
                have hP5 := Lib.hid hown
                have hG5 := Lib.hid hgr
                have hB5 : Hid (∀ j, (Value.slice (some ⟨gb0, 0, none⟩) 0 0).ownBlock = some j → ob + 1 ≤ j) := fun j hj => (own_lt hN0.out hj).1
                have hOydm0p5 : Hid (ydm0p5.heap[ob]? = some (.cells #[.slice A1 n c1, .slice A2 c' c2] 25 (0, 0))) := (hgr.block _ (by have := hZydm0.out; omega) (fun e => by have := hB5.out _ e.symm; omega)).trans hOydm0.out
                have hZydm0p5 := Lib.hid (Nat.le_trans hZydm0.out hgr.size)
                clear hgr hown hat
                refine hK.out _ _ ?_ (fun hHeld => ?_)
                · exact HS.out _ (Lib.hid ((HSB.out _ (by assumption)).grown hG5.out (HSZ1.out _ (by assumption)) (fun j hj => Nat.le_trans (by omega) (hB5.out j hj))))
                clear hK Kq
                try simp only [Act.put, List.setIfInBounds_toArray, List.set_cons_zero, List.set_cons_succ]
                refine wpAnyH_ready (rs := [7]) (by kernel_rfl) (by simp) ?_
                refine AllReadyH.cons (o := _) rfl (fun Kq hK => ?_) AllReadyH.nil
                go_simp
                refine hK.out _ _ ?_ (fun hHeld => ?_)
                · exact HS.out _ (Lib.hid ((HSB.out _ (by assumption)).alloc (HSZ1.out _ (by assumption)) _))
                clear hK Kq
                have hA7 : Hid (Below ydm0p5.heap.size ydm0p5 (ydm0p5.alloc (.cells #[.int .i64 x.1, .int .i64 x.2.1, .int .i64 x.2.2.1, .int .i64 x.2.2.2.1, .int .i64 x.2.2.2.2] 76))) := (Below.refl _ _).alloc (Nat.le_refl _) _
                have hN7 := Lib.hid (heap_alloc_new ydm0p5 (.cells #[.int .i64 x.1, .int .i64 x.2.1, .int .i64 x.2.2.1, .int .i64 x.2.2.2.1, .int .i64 x.2.2.2.2] 76))
                have hN5' := Lib.hid (own_below hP5.out hA7.out)
                have hOydm0p5m7 := Lib.hid (keepO hA7.out hOydm0p5.out)
                have hZydm0p5m7 := Lib.hid (Nat.le_trans hZydm0p5.out hA7.out.size)
                have hV7 : Hid (ob + 1 ≤ ydm0p5.heap.size) := hZydm0p5
                generalize hgb7 : ydm0p5.heap.size = gb7 at hN7 hV7 ⊢
                generalize (ydm0p5.alloc (.cells #[.int .i64 x.1, .int .i64 x.2.1, .int .i64 x.2.2.1, .int .i64 x.2.2.2.1, .int .i64 x.2.2.2.2] 76)) = ydm0p5m7 at *
                clear hgb7 hA7
                try simp only [Act.put, List.setIfInBounds_toArray, List.set_cons_zero, List.set_cons_succ]
                refine wpAnyH_ready (rs := [8]) (by kernel_rfl) (by simp) ?_
                refine AllReadyH.cons (o := _) rfl (fun Kq hK => ?_) AllReadyH.nil
                refine step_app _ rfl _ _ 23 rfl (ob + 1) 76 ib _ 5 40 Tryd.underlying23 hib hzb0 hzb1 hzb2 rfl (by decide) v5 (0 + c') ([] ++ wgs (ws.take c')) rfl hN5'.out (gb7 + 1) (some ⟨gb7, 0, none⟩) 1 1 (wgs [x]) rfl (x_reads hN7.out) (wgs_one _) ?c3 ?c4 ?c5 ?_
                case c3 => unfold maxLen; omega
                case c4 => omega
                case c5 => exact hZydm0p5m7.out
                intro v8 ydm0p5m7p8 hown hgr hat
                have hP8 := Lib.hid hown
                have hG8 := Lib.hid hgr
                have hB8 : Hid (∀ j, v5.ownBlock = some j → ob + 1 ≤ j) := fun j hj => (own_lt hN5'.out hj).1
                have hOydm0p5m7p8 : Hid (ydm0p5m7p8.heap[ob]? = some (.cells #[.slice A1 n c1, .slice A2 c' c2] 25 (0, 0))) := (hgr.block _ (by have := hZydm0p5m7.out; omega) (fun e => by have := hB8.out _ e.symm; omega)).trans hOydm0p5m7.out
                have hZydm0p5m7p8 := Lib.hid (Nat.le_trans hZydm0p5m7.out hgr.size)
                clear hgr hown hat
                refine hK.out _ _ ?_ (fun hHeld => ?_)
                · exact HS.out _ (Lib.hid ((HSB.out _ (by assumption)).grown hG8.out (HSZ1.out _ (by assumption)) (fun j hj => Nat.le_trans (by omega) (hB8.out j hj))))
                clear hK Kq
                try simp only [Act.put, List.setIfInBounds_toArray, List.set_cons_zero, List.set_cons_succ]
                refine wpAnyH_ready (rs := [13]) (by kernel_rfl) (by simp) ?_
                refine AllReadyH.cons (o := _) rfl (fun Kq hK => ?_) AllReadyH.nil
                refine step_app _ rfl _ _ 23 rfl (ob + 1) 76 ib _ 5 40 Tryd.underlying23 hib hzb0 hzb1 hzb2 rfl (by decide) v8 (0 + c' + 1) ([] ++ wgs (ws.take c') ++ wgs [x]) rfl hP8.out ydm0p5m7p8.heap.size (some a0) 0 _ (wgs (ws.drop c')) rfl (HD.out _ (HSB.out _ (by assumption))) (wgs_one _) ?c3 ?c4 ?c5 ?_
                case c3 => unfold maxLen; omega
                case c4 => omega
                case c5 => exact hZydm0p5m7p8.out
                intro v13 ydm0p5m7p8p13 hown hgr hat
                have hP13 := Lib.hid hown
                have hG13 := Lib.hid hgr
                have hB13 : Hid (∀ j, v8.ownBlock = some j → ob + 1 ≤ j) := fun j hj => (own_lt hP8.out hj).1
                have hOydm0p5m7p8p13 : Hid (ydm0p5m7p8p13.heap[ob]? = some (.cells #[.slice A1 n c1, .slice A2 c' c2] 25 (0, 0))) := (hgr.block _ (by have := hZydm0p5m7p8.out; omega) (fun e => by have := hB13.out _ e.symm; omega)).trans hOydm0p5m7p8.out
                have hZydm0p5m7p8p13 := Lib.hid (Nat.le_trans hZydm0p5m7p8.out hgr.size)
                clear hgr hown hat
                refine hK.out _ _ ?_ (fun hHeld => ?_)
                · exact HS.out _ (Lib.hid ((HSB.out _ (by assumption)).grown hG13.out (HSZ1.out _ (by assumption)) (fun j hj => Nat.le_trans (by omega) (hB13.out j hj))))
                clear hK Kq
                try simp only [Act.put, List.setIfInBounds_toArray, List.set_cons_zero, List.set_cons_succ]
                obtain ⟨A9, c9, hv9⟩ := own_val hP13.out
                have ho9 := hP13.out
                rw [hv9] at ho9
                rw [hv9]
                have e9 : 0 + c' + 1 + 0 = c' + 1 := by omega
                rw [e9] at ho9 ⊢
                rw [hins.out] at ho9
                obtain ⟨g0, g1, f0, f1⟩ := two_facts hOydm0p5m7p8p13.out
                refine tkY (v := ?_) 14 51 rfl rfl (by kernel_rfl) (by kernel_rfl) (by kernel_rfl) (fun _ _ _ h => h) (by kernel_rfl) ?_ (by assumption) ?_
                rotate_left
                · intro w hSw; rw [hSd] at hSw; obtain ⟨⟨q0, q1, q2, q3, q4, q5⟩, -⟩ := hSw; go_simp; (try with_reducible rfl)
                try simp only [Act.put, List.setIfInBounds_toArray, List.set_cons_zero, List.set_cons_succ]
                refine wpAnyH_ready (rs := [15]) (by kernel_rfl) (by simp) ?_
                refine AllReadyH.cons (o := _) rfl (fun Kq hK => ?_) AllReadyH.nil
                go_simp
                refine hK.out _ _ ?_ (fun hHeld => ?_)
                · exact HS.out _ (Lib.hid ((HSB.out _ (by assumption)).setCell (by simp) _))
                clear hK Kq
                try simp only [Act.put, List.setIfInBounds_toArray, List.set_cons_zero, List.set_cons_succ]
                have hob9 := set_one1 hOydm0p5m7p8p13.out (.slice A9 (c' + 1) c9)
                have hO9 := Lib.hid (own_far (p := ⟨ob, 1, none⟩) ho9 (by simp) (.slice A9 (c' + 1) c9))
                have hHF := Lib.hid (HSB.out _ hHeld)
                clear g0 g1 f0 f1 ho9
                generalize (ydm0p5m7p8p13.setCell ⟨ob, 1, none⟩ (.slice A9 (c' + 1) c9)) = wf at *
                refine wpAnyH_done (by kernel_rfl) ?_ _
                obtain ⟨p0, p1, -, -⟩ := two_facts hob9
                have HOb := Lib.hid hob9
                clear hob9
                have hPf := HPC.out wf hHF.out
                have HPf := Lib.hid hPf
                have hO1f := Lib.hid (HO1f.out wf hHF.out)
                clear hPf
                go_wp2_with fail
                refine (Press_any A1 A9 n c1 (c' + 1) c9 ps (insW ws c' x) wf hnm (by unfold maxLen; omega) (Reads.of_own hO1f.out) (Reads.of_own hO9.out)).mono ?_
                rintro e z5 ⟨rfl, hb5⟩
                have HP5 := Lib.hid (HPf.out.below hb5)
                have hOb5 := keepO hb5 HOb.out
                have hO1' := Lib.hid (own_below hO1f.out hb5)
                have hO2' := Lib.hid (own_below hO9.out hb5)
                clear hb5 p0 p1
                obtain ⟨p0, p1, -, -⟩ := two_facts hOb5
                obtain ⟨g0, g1, f0, f1⟩ := two_facts HP5.out.b1
                have hzz := HZZ.out
                cases hv2 : validP ps (insW ws c' x)
                · have hs : Hid (weighS ps ws x = (([], []), 21)) := by show _ = _; rw [HS9.out, hv2]; rfl
                  clear hv2
                  go_wp2
                  obtain ⟨e0, e1⟩ := set_back HP5.out.b1 (.slice none 0 0) (.slice none 0 0)
                  exact bodyPost_ret (v := .tuple #[.agg #[.slice none 0 0, .slice none 0 0], .int .i64 21]) (by simp [results, Tryd.results37, go_sem, e0, e1]) rfl ⟨Res.nil hs.out, below_two HP5.out.bel (by omega) _ _⟩
                · have hs : Hid (weighS ps ws x = ((ps, insW ws c' x), 0)) := by show _ = _; rw [HS9.out, hv2]; rfl
                  clear hv2
                  go_wp2
                  obtain ⟨e0, e1⟩ := set_back HP5.out.b1 (.slice A1 n c1) (.slice A9 (c' + 1) c9)
                  refine bodyPost_ret (v := .tuple #[.agg #[.slice A1 n c1, .slice A9 (c' + 1) c9], .int .i64 0]) (by simp [results, Tryd.results37, go_sem, e0, e1]) rfl ⟨?_, below_two HP5.out.bel (by omega) _ _⟩
                  rw [hs.out]
                  exact ⟨_, _, _, _, _, _, rfl, own_mono (own_far (p := ⟨w.heap.size + 2, 1, none⟩) (own_far (p := ⟨w.heap.size + 2, 0, none⟩) hO1'.out (by simp only; omega) _) (by simp only; omega) _) (by omega),
                    own_mono (own_far (p := ⟨w.heap.size + 2, 1, none⟩) (own_far (p := ⟨w.heap.size + 2, 0, none⟩) hO2'.out (by simp only; omega) _) (by simp only; omega) _) (by omega)⟩
              refine AllReadyH.cons (o := _) rfl (fun Kq hK => ?_) AllReadyH.nil
              go_simp
              refine hK.out _ _ ?_ (fun hHeld => ?_)
              · exact HS.out _ (Lib.hid ((HSB.out _ (by assumption)).alloc (HSZ1.out _ (by assumption)) _))
              clear hK Kq
              have hA7 : Hid (Below ydm0.heap.size ydm0 (ydm0.alloc (.cells #[.int .i64 x.1, .int .i64 x.2.1, .int .i64 x.2.2.1, .int .i64 x.2.2.2.1, .int .i64 x.2.2.2.2] 76))) := (Below.refl _ _).alloc (Nat.le_refl _) _
              have hN7 := Lib.hid (heap_alloc_new ydm0 (.cells #[.int .i64 x.1, .int .i64 x.2.1, .int .i64 x.2.2.1, .int .i64 x.2.2.2.1, .int .i64 x.2.2.2.2] 76))
              have hN0' := Lib.hid (own_below hN0.out hA7.out)
              have hD7 : Hid (gb0 < ydm0.heap.size) := (own_lt hN0.out rfl).2
              have hOydm0m7 := Lib.hid (keepO hA7.out hOydm0.out)
              have hZydm0m7 := Lib.hid (Nat.le_trans hZydm0.out hA7.out.size)
              have hV7 : Hid (ob + 1 ≤ ydm0.heap.size) := hZydm0
              generalize hgb7 : ydm0.heap.size = gb7 at hN7 hV7 hD7 ⊢
              generalize (ydm0.alloc (.cells #[.int .i64 x.1, .int .i64 x.2.1, .int .i64 x.2.2.1, .int .i64 x.2.2.2.1, .int .i64 x.2.2.2.2] 76)) = ydm0m7 at *
              clear hgb7 hA7
              try simp only [Act.put, List.setIfInBounds_toArray, List.set_cons_zero, List.set_cons_succ]
              refine wpAnyH_ready (rs := [5]) (by kernel_rfl) (by simp) ?_
              refine AllReadyH.cons (o := _) rfl (fun Kq hK => ?_) AllReadyH.nil
              refine step_app _ rfl _ _ 23 rfl (ob + 1) 76 ib _ 5 40 Tryd.underlying23 hib hzb0 hzb1 hzb2 rfl (by decide) (.slice (some ⟨gb0, 0, none⟩) 0 0) 0 [] rfl hN0'.out ydm0m7.heap.size (some a0) c' _ (wgs (ws.take c')) rfl (HT.out _ (HSB.out _ (by assumption))) (wgs_one _) ?c3 ?c4 ?c5 ?_
              case c3 => unfold maxLen; omega
              case c4 => omega
              case c5 => exact hZydm0m7.out
              intro v5 ydm0m7p5 hown hgr hat
              have hP5 := Lib.hid hown
              have hG5 := Lib.hid hgr
              have hB5 : Hid (∀ j, (Value.slice (some ⟨gb0, 0, none⟩) 0 0).ownBlock = some j → ob + 1 ≤ j) := fun j hj => (own_lt hN0'.out hj).1
              have hOydm0m7p5 : Hid (ydm0m7p5.heap[ob]? = some (.cells #[.slice A1 n c1, .slice A2 c' c2] 25 (0, 0))) := (hgr.block _ (by have := hZydm0m7.out; omega) (fun e => by have := hB5.out _ e.symm; omega)).trans hOydm0m7.out
              have hZydm0m7p5 := Lib.hid (Nat.le_trans hZydm0m7.out hgr.size)
              have hN7q := Lib.hid ((hgr.block gb7 (Array.getElem?_eq_some_iff.1 hN7.out).1 (fun e => by have := hD7.out; simp [Value.ownBlock] at e; omega)).trans hN7.out)
              clear hgr hown hat
              refine hK.out _ _ ?_ (fun hHeld => ?_)
              · exact HS.out _ (Lib.hid ((HSB.out _ (by assumption)).grown hG5.out (HSZ1.out _ (by assumption)) (fun j hj => Nat.le_trans (by omega) (hB5.out j hj))))
              clear hK Kq
              try simp only [Act.put, List.setIfInBounds_toArray, List.set_cons_zero, List.set_cons_succ]
              refine wpAnyH_ready (rs := [8]) (by kernel_rfl) (by simp) ?_
              refine AllReadyH.cons (o := _) rfl (fun Kq hK => ?_) AllReadyH.nil
              refine step_app _ rfl _ _ 23 rfl (ob + 1) 76 ib _ 5 40 Tryd.underlying23 hib hzb0 hzb1 hzb2 rfl (by decide) v5 (0 + c') ([] ++ wgs (ws.take c')) rfl hP5.out (gb7 + 1) (some ⟨gb7, 0, none⟩) 1 1 (wgs [x]) rfl (x_reads hN7q.out) (wgs_one _) ?c3 ?c4 ?c5 ?_
              case c3 => unfold maxLen; omega
              case c4 => omega
              case c5 => exact hZydm0m7p5.out
              intro v8 ydm0m7p5p8 hown hgr hat
              have hP8 := Lib.hid hown
              have hG8 := Lib.hid hgr
              have hB8 : Hid (∀ j, v5.ownBlock = some j → ob + 1 ≤ j) := fun j hj => (own_lt hP5.out hj).1
              have hOydm0m7p5p8 : Hid (ydm0m7p5p8.heap[ob]? = some (.cells #[.slice A1 n c1, .slice A2 c' c2] 25 (0, 0))) := (hgr.block _ (by have := hZydm0m7p5.out; omega) (fun e => by have := hB8.out _ e.symm; omega)).trans hOydm0m7p5.out
              have hZydm0m7p5p8 := Lib.hid (Nat.le_trans hZydm0m7p5.out hgr.size)
              clear hgr hown hat
              refine hK.out _ _ ?_ (fun hHeld => ?_)
              · exact HS.out _ (Lib.hid ((HSB.out _ (by assumption)).grown hG8.out (HSZ1.out _ (by assumption)) (fun j hj => Nat.le_trans (by omega) (hB8.out j hj))))
              clear hK Kq
              try simp only [Act.put, List.setIfInBounds_toArray, List.set_cons_zero, List.set_cons_succ]
              refine wpAnyH_ready (rs := [13]) (by kernel_rfl) (by simp) ?_
              refine AllReadyH.cons (o := _) rfl (fun Kq hK => ?_) AllReadyH.nil
              refine step_app _ rfl _ _ 23 rfl (ob + 1) 76 ib _ 5 40 Tryd.underlying23 hib hzb0 hzb1 hzb2 rfl (by decide) v8 (0 + c' + 1) ([] ++ wgs (ws.take c') ++ wgs [x]) rfl hP8.out ydm0m7p5p8.heap.size (some a0) 0 _ (wgs (ws.drop c')) rfl (HD.out _ (HSB.out _ (by assumption))) (wgs_one _) ?c3 ?c4 ?c5 ?_
              case c3 => unfold maxLen; omega
              case c4 => omega
              case c5 => exact hZydm0m7p5p8.out
              intro v13 ydm0m7p5p8p13 hown hgr hat
              have hP13 := Lib.hid hown
              have hG13 := Lib.hid hgr
              have hB13 : Hid (∀ j, v8.ownBlock = some j → ob + 1 ≤ j) := fun j hj => (own_lt hP8.out hj).1
              have hOydm0m7p5p8p13 : Hid (ydm0m7p5p8p13.heap[ob]? = some (.cells #[.slice A1 n c1, .slice A2 c' c2] 25 (0, 0))) := (hgr.block _ (by have := hZydm0m7p5p8.out; omega) (fun e => by have := hB13.out _ e.symm; omega)).trans hOydm0m7p5p8.out
              have hZydm0m7p5p8p13 := Lib.hid (Nat.le_trans hZydm0m7p5p8.out hgr.size)
              clear hgr hown hat
              refine hK.out _ _ ?_ (fun hHeld => ?_)
              · exact HS.out _ (Lib.hid ((HSB.out _ (by assumption)).grown hG13.out (HSZ1.out _ (by assumption)) (fun j hj => Nat.le_trans (by omega) (hB13.out j hj))))
              clear hK Kq
              try simp only [Act.put, List.setIfInBounds_toArray, List.set_cons_zero, List.set_cons_succ]
              obtain ⟨A9, c9, hv9⟩ := own_val hP13.out
              have ho9 := hP13.out
              rw [hv9] at ho9
              rw [hv9]
              have e9 : 0 + c' + 1 + 0 = c' + 1 := by omega
              rw [e9] at ho9 ⊢
              rw [hins.out] at ho9
              obtain ⟨g0, g1, f0, f1⟩ := two_facts hOydm0m7p5p8p13.out
              refine tkY (v := ?_) 14 51 rfl rfl (by kernel_rfl) (by kernel_rfl) (by kernel_rfl) (fun _ _ _ h => h) (by kernel_rfl) ?_ (by assumption) ?_
              rotate_left
              · intro w hSw; rw [hSd] at hSw; obtain ⟨⟨q0, q1, q2, q3, q4, q5⟩, -⟩ := hSw; go_simp; (try with_reducible rfl)
              try simp only [Act.put, List.setIfInBounds_toArray, List.set_cons_zero, List.set_cons_succ]
              refine wpAnyH_ready (rs := [15]) (by kernel_rfl) (by simp) ?_
              refine AllReadyH.cons (o := _) rfl (fun Kq hK => ?_) AllReadyH.nil
              go_simp
              refine hK.out _ _ ?_ (fun hHeld => ?_)
              · exact HS.out _ (Lib.hid ((HSB.out _ (by assumption)).setCell (by simp) _))
              clear hK Kq
              try simp only [Act.put, List.setIfInBounds_toArray, List.set_cons_zero, List.set_cons_succ]
              have hob9 := set_one1 hOydm0m7p5p8p13.out (.slice A9 (c' + 1) c9)
              have hO9 := Lib.hid (own_far (p := ⟨ob, 1, none⟩) ho9 (by simp) (.slice A9 (c' + 1) c9))
              have hHF := Lib.hid (HSB.out _ hHeld)
              clear g0 g1 f0 f1 ho9
              generalize (ydm0m7p5p8p13.setCell ⟨ob, 1, none⟩ (.slice A9 (c' + 1) c9)) = wf at *
              refine wpAnyH_done (by kernel_rfl) ?_ _
              obtain ⟨p0, p1, -, -⟩ := two_facts hob9
              have HOb := Lib.hid hob9
              clear hob9
              have hPf := HPC.out wf hHF.out
              have HPf := Lib.hid hPf
              have hO1f := Lib.hid (HO1f.out wf hHF.out)
              clear hPf
              go_wp2_with fail
              refine (Press_any A1 A9 n c1 (c' + 1) c9 ps (insW ws c' x) wf hnm (by unfold maxLen; omega) (Reads.of_own hO1f.out) (Reads.of_own hO9.out)).mono ?_
              rintro e z5 ⟨rfl, hb5⟩
              have HP5 := Lib.hid (HPf.out.below hb5)
              have hOb5 := keepO hb5 HOb.out
              have hO1' := Lib.hid (own_below hO1f.out hb5)
              have hO2' := Lib.hid (own_below hO9.out hb5)
              clear hb5 p0 p1
              obtain ⟨p0, p1, -, -⟩ := two_facts hOb5
              obtain ⟨g0, g1, f0, f1⟩ := two_facts HP5.out.b1
              have hzz := HZZ.out
              cases hv2 : validP ps (insW ws c' x)
              · have hs : Hid (weighS ps ws x = (([], []), 21)) := by show _ = _; rw [HS9.out, hv2]; rfl
                clear hv2
                go_wp2
                obtain ⟨e0, e1⟩ := set_back HP5.out.b1 (.slice none 0 0) (.slice none 0 0)
                exact bodyPost_ret (v := .tuple #[.agg #[.slice none 0 0, .slice none 0 0], .int .i64 21]) (by simp [results, Tryd.results37, go_sem, e0, e1]) rfl ⟨Res.nil hs.out, below_two HP5.out.bel (by omega) _ _⟩
              · have hs : Hid (weighS ps ws x = ((ps, insW ws c' x), 0)) := by show _ = _; rw [HS9.out, hv2]; rfl
                clear hv2
                go_wp2
                obtain ⟨e0, e1⟩ := set_back HP5.out.b1 (.slice A1 n c1) (.slice A9 (c' + 1) c9)
                refine bodyPost_ret (v := .tuple #[.agg #[.slice A1 n c1, .slice A9 (c' + 1) c9], .int .i64 0]) (by simp [results, Tryd.results37, go_sem, e0, e1]) rfl ⟨?_, below_two HP5.out.bel (by omega) _ _⟩
                rw [hs.out]
                exact ⟨_, _, _, _, _, _, rfl, own_mono (own_far (p := ⟨w.heap.size + 2, 1, none⟩) (own_far (p := ⟨w.heap.size + 2, 0, none⟩) hO1'.out (by simp only; omega) _) (by simp only; omega) _) (by omega),
                  own_mono (own_far (p := ⟨w.heap.size + 2, 1, none⟩) (own_far (p := ⟨w.heap.size + 2, 0, none⟩) hO2'.out (by simp only; omega) _) (by simp only; omega) _) (by omega)⟩
            refine AllReadyH.cons (o := _) rfl (fun Kq hK => ?_) AllReadyH.nil
            go_simp
            refine hK.out _ _ ?_ (fun hHeld => ?_)
            · exact HS.out _ (Lib.hid ((HSB.out _ (by assumption)).alloc (HSZ1.out _ (by assumption)) _))
            clear hK Kq
            have hA7 : Hid (Below yd.heap.size yd (yd.alloc (.cells #[.int .i64 x.1, .int .i64 x.2.1, .int .i64 x.2.2.1, .int .i64 x.2.2.2.1, .int .i64 x.2.2.2.2] 76))) := (Below.refl _ _).alloc (Nat.le_refl _) _
            have hN7 := Lib.hid (heap_alloc_new yd (.cells #[.int .i64 x.1, .int .i64 x.2.1, .int .i64 x.2.2.1, .int .i64 x.2.2.2.1, .int .i64 x.2.2.2.2] 76))
            have hOydm7 := Lib.hid (keepO hA7.out hOyd.out)
            have hZydm7 := Lib.hid (Nat.le_trans hZyd.out hA7.out.size)
            have hV7 : Hid (ob + 1 ≤ yd.heap.size) := hZyd
            generalize hgb7 : yd.heap.size = gb7 at hN7 hV7 ⊢
            generalize (yd.alloc (.cells #[.int .i64 x.1, .int .i64 x.2.1, .int .i64 x.2.2.1, .int .i64 x.2.2.2.1, .int .i64 x.2.2.2.2] 76)) = ydm7 at *
            clear hgb7 hA7
            try simp only [Act.put, List.setIfInBounds_toArray, List.set_cons_zero, List.set_cons_succ]
            refine wpAnyH_ready (rs := [0]) (by kernel_rfl) (by simp) ?_
            refine AllReadyH.cons (o := _) rfl (fun Kq hK => ?_) AllReadyH.nil
            go_simp
            refine hK.out _ _ ?_ (fun hHeld => ?_)
            · exact HS.out _ (Lib.hid ((HSB.out _ (by assumption)).alloc (HSZ1.out _ (by assumption)) _))
            clear hK Kq
            have hA0 : Hid (Below ydm7.heap.size ydm7 (ydm7.alloc (.cells #[] 76))) := (Below.refl _ _).alloc (Nat.le_refl _) _
            have hN0 := Lib.hid (own_lit0 ydm7 (ob + 1) hZydm7.out 76 5)
            have hN7' := Lib.hid (keepO hA0.out hN7.out)
            have hD7 : Hid (gb7 < ydm7.heap.size) := (Array.getElem?_eq_some_iff.1 hN7.out).1
            have hOydm7m0 := Lib.hid (keepO hA0.out hOydm7.out)
            have hZydm7m0 := Lib.hid (Nat.le_trans hZydm7.out hA0.out.size)
            have hV0 : Hid (ob + 1 ≤ ydm7.heap.size) := hZydm7
            generalize hgb0 : ydm7.heap.size = gb0 at hN0 hV0 hD7 ⊢
            generalize (ydm7.alloc (.cells #[] 76)) = ydm7m0 at *
            clear hgb0 hA0
            try simp only [Act.put, List.setIfInBounds_toArray, List.set_cons_zero, List.set_cons_succ]
            refine wpAnyH_ready (rs := [5]) (by kernel_rfl) (by simp) ?_
            refine AllReadyH.cons (o := _) rfl (fun Kq hK => ?_) AllReadyH.nil
            refine step_app _ rfl _ _ 23 rfl (ob + 1) 76 ib _ 5 40 Tryd.underlying23 hib hzb0 hzb1 hzb2 rfl (by decide) (.slice (some ⟨gb0, 0, none⟩) 0 0) 0 [] rfl hN0.out ydm7m0.heap.size (some a0) c' _ (wgs (ws.take c')) rfl (HT.out _ (HSB.out _ (by assumption))) (wgs_one _) ?c3 ?c4 ?c5 ?_
            case c3 => unfold maxLen; omega
            case c4 => omega
            case c5 => exact hZydm7m0.out
            intro v5 ydm7m0p5 hown hgr hat
            have hP5 := Lib.hid hown
            have hG5 := Lib.hid hgr
            have hB5 : Hid (∀ j, (Value.slice (some ⟨gb0, 0, none⟩) 0 0).ownBlock = some j → ob + 1 ≤ j) := fun j hj => (own_lt hN0.out hj).1
            have hOydm7m0p5 : Hid (ydm7m0p5.heap[ob]? = some (.cells #[.slice A1 n c1, .slice A2 c' c2] 25 (0, 0))) := (hgr.block _ (by have := hZydm7m0.out; omega) (fun e => by have := hB5.out _ e.symm; omega)).trans hOydm7m0.out
            have hZydm7m0p5 := Lib.hid (Nat.le_trans hZydm7m0.out hgr.size)
            have hN7q := Lib.hid ((hgr.block gb7 (Array.getElem?_eq_some_iff.1 hN7'.out).1 (fun e => by have := hD7.out; simp [Value.ownBlock] at e; omega)).trans hN7'.out)
            clear hgr hown hat
            refine hK.out _ _ ?_ (fun hHeld => ?_)
            · exact HS.out _ (Lib.hid ((HSB.out _ (by assumption)).grown hG5.out (HSZ1.out _ (by assumption)) (fun j hj => Nat.le_trans (by omega) (hB5.out j hj))))
            clear hK Kq
            try simp only [Act.put, List.setIfInBounds_toArray, List.set_cons_zero, List.set_cons_succ]
            refine wpAnyH_ready (rs := [8]) (by kernel_rfl) (by simp) ?_
            refine AllReadyH.cons (o := _) rfl (fun Kq hK => ?_) AllReadyH.nil
            refine step_app _ rfl _ _ 23 rfl (ob + 1) 76 ib _ 5 40 Tryd.underlying23 hib hzb0 hzb1 hzb2 rfl (by decide) v5 (0 + c') ([] ++ wgs (ws.take c')) rfl hP5.out (gb7 + 1) (some ⟨gb7, 0, none⟩) 1 1 (wgs [x]) rfl (x_reads hN7q.out) (wgs_one _) ?c3 ?c4 ?c5 ?_
            case c3 => unfold maxLen; omega
            case c4 => omega
            case c5 => exact hZydm7m0p5.out
            intro v8 ydm7m0p5p8 hown hgr hat
            have hP8 := Lib.hid hown
            have hG8 := Lib.hid hgr
            have hB8 : Hid (∀ j, v5.ownBlock = some j → ob + 1 ≤ j) := fun j hj => (own_lt hP5.out hj).1
            have hOydm7m0p5p8 : Hid (ydm7m0p5p8.heap[ob]? = some (.cells #[.slice A1 n c1, .slice A2 c' c2] 25 (0, 0))) := (hgr.block _ (by have := hZydm7m0p5.out; omega) (fun e => by have := hB8.out _ e.symm; omega)).trans hOydm7m0p5.out
            have hZydm7m0p5p8 := Lib.hid (Nat.le_trans hZydm7m0p5.out hgr.size)
            clear hgr hown hat
            refine hK.out _ _ ?_ (fun hHeld => ?_)
            · exact HS.out _ (Lib.hid ((HSB.out _ (by assumption)).grown hG8.out (HSZ1.out _ (by assumption)) (fun j hj => Nat.le_trans (by omega) (hB8.out j hj))))
            clear hK Kq
            try simp only [Act.put, List.setIfInBounds_toArray, List.set_cons_zero, List.set_cons_succ]
            refine wpAnyH_ready (rs := [13]) (by kernel_rfl) (by simp) ?_
            refine AllReadyH.cons (o := _) rfl (fun Kq hK => ?_) AllReadyH.nil
            refine step_app _ rfl _ _ 23 rfl (ob + 1) 76 ib _ 5 40 Tryd.underlying23 hib hzb0 hzb1 hzb2 rfl (by decide) v8 (0 + c' + 1) ([] ++ wgs (ws.take c') ++ wgs [x]) rfl hP8.out ydm7m0p5p8.heap.size (some a0) 0 _ (wgs (ws.drop c')) rfl (HD.out _ (HSB.out _ (by assumption))) (wgs_one _) ?c3 ?c4 ?c5 ?_
            case c3 => unfold maxLen; omega
            case c4 => omega
            case c5 => exact hZydm7m0p5p8.out
            intro v13 ydm7m0p5p8p13 hown hgr hat
            have hP13 := Lib.hid hown
            have hG13 := Lib.hid hgr
            have hB13 : Hid (∀ j, v8.ownBlock = some j → ob + 1 ≤ j) := fun j hj => (own_lt hP8.out hj).1
            have hOydm7m0p5p8p13 : Hid (ydm7m0p5p8p13.heap[ob]? = some (.cells #[.slice A1 n c1, .slice A2 c' c2] 25 (0, 0))) := (hgr.block _ (by have := hZydm7m0p5p8.out; omega) (fun e => by have := hB13.out _ e.symm; omega)).trans hOydm7m0p5p8.out
            have hZydm7m0p5p8p13 := Lib.hid (Nat.le_trans hZydm7m0p5p8.out hgr.size)
            clear hgr hown hat
            refine hK.out _ _ ?_ (fun hHeld => ?_)
            · exact HS.out _ (Lib.hid ((HSB.out _ (by assumption)).grown hG13.out (HSZ1.out _ (by assumption)) (fun j hj => Nat.le_trans (by omega) (hB13.out j hj))))
            clear hK Kq
            try simp only [Act.put, List.setIfInBounds_toArray, List.set_cons_zero, List.set_cons_succ]
            obtain ⟨A9, c9, hv9⟩ := own_val hP13.out
            have ho9 := hP13.out
            rw [hv9] at ho9
            rw [hv9]
            have e9 : 0 + c' + 1 + 0 = c' + 1 := by omega
            rw [e9] at ho9 ⊢
            rw [hins.out] at ho9
            obtain ⟨g0, g1, f0, f1⟩ := two_facts hOydm7m0p5p8p13.out
            refine tkY (v := ?_) 14 51 rfl rfl (by kernel_rfl) (by kernel_rfl) (by kernel_rfl) (fun _ _ _ h => h) (by kernel_rfl) ?_ (by assumption) ?_
            rotate_left
            · intro w hSw; rw [hSd] at hSw; obtain ⟨⟨q0, q1, q2, q3, q4, q5⟩, -⟩ := hSw; go_simp; (try with_reducible rfl)
            try simp only [Act.put, List.setIfInBounds_toArray, List.set_cons_zero, List.set_cons_succ]
            refine wpAnyH_ready (rs := [15]) (by kernel_rfl) (by simp) ?_
            refine AllReadyH.cons (o := _) rfl (fun Kq hK => ?_) AllReadyH.nil
            go_simp
            refine hK.out _ _ ?_ (fun hHeld => ?_)
            · exact HS.out _ (Lib.hid ((HSB.out _ (by assumption)).setCell (by simp) _))
            clear hK Kq
            try simp only [Act.put, List.setIfInBounds_toArray, List.set_cons_zero, List.set_cons_succ]
            have hob9 := set_one1 hOydm7m0p5p8p13.out (.slice A9 (c' + 1) c9)
            have hO9 := Lib.hid (own_far (p := ⟨ob, 1, none⟩) ho9 (by simp) (.slice A9 (c' + 1) c9))
            have hHF := Lib.hid (HSB.out _ hHeld)
            clear g0 g1 f0 f1 ho9
            generalize (ydm7m0p5p8p13.setCell ⟨ob, 1, none⟩ (.slice A9 (c' + 1) c9)) = wf at *
            refine wpAnyH_done (by kernel_rfl) ?_ _
            obtain ⟨p0, p1, -, -⟩ := two_facts hob9
            have HOb := Lib.hid hob9
            clear hob9
            have hPf := HPC.out wf hHF.out
            have HPf := Lib.hid hPf
            have hO1f := Lib.hid (HO1f.out wf hHF.out)
            clear hPf
            go_wp2_with fail
            refine (Press_any A1 A9 n c1 (c' + 1) c9 ps (insW ws c' x) wf hnm (by unfold maxLen; omega) (Reads.of_own hO1f.out) (Reads.of_own hO9.out)).mono ?_
            rintro e z5 ⟨rfl, hb5⟩
            have HP5 := Lib.hid (HPf.out.below hb5)
            have hOb5 := keepO hb5 HOb.out
            have hO1' := Lib.hid (own_below hO1f.out hb5)
            have hO2' := Lib.hid (own_below hO9.out hb5)
            clear hb5 p0 p1
            obtain ⟨p0, p1, -, -⟩ := two_facts hOb5
            obtain ⟨g0, g1, f0, f1⟩ := two_facts HP5.out.b1
            have hzz := HZZ.out
            cases hv2 : validP ps (insW ws c' x)
            · have hs : Hid (weighS ps ws x = (([], []), 21)) := by show _ = _; rw [HS9.out, hv2]; rfl
              clear hv2
              go_wp2
              obtain ⟨e0, e1⟩ := set_back HP5.out.b1 (.slice none 0 0) (.slice none 0 0)
              exact bodyPost_ret (v := .tuple #[.agg #[.slice none 0 0, .slice none 0 0], .int .i64 21]) (by simp [results, Tryd.results37, go_sem, e0, e1]) rfl ⟨Res.nil hs.out, below_two HP5.out.bel (by omega) _ _⟩
            · have hs : Hid (weighS ps ws x = ((ps, insW ws c' x), 0)) := by show _ = _; rw [HS9.out, hv2]; rfl
              clear hv2
              go_wp2
              obtain ⟨e0, e1⟩ := set_back HP5.out.b1 (.slice A1 n c1) (.slice A9 (c' + 1) c9)
              refine bodyPost_ret (v := .tuple #[.agg #[.slice A1 n c1, .slice A9 (c' + 1) c9], .int .i64 0]) (by simp [results, Tryd.results37, go_sem, e0, e1]) rfl ⟨?_, below_two HP5.out.bel (by omega) _ _⟩
              rw [hs.out]
              exact ⟨_, _, _, _, _, _, rfl, own_mono (own_far (p := ⟨w.heap.size + 2, 1, none⟩) (own_far (p := ⟨w.heap.size + 2, 0, none⟩) hO1'.out (by simp only; omega) _) (by simp only; omega) _) (by omega),
                own_mono (own_far (p := ⟨w.heap.size + 2, 1, none⟩) (own_far (p := ⟨w.heap.size + 2, 0, none⟩) hO2'.out (by simp only; omega) _) (by simp only; omega) _) (by omega)⟩
          · by_cases hn0 : n' = 0
            · obtain rfl : n' = 0 := by omega
              obtain rfl : k = 0 := by omega
              have hdr : ws.drop 0 = [] := by rw [List.drop_zero]; exact List.eq_nil_of_length_eq_zero HL'.out
              have HD := Lib.hid (fun z (hz : Below ob wl z) => (⟨by rw [hdr]; rfl, fun h => absurd h (by omega)⟩ : Reads z z.heap.size 5 (some a0) 0 (wgs (ws.drop 0))))
              clear hdr
              have hk00 : ((0 : Nat) : Int) = 0 := rfl
              go_wp2_with fail
              refine wp_region_held_drew (S := S) (by kernel_rfl) ?_ (fun hHeld => ?_)
              · exact HS.out _ hZ0
              generalize wl.drew = yd at *
              refine tkY (v := ?_) 1 38 rfl rfl (by kernel_rfl) (by kernel_rfl) (by kernel_rfl) (fun _ _ _ h => h) (by kernel_rfl) ?_ (by assumption) ?_
              rotate_left
              · intro w hSw; rw [hSd] at hSw; obtain ⟨⟨q0, q1, q2, q3, q4, q5⟩, -⟩ := hSw; go_simp; (try with_reducible rfl)
              try simp only [Act.put, List.setIfInBounds_toArray, List.set_cons_zero, List.set_cons_succ]
              refine tkY (v := ?_) 2 39 rfl rfl (by kernel_rfl) (by kernel_rfl) (by kernel_rfl) (fun _ _ _ h => h) (by kernel_rfl) ?_ (by assumption) ?_
              rotate_left
              · intro w hSw; rw [hSd] at hSw; obtain ⟨⟨q0, q1, q2, q3, q4, q5⟩, -⟩ := hSw; go_simp; (try with_reducible rfl)
              try simp only [Act.put, List.setIfInBounds_toArray, List.set_cons_zero, List.set_cons_succ]
              refine tkY (v := ?_) 3 40 rfl rfl (by kernel_rfl) (by kernel_rfl) (by kernel_rfl) (fun _ _ _ h => h) (by kernel_rfl) ?_ (by assumption) ?_
              rotate_left
              · intro w hSw; rw [hSd] at hSw; obtain ⟨⟨q0, q1, q2, q3, q4, q5⟩, -⟩ := hSw; go_simp; (try with_reducible rfl)
              try simp only [Act.put, List.setIfInBounds_toArray, List.set_cons_zero, List.set_cons_succ]
              refine tkY (v := ?_) 4 41 rfl rfl (by kernel_rfl) (by kernel_rfl) (by kernel_rfl) (fun _ _ _ h => h) (by kernel_rfl) ?_ (by assumption) ?_
              rotate_left
              · intro w hSw; rw [hSd] at hSw; obtain ⟨⟨q0, q1, q2, q3, q4, q5⟩, -⟩ := hSw; go_simp; (try with_reducible rfl)
              try simp only [Act.put, List.setIfInBounds_toArray, List.set_cons_zero, List.set_cons_succ]
              refine tkY (v := ?_) 6 43 rfl rfl (by kernel_rfl) (by kernel_rfl) (by kernel_rfl) (fun _ _ _ h => h) (by kernel_rfl) ?_ (by assumption) ?_
              rotate_left
              · intro w hSw; rw [hSd] at hSw; obtain ⟨⟨q0, q1, q2, q3, q4, q5⟩, -⟩ := hSw; go_simp; (try with_reducible rfl)
              try simp only [Act.put, List.setIfInBounds_toArray, List.set_cons_zero, List.set_cons_succ]
              refine tkY (v := ?_) 9 46 rfl rfl (by kernel_rfl) (by kernel_rfl) (by kernel_rfl) (fun _ _ _ h => h) (by kernel_rfl) ?_ (by assumption) ?_
              rotate_left
              · intro w hSw; rw [hSd] at hSw; obtain ⟨⟨q0, q1, q2, q3, q4, q5⟩, -⟩ := hSw; go_simp; (try with_reducible rfl)
              try simp only [Act.put, List.setIfInBounds_toArray, List.set_cons_zero, List.set_cons_succ]
              refine tkY (v := ?_) 10 47 rfl rfl (by kernel_rfl) (by kernel_rfl) (by kernel_rfl) (fun _ _ _ h => h) (by kernel_rfl) ?_ (by assumption) ?_
              rotate_left
              · intro w hSw; rw [hSd] at hSw; obtain ⟨⟨q0, q1, q2, q3, q4, q5⟩, -⟩ := hSw; go_simp; (try with_reducible rfl)
              try simp only [Act.put, List.setIfInBounds_toArray, List.set_cons_zero, List.set_cons_succ]
              refine tkY (v := ?_) 11 48 rfl rfl (by kernel_rfl) (by kernel_rfl) (by kernel_rfl) (fun _ _ _ h => h) (by kernel_rfl) ?_ (by assumption) ?_
              rotate_left
              · intro w hSw; rw [hSd] at hSw; obtain ⟨⟨q0, q1, q2, q3, q4, q5⟩, -⟩ := hSw; go_simp; (try with_reducible rfl)
              try simp only [Act.put, List.setIfInBounds_toArray, List.set_cons_zero, List.set_cons_succ]
              refine tkY (v := ?_) 12 49 rfl rfl (by kernel_rfl) (by kernel_rfl) (by kernel_rfl) (fun _ _ _ h => h) (by kernel_rfl) ?_ (by assumption) ?_
              rotate_left
              · intro w hSw; rw [hSd] at hSw; obtain ⟨⟨q0, q1, q2, q3, q4, q5⟩, -⟩ := hSw; go_simp; (try with_reducible rfl)
              try simp only [Act.put, List.setIfInBounds_toArray, List.set_cons_zero, List.set_cons_succ]
              refine wpAnyH_ready (rs := [0, 7]) (by kernel_rfl) (by simp) ?_
              refine AllReadyH.cons (o := _) rfl (fun Kq hK => ?_) ?_
              · go_simp
                refine hK.out _ _ ?_ (fun hHeld => ?_)
                · exact HS.out _ (Lib.hid ((HSB.out _ (by assumption)).alloc (HSZ1.out _ (by assumption)) _))
                clear hK Kq
                have hA0 : Hid (Below yd.heap.size yd (yd.alloc (.cells #[] 76))) := (Below.refl _ _).alloc (Nat.le_refl _) _
                have hN0 := Lib.hid (own_lit0 yd (ob + 1) hZyd.out 76 5)
                have hOydm0 := Lib.hid (keepO hA0.out hOyd.out)
                have hZydm0 := Lib.hid (Nat.le_trans hZyd.out hA0.out.size)
                have hV0 : Hid (ob + 1 ≤ yd.heap.size) := hZyd
                generalize hgb0 : yd.heap.size = gb0 at hN0 hV0 ⊢
                generalize (yd.alloc (.cells #[] 76)) = ydm0 at *
                clear hgb0 hA0
                try simp only [Act.put, List.setIfInBounds_toArray, List.set_cons_zero, List.set_cons_succ]
                refine wpAnyH_ready (rs := [5, 7]) (by kernel_rfl) (by simp) ?_
                refine AllReadyH.cons (o := _) rfl (fun Kq hK => ?_) ?_
                · refine step_app _ rfl _ _ 23 rfl (ob + 1) 76 ib _ 5 40 Tryd.underlying23 hib hzb0 hzb1 hzb2 rfl (by decide) (.slice (some ⟨gb0, 0, none⟩) 0 0) 0 [] rfl hN0.out ydm0.heap.size (some a0) 0 _ (wgs (ws.take 0)) rfl (HT.out _ (HSB.out _ (by assumption))) (wgs_one _) ?c3 ?c4 ?c5 ?_
                  case c3 => unfold maxLen; omega
                  case c4 => omega
                  case c5 => exact hZydm0.out
                  intro v5 ydm0p5 hown hgr hat
                  have hP5 := Lib.hid hown
                  have hG5 := Lib.hid hgr
                  have hB5 : Hid (∀ j, (Value.slice (some ⟨gb0, 0, none⟩) 0 0).ownBlock = some j → ob + 1 ≤ j) := fun j hj => (own_lt hN0.out hj).1
                  have hOydm0p5 : Hid (ydm0p5.heap[ob]? = some (.cells #[.slice A1 n c1, .slice A2 0 c2] 25 (0, 0))) := (hgr.block _ (by have := hZydm0.out; omega) (fun e => by have := hB5.out _ e.symm; omega)).trans hOydm0.out
                  have hZydm0p5 := Lib.hid (Nat.le_trans hZydm0.out hgr.size)
                  clear hgr hown hat
                  refine hK.out _ _ ?_ (fun hHeld => ?_)
                  · exact HS.out _ (Lib.hid ((HSB.out _ (by assumption)).grown hG5.out (HSZ1.out _ (by assumption)) (fun j hj => Nat.le_trans (by omega) (hB5.out j hj))))
                  clear hK Kq
                  try simp only [Act.put, List.setIfInBounds_toArray, List.set_cons_zero, List.set_cons_succ]
                  refine wpAnyH_ready (rs := [7]) (by kernel_rfl) (by simp) ?_
                  refine AllReadyH.cons (o := _) rfl (fun Kq hK => ?_) AllReadyH.nil
                  go_simp
                  refine hK.out _ _ ?_ (fun hHeld => ?_)
                  · exact HS.out _ (Lib.hid ((HSB.out _ (by assumption)).alloc (HSZ1.out _ (by assumption)) _))
                  clear hK Kq
                  have hA7 : Hid (Below ydm0p5.heap.size ydm0p5 (ydm0p5.alloc (.cells #[.int .i64 x.1, .int .i64 x.2.1, .int .i64 x.2.2.1, .int .i64 x.2.2.2.1, .int .i64 x.2.2.2.2] 76))) := (Below.refl _ _).alloc (Nat.le_refl _) _
                  have hN7 := Lib.hid (heap_alloc_new ydm0p5 (.cells #[.int .i64 x.1, .int .i64 x.2.1, .int .i64 x.2.2.1, .int .i64 x.2.2.2.1, .int .i64 x.2.2.2.2] 76))
                  have hN5' := Lib.hid (own_below hP5.out hA7.out)
                  have hOydm0p5m7 := Lib.hid (keepO hA7.out hOydm0p5.out)
                  have hZydm0p5m7 := Lib.hid (Nat.le_trans hZydm0p5.out hA7.out.size)
                  have hV7 : Hid (ob + 1 ≤ ydm0p5.heap.size) := hZydm0p5
                  generalize hgb7 : ydm0p5.heap.size = gb7 at hN7 hV7 ⊢
                  generalize (ydm0p5.alloc (.cells #[.int .i64 x.1, .int .i64 x.2.1, .int .i64 x.2.2.1, .int .i64 x.2.2.2.1, .int .i64 x.2.2.2.2] 76)) = ydm0p5m7 at *
                  clear hgb7 hA7
                  try simp only [Act.put, List.setIfInBounds_toArray, List.set_cons_zero, List.set_cons_succ]
                  refine wpAnyH_ready (rs := [8]) (by kernel_rfl) (by simp) ?_
                  refine AllReadyH.cons (o := _) rfl (fun Kq hK => ?_) AllReadyH.nil
                  refine step_app _ rfl _ _ 23 rfl (ob + 1) 76 ib _ 5 40 Tryd.underlying23 hib hzb0 hzb1 hzb2 rfl (by decide) v5 (0 + 0) ([] ++ wgs (ws.take 0)) rfl hN5'.out (gb7 + 1) (some ⟨gb7, 0, none⟩) 1 1 (wgs [x]) rfl (x_reads hN7.out) (wgs_one _) ?c3 ?c4 ?c5 ?_
                  case c3 => unfold maxLen; omega
                  case c4 => omega
                  case c5 => exact hZydm0p5m7.out
                  intro v8 ydm0p5m7p8 hown hgr hat
                  have hP8 := Lib.hid hown
                  have hG8 := Lib.hid hgr
                  have hB8 : Hid (∀ j, v5.ownBlock = some j → ob + 1 ≤ j) := fun j hj => (own_lt hN5'.out hj).1
                  have hOydm0p5m7p8 : Hid (ydm0p5m7p8.heap[ob]? = some (.cells #[.slice A1 n c1, .slice A2 0 c2] 25 (0, 0))) := (hgr.block _ (by have := hZydm0p5m7.out; omega) (fun e => by have := hB8.out _ e.symm; omega)).trans hOydm0p5m7.out
                  have hZydm0p5m7p8 := Lib.hid (Nat.le_trans hZydm0p5m7.out hgr.size)
                  clear hgr hown hat
                  refine hK.out _ _ ?_ (fun hHeld => ?_)
                  · exact HS.out _ (Lib.hid ((HSB.out _ (by assumption)).grown hG8.out (HSZ1.out _ (by assumption)) (fun j hj => Nat.le_trans (by omega) (hB8.out j hj))))
                  clear hK Kq
                  try simp only [Act.put, List.setIfInBounds_toArray, List.set_cons_zero, List.set_cons_succ]
                  refine wpAnyH_ready (rs := [13]) (by kernel_rfl) (by simp) ?_
                  refine AllReadyH.cons (o := _) rfl (fun Kq hK => ?_) AllReadyH.nil
                  refine step_app _ rfl _ _ 23 rfl (ob + 1) 76 ib _ 5 40 Tryd.underlying23 hib hzb0 hzb1 hzb2 rfl (by decide) v8 (0 + 0 + 1) ([] ++ wgs (ws.take 0) ++ wgs [x]) rfl hP8.out ydm0p5m7p8.heap.size (some a0) 0 _ (wgs (ws.drop 0)) rfl (HD.out _ (HSB.out _ (by assumption))) (wgs_one _) ?c3 ?c4 ?c5 ?_
                  case c3 => unfold maxLen; omega
                  case c4 => omega
                  case c5 => exact hZydm0p5m7p8.out
                  intro v13 ydm0p5m7p8p13 hown hgr hat
                  have hP13 := Lib.hid hown
                  have hG13 := Lib.hid hgr
                  have hB13 : Hid (∀ j, v8.ownBlock = some j → ob + 1 ≤ j) := fun j hj => (own_lt hP8.out hj).1
                  have hOydm0p5m7p8p13 : Hid (ydm0p5m7p8p13.heap[ob]? = some (.cells #[.slice A1 n c1, .slice A2 0 c2] 25 (0, 0))) := (hgr.block _ (by have := hZydm0p5m7p8.out; omega) (fun e => by have := hB13.out _ e.symm; omega)).trans hOydm0p5m7p8.out
                  have hZydm0p5m7p8p13 := Lib.hid (Nat.le_trans hZydm0p5m7p8.out hgr.size)
                  clear hgr hown hat
                  refine hK.out _ _ ?_ (fun hHeld => ?_)
                  · exact HS.out _ (Lib.hid ((HSB.out _ (by assumption)).grown hG13.out (HSZ1.out _ (by assumption)) (fun j hj => Nat.le_trans (by omega) (hB13.out j hj))))
                  clear hK Kq
                  try simp only [Act.put, List.setIfInBounds_toArray, List.set_cons_zero, List.set_cons_succ]
                  obtain ⟨A9, c9, hv9⟩ := own_val hP13.out
                  have ho9 := hP13.out
                  rw [hv9] at ho9
                  rw [hv9]
                  have e9 : 0 + 0 + 1 + 0 = 0 + 1 := by omega
                  rw [e9] at ho9 ⊢
                  rw [hins.out] at ho9
                  obtain ⟨g0, g1, f0, f1⟩ := two_facts hOydm0p5m7p8p13.out
                  refine tkY (v := ?_) 14 51 rfl rfl (by kernel_rfl) (by kernel_rfl) (by kernel_rfl) (fun _ _ _ h => h) (by kernel_rfl) ?_ (by assumption) ?_
                  rotate_left
                  · intro w hSw; rw [hSd] at hSw; obtain ⟨⟨q0, q1, q2, q3, q4, q5⟩, -⟩ := hSw; go_simp; (try with_reducible rfl)
                  try simp only [Act.put, List.setIfInBounds_toArray, List.set_cons_zero, List.set_cons_succ]
                  refine wpAnyH_ready (rs := [15]) (by kernel_rfl) (by simp) ?_
                  refine AllReadyH.cons (o := _) rfl (fun Kq hK => ?_) AllReadyH.nil
                  go_simp
                  refine hK.out _ _ ?_ (fun hHeld => ?_)
                  · exact HS.out _ (Lib.hid ((HSB.out _ (by assumption)).setCell (by simp) _))
                  clear hK Kq
                  try simp only [Act.put, List.setIfInBounds_toArray, List.set_cons_zero, List.set_cons_succ]
                  have hob9 := set_one1 hOydm0p5m7p8p13.out (.slice A9 (0 + 1) c9)
                  have hO9 := Lib.hid (own_far (p := ⟨ob, 1, none⟩) ho9 (by simp) (.slice A9 (0 + 1) c9))
                  have hHF := Lib.hid (HSB.out _ hHeld)
                  clear g0 g1 f0 f1 ho9
                  generalize (ydm0p5m7p8p13.setCell ⟨ob, 1, none⟩ (.slice A9 (0 + 1) c9)) = wf at *
                  refine wpAnyH_done (by kernel_rfl) ?_ _
                  obtain ⟨p0, p1, -, -⟩ := two_facts hob9
                  have HOb := Lib.hid hob9
                  clear hob9
                  have hPf := HPC.out wf hHF.out
                  have HPf := Lib.hid hPf
                  have hO1f := Lib.hid (HO1f.out wf hHF.out)
                  clear hPf
                  go_wp2_with fail
                  refine (Press_any A1 A9 n c1 (0 + 1) c9 ps (insW ws 0 x) wf hnm (by unfold maxLen; omega) (Reads.of_own hO1f.out) (Reads.of_own hO9.out)).mono ?_
                  rintro e z5 ⟨rfl, hb5⟩
                  have HP5 := Lib.hid (HPf.out.below hb5)
                  have hOb5 := keepO hb5 HOb.out
                  have hO1' := Lib.hid (own_below hO1f.out hb5)
                  have hO2' := Lib.hid (own_below hO9.out hb5)
                  clear hb5 p0 p1
                  obtain ⟨p0, p1, -, -⟩ := two_facts hOb5
                  obtain ⟨g0, g1, f0, f1⟩ := two_facts HP5.out.b1
                  have hzz := HZZ.out
                  cases hv2 : validP ps (insW ws 0 x)
                  · have hs : Hid (weighS ps ws x = (([], []), 21)) := by show _ = _; rw [HS9.out, hv2]; rfl
                    clear hv2
                    go_wp2
                    obtain ⟨e0, e1⟩ := set_back HP5.out.b1 (.slice none 0 0) (.slice none 0 0)
                    exact bodyPost_ret (v := .tuple #[.agg #[.slice none 0 0, .slice none 0 0], .int .i64 21]) (by simp [results, Tryd.results37, go_sem, e0, e1]) rfl ⟨Res.nil hs.out, below_two HP5.out.bel (by omega) _ _⟩
                  · have hs : Hid (weighS ps ws x = ((ps, insW ws 0 x), 0)) := by show _ = _; rw [HS9.out, hv2]; rfl
                    clear hv2
                    go_wp2
                    obtain ⟨e0, e1⟩ := set_back HP5.out.b1 (.slice A1 n c1) (.slice A9 (0 + 1) c9)
                    refine bodyPost_ret (v := .tuple #[.agg #[.slice A1 n c1, .slice A9 (0 + 1) c9], .int .i64 0]) (by simp [results, Tryd.results37, go_sem, e0, e1]) rfl ⟨?_, below_two HP5.out.bel (by omega) _ _⟩
                    rw [hs.out]
                    exact ⟨_, _, _, _, _, _, rfl, own_mono (own_far (p := ⟨w.heap.size + 2, 1, none⟩) (own_far (p := ⟨w.heap.size + 2, 0, none⟩) hO1'.out (by simp only; omega) _) (by simp only; omega) _) (by omega),
                      own_mono (own_far (p := ⟨w.heap.size + 2, 1, none⟩) (own_far (p := ⟨w.heap.size + 2, 0, none⟩) hO2'.out (by simp only; omega) _) (by simp only; omega) _) (by omega)⟩
                refine AllReadyH.cons (o := _) rfl (fun Kq hK => ?_) AllReadyH.nil
                go_simp
                refine hK.out _ _ ?_ (fun hHeld => ?_)
                · exact HS.out _ (Lib.hid ((HSB.out _ (by assumption)).alloc (HSZ1.out _ (by assumption)) _))
                clear hK Kq
                have hA7 : Hid (Below ydm0.heap.size ydm0 (ydm0.alloc (.cells #[.int .i64 x.1, .int .i64 x.2.1, .int .i64 x.2.2.1, .int .i64 x.2.2.2.1, .int .i64 x.2.2.2.2] 76))) := (Below.refl _ _).alloc (Nat.le_refl _) _
                have hN7 := Lib.hid (heap_alloc_new ydm0 (.cells #[.int .i64 x.1, .int .i64 x.2.1, .int .i64 x.2.2.1, .int .i64 x.2.2.2.1, .int .i64 x.2.2.2.2] 76))
                have hN0' := Lib.hid (own_below hN0.out hA7.out)
                have hD7 : Hid (gb0 < ydm0.heap.size) := (own_lt hN0.out rfl).2
                have hOydm0m7 := Lib.hid (keepO hA7.out hOydm0.out)
                have hZydm0m7 := Lib.hid (Nat.le_trans hZydm0.out hA7.out.size)
                have hV7 : Hid (ob + 1 ≤ ydm0.heap.size) := hZydm0
                generalize hgb7 : ydm0.heap.size = gb7 at hN7 hV7 hD7 ⊢
                generalize (ydm0.alloc (.cells #[.int .i64 x.1, .int .i64 x.2.1, .int .i64 x.2.2.1, .int .i64 x.2.2.2.1, .int .i64 x.2.2.2.2] 76)) = ydm0m7 at *
                clear hgb7 hA7
                try simp only [Act.put, List.setIfInBounds_toArray, List.set_cons_zero, List.set_cons_succ]
                refine wpAnyH_ready (rs := [5]) (by kernel_rfl) (by simp) ?_
                refine AllReadyH.cons (o := _) rfl (fun Kq hK => ?_) AllReadyH.nil
                refine step_app _ rfl _ _ 23 rfl (ob + 1) 76 ib _ 5 40 Tryd.underlying23 hib hzb0 hzb1 hzb2 rfl (by decide) (.slice (some ⟨gb0, 0, none⟩) 0 0) 0 [] rfl hN0'.out ydm0m7.heap.size (some a0) 0 _ (wgs (ws.take 0)) rfl (HT.out _ (HSB.out _ (by assumption))) (wgs_one _) ?c3 ?c4 ?c5 ?_
                case c3 => unfold maxLen; omega
                case c4 => omega
                case c5 => exact hZydm0m7.out
                intro v5 ydm0m7p5 hown hgr hat
                have hP5 := Lib.hid hown
                have hG5 := Lib.hid hgr
                have hB5 : Hid (∀ j, (Value.slice (some ⟨gb0, 0, none⟩) 0 0).ownBlock = some j → ob + 1 ≤ j) := fun j hj => (own_lt hN0'.out hj).1
                have hOydm0m7p5 : Hid (ydm0m7p5.heap[ob]? = some (.cells #[.slice A1 n c1, .slice A2 0 c2] 25 (0, 0))) := (hgr.block _ (by have := hZydm0m7.out; omega) (fun e => by have := hB5.out _ e.symm; omega)).trans hOydm0m7.out
                have hZydm0m7p5 := Lib.hid (Nat.le_trans hZydm0m7.out hgr.size)
                have hN7q := Lib.hid ((hgr.block gb7 (Array.getElem?_eq_some_iff.1 hN7.out).1 (fun e => by have := hD7.out; simp [Value.ownBlock] at e; omega)).trans hN7.out)
                clear hgr hown hat
                refine hK.out _ _ ?_ (fun hHeld => ?_)
                · exact HS.out _ (Lib.hid ((HSB.out _ (by assumption)).grown hG5.out (HSZ1.out _ (by assumption)) (fun j hj => Nat.le_trans (by omega) (hB5.out j hj))))
                clear hK Kq
                try simp only [Act.put, List.setIfInBounds_toArray, List.set_cons_zero, List.set_cons_succ]
                refine wpAnyH_ready (rs := [8]) (by kernel_rfl) (by simp) ?_
                refine AllReadyH.cons (o := _) rfl (fun Kq hK => ?_) AllReadyH.nil
                refine step_app _ rfl _ _ 23 rfl (ob + 1) 76 ib _ 5 40 Tryd.underlying23 hib hzb0 hzb1 hzb2 rfl (by decide) v5 (0 + 0) ([] ++ wgs (ws.take 0)) rfl hP5.out (gb7 + 1) (some ⟨gb7, 0, none⟩) 1 1 (wgs [x]) rfl (x_reads hN7q.out) (wgs_one _) ?c3 ?c4 ?c5 ?_
                case c3 => unfold maxLen; omega
                case c4 => omega
                case c5 => exact hZydm0m7p5.out
                intro v8 ydm0m7p5p8 hown hgr hat
                have hP8 := Lib.hid hown
                have hG8 := Lib.hid hgr
                have hB8 : Hid (∀ j, v5.ownBlock = some j → ob + 1 ≤ j) := fun j hj => (own_lt hP5.out hj).1
                have hOydm0m7p5p8 : Hid (ydm0m7p5p8.heap[ob]? = some (.cells #[.slice A1 n c1, .slice A2 0 c2] 25 (0, 0))) := (hgr.block _ (by have := hZydm0m7p5.out; omega) (fun e => by have := hB8.out _ e.symm; omega)).trans hOydm0m7p5.out
                have hZydm0m7p5p8 := Lib.hid (Nat.le_trans hZydm0m7p5.out hgr.size)
                clear hgr hown hat
                refine hK.out _ _ ?_ (fun hHeld => ?_)
                · exact HS.out _ (Lib.hid ((HSB.out _ (by assumption)).grown hG8.out (HSZ1.out _ (by assumption)) (fun j hj => Nat.le_trans (by omega) (hB8.out j hj))))
                clear hK Kq
                try simp only [Act.put, List.setIfInBounds_toArray, List.set_cons_zero, List.set_cons_succ]
                refine wpAnyH_ready (rs := [13]) (by kernel_rfl) (by simp) ?_
                refine AllReadyH.cons (o := _) rfl (fun Kq hK => ?_) AllReadyH.nil
                refine step_app _ rfl _ _ 23 rfl (ob + 1) 76 ib _ 5 40 Tryd.underlying23 hib hzb0 hzb1 hzb2 rfl (by decide) v8 (0 + 0 + 1) ([] ++ wgs (ws.take 0) ++ wgs [x]) rfl hP8.out ydm0m7p5p8.heap.size (some a0) 0 _ (wgs (ws.drop 0)) rfl (HD.out _ (HSB.out _ (by assumption))) (wgs_one _) ?c3 ?c4 ?c5 ?_
                case c3 => unfold maxLen; omega
                case c4 => omega
                case c5 => exact hZydm0m7p5p8.out
                intro v13 ydm0m7p5p8p13 hown hgr hat
                have hP13 := Lib.hid hown
                have hG13 := Lib.hid hgr
                have hB13 : Hid (∀ j, v8.ownBlock = some j → ob + 1 ≤ j) := fun j hj => (own_lt hP8.out hj).1
                have hOydm0m7p5p8p13 : Hid (ydm0m7p5p8p13.heap[ob]? = some (.cells #[.slice A1 n c1, .slice A2 0 c2] 25 (0, 0))) := (hgr.block _ (by have := hZydm0m7p5p8.out; omega) (fun e => by have := hB13.out _ e.symm; omega)).trans hOydm0m7p5p8.out
                have hZydm0m7p5p8p13 := Lib.hid (Nat.le_trans hZydm0m7p5p8.out hgr.size)
                clear hgr hown hat
                refine hK.out _ _ ?_ (fun hHeld => ?_)
                · exact HS.out _ (Lib.hid ((HSB.out _ (by assumption)).grown hG13.out (HSZ1.out _ (by assumption)) (fun j hj => Nat.le_trans (by omega) (hB13.out j hj))))
                clear hK Kq
                try simp only [Act.put, List.setIfInBounds_toArray, List.set_cons_zero, List.set_cons_succ]
                obtain ⟨A9, c9, hv9⟩ := own_val hP13.out
                have ho9 := hP13.out
                rw [hv9] at ho9
                rw [hv9]
                have e9 : 0 + 0 + 1 + 0 = 0 + 1 := by omega
                rw [e9] at ho9 ⊢
                rw [hins.out] at ho9
                obtain ⟨g0, g1, f0, f1⟩ := two_facts hOydm0m7p5p8p13.out
                refine tkY (v := ?_) 14 51 rfl rfl (by kernel_rfl) (by kernel_rfl) (by kernel_rfl) (fun _ _ _ h => h) (by kernel_rfl) ?_ (by assumption) ?_
                rotate_left
                · intro w hSw; rw [hSd] at hSw; obtain ⟨⟨q0, q1, q2, q3, q4, q5⟩, -⟩ := hSw; go_simp; (try with_reducible rfl)
                try simp only [Act.put, List.setIfInBounds_toArray, List.set_cons_zero, List.set_cons_succ]
                refine wpAnyH_ready (rs := [15]) (by kernel_rfl) (by simp) ?_
                refine AllReadyH.cons (o := _) rfl (fun Kq hK => ?_) AllReadyH.nil
                go_simp
                refine hK.out _ _ ?_ (fun hHeld => ?_)
                · exact HS.out _ (Lib.hid ((HSB.out _ (by assumption)).setCell (by simp) _))
                clear hK Kq
                try simp only [Act.put, List.setIfInBounds_toArray, List.set_cons_zero, List.set_cons_succ]
                have hob9 := set_one1 hOydm0m7p5p8p13.out (.slice A9 (0 + 1) c9)
                have hO9 := Lib.hid (own_far (p := ⟨ob, 1, none⟩) ho9 (by simp) (.slice A9 (0 + 1) c9))
                have hHF := Lib.hid (HSB.out _ hHeld)
                clear g0 g1 f0 f1 ho9
                generalize (ydm0m7p5p8p13.setCell ⟨ob, 1, none⟩ (.slice A9 (0 + 1) c9)) = wf at *
                refine wpAnyH_done (by kernel_rfl) ?_ _
                obtain ⟨p0, p1, -, -⟩ := two_facts hob9
                have HOb := Lib.hid hob9
                clear hob9
                have hPf := HPC.out wf hHF.out
                have HPf := Lib.hid hPf
                have hO1f := Lib.hid (HO1f.out wf hHF.out)
                clear hPf
                go_wp2_with fail
                refine (Press_any A1 A9 n c1 (0 + 1) c9 ps (insW ws 0 x) wf hnm (by unfold maxLen; omega) (Reads.of_own hO1f.out) (Reads.of_own hO9.out)).mono ?_
                rintro e z5 ⟨rfl, hb5⟩
                have HP5 := Lib.hid (HPf.out.below hb5)
                have hOb5 := keepO hb5 HOb.out
                have hO1' := Lib.hid (own_below hO1f.out hb5)
                have hO2' := Lib.hid (own_below hO9.out hb5)
                clear hb5 p0 p1
                obtain ⟨p0, p1, -, -⟩ := two_facts hOb5
                obtain ⟨g0, g1, f0, f1⟩ := two_facts HP5.out.b1
                have hzz := HZZ.out
                cases hv2 : validP ps (insW ws 0 x)
                · have hs : Hid (weighS ps ws x = (([], []), 21)) := by show _ = _; rw [HS9.out, hv2]; rfl
                  clear hv2
                  go_wp2
                  obtain ⟨e0, e1⟩ := set_back HP5.out.b1 (.slice none 0 0) (.slice none 0 0)
                  exact bodyPost_ret (v := .tuple #[.agg #[.slice none 0 0, .slice none 0 0], .int .i64 21]) (by simp [results, Tryd.results37, go_sem, e0, e1]) rfl ⟨Res.nil hs.out, below_two HP5.out.bel (by omega) _ _⟩
                · have hs : Hid (weighS ps ws x = ((ps, insW ws 0 x), 0)) := by show _ = _; rw [HS9.out, hv2]; rfl
                  clear hv2
                  go_wp2
                  obtain ⟨e0, e1⟩ := set_back HP5.out.b1 (.slice A1 n c1) (.slice A9 (0 + 1) c9)
                  refine bodyPost_ret (v := .tuple #[.agg #[.slice A1 n c1, .slice A9 (0 + 1) c9], .int .i64 0]) (by simp [results, Tryd.results37, go_sem, e0, e1]) rfl ⟨?_, below_two HP5.out.bel (by omega) _ _⟩
                  rw [hs.out]
                  exact ⟨_, _, _, _, _, _, rfl, own_mono (own_far (p := ⟨w.heap.size + 2, 1, none⟩) (own_far (p := ⟨w.heap.size + 2, 0, none⟩) hO1'.out (by simp only; omega) _) (by simp only; omega) _) (by omega),
                    own_mono (own_far (p := ⟨w.heap.size + 2, 1, none⟩) (own_far (p := ⟨w.heap.size + 2, 0, none⟩) hO2'.out (by simp only; omega) _) (by simp only; omega) _) (by omega)⟩
              refine AllReadyH.cons (o := _) rfl (fun Kq hK => ?_) AllReadyH.nil
              go_simp
              refine hK.out _ _ ?_ (fun hHeld => ?_)
              · exact HS.out _ (Lib.hid ((HSB.out _ (by assumption)).alloc (HSZ1.out _ (by assumption)) _))
              clear hK Kq
              have hA7 : Hid (Below yd.heap.size yd (yd.alloc (.cells #[.int .i64 x.1, .int .i64 x.2.1, .int .i64 x.2.2.1, .int .i64 x.2.2.2.1, .int .i64 x.2.2.2.2] 76))) := (Below.refl _ _).alloc (Nat.le_refl _) _
              have hN7 := Lib.hid (heap_alloc_new yd (.cells #[.int .i64 x.1, .int .i64 x.2.1, .int .i64 x.2.2.1, .int .i64 x.2.2.2.1, .int .i64 x.2.2.2.2] 76))
              have hOydm7 := Lib.hid (keepO hA7.out hOyd.out)
              have hZydm7 := Lib.hid (Nat.le_trans hZyd.out hA7.out.size)
              have hV7 : Hid (ob + 1 ≤ yd.heap.size) := hZyd
              generalize hgb7 : yd.heap.size = gb7 at hN7 hV7 ⊢
              generalize (yd.alloc (.cells #[.int .i64 x.1, .int .i64 x.2.1, .int .i64 x.2.2.1, .int .i64 x.2.2.2.1, .int .i64 x.2.2.2.2] 76)) = ydm7 at *
              clear hgb7 hA7
              try simp only [Act.put, List.setIfInBounds_toArray, List.set_cons_zero, List.set_cons_succ]
              refine wpAnyH_ready (rs := [0]) (by kernel_rfl) (by simp) ?_
              refine AllReadyH.cons (o := _) rfl (fun Kq hK => ?_) AllReadyH.nil
              go_simp
              refine hK.out _ _ ?_ (fun hHeld => ?_)
              · exact HS.out _ (Lib.hid ((HSB.out _ (by assumption)).alloc (HSZ1.out _ (by assumption)) _))
              clear hK Kq
              have hA0 : Hid (Below ydm7.heap.size ydm7 (ydm7.alloc (.cells #[] 76))) := (Below.refl _ _).alloc (Nat.le_refl _) _
              have hN0 := Lib.hid (own_lit0 ydm7 (ob + 1) hZydm7.out 76 5)
              have hN7' := Lib.hid (keepO hA0.out hN7.out)
              have hD7 : Hid (gb7 < ydm7.heap.size) := (Array.getElem?_eq_some_iff.1 hN7.out).1
              have hOydm7m0 := Lib.hid (keepO hA0.out hOydm7.out)
              have hZydm7m0 := Lib.hid (Nat.le_trans hZydm7.out hA0.out.size)
              have hV0 : Hid (ob + 1 ≤ ydm7.heap.size) := hZydm7
              generalize hgb0 : ydm7.heap.size = gb0 at hN0 hV0 hD7 ⊢
              generalize (ydm7.alloc (.cells #[] 76)) = ydm7m0 at *
              clear hgb0 hA0
              try simp only [Act.put, List.setIfInBounds_toArray, List.set_cons_zero, List.set_cons_succ]
              refine wpAnyH_ready (rs := [5]) (by kernel_rfl) (by simp) ?_
              refine AllReadyH.cons (o := _) rfl (fun Kq hK => ?_) AllReadyH.nil
              refine step_app _ rfl _ _ 23 rfl (ob + 1) 76 ib _ 5 40 Tryd.underlying23 hib hzb0 hzb1 hzb2 rfl (by decide) (.slice (some ⟨gb0, 0, none⟩) 0 0) 0 [] rfl hN0.out ydm7m0.heap.size (some a0) 0 _ (wgs (ws.take 0)) rfl (HT.out _ (HSB.out _ (by assumption))) (wgs_one _) ?c3 ?c4 ?c5 ?_
              case c3 => unfold maxLen; omega
              case c4 => omega
              case c5 => exact hZydm7m0.out
              intro v5 ydm7m0p5 hown hgr hat
              have hP5 := Lib.hid hown
              have hG5 := Lib.hid hgr
              have hB5 : Hid (∀ j, (Value.slice (some ⟨gb0, 0, none⟩) 0 0).ownBlock = some j → ob + 1 ≤ j) := fun j hj => (own_lt hN0.out hj).1
              have hOydm7m0p5 : Hid (ydm7m0p5.heap[ob]? = some (.cells #[.slice A1 n c1, .slice A2 0 c2] 25 (0, 0))) := (hgr.block _ (by have := hZydm7m0.out; omega) (fun e => by have := hB5.out _ e.symm; omega)).trans hOydm7m0.out
              have hZydm7m0p5 := Lib.hid (Nat.le_trans hZydm7m0.out hgr.size)
              have hN7q := Lib.hid ((hgr.block gb7 (Array.getElem?_eq_some_iff.1 hN7'.out).1 (fun e => by have := hD7.out; simp [Value.ownBlock] at e; omega)).trans hN7'.out)
              clear hgr hown hat
              refine hK.out _ _ ?_ (fun hHeld => ?_)
              · exact HS.out _ (Lib.hid ((HSB.out _ (by assumption)).grown hG5.out (HSZ1.out _ (by assumption)) (fun j hj => Nat.le_trans (by omega) (hB5.out j hj))))
              clear hK Kq
              try simp only [Act.put, List.setIfInBounds_toArray, List.set_cons_zero, List.set_cons_succ]
              refine wpAnyH_ready (rs := [8]) (by kernel_rfl) (by simp) ?_
              refine AllReadyH.cons (o := _) rfl (fun Kq hK => ?_) AllReadyH.nil
              refine step_app _ rfl _ _ 23 rfl (ob + 1) 76 ib _ 5 40 Tryd.underlying23 hib hzb0 hzb1 hzb2 rfl (by decide) v5 (0 + 0) ([] ++ wgs (ws.take 0)) rfl hP5.out (gb7 + 1) (some ⟨gb7, 0, none⟩) 1 1 (wgs [x]) rfl (x_reads hN7q.out) (wgs_one _) ?c3 ?c4 ?c5 ?_
              case c3 => unfold maxLen; omega
              case c4 => omega
              case c5 => exact hZydm7m0p5.out
              intro v8 ydm7m0p5p8 hown hgr hat
              have hP8 := Lib.hid hown
              have hG8 := Lib.hid hgr
              have hB8 : Hid (∀ j, v5.ownBlock = some j → ob + 1 ≤ j) := fun j hj => (own_lt hP5.out hj).1
              have hOydm7m0p5p8 : Hid (ydm7m0p5p8.heap[ob]? = some (.cells #[.slice A1 n c1, .slice A2 0 c2] 25 (0, 0))) := (hgr.block _ (by have := hZydm7m0p5.out; omega) (fun e => by have := hB8.out _ e.symm; omega)).trans hOydm7m0p5.out
              have hZydm7m0p5p8 := Lib.hid (Nat.le_trans hZydm7m0p5.out hgr.size)
              clear hgr hown hat
              refine hK.out _ _ ?_ (fun hHeld => ?_)
              · exact HS.out _ (Lib.hid ((HSB.out _ (by assumption)).grown hG8.out (HSZ1.out _ (by assumption)) (fun j hj => Nat.le_trans (by omega) (hB8.out j hj))))
              clear hK Kq
              try simp only [Act.put, List.setIfInBounds_toArray, List.set_cons_zero, List.set_cons_succ]
              refine wpAnyH_ready (rs := [13]) (by kernel_rfl) (by simp) ?_
              refine AllReadyH.cons (o := _) rfl (fun Kq hK => ?_) AllReadyH.nil
              refine step_app _ rfl _ _ 23 rfl (ob + 1) 76 ib _ 5 40 Tryd.underlying23 hib hzb0 hzb1 hzb2 rfl (by decide) v8 (0 + 0 + 1) ([] ++ wgs (ws.take 0) ++ wgs [x]) rfl hP8.out ydm7m0p5p8.heap.size (some a0) 0 _ (wgs (ws.drop 0)) rfl (HD.out _ (HSB.out _ (by assumption))) (wgs_one _) ?c3 ?c4 ?c5 ?_
              case c3 => unfold maxLen; omega
              case c4 => omega
              case c5 => exact hZydm7m0p5p8.out
              intro v13 ydm7m0p5p8p13 hown hgr hat
              have hP13 := Lib.hid hown
              have hG13 := Lib.hid hgr
              have hB13 : Hid (∀ j, v8.ownBlock = some j → ob + 1 ≤ j) := fun j hj => (own_lt hP8.out hj).1
              have hOydm7m0p5p8p13 : Hid (ydm7m0p5p8p13.heap[ob]? = some (.cells #[.slice A1 n c1, .slice A2 0 c2] 25 (0, 0))) := (hgr.block _ (by have := hZydm7m0p5p8.out; omega) (fun e => by have := hB13.out _ e.symm; omega)).trans hOydm7m0p5p8.out
              have hZydm7m0p5p8p13 := Lib.hid (Nat.le_trans hZydm7m0p5p8.out hgr.size)
              clear hgr hown hat
              refine hK.out _ _ ?_ (fun hHeld => ?_)
              · exact HS.out _ (Lib.hid ((HSB.out _ (by assumption)).grown hG13.out (HSZ1.out _ (by assumption)) (fun j hj => Nat.le_trans (by omega) (hB13.out j hj))))
              clear hK Kq
              try simp only [Act.put, List.setIfInBounds_toArray, List.set_cons_zero, List.set_cons_succ]
              obtain ⟨A9, c9, hv9⟩ := own_val hP13.out
              have ho9 := hP13.out
              rw [hv9] at ho9
              rw [hv9]
              have e9 : 0 + 0 + 1 + 0 = 0 + 1 := by omega
              rw [e9] at ho9 ⊢
              rw [hins.out] at ho9
              obtain ⟨g0, g1, f0, f1⟩ := two_facts hOydm7m0p5p8p13.out
              refine tkY (v := ?_) 14 51 rfl rfl (by kernel_rfl) (by kernel_rfl) (by kernel_rfl) (fun _ _ _ h => h) (by kernel_rfl) ?_ (by assumption) ?_
              rotate_left
              · intro w hSw; rw [hSd] at hSw; obtain ⟨⟨q0, q1, q2, q3, q4, q5⟩, -⟩ := hSw; go_simp; (try with_reducible rfl)
              try simp only [Act.put, List.setIfInBounds_toArray, List.set_cons_zero, List.set_cons_succ]
              refine wpAnyH_ready (rs := [15]) (by kernel_rfl) (by simp) ?_
              refine AllReadyH.cons (o := _) rfl (fun Kq hK => ?_) AllReadyH.nil
              go_simp
              refine hK.out _ _ ?_ (fun hHeld => ?_)
              · exact HS.out _ (Lib.hid ((HSB.out _ (by assumption)).setCell (by simp) _))
              clear hK Kq
              try simp only [Act.put, List.setIfInBounds_toArray, List.set_cons_zero, List.set_cons_succ]
              have hob9 := set_one1 hOydm7m0p5p8p13.out (.slice A9 (0 + 1) c9)
              have hO9 := Lib.hid (own_far (p := ⟨ob, 1, none⟩) ho9 (by simp) (.slice A9 (0 + 1) c9))
              have hHF := Lib.hid (HSB.out _ hHeld)
              clear g0 g1 f0 f1 ho9
              generalize (ydm7m0p5p8p13.setCell ⟨ob, 1, none⟩ (.slice A9 (0 + 1) c9)) = wf at *
              refine wpAnyH_done (by kernel_rfl) ?_ _
              obtain ⟨p0, p1, -, -⟩ := two_facts hob9
              have HOb := Lib.hid hob9
              clear hob9
              have hPf := HPC.out wf hHF.out
              have HPf := Lib.hid hPf
              have hO1f := Lib.hid (HO1f.out wf hHF.out)
              clear hPf
              go_wp2_with fail
              refine (Press_any A1 A9 n c1 (0 + 1) c9 ps (insW ws 0 x) wf hnm (by unfold maxLen; omega) (Reads.of_own hO1f.out) (Reads.of_own hO9.out)).mono ?_
              rintro e z5 ⟨rfl, hb5⟩
              have HP5 := Lib.hid (HPf.out.below hb5)
              have hOb5 := keepO hb5 HOb.out
              have hO1' := Lib.hid (own_below hO1f.out hb5)
              have hO2' := Lib.hid (own_below hO9.out hb5)
              clear hb5 p0 p1
              obtain ⟨p0, p1, -, -⟩ := two_facts hOb5
              obtain ⟨g0, g1, f0, f1⟩ := two_facts HP5.out.b1
              have hzz := HZZ.out
              cases hv2 : validP ps (insW ws 0 x)
              · have hs : Hid (weighS ps ws x = (([], []), 21)) := by show _ = _; rw [HS9.out, hv2]; rfl
                clear hv2
                go_wp2
                obtain ⟨e0, e1⟩ := set_back HP5.out.b1 (.slice none 0 0) (.slice none 0 0)
                exact bodyPost_ret (v := .tuple #[.agg #[.slice none 0 0, .slice none 0 0], .int .i64 21]) (by simp [results, Tryd.results37, go_sem, e0, e1]) rfl ⟨Res.nil hs.out, below_two HP5.out.bel (by omega) _ _⟩
              · have hs : Hid (weighS ps ws x = ((ps, insW ws 0 x), 0)) := by show _ = _; rw [HS9.out, hv2]; rfl
                clear hv2
                go_wp2
                obtain ⟨e0, e1⟩ := set_back HP5.out.b1 (.slice A1 n c1) (.slice A9 (0 + 1) c9)
                refine bodyPost_ret (v := .tuple #[.agg #[.slice A1 n c1, .slice A9 (0 + 1) c9], .int .i64 0]) (by simp [results, Tryd.results37, go_sem, e0, e1]) rfl ⟨?_, below_two HP5.out.bel (by omega) _ _⟩
                rw [hs.out]
                exact ⟨_, _, _, _, _, _, rfl, own_mono (own_far (p := ⟨w.heap.size + 2, 1, none⟩) (own_far (p := ⟨w.heap.size + 2, 0, none⟩) hO1'.out (by simp only; omega) _) (by simp only; omega) _) (by omega),
                  own_mono (own_far (p := ⟨w.heap.size + 2, 1, none⟩) (own_far (p := ⟨w.heap.size + 2, 0, none⟩) hO2'.out (by simp only; omega) _) (by simp only; omega) _) (by omega)⟩
            · obtain ⟨b0, o0, ea, -, -⟩ := (HRw.out _ (HPC.out wl (Below.refl _ _))).2 (by omega)
              obtain rfl := Option.some.inj ea
              clear ea
              have HD := Lib.hid (fun z (hz : Below ob wl z) => reads_drop (HRw.out z (HPC.out z hz)) hk)
              go_wp2_with fail
              refine wp_region_held_drew (S := S) (by kernel_rfl) ?_ (fun hHeld => ?_)
              · exact HS.out _ hZ0
              generalize wl.drew = yd at *
              refine tkY (v := ?_) 1 38 rfl rfl (by kernel_rfl) (by kernel_rfl) (by kernel_rfl) (fun _ _ _ h => h) (by kernel_rfl) ?_ (by assumption) ?_
              rotate_left
              · intro w hSw; rw [hSd] at hSw; obtain ⟨⟨q0, q1, q2, q3, q4, q5⟩, -⟩ := hSw; go_simp; (try with_reducible rfl)
              try simp only [Act.put, List.setIfInBounds_toArray, List.set_cons_zero, List.set_cons_succ]
              refine tkY (v := ?_) 2 39 rfl rfl (by kernel_rfl) (by kernel_rfl) (by kernel_rfl) (fun _ _ _ h => h) (by kernel_rfl) ?_ (by assumption) ?_
              rotate_left
              · intro w hSw; rw [hSd] at hSw; obtain ⟨⟨q0, q1, q2, q3, q4, q5⟩, -⟩ := hSw; go_simp; (try with_reducible rfl)
              try simp only [Act.put, List.setIfInBounds_toArray, List.set_cons_zero, List.set_cons_succ]
              refine tkY (v := ?_) 3 40 rfl rfl (by kernel_rfl) (by kernel_rfl) (by kernel_rfl) (fun _ _ _ h => h) (by kernel_rfl) ?_ (by assumption) ?_
              rotate_left
              · intro w hSw; rw [hSd] at hSw; obtain ⟨⟨q0, q1, q2, q3, q4, q5⟩, -⟩ := hSw; go_simp; (try with_reducible rfl)
              try simp only [Act.put, List.setIfInBounds_toArray, List.set_cons_zero, List.set_cons_succ]
              refine tkY (v := ?_) 4 41 rfl rfl (by kernel_rfl) (by kernel_rfl) (by kernel_rfl) (fun _ _ _ h => h) (by kernel_rfl) ?_ (by assumption) ?_
              rotate_left
              · intro w hSw; rw [hSd] at hSw; obtain ⟨⟨q0, q1, q2, q3, q4, q5⟩, -⟩ := hSw; go_simp; (try with_reducible rfl)
              try simp only [Act.put, List.setIfInBounds_toArray, List.set_cons_zero, List.set_cons_succ]
              refine tkY (v := ?_) 6 43 rfl rfl (by kernel_rfl) (by kernel_rfl) (by kernel_rfl) (fun _ _ _ h => h) (by kernel_rfl) ?_ (by assumption) ?_
              rotate_left
              · intro w hSw; rw [hSd] at hSw; obtain ⟨⟨q0, q1, q2, q3, q4, q5⟩, -⟩ := hSw; go_simp; (try with_reducible rfl)
              try simp only [Act.put, List.setIfInBounds_toArray, List.set_cons_zero, List.set_cons_succ]
              refine tkY (v := ?_) 9 46 rfl rfl (by kernel_rfl) (by kernel_rfl) (by kernel_rfl) (fun _ _ _ h => h) (by kernel_rfl) ?_ (by assumption) ?_
              rotate_left
              · intro w hSw; rw [hSd] at hSw; obtain ⟨⟨q0, q1, q2, q3, q4, q5⟩, -⟩ := hSw; go_simp; (try with_reducible rfl)
              try simp only [Act.put, List.setIfInBounds_toArray, List.set_cons_zero, List.set_cons_succ]
              refine tkY (v := ?_) 10 47 rfl rfl (by kernel_rfl) (by kernel_rfl) (by kernel_rfl) (fun _ _ _ h => h) (by kernel_rfl) ?_ (by assumption) ?_
              rotate_left
              · intro w hSw; rw [hSd] at hSw; obtain ⟨⟨q0, q1, q2, q3, q4, q5⟩, -⟩ := hSw; go_simp; (try with_reducible rfl)
              try simp only [Act.put, List.setIfInBounds_toArray, List.set_cons_zero, List.set_cons_succ]
              refine tkY (v := ?_) 11 48 rfl rfl (by kernel_rfl) (by kernel_rfl) (by kernel_rfl) (fun _ _ _ h => h) (by kernel_rfl) ?_ (by assumption) ?_
              rotate_left
              · intro w hSw; rw [hSd] at hSw; obtain ⟨⟨q0, q1, q2, q3, q4, q5⟩, -⟩ := hSw; go_simp; (try with_reducible rfl)
              try simp only [Act.put, List.setIfInBounds_toArray, List.set_cons_zero, List.set_cons_succ]
              refine tkY (v := ?_) 12 49 rfl rfl (by kernel_rfl) (by kernel_rfl) (by kernel_rfl) (fun _ _ _ h => h) (by kernel_rfl) ?_ (by assumption) ?_
              rotate_left
              · intro w hSw; rw [hSd] at hSw; obtain ⟨⟨q0, q1, q2, q3, q4, q5⟩, -⟩ := hSw; go_simp; (try with_reducible rfl)
              try simp only [Act.put, List.setIfInBounds_toArray, List.set_cons_zero, List.set_cons_succ]
              refine wpAnyH_ready (rs := [0, 7]) (by kernel_rfl) (by simp) ?_
              refine AllReadyH.cons (o := _) rfl (fun Kq hK => ?_) ?_
              · go_simp
                refine hK.out _ _ ?_ (fun hHeld => ?_)
                · exact HS.out _ (Lib.hid ((HSB.out _ (by assumption)).alloc (HSZ1.out _ (by assumption)) _))
                clear hK Kq
                have hA0 : Hid (Below yd.heap.size yd (yd.alloc (.cells #[] 76))) := (Below.refl _ _).alloc (Nat.le_refl _) _
                have hN0 := Lib.hid (own_lit0 yd (ob + 1) hZyd.out 76 5)
                have hOydm0 := Lib.hid (keepO hA0.out hOyd.out)
                have hZydm0 := Lib.hid (Nat.le_trans hZyd.out hA0.out.size)
                have hV0 : Hid (ob + 1 ≤ yd.heap.size) := hZyd
                generalize hgb0 : yd.heap.size = gb0 at hN0 hV0 ⊢
                generalize (yd.alloc (.cells #[] 76)) = ydm0 at *
                clear hgb0 hA0
                try simp only [Act.put, List.setIfInBounds_toArray, List.set_cons_zero, List.set_cons_succ]
                refine wpAnyH_ready (rs := [5, 7]) (by kernel_rfl) (by simp) ?_
                refine AllReadyH.cons (o := _) rfl (fun Kq hK => ?_) ?_
                · refine step_app _ rfl _ _ 23 rfl (ob + 1) 76 ib _ 5 40 Tryd.underlying23 hib hzb0 hzb1 hzb2 rfl (by decide) (.slice (some ⟨gb0, 0, none⟩) 0 0) 0 [] rfl hN0.out ydm0.heap.size (some ⟨b0, o0, none⟩) k _ (wgs (ws.take k)) rfl (HT.out _ (HSB.out _ (by assumption))) (wgs_one _) ?c3 ?c4 ?c5 ?_
                  case c3 => unfold maxLen; omega
                  case c4 => omega
                  case c5 => exact hZydm0.out
                  intro v5 ydm0p5 hown hgr hat
                  have hP5 := Lib.hid hown
                  have hG5 := Lib.hid hgr
                  have hB5 : Hid (∀ j, (Value.slice (some ⟨gb0, 0, none⟩) 0 0).ownBlock = some j → ob + 1 ≤ j) := fun j hj => (own_lt hN0.out hj).1
                  have hOydm0p5 : Hid (ydm0p5.heap[ob]? = some (.cells #[.slice A1 n c1, .slice A2 n' c2] 25 (0, 0))) := (hgr.block _ (by have := hZydm0.out; omega) (fun e => by have := hB5.out _ e.symm; omega)).trans hOydm0.out
                  have hZydm0p5 := Lib.hid (Nat.le_trans hZydm0.out hgr.size)
                  clear hgr hown hat
                  refine hK.out _ _ ?_ (fun hHeld => ?_)
                  · exact HS.out _ (Lib.hid ((HSB.out _ (by assumption)).grown hG5.out (HSZ1.out _ (by assumption)) (fun j hj => Nat.le_trans (by omega) (hB5.out j hj))))
                  clear hK Kq
                  try simp only [Act.put, List.setIfInBounds_toArray, List.set_cons_zero, List.set_cons_succ]
                  refine wpAnyH_ready (rs := [7]) (by kernel_rfl) (by simp) ?_
                  refine AllReadyH.cons (o := _) rfl (fun Kq hK => ?_) AllReadyH.nil
                  go_simp
                  refine hK.out _ _ ?_ (fun hHeld => ?_)
                  · exact HS.out _ (Lib.hid ((HSB.out _ (by assumption)).alloc (HSZ1.out _ (by assumption)) _))
                  clear hK Kq
                  have hA7 : Hid (Below ydm0p5.heap.size ydm0p5 (ydm0p5.alloc (.cells #[.int .i64 x.1, .int .i64 x.2.1, .int .i64 x.2.2.1, .int .i64 x.2.2.2.1, .int .i64 x.2.2.2.2] 76))) := (Below.refl _ _).alloc (Nat.le_refl _) _
                  have hN7 := Lib.hid (heap_alloc_new ydm0p5 (.cells #[.int .i64 x.1, .int .i64 x.2.1, .int .i64 x.2.2.1, .int .i64 x.2.2.2.1, .int .i64 x.2.2.2.2] 76))
                  have hN5' := Lib.hid (own_below hP5.out hA7.out)
                  have hOydm0p5m7 := Lib.hid (keepO hA7.out hOydm0p5.out)
                  have hZydm0p5m7 := Lib.hid (Nat.le_trans hZydm0p5.out hA7.out.size)
                  have hV7 : Hid (ob + 1 ≤ ydm0p5.heap.size) := hZydm0p5
                  generalize hgb7 : ydm0p5.heap.size = gb7 at hN7 hV7 ⊢
                  generalize (ydm0p5.alloc (.cells #[.int .i64 x.1, .int .i64 x.2.1, .int .i64 x.2.2.1, .int .i64 x.2.2.2.1, .int .i64 x.2.2.2.2] 76)) = ydm0p5m7 at *
                  clear hgb7 hA7
                  try simp only [Act.put, List.setIfInBounds_toArray, List.set_cons_zero, List.set_cons_succ]
                  refine wpAnyH_ready (rs := [8]) (by kernel_rfl) (by simp) ?_
                  refine AllReadyH.cons (o := _) rfl (fun Kq hK => ?_) AllReadyH.nil
                  refine step_app _ rfl _ _ 23 rfl (ob + 1) 76 ib _ 5 40 Tryd.underlying23 hib hzb0 hzb1 hzb2 rfl (by decide) v5 (0 + k) ([] ++ wgs (ws.take k)) rfl hN5'.out (gb7 + 1) (some ⟨gb7, 0, none⟩) 1 1 (wgs [x]) rfl (x_reads hN7.out) (wgs_one _) ?c3 ?c4 ?c5 ?_
                  case c3 => unfold maxLen; omega
                  case c4 => omega
                  case c5 => exact hZydm0p5m7.out
                  intro v8 ydm0p5m7p8 hown hgr hat
                  have hP8 := Lib.hid hown
                  have hG8 := Lib.hid hgr
                  have hB8 : Hid (∀ j, v5.ownBlock = some j → ob + 1 ≤ j) := fun j hj => (own_lt hN5'.out hj).1
                  have hOydm0p5m7p8 : Hid (ydm0p5m7p8.heap[ob]? = some (.cells #[.slice A1 n c1, .slice A2 n' c2] 25 (0, 0))) := (hgr.block _ (by have := hZydm0p5m7.out; omega) (fun e => by have := hB8.out _ e.symm; omega)).trans hOydm0p5m7.out
                  have hZydm0p5m7p8 := Lib.hid (Nat.le_trans hZydm0p5m7.out hgr.size)
                  clear hgr hown hat
                  refine hK.out _ _ ?_ (fun hHeld => ?_)
                  · exact HS.out _ (Lib.hid ((HSB.out _ (by assumption)).grown hG8.out (HSZ1.out _ (by assumption)) (fun j hj => Nat.le_trans (by omega) (hB8.out j hj))))
                  clear hK Kq
                  try simp only [Act.put, List.setIfInBounds_toArray, List.set_cons_zero, List.set_cons_succ]
                  refine wpAnyH_ready (rs := [13]) (by kernel_rfl) (by simp) ?_
                  refine AllReadyH.cons (o := _) rfl (fun Kq hK => ?_) AllReadyH.nil
                  refine step_app _ rfl _ _ 23 rfl (ob + 1) 76 ib _ 5 40 Tryd.underlying23 hib hzb0 hzb1 hzb2 rfl (by decide) v8 (0 + k + 1) ([] ++ wgs (ws.take k) ++ wgs [x]) rfl hP8.out ydm0p5m7p8.heap.size (some ⟨b0, o0 + k * 5, none⟩) (n' - k) _ (wgs (ws.drop k)) rfl (HD.out _ (HSB.out _ (by assumption))) (wgs_one _) ?c3 ?c4 ?c5 ?_
                  case c3 => unfold maxLen; omega
                  case c4 => omega
                  case c5 => exact hZydm0p5m7p8.out
                  intro v13 ydm0p5m7p8p13 hown hgr hat
                  have hP13 := Lib.hid hown
                  have hG13 := Lib.hid hgr
                  have hB13 : Hid (∀ j, v8.ownBlock = some j → ob + 1 ≤ j) := fun j hj => (own_lt hP8.out hj).1
                  have hOydm0p5m7p8p13 : Hid (ydm0p5m7p8p13.heap[ob]? = some (.cells #[.slice A1 n c1, .slice A2 n' c2] 25 (0, 0))) := (hgr.block _ (by have := hZydm0p5m7p8.out; omega) (fun e => by have := hB13.out _ e.symm; omega)).trans hOydm0p5m7p8.out
                  have hZydm0p5m7p8p13 := Lib.hid (Nat.le_trans hZydm0p5m7p8.out hgr.size)
                  clear hgr hown hat
                  refine hK.out _ _ ?_ (fun hHeld => ?_)
                  · exact HS.out _ (Lib.hid ((HSB.out _ (by assumption)).grown hG13.out (HSZ1.out _ (by assumption)) (fun j hj => Nat.le_trans (by omega) (hB13.out j hj))))
                  clear hK Kq
                  try simp only [Act.put, List.setIfInBounds_toArray, List.set_cons_zero, List.set_cons_succ]
                  obtain ⟨A9, c9, hv9⟩ := own_val hP13.out
                  have ho9 := hP13.out
                  rw [hv9] at ho9
                  rw [hv9]
                  have e9 : 0 + k + 1 + (n' - k) = n' + 1 := by omega
                  rw [e9] at ho9 ⊢
                  rw [hins.out] at ho9
                  obtain ⟨g0, g1, f0, f1⟩ := two_facts hOydm0p5m7p8p13.out
                  refine tkY (v := ?_) 14 51 rfl rfl (by kernel_rfl) (by kernel_rfl) (by kernel_rfl) (fun _ _ _ h => h) (by kernel_rfl) ?_ (by assumption) ?_
                  rotate_left
                  · intro w hSw; rw [hSd] at hSw; obtain ⟨⟨q0, q1, q2, q3, q4, q5⟩, -⟩ := hSw; go_simp; (try with_reducible rfl)
                  try simp only [Act.put, List.setIfInBounds_toArray, List.set_cons_zero, List.set_cons_succ]
                  refine wpAnyH_ready (rs := [15]) (by kernel_rfl) (by simp) ?_
                  refine AllReadyH.cons (o := _) rfl (fun Kq hK => ?_) AllReadyH.nil
                  go_simp
                  refine hK.out _ _ ?_ (fun hHeld => ?_)
                  · exact HS.out _ (Lib.hid ((HSB.out _ (by assumption)).setCell (by simp) _))
                  clear hK Kq
                  try simp only [Act.put, List.setIfInBounds_toArray, List.set_cons_zero, List.set_cons_succ]
                  have hob9 := set_one1 hOydm0p5m7p8p13.out (.slice A9 (n' + 1) c9)
                  have hO9 := Lib.hid (own_far (p := ⟨ob, 1, none⟩) ho9 (by simp) (.slice A9 (n' + 1) c9))
                  have hHF := Lib.hid (HSB.out _ hHeld)
                  clear g0 g1 f0 f1 ho9
                  generalize (ydm0p5m7p8p13.setCell ⟨ob, 1, none⟩ (.slice A9 (n' + 1) c9)) = wf at *
                  refine wpAnyH_done (by kernel_rfl) ?_ _
                  obtain ⟨p0, p1, -, -⟩ := two_facts hob9
                  have HOb := Lib.hid hob9
                  clear hob9
                  have hPf := HPC.out wf hHF.out
                  have HPf := Lib.hid hPf
                  have hO1f := Lib.hid (HO1f.out wf hHF.out)
                  clear hPf
                  go_wp2_with fail
                  refine (Press_any A1 A9 n c1 (n' + 1) c9 ps (insW ws k x) wf hnm (by unfold maxLen; omega) (Reads.of_own hO1f.out) (Reads.of_own hO9.out)).mono ?_
                  rintro e z5 ⟨rfl, hb5⟩
                  have HP5 := Lib.hid (HPf.out.below hb5)
                  have hOb5 := keepO hb5 HOb.out
                  have hO1' := Lib.hid (own_below hO1f.out hb5)
                  have hO2' := Lib.hid (own_below hO9.out hb5)
                  clear hb5 p0 p1
                  obtain ⟨p0, p1, -, -⟩ := two_facts hOb5
                  obtain ⟨g0, g1, f0, f1⟩ := two_facts HP5.out.b1
                  have hzz := HZZ.out
                  cases hv2 : validP ps (insW ws k x)
                  · have hs : Hid (weighS ps ws x = (([], []), 21)) := by show _ = _; rw [HS9.out, hv2]; rfl
                    clear hv2
                    go_wp2
                    obtain ⟨e0, e1⟩ := set_back HP5.out.b1 (.slice none 0 0) (.slice none 0 0)
                    exact bodyPost_ret (v := .tuple #[.agg #[.slice none 0 0, .slice none 0 0], .int .i64 21]) (by simp [results, Tryd.results37, go_sem, e0, e1]) rfl ⟨Res.nil hs.out, below_two HP5.out.bel (by omega) _ _⟩
                  · have hs : Hid (weighS ps ws x = ((ps, insW ws k x), 0)) := by show _ = _; rw [HS9.out, hv2]; rfl
                    clear hv2
                    go_wp2
                    obtain ⟨e0, e1⟩ := set_back HP5.out.b1 (.slice A1 n c1) (.slice A9 (n' + 1) c9)
                    refine bodyPost_ret (v := .tuple #[.agg #[.slice A1 n c1, .slice A9 (n' + 1) c9], .int .i64 0]) (by simp [results, Tryd.results37, go_sem, e0, e1]) rfl ⟨?_, below_two HP5.out.bel (by omega) _ _⟩
                    rw [hs.out]
                    exact ⟨_, _, _, _, _, _, rfl, own_mono (own_far (p := ⟨w.heap.size + 2, 1, none⟩) (own_far (p := ⟨w.heap.size + 2, 0, none⟩) hO1'.out (by simp only; omega) _) (by simp only; omega) _) (by omega),
                      own_mono (own_far (p := ⟨w.heap.size + 2, 1, none⟩) (own_far (p := ⟨w.heap.size + 2, 0, none⟩) hO2'.out (by simp only; omega) _) (by simp only; omega) _) (by omega)⟩
                refine AllReadyH.cons (o := _) rfl (fun Kq hK => ?_) AllReadyH.nil
                go_simp
                refine hK.out _ _ ?_ (fun hHeld => ?_)
                · exact HS.out _ (Lib.hid ((HSB.out _ (by assumption)).alloc (HSZ1.out _ (by assumption)) _))
                clear hK Kq
                have hA7 : Hid (Below ydm0.heap.size ydm0 (ydm0.alloc (.cells #[.int .i64 x.1, .int .i64 x.2.1, .int .i64 x.2.2.1, .int .i64 x.2.2.2.1, .int .i64 x.2.2.2.2] 76))) := (Below.refl _ _).alloc (Nat.le_refl _) _
                have hN7 := Lib.hid (heap_alloc_new ydm0 (.cells #[.int .i64 x.1, .int .i64 x.2.1, .int .i64 x.2.2.1, .int .i64 x.2.2.2.1, .int .i64 x.2.2.2.2] 76))
                have hN0' := Lib.hid (own_below hN0.out hA7.out)
                have hD7 : Hid (gb0 < ydm0.heap.size) := (own_lt hN0.out rfl).2
                have hOydm0m7 := Lib.hid (keepO hA7.out hOydm0.out)
                have hZydm0m7 := Lib.hid (Nat.le_trans hZydm0.out hA7.out.size)
                have hV7 : Hid (ob + 1 ≤ ydm0.heap.size) := hZydm0
                generalize hgb7 : ydm0.heap.size = gb7 at hN7 hV7 hD7 ⊢
                generalize (ydm0.alloc (.cells #[.int .i64 x.1, .int .i64 x.2.1, .int .i64 x.2.2.1, .int .i64 x.2.2.2.1, .int .i64 x.2.2.2.2] 76)) = ydm0m7 at *
                clear hgb7 hA7
                try simp only [Act.put, List.setIfInBounds_toArray, List.set_cons_zero, List.set_cons_succ]
                refine wpAnyH_ready (rs := [5]) (by kernel_rfl) (by simp) ?_
                refine AllReadyH.cons (o := _) rfl (fun Kq hK => ?_) AllReadyH.nil
                refine step_app _ rfl _ _ 23 rfl (ob + 1) 76 ib _ 5 40 Tryd.underlying23 hib hzb0 hzb1 hzb2 rfl (by decide) (.slice (some ⟨gb0, 0, none⟩) 0 0) 0 [] rfl hN0'.out ydm0m7.heap.size (some ⟨b0, o0, none⟩) k _ (wgs (ws.take k)) rfl (HT.out _ (HSB.out _ (by assumption))) (wgs_one _) ?c3 ?c4 ?c5 ?_
                case c3 => unfold maxLen; omega
                case c4 => omega
                case c5 => exact hZydm0m7.out
                intro v5 ydm0m7p5 hown hgr hat
                have hP5 := Lib.hid hown
                have hG5 := Lib.hid hgr
                have hB5 : Hid (∀ j, (Value.slice (some ⟨gb0, 0, none⟩) 0 0).ownBlock = some j → ob + 1 ≤ j) := fun j hj => (own_lt hN0'.out hj).1
                have hOydm0m7p5 : Hid (ydm0m7p5.heap[ob]? = some (.cells #[.slice A1 n c1, .slice A2 n' c2] 25 (0, 0))) := (hgr.block _ (by have := hZydm0m7.out; omega) (fun e => by have := hB5.out _ e.symm; omega)).trans hOydm0m7.out
                have hZydm0m7p5 := Lib.hid (Nat.le_trans hZydm0m7.out hgr.size)
                have hN7q := Lib.hid ((hgr.block gb7 (Array.getElem?_eq_some_iff.1 hN7.out).1 (fun e => by have := hD7.out; simp [Value.ownBlock] at e; omega)).trans hN7.out)
                clear hgr hown hat
                refine hK.out _ _ ?_ (fun hHeld => ?_)
                · exact HS.out _ (Lib.hid ((HSB.out _ (by assumption)).grown hG5.out (HSZ1.out _ (by assumption)) (fun j hj => Nat.le_trans (by omega) (hB5.out j hj))))
                clear hK Kq
                try simp only [Act.put, List.setIfInBounds_toArray, List.set_cons_zero, List.set_cons_succ]
                refine wpAnyH_ready (rs := [8]) (by kernel_rfl) (by simp) ?_
                refine AllReadyH.cons (o := _) rfl (fun Kq hK => ?_) AllReadyH.nil
                refine step_app _ rfl _ _ 23 rfl (ob + 1) 76 ib _ 5 40 Tryd.underlying23 hib hzb0 hzb1 hzb2 rfl (by decide) v5 (0 + k) ([] ++ wgs (ws.take k)) rfl hP5.out (gb7 + 1) (some ⟨gb7, 0, none⟩) 1 1 (wgs [x]) rfl (x_reads hN7q.out) (wgs_one _) ?c3 ?c4 ?c5 ?_
                case c3 => unfold maxLen; omega
                case c4 => omega
                case c5 => exact hZydm0m7p5.out
                intro v8 ydm0m7p5p8 hown hgr hat
                have hP8 := Lib.hid hown
                have hG8 := Lib.hid hgr
                have hB8 : Hid (∀ j, v5.ownBlock = some j → ob + 1 ≤ j) := fun j hj => (own_lt hP5.out hj).1
                have hOydm0m7p5p8 : Hid (ydm0m7p5p8.heap[ob]? = some (.cells #[.slice A1 n c1, .slice A2 n' c2] 25 (0, 0))) := (hgr.block _ (by have := hZydm0m7p5.out; omega) (fun e => by have := hB8.out _ e.symm; omega)).trans hOydm0m7p5.out
                have hZydm0m7p5p8 := Lib.hid (Nat.le_trans hZydm0m7p5.out hgr.size)
                clear hgr hown hat
                refine hK.out _ _ ?_ (fun hHeld => ?_)
                · exact HS.out _ (Lib.hid ((HSB.out _ (by assumption)).grown hG8.out (HSZ1.out _ (by assumption)) (fun j hj => Nat.le_trans (by omega) (hB8.out j hj))))
                clear hK Kq
                try simp only [Act.put, List.setIfInBounds_toArray, List.set_cons_zero, List.set_cons_succ]
                refine wpAnyH_ready (rs := [13]) (by kernel_rfl) (by simp) ?_
                refine AllReadyH.cons (o := _) rfl (fun Kq hK => ?_) AllReadyH.nil
                refine step_app _ rfl _ _ 23 rfl (ob + 1) 76 ib _ 5 40 Tryd.underlying23 hib hzb0 hzb1 hzb2 rfl (by decide) v8 (0 + k + 1) ([] ++ wgs (ws.take k) ++ wgs [x]) rfl hP8.out ydm0m7p5p8.heap.size (some ⟨b0, o0 + k * 5, none⟩) (n' - k) _ (wgs (ws.drop k)) rfl (HD.out _ (HSB.out _ (by assumption))) (wgs_one _) ?c3 ?c4 ?c5 ?_
                case c3 => unfold maxLen; omega
                case c4 => omega
                case c5 => exact hZydm0m7p5p8.out
                intro v13 ydm0m7p5p8p13 hown hgr hat
                have hP13 := Lib.hid hown
                have hG13 := Lib.hid hgr
                have hB13 : Hid (∀ j, v8.ownBlock = some j → ob + 1 ≤ j) := fun j hj => (own_lt hP8.out hj).1
                have hOydm0m7p5p8p13 : Hid (ydm0m7p5p8p13.heap[ob]? = some (.cells #[.slice A1 n c1, .slice A2 n' c2] 25 (0, 0))) := (hgr.block _ (by have := hZydm0m7p5p8.out; omega) (fun e => by have := hB13.out _ e.symm; omega)).trans hOydm0m7p5p8.out
                have hZydm0m7p5p8p13 := Lib.hid (Nat.le_trans hZydm0m7p5p8.out hgr.size)
                clear hgr hown hat
                refine hK.out _ _ ?_ (fun hHeld => ?_)
                · exact HS.out _ (Lib.hid ((HSB.out _ (by assumption)).grown hG13.out (HSZ1.out _ (by assumption)) (fun j hj => Nat.le_trans (by omega) (hB13.out j hj))))
                clear hK Kq
                try simp only [Act.put, List.setIfInBounds_toArray, List.set_cons_zero, List.set_cons_succ]
                obtain ⟨A9, c9, hv9⟩ := own_val hP13.out
                have ho9 := hP13.out
                rw [hv9] at ho9
                rw [hv9]
                have e9 : 0 + k + 1 + (n' - k) = n' + 1 := by omega
                rw [e9] at ho9 ⊢
                rw [hins.out] at ho9
                obtain ⟨g0, g1, f0, f1⟩ := two_facts hOydm0m7p5p8p13.out
                refine tkY (v := ?_) 14 51 rfl rfl (by kernel_rfl) (by kernel_rfl) (by kernel_rfl) (fun _ _ _ h => h) (by kernel_rfl) ?_ (by assumption) ?_
                rotate_left
                · intro w hSw; rw [hSd] at hSw; obtain ⟨⟨q0, q1, q2, q3, q4, q5⟩, -⟩ := hSw; go_simp; (try with_reducible rfl)
                try simp only [Act.put, List.setIfInBounds_toArray, List.set_cons_zero, List.set_cons_succ]
                refine wpAnyH_ready (rs := [15]) (by kernel_rfl) (by simp) ?_
                refine AllReadyH.cons (o := _) rfl (fun Kq hK => ?_) AllReadyH.nil
                go_simp
                refine hK.out _ _ ?_ (fun hHeld => ?_)
                · exact HS.out _ (Lib.hid ((HSB.out _ (by assumption)).setCell (by simp) _))
                clear hK Kq
                try simp only [Act.put, List.setIfInBounds_toArray, List.set_cons_zero, List.set_cons_succ]
                have hob9 := set_one1 hOydm0m7p5p8p13.out (.slice A9 (n' + 1) c9)
                have hO9 := Lib.hid (own_far (p := ⟨ob, 1, none⟩) ho9 (by simp) (.slice A9 (n' + 1) c9))
                have hHF := Lib.hid (HSB.out _ hHeld)
                clear g0 g1 f0 f1 ho9
                generalize (ydm0m7p5p8p13.setCell ⟨ob, 1, none⟩ (.slice A9 (n' + 1) c9)) = wf at *
                refine wpAnyH_done (by kernel_rfl) ?_ _
                obtain ⟨p0, p1, -, -⟩ := two_facts hob9
                have HOb := Lib.hid hob9
                clear hob9
                have hPf := HPC.out wf hHF.out
                have HPf := Lib.hid hPf
                have hO1f := Lib.hid (HO1f.out wf hHF.out)
                clear hPf
                go_wp2_with fail
                refine (Press_any A1 A9 n c1 (n' + 1) c9 ps (insW ws k x) wf hnm (by unfold maxLen; omega) (Reads.of_own hO1f.out) (Reads.of_own hO9.out)).mono ?_
                rintro e z5 ⟨rfl, hb5⟩
                have HP5 := Lib.hid (HPf.out.below hb5)
                have hOb5 := keepO hb5 HOb.out
                have hO1' := Lib.hid (own_below hO1f.out hb5)
                have hO2' := Lib.hid (own_below hO9.out hb5)
                clear hb5 p0 p1
                obtain ⟨p0, p1, -, -⟩ := two_facts hOb5
                obtain ⟨g0, g1, f0, f1⟩ := two_facts HP5.out.b1
                have hzz := HZZ.out
                cases hv2 : validP ps (insW ws k x)
                · have hs : Hid (weighS ps ws x = (([], []), 21)) := by show _ = _; rw [HS9.out, hv2]; rfl
                  clear hv2
                  go_wp2
                  obtain ⟨e0, e1⟩ := set_back HP5.out.b1 (.slice none 0 0) (.slice none 0 0)
                  exact bodyPost_ret (v := .tuple #[.agg #[.slice none 0 0, .slice none 0 0], .int .i64 21]) (by simp [results, Tryd.results37, go_sem, e0, e1]) rfl ⟨Res.nil hs.out, below_two HP5.out.bel (by omega) _ _⟩
                · have hs : Hid (weighS ps ws x = ((ps, insW ws k x), 0)) := by show _ = _; rw [HS9.out, hv2]; rfl
                  clear hv2
                  go_wp2
                  obtain ⟨e0, e1⟩ := set_back HP5.out.b1 (.slice A1 n c1) (.slice A9 (n' + 1) c9)
                  refine bodyPost_ret (v := .tuple #[.agg #[.slice A1 n c1, .slice A9 (n' + 1) c9], .int .i64 0]) (by simp [results, Tryd.results37, go_sem, e0, e1]) rfl ⟨?_, below_two HP5.out.bel (by omega) _ _⟩
                  rw [hs.out]
                  exact ⟨_, _, _, _, _, _, rfl, own_mono (own_far (p := ⟨w.heap.size + 2, 1, none⟩) (own_far (p := ⟨w.heap.size + 2, 0, none⟩) hO1'.out (by simp only; omega) _) (by simp only; omega) _) (by omega),
                    own_mono (own_far (p := ⟨w.heap.size + 2, 1, none⟩) (own_far (p := ⟨w.heap.size + 2, 0, none⟩) hO2'.out (by simp only; omega) _) (by simp only; omega) _) (by omega)⟩
              refine AllReadyH.cons (o := _) rfl (fun Kq hK => ?_) AllReadyH.nil
              go_simp
              refine hK.out _ _ ?_ (fun hHeld => ?_)
              · exact HS.out _ (Lib.hid ((HSB.out _ (by assumption)).alloc (HSZ1.out _ (by assumption)) _))
              clear hK Kq
              have hA7 : Hid (Below yd.heap.size yd (yd.alloc (.cells #[.int .i64 x.1, .int .i64 x.2.1, .int .i64 x.2.2.1, .int .i64 x.2.2.2.1, .int .i64 x.2.2.2.2] 76))) := (Below.refl _ _).alloc (Nat.le_refl _) _
              have hN7 := Lib.hid (heap_alloc_new yd (.cells #[.int .i64 x.1, .int .i64 x.2.1, .int .i64 x.2.2.1, .int .i64 x.2.2.2.1, .int .i64 x.2.2.2.2] 76))
              have hOydm7 := Lib.hid (keepO hA7.out hOyd.out)
              have hZydm7 := Lib.hid (Nat.le_trans hZyd.out hA7.out.size)
              have hV7 : Hid (ob + 1 ≤ yd.heap.size) := hZyd
              generalize hgb7 : yd.heap.size = gb7 at hN7 hV7 ⊢
              generalize (yd.alloc (.cells #[.int .i64 x.1, .int .i64 x.2.1, .int .i64 x.2.2.1, .int .i64 x.2.2.2.1, .int .i64 x.2.2.2.2] 76)) = ydm7 at *
              clear hgb7 hA7
              try simp only [Act.put, List.setIfInBounds_toArray, List.set_cons_zero, List.set_cons_succ]
              refine wpAnyH_ready (rs := [0]) (by kernel_rfl) (by simp) ?_
              refine AllReadyH.cons (o := _) rfl (fun Kq hK => ?_) AllReadyH.nil
              go_simp
              refine hK.out _ _ ?_ (fun hHeld => ?_)
              · exact HS.out _ (Lib.hid ((HSB.out _ (by assumption)).alloc (HSZ1.out _ (by assumption)) _))
              clear hK Kq
              have hA0 : Hid (Below ydm7.heap.size ydm7 (ydm7.alloc (.cells #[] 76))) := (Below.refl _ _).alloc (Nat.le_refl _) _
              have hN0 := Lib.hid (own_lit0 ydm7 (ob + 1) hZydm7.out 76 5)
              have hN7' := Lib.hid (keepO hA0.out hN7.out)
              have hD7 : Hid (gb7 < ydm7.heap.size) := (Array.getElem?_eq_some_iff.1 hN7.out).1
              have hOydm7m0 := Lib.hid (keepO hA0.out hOydm7.out)
              have hZydm7m0 := Lib.hid (Nat.le_trans hZydm7.out hA0.out.size)
              have hV0 : Hid (ob + 1 ≤ ydm7.heap.size) := hZydm7
              generalize hgb0 : ydm7.heap.size = gb0 at hN0 hV0 hD7 ⊢
              generalize (ydm7.alloc (.cells #[] 76)) = ydm7m0 at *
              clear hgb0 hA0
              try simp only [Act.put, List.setIfInBounds_toArray, List.set_cons_zero, List.set_cons_succ]
              refine wpAnyH_ready (rs := [5]) (by kernel_rfl) (by simp) ?_
              refine AllReadyH.cons (o := _) rfl (fun Kq hK => ?_) AllReadyH.nil
              refine step_app _ rfl _ _ 23 rfl (ob + 1) 76 ib _ 5 40 Tryd.underlying23 hib hzb0 hzb1 hzb2 rfl (by decide) (.slice (some ⟨gb0, 0, none⟩) 0 0) 0 [] rfl hN0.out ydm7m0.heap.size (some ⟨b0, o0, none⟩) k _ (wgs (ws.take k)) rfl (HT.out _ (HSB.out _ (by assumption))) (wgs_one _) ?c3 ?c4 ?c5 ?_
              case c3 => unfold maxLen; omega
              case c4 => omega
              case c5 => exact hZydm7m0.out
              intro v5 ydm7m0p5 hown hgr hat
              have hP5 := Lib.hid hown
              have hG5 := Lib.hid hgr
              have hB5 : Hid (∀ j, (Value.slice (some ⟨gb0, 0, none⟩) 0 0).ownBlock = some j → ob + 1 ≤ j) := fun j hj => (own_lt hN0.out hj).1
              have hOydm7m0p5 : Hid (ydm7m0p5.heap[ob]? = some (.cells #[.slice A1 n c1, .slice A2 n' c2] 25 (0, 0))) := (hgr.block _ (by have := hZydm7m0.out; omega) (fun e => by have := hB5.out _ e.symm; omega)).trans hOydm7m0.out
              have hZydm7m0p5 := Lib.hid (Nat.le_trans hZydm7m0.out hgr.size)
              have hN7q := Lib.hid ((hgr.block gb7 (Array.getElem?_eq_some_iff.1 hN7'.out).1 (fun e => by have := hD7.out; simp [Value.ownBlock] at e; omega)).trans hN7'.out)
              clear hgr hown hat
              refine hK.out _ _ ?_ (fun hHeld => ?_)
              · exact HS.out _ (Lib.hid ((HSB.out _ (by assumption)).grown hG5.out (HSZ1.out _ (by assumption)) (fun j hj => Nat.le_trans (by omega) (hB5.out j hj))))
              clear hK Kq
              try simp only [Act.put, List.setIfInBounds_toArray, List.set_cons_zero, List.set_cons_succ]
              refine wpAnyH_ready (rs := [8]) (by kernel_rfl) (by simp) ?_
              refine AllReadyH.cons (o := _) rfl (fun Kq hK => ?_) AllReadyH.nil
              refine step_app _ rfl _ _ 23 rfl (ob + 1) 76 ib _ 5 40 Tryd.underlying23 hib hzb0 hzb1 hzb2 rfl (by decide) v5 (0 + k) ([] ++ wgs (ws.take k)) rfl hP5.out (gb7 + 1) (some ⟨gb7, 0, none⟩) 1 1 (wgs [x]) rfl (x_reads hN7q.out) (wgs_one _) ?c3 ?c4 ?c5 ?_
              case c3 => unfold maxLen; omega
              case c4 => omega
              case c5 => exact hZydm7m0p5.out
              intro v8 ydm7m0p5p8 hown hgr hat
              have hP8 := Lib.hid hown
              have hG8 := Lib.hid hgr
              have hB8 : Hid (∀ j, v5.ownBlock = some j → ob + 1 ≤ j) := fun j hj => (own_lt hP5.out hj).1
              have hOydm7m0p5p8 : Hid (ydm7m0p5p8.heap[ob]? = some (.cells #[.slice A1 n c1, .slice A2 n' c2] 25 (0, 0))) := (hgr.block _ (by have := hZydm7m0p5.out; omega) (fun e => by have := hB8.out _ e.symm; omega)).trans hOydm7m0p5.out
              have hZydm7m0p5p8 := Lib.hid (Nat.le_trans hZydm7m0p5.out hgr.size)
              clear hgr hown hat
              refine hK.out _ _ ?_ (fun hHeld => ?_)
              · exact HS.out _ (Lib.hid ((HSB.out _ (by assumption)).grown hG8.out (HSZ1.out _ (by assumption)) (fun j hj => Nat.le_trans (by omega) (hB8.out j hj))))
              clear hK Kq
              try simp only [Act.put, List.setIfInBounds_toArray, List.set_cons_zero, List.set_cons_succ]
              refine wpAnyH_ready (rs := [13]) (by kernel_rfl) (by simp) ?_
              refine AllReadyH.cons (o := _) rfl (fun Kq hK => ?_) AllReadyH.nil
              refine step_app _ rfl _ _ 23 rfl (ob + 1) 76 ib _ 5 40 Tryd.underlying23 hib hzb0 hzb1 hzb2 rfl (by decide) v8 (0 + k + 1) ([] ++ wgs (ws.take k) ++ wgs [x]) rfl hP8.out ydm7m0p5p8.heap.size (some ⟨b0, o0 + k * 5, none⟩) (n' - k) _ (wgs (ws.drop k)) rfl (HD.out _ (HSB.out _ (by assumption))) (wgs_one _) ?c3 ?c4 ?c5 ?_
              case c3 => unfold maxLen; omega
              case c4 => omega
              case c5 => exact hZydm7m0p5p8.out
              intro v13 ydm7m0p5p8p13 hown hgr hat
              have hP13 := Lib.hid hown
              have hG13 := Lib.hid hgr
              have hB13 : Hid (∀ j, v8.ownBlock = some j → ob + 1 ≤ j) := fun j hj => (own_lt hP8.out hj).1
              have hOydm7m0p5p8p13 : Hid (ydm7m0p5p8p13.heap[ob]? = some (.cells #[.slice A1 n c1, .slice A2 n' c2] 25 (0, 0))) := (hgr.block _ (by have := hZydm7m0p5p8.out; omega) (fun e => by have := hB13.out _ e.symm; omega)).trans hOydm7m0p5p8.out
              have hZydm7m0p5p8p13 := Lib.hid (Nat.le_trans hZydm7m0p5p8.out hgr.size)
              clear hgr hown hat
              refine hK.out _ _ ?_ (fun hHeld => ?_)
              · exact HS.out _ (Lib.hid ((HSB.out _ (by assumption)).grown hG13.out (HSZ1.out _ (by assumption)) (fun j hj => Nat.le_trans (by omega) (hB13.out j hj))))
              clear hK Kq
              try simp only [Act.put, List.setIfInBounds_toArray, List.set_cons_zero, List.set_cons_succ]
              obtain ⟨A9, c9, hv9⟩ := own_val hP13.out
              have ho9 := hP13.out
              rw [hv9] at ho9
              rw [hv9]
              have e9 : 0 + k + 1 + (n' - k) = n' + 1 := by omega
              rw [e9] at ho9 ⊢
              rw [hins.out] at ho9
              obtain ⟨g0, g1, f0, f1⟩ := two_facts hOydm7m0p5p8p13.out
              refine tkY (v := ?_) 14 51 rfl rfl (by kernel_rfl) (by kernel_rfl) (by kernel_rfl) (fun _ _ _ h => h) (by kernel_rfl) ?_ (by assumption) ?_
              rotate_left
              · intro w hSw; rw [hSd] at hSw; obtain ⟨⟨q0, q1, q2, q3, q4, q5⟩, -⟩ := hSw; go_simp; (try with_reducible rfl)
              try simp only [Act.put, List.setIfInBounds_toArray, List.set_cons_zero, List.set_cons_succ]
              refine wpAnyH_ready (rs := [15]) (by kernel_rfl) (by simp) ?_
              refine AllReadyH.cons (o := _) rfl (fun Kq hK => ?_) AllReadyH.nil
              go_simp
              refine hK.out _ _ ?_ (fun hHeld => ?_)
              · exact HS.out _ (Lib.hid ((HSB.out _ (by assumption)).setCell (by simp) _))
              clear hK Kq
              try simp only [Act.put, List.setIfInBounds_toArray, List.set_cons_zero, List.set_cons_succ]
              have hob9 := set_one1 hOydm7m0p5p8p13.out (.slice A9 (n' + 1) c9)
              have hO9 := Lib.hid (own_far (p := ⟨ob, 1, none⟩) ho9 (by simp) (.slice A9 (n' + 1) c9))
              have hHF := Lib.hid (HSB.out _ hHeld)
              clear g0 g1 f0 f1 ho9
              generalize (ydm7m0p5p8p13.setCell ⟨ob, 1, none⟩ (.slice A9 (n' + 1) c9)) = wf at *
              refine wpAnyH_done (by kernel_rfl) ?_ _
              obtain ⟨p0, p1, -, -⟩ := two_facts hob9
              have HOb := Lib.hid hob9
              clear hob9
              have hPf := HPC.out wf hHF.out
              have HPf := Lib.hid hPf
              have hO1f := Lib.hid (HO1f.out wf hHF.out)
              clear hPf
              go_wp2_with fail
              refine (Press_any A1 A9 n c1 (n' + 1) c9 ps (insW ws k x) wf hnm (by unfold maxLen; omega) (Reads.of_own hO1f.out) (Reads.of_own hO9.out)).mono ?_
              rintro e z5 ⟨rfl, hb5⟩
              have HP5 := Lib.hid (HPf.out.below hb5)
              have hOb5 := keepO hb5 HOb.out
              have hO1' := Lib.hid (own_below hO1f.out hb5)
              have hO2' := Lib.hid (own_below hO9.out hb5)
              clear hb5 p0 p1
              obtain ⟨p0, p1, -, -⟩ := two_facts hOb5
              obtain ⟨g0, g1, f0, f1⟩ := two_facts HP5.out.b1
              have hzz := HZZ.out
              cases hv2 : validP ps (insW ws k x)
              · have hs : Hid (weighS ps ws x = (([], []), 21)) := by show _ = _; rw [HS9.out, hv2]; rfl
                clear hv2
                go_wp2
                obtain ⟨e0, e1⟩ := set_back HP5.out.b1 (.slice none 0 0) (.slice none 0 0)
                exact bodyPost_ret (v := .tuple #[.agg #[.slice none 0 0, .slice none 0 0], .int .i64 21]) (by simp [results, Tryd.results37, go_sem, e0, e1]) rfl ⟨Res.nil hs.out, below_two HP5.out.bel (by omega) _ _⟩
              · have hs : Hid (weighS ps ws x = ((ps, insW ws k x), 0)) := by show _ = _; rw [HS9.out, hv2]; rfl
                clear hv2
                go_wp2
                obtain ⟨e0, e1⟩ := set_back HP5.out.b1 (.slice A1 n c1) (.slice A9 (n' + 1) c9)
                refine bodyPost_ret (v := .tuple #[.agg #[.slice A1 n c1, .slice A9 (n' + 1) c9], .int .i64 0]) (by simp [results, Tryd.results37, go_sem, e0, e1]) rfl ⟨?_, below_two HP5.out.bel (by omega) _ _⟩
                rw [hs.out]
                exact ⟨_, _, _, _, _, _, rfl, own_mono (own_far (p := ⟨w.heap.size + 2, 1, none⟩) (own_far (p := ⟨w.heap.size + 2, 0, none⟩) hO1'.out (by simp only; omega) _) (by simp only; omega) _) (by omega),
                  own_mono (own_far (p := ⟨w.heap.size + 2, 1, none⟩) (own_far (p := ⟨w.heap.size + 2, 0, none⟩) hO2'.out (by simp only; omega) _) (by simp only; omega) _) (by omega)⟩
end Go.Proofs.YtoakeclpakjbiaaDoor
