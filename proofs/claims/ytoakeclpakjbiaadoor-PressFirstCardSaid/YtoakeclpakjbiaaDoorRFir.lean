/-
  The walk of the first truth: the reference's.
-/
import Derived.Test.YtoakeclpakjbiaaDoorFir
namespace Go.Proofs.YtoakeclpakjbiaaDoor
open Go.RowKit
set_option linter.unusedVariables false
set_option linter.unusedSimpArgs false

/-- The state while the reference lays the first truth. -/
structure FR (w : World) (A A' : Option Addr) (n c n' c' nb : Nat) (R : Nat → Nat → Sp) (vL : Value) (m : Nat) (xs : List Value) (z : World) : Prop where
  b0 : z.heap[w.heap.size]? = some (.cells #[.slice A n c, .slice A' n' c'] 25 (0, 0))
  nt : ∃ R' : Nat → Nat → Sp, NB z nb R' ∧ (∀ i, i < n → ∀ k, 1 ≤ k → k ≤ 6 → R' i k = R i k) ∧ (∀ i, i < n → ∀ q, q < 7 → Bd 10000000 (R' i q))
  own : z.ownsRow (nb + 1) 101 8 vL m xs
  bel : Below w.heap.size w z
  l1 : w.heap.size < nb
section
variable {w z y : World} {A A' : Option Addr} {n c n' c' nb : Nat} {R : Nat → Nat → Sp} {vL : Value} {m : Nat} {xs : List Value}
theorem FR.below (h : FR w A A' n c n' c' nb R vL m xs z) (hb : Below z.heap.size z y) : FR w A A' n c n' c' nb R vL m xs y := by
  obtain ⟨R', h1, h2, h3⟩ := h.nt
  exact ⟨keepO hb h.b0, ⟨R', h1.below hb, h2, h3⟩, ownR_below h.own hb, below_via h.bel h.bel.size hb, h.l1⟩
theorem FR.setW (h : FR w A A' n c n' c' nb R vL m xs z) {b : Nat} (hb : nb < b) (hL : ∀ q, vL.ownBlock = some q → q ≠ b) (j : Nat) (v : Value) : FR w A A' n c n' c' nb R vL m xs (z.setCell ⟨b, j, none⟩ v) := by
  obtain ⟨R', h1, h2, h3⟩ := h.nt
  have hl := h.l1
  have hy : ∀ q : Nat, q ≠ b → (z.setCell ⟨b, j, none⟩ v).heap[q]? = z.heap[q]? := fun q hq => Below.heap_setCell _ _ _ _ hq
  exact ⟨(hy _ (by omega)).trans h.b0, ⟨R', (hy nb (by omega)).trans h1, h2, h3⟩, ownR_block h.own (fun q hq => hy q (hL q hq)), h.bel.setCell (by simp only; omega) _, h.l1⟩
theorem FR.grew {vL' : Value} {m' : Nat} {xs' : List Value} (h : FR w A A' n c n' c' nb R vL m xs z) (hg : z.grownBy y vL.ownBlock) (ho : y.ownsRow (nb + 1) 101 8 vL' m' xs') : FR w A A' n c n' c' nb R vL' m' xs' y := by
  obtain ⟨R', h1, h2, h3⟩ := h.nt
  have hl := h.l1
  exact ⟨(hg.block _ (Array.getElem?_eq_some_iff.1 h.b0).1 (fun e => by have := (ownR_lt h.own e.symm).1; omega)).trans h.b0,
    ⟨R', (hg.block nb (Array.getElem?_eq_some_iff.1 h1).1 (fun e => by have := (ownR_lt h.own e.symm).1; omega)).trans h1, h2, h3⟩, ho, h.bel.grown hg h.bel.size (fun q hq => by have := (ownR_lt h.own hq).1; omega), hl⟩
/-- All notes are stored anew. -/
theorem FR.notes {R2 : Nat → Nat → Sp} {R' : Nat → Nat → Sp} (h : FR w A A' n c n' c' nb R vL m xs z) (h2 : ∀ i, i < n → ∀ k, 1 ≤ k → k ≤ 6 → R' i k = R2 i k) (h3 : ∀ i, i < n → ∀ q, q < 7 → Bd 10000000 (R' i q)) : FR w A A' n c n' c' nb R2 vL m xs (z.setRow nb (NV R')) := by
  obtain ⟨R0, h1, -, -⟩ := h.nt
  have hl := h.l1
  have hy : ∀ q : Nat, q ≠ nb → (z.setRow nb (NV R')).heap[q]? = z.heap[q]? := fun q hq => setRow_other z nb q _ hq
  exact ⟨(hy _ (by omega)).trans h.b0, ⟨R', NB_setRow h1 R', h2, h3⟩, ownR_block h.own (fun q hq => hy q (by have := (ownR_lt h.own hq).1; omega)), below_setRow h.bel (by omega) _, hl⟩
end
theorem lay_agree {n : Nat} {t : Nat → Option Nat} {R R' : Nat → Nat → Sp} {i k : Nat} (hF : Fwd n t) (h : FSt n t R) (hi : i < n) (h1 : 1 ≤ k) (h6 : k ≤ 6) (hag : ∀ i, i < n → ∀ k, 1 ≤ k → k ≤ 6 → R' i k = R i k) {v : Int} (hv : v = (spanP t R n i k).1) :
    ∀ a, a < n → ∀ b, 1 ≤ b → b ≤ 6 → putR R' i k (max v (R' i k).1, min v (R' i k).2) a b = lay n t R i k a b := by
  intro a ha b hb1 hb6
  have hs : (R i k).1 ≤ (spanP t R n i k).1 ∧ (spanP t R n i k).2 ≤ (R i k).2 := span_sub
  have hin := span_in hF h.hH (fun a _ b => by have := h.hI a b; omega : InR n R 1000000) hi h1 h6
  unfold putR lay
  rw [hag i hi k h1 h6, ← hv]
  by_cases hh : a = i ∧ b = k
  · rw [if_pos hh, if_pos hh]
    have e1 : max v (R i k).1 = v := by omega
    have e2 : min v (R i k).2 = v := by omega
    rw [e1, e2]
  · rw [if_neg hh, if_neg hh]; exact hag a ha b hb1 hb6

set_option maxRecDepth 100000 in
set_option maxHeartbeats 8000000 in
theorem rFirst_any (A A' : Option Addr) (n c n' c' : Nat) (ps : List PR) (ws : List WE) (w : World) (hnm : n ≤ maxLen) (hnm' : n' ≤ maxLen) (hR : Reads w w.heap.size 4 A n (pgs ps)) (hW : Reads w w.heap.size 5 A' n' (wgs ws)) :
    Calls Tryd.prog 12 #[.agg #[.slice A n c, .slice A' n' c']] w fun e w' => FirR w.heap.size (firS ps ws) (firE ps ws) e w' ∧ Below w.heap.size w w' := by
  have hl : ps.length = n := hR.pg_len
  have HRd := Lib.hid (fun z (hz : Below w.heap.size w z) => (hR.below hz).more hz.size)
  have HWd := Lib.hid (fun z (hz : Below w.heap.size w z) => (hW.below hz).more hz.size)
  have hO0 := Lib.hid (heap_alloc_new w (.cells #[.slice A n c, .slice A' n' c'] 25))
  have hB0 : Hid (Below w.heap.size w (w.alloc (.cells #[.slice A n c, .slice A' n' c'] 25))) := (Below.refl _ _).alloc (Nat.le_refl _) _
  obtain ⟨iw, hiw, hw0, hw1, hw2⟩ := info_parts info_wd
  have hfd : ∀ (x y : Int) (w : World), (Instr.field 44 (.agg #[.int .i64 x, .int .i64 y]) 0).run Tryd.prog w = .ok (.int .i64 x) w := fun _ _ _ => by kernel_rfl
  clear hR hW
  go_enter Tryd.func12, Tryd.ntmps12
  go_wp2_with fail
  refine (Press_any A A' n c n' c' ps ws _ hnm hnm' (HRd.out _ hB0.out) (HWd.out _ hB0.out)).mono ?_
  rintro e z1 ⟨rfl, hb1⟩
  have hO1 := Lib.hid (keepO hb1 hO0.out)
  have hB1 := Lib.hid (below_via hB0.out hB0.out.size hb1)
  clear hb1
  cases hv : validP ps ws
  · have hs : Hid (firS ps ws = [] ∧ firE ps ws = 20) := by show _ ∧ _; unfold firS firE; rw [hv]; exact ⟨rfl, rfl⟩
    clear hv hl
    go_wp2
    exact bodyPost_ret (v := .tuple #[.slice none 0 0, .int .i64 20]) (by simp [results, Tryd.results12, go_sem]) rfl ⟨FirR.nil hs.out.1 hs.out.2, hB1.out⟩
  · have hVF := valid_facts hv
    have hn : n ≤ 10 := by have := hVF.n10; omega
    have hFw := hVF.fwd
    rw [hl] at hFw
    have hvh := Lib.hid hv
    have hFh := Lib.hid hFw
    have hVh := Lib.hid hVF
    obtain ⟨p0, p1, -, -⟩ := two_facts hO1.out
    clear hFw hVF hv
    go_wp2_with fail
    refine (RTrue_any A A' n c n' c' ps ws z1 (HRd.out _ hB1.out) (HWd.out _ hB1.out) hvh.out).mono ?_
    rintro e z2 ⟨rfl, hb2⟩
    have hO2 := Lib.hid (keepO hb2 hO1.out)
    have hB2 := Lib.hid (below_via hB1.out hB1.out.size hb2)
    clear hb2 p0 p1
    cases ht : hasT ps ws
    · have hs : Hid (firS ps ws = [] ∧ firE ps ws = 8) := by show _ ∧ _; unfold firS firE; rw [hvh.out, ht]; exact ⟨rfl, rfl⟩
      clear ht hl
      go_wp2
      exact bodyPost_ret (v := .tuple #[.slice none 0 0, .int .i64 8]) (by simp [results, Tryd.results12, go_sem]) rfl ⟨FirR.nil hs.out.1 hs.out.2, hB2.out⟩
    · have hs : Hid (firS ps ws = firL ps ws n ∧ firE ps ws = 0) := by show _ ∧ _; unfold firS firE; rw [hvh.out, ht, hl]; exact ⟨rfl, rfl⟩
      have hF0 : Hid (FSt n (toT ps) (rowsT ps ws)) := by
        show FSt _ _ _
        have h2 := has_Holds hVh.out ht
        rw [← hl]
        exact FSt.start hVh.out h2
      have hag0 := notes_rows ps ws
      rw [hl] at hag0
      have hlh := Lib.hid hl
      obtain ⟨p0, p1, -, -⟩ := two_facts hO2.out
      clear ht hl
      go_wp2_with fail
      refine (noted_any A A' n c n' c' ps ws z2 (HRd.out _ hB2.out) (HWd.out _ hB2.out) hvh.out).mono ?_
      rintro e z3 ⟨rfl, hb3⟩
      have hO3 := keepO hb3 hO2.out
      have hB3 := below_via hB2.out hB2.out.size hb3
      clear hb3 p0 p1
      have hwn : w.heap.size < z3.heap.size := (Array.getElem?_eq_some_iff.1 hO3).1
      have hI0 : Hid (FR w A A' n c n' c' z3.heap.size (layI n (toT ps) (rowsT ps ws) 0) (.slice none 0 0) 0 (wds (firL ps ws 0)) (z3.alloc (.cells (NV (notesR ps ws)) 110))) := by
        have hb : Below z3.heap.size z3 (z3.alloc (.cells (NV (notesR ps ws)) 110)) := (Below.refl _ _).alloc (Nat.le_refl _) _
        exact ⟨keepO hb hO3, ⟨_, heap_alloc_new z3 _, hag0, fun i _ q _ => notesR_bd hVh.out i q⟩, World.ownsRow_nil _ _ _ _, below_via hB3 hB3.size hb, hwn⟩
      have hZC := heap_alloc_new z3 (.cells Tryd.zeroCells110 110)
      clear hO3 hB3 hag0
      go_wp2_with (refine wpList_store_row rfl 110 _ _ rfl z3.heap.size (NV (notesR ps ws)) rfl rfl _ _ hZC (by rw [NV_size]; kernel_rfl) (by rw [NV_size]; exact zc_size) (NV_ones _) ?_)
      rw [World.setRow_alloc_new]
      generalize (z3.alloc (.cells (NV (notesR ps ws)) 110)) = wa at *
      generalize z3.heap.size = nb at *
      clear hZC
      go_loopw [5, 6] (fun v u wq => ∃ wl, wl = wq ∧ ∃ i : Nat, i ≤ n ∧ u = .int .i64 i ∧ Hid (FR w A A' n c n' c' nb (layI n (toT ps) (rowsT ps ws) i) v i (wds (firL ps ws i)) wl)) (fun _ u _ => n - (intOf u).toNat)
      case atStart => exact ⟨_, rfl, 0, by omega, rfl, hI0⟩
      case round =>
        clear hI0
        obtain ⟨wq, rfl, i, hin', rfl, hIr⟩ := hrel
        obtain ⟨AL, cL, rfl⟩ := ownR_val hIr.out.own
        obtain ⟨p0, -, -, -⟩ := two_facts hIr.out.b0
        by_cases hin : i < n
        · have hii : (i : Int) < (n : Int) := by omega
          have ii0 : (0 : Int) ≤ (i : Int) := by omega
          obtain ⟨bp, op, I, D, P, T, rfl, hbp, hx, x0, -, -, -⟩ := (HRd.out _ hIr.out.bel).pg hin
          have hid_ : Hid (idO ps i = I) := by show _ = _; unfold idO; rw [hx]
          obtain ⟨zb, hzb⟩ : ∃ zb, zb = wq.alloc (.cells #[.int .i64 I, .int .i64 0, .int .i64 0, .int .i64 0, .int .i64 0, .int .i64 0, .int .i64 0, .int .i64 0] 101) := ⟨_, rfl⟩
          have hbb : Below wq.heap.size wq zb := by rw [hzb]; exact (Below.refl _ _).alloc (Nat.le_refl _) _
          have hWB : zb.heap[wq.heap.size]? = some (.cells #[.int .i64 I, .int .i64 0, .int .i64 0, .int .i64 0, .int .i64 0, .int .i64 0, .int .i64 0, .int .i64 0] 101 (0, 0)) := by rw [hzb]; exact heap_alloc_new _ _
          have hIb := Lib.hid (hIr.out.below hbb)
          clear hbb hx
          go_wp2_with fail
          clear x0 p0
          rw [← hzb]
          have hW0 : Hid (zb.heap[wq.heap.size]? = some (.cells #[.int .i64 (wF n (toT ps) (rowsT ps ws) (idO ps i) i 0 0), .int .i64 (wF n (toT ps) (rowsT ps ws) (idO ps i) i 0 1), .int .i64 (wF n (toT ps) (rowsT ps ws) (idO ps i) i 0 2), .int .i64 (wF n (toT ps) (rowsT ps ws) (idO ps i) i 0 3), .int .i64 (wF n (toT ps) (rowsT ps ws) (idO ps i) i 0 4), .int .i64 (wF n (toT ps) (rowsT ps ws) (idO ps i) i 0 5), .int .i64 (wF n (toT ps) (rowsT ps ws) (idO ps i) i 0 6), .int .i64 (wF n (toT ps) (rowsT ps ws) (idO ps i) i 0 7)] 101 (0, 0))) := by show _ = _; rw [hWB]; simp [wF, hid_.out]
          have hLw : Hid (∀ q, Value.ownBlock (.slice AL i cL) = some q → q ≠ wq.heap.size) := fun q hq => by have := (ownR_lt hIr.out.own hq).2; omega
          have hww : nb < wq.heap.size := by obtain ⟨R', h1, -⟩ := hIr.out.nt; exact (Array.getElem?_eq_some_iff.1 h1).1
          clear hzb hWB hIr
          generalize wq.heap.size = wb at *
          go_loopw [8] (fun v wq => ∃ wl, wl = wq ∧ ∃ k : Nat, k ≤ 6 ∧ v = .int .i64 ((k : Int) + 1) ∧ Hid (FR w (some ⟨bp, op, none⟩) A' n c n' c' nb (layK n (toT ps) (layI n (toT ps) (rowsT ps ws) i) i k) (.slice AL i cL) i (wds (firL ps ws i)) wl) ∧ Hid (wl.heap[wb]? = some (.cells #[.int .i64 (wF n (toT ps) (rowsT ps ws) (idO ps i) i k 0), .int .i64 (wF n (toT ps) (rowsT ps ws) (idO ps i) i k 1), .int .i64 (wF n (toT ps) (rowsT ps ws) (idO ps i) i k 2), .int .i64 (wF n (toT ps) (rowsT ps ws) (idO ps i) i k 3), .int .i64 (wF n (toT ps) (rowsT ps ws) (idO ps i) i k 4), .int .i64 (wF n (toT ps) (rowsT ps ws) (idO ps i) i k 5), .int .i64 (wF n (toT ps) (rowsT ps ws) (idO ps i) i k 6), .int .i64 (wF n (toT ps) (rowsT ps ws) (idO ps i) i k 7)] 101 (0, 0)))) (fun v _ => 7 - (intOf v).toNat)
          case atStart => exact ⟨_, rfl, 0, by omega, by simp, hIb, hW0⟩
          case round =>
            clear hIb hW0
            obtain ⟨wq, rfl, k, hk6, rfl, hIk, hWk⟩ := hrel
            by_cases hk5 : k < 6
            · have hki : ((k : Int) + 1) ≤ 6 := by omega
              have k0 : (0 : Int) ≤ (k : Int) + 1 := by omega
              have k7 : ((k : Int) + 1) < 7 := by omega
              have kw : IntKind.i64.wrap ((k : Int) + 1 + 1) = ((k + 1 : Nat) : Int) + 1 := by rw [IntWalk.i64_in _ (by omega)]; omega
              have ekk : ((k : Int) + 1) = ((k + 1 : Nat) : Int) := by omega
              rw [ekk] at hki k0 k7 kw ⊢
              obtain ⟨R', hNB, hag, hRb⟩ := hIk.out.nt
              have hFS := (hF0.out.layI hFh.out i (by omega)).layK hFh.out hin k (by omega)
              have hFS2 := hFS.lay hFh.out hin (i := i) (k := k + 1) (by omega) (by omega)
              have hIn : InR n (layK n (toT ps) (layI n (toT ps) (rowsT ps ws) i) i k) 1000000 := fun a _ b => by have := hFS.hI a b; omega
              have hsi := span_in hFh.out hFS.hH hIn hin (show 1 ≤ k + 1 by omega) (show k + 1 ≤ 6 by omega)
              obtain ⟨v, hv_⟩ : ∃ v, v = valF n (toT ps) (rowsT ps ws) i k := ⟨_, rfl⟩
              have hv2 : (spanP (toT ps) (layK n (toT ps) (layI n (toT ps) (rowsT ps ws) i) i k) n i (k + 1)).1 = v := hv_.symm
              obtain ⟨H, hH_⟩ : ∃ H, H = (spanP (toT ps) (layK n (toT ps) (layI n (toT ps) (rowsT ps ws) i) i k) n i (k + 1)).2 := ⟨_, rfl⟩
              have hLo := fun (mid : Int) (_ : 0 ≤ mid) (_ : mid < 1000000) => lo_law hFh.out hFS.hH hIn hag (i := i) (k := k + 1) hin (by omega) (by omega) mid (0, 10000000) (0, 10000000)
              have hHi := fun (mid : Int) (_ : 0 < mid) (_ : mid ≤ 1000000) => hi_law hFh.out hFS.hH hIn hag (i := i) (k := k + 1) hin (by omega) (by omega) mid (0, 10000000) (0, 10000000)
              rw [hv2] at hLo hsi
              rw [← hH_] at hHi hsi
              have HSp := Lib.hid (rspan_any (some ⟨bp, op, none⟩) A' n c n' c' ps ws R' i (k + 1) v H wq (HRd.out _ hIk.out.bel) hvh.out hRb hin (by omega) (by omega) (by omega) (by omega) (by omega) hLo hHi)
              have hag2 := Lib.hid (lay_agree hFh.out hFS hin (show 1 ≤ k + 1 by omega) (show k + 1 ≤ 6 by omega) hag hv2.symm)
              have hbd2 := Lib.hid (put_bd (i := i) (k := k + 1) (lo := v) (hi := v) hRb (by omega) (by omega) (by omega) (by omega))
              have hN1 := Lib.hid hNB
              obtain ⟨p0, p1, -, -⟩ := two_facts hIk.out.b0
              have hvh_ := Lib.hid hv_
              clear hLo hHi hsi hIn hFS hFS2 hag hRb hNB hH_ hv2 hv_ ekk
              go_wp2_with (first | refine wpList_load_row rfl 110 _ rfl nb rfl _ _ (0, 0) _ hN1.out Tryd.underlying110 rfl (by rw [NV_size]; kernel_rfl) ?_)
              refine HSp.out.mono ?_
              rintro e z2 ⟨rfl, hb2⟩
              have hI2 := hIk.out.below hb2
              have hW2 := keepO hb2 hWk.out
              have hN2 := Lib.hid (hN1.out.below hb2)
              clear hb2 hIk hWk HSp hN1 p0 p1
              go_wp2_with (first | refine wpList_load_row rfl 110 _ rfl nb rfl _ _ (0, 0) _ hN2.out Tryd.underlying110 rfl (by rw [NV_size]; kernel_rfl) ?_)
              refine (with_any R' i (k + 1) v v (by omega) (by omega) z2).mono ?_
              rintro e z3 ⟨rfl, hb3⟩
              have hI3 := hI2.below hb3
              have hW3 := keepO hb3 hW2
              have hN3 := Lib.hid (hN2.out.below hb3)
              clear hb3 hI2 hW2 hN2
              have hI4 := hI3.notes (R2 := (layK n (toT ps) (layI n (toT ps) (rowsT ps ws) i) i (k + 1))) hag2.out hbd2.out
              have hW4 : (z3.setRow nb (NV (putR R' i (k + 1) (max v (R' i (k + 1)).1, min v (R' i (k + 1)).2)))).heap[wb]? = _ := (setRow_other z3 nb wb _ (by omega)).trans hW3
              obtain ⟨z4, hz4⟩ : ∃ z4, z4 = z3.setRow nb (NV (putR R' i (k + 1) (max v (R' i (k + 1)).1, min v (R' i (k + 1)).2))) := ⟨_, rfl⟩
              rw [← hz4] at hI4 hW4
              obtain ⟨hW5, ⟨u0, c0⟩, f0⟩ := wd_step (j := 1 + (k + 1)) (by omega) v hW4
              have hI5 := Lib.hid (hI4.setW hww hLw.out (1 + (k + 1)) (.int .i64 v))
              have hW6 : Hid ((z4.setCell ⟨wb, 1 + (k + 1), none⟩ (.int .i64 v)).heap[wb]? = some (.cells #[.int .i64 (wF n (toT ps) (rowsT ps ws) (idO ps i) i (k + 1) 0), .int .i64 (wF n (toT ps) (rowsT ps ws) (idO ps i) i (k + 1) 1), .int .i64 (wF n (toT ps) (rowsT ps ws) (idO ps i) i (k + 1) 2), .int .i64 (wF n (toT ps) (rowsT ps ws) (idO ps i) i (k + 1) 3), .int .i64 (wF n (toT ps) (rowsT ps ws) (idO ps i) i (k + 1) 4), .int .i64 (wF n (toT ps) (rowsT ps ws) (idO ps i) i (k + 1) 5), .int .i64 (wF n (toT ps) (rowsT ps ws) (idO ps i) i (k + 1) 6), .int .i64 (wF n (toT ps) (rowsT ps ws) (idO ps i) i (k + 1) 7)] 101 (0, 0))) := by show _ = _; rw [hW5, hvh_.out, wF_step]
              rw [hz4] at c0 f0
              have hz4h := Lib.hid hz4
              clear hI3 hW3 hI4 hW4 hW5 hag2 hbd2 hz4
              go_wp2_with (first | refine wpList_store_row rfl 110 _ _ rfl nb (NV (putR R' i (k + 1) (max v (R' i (k + 1)).1, min v (R' i (k + 1)).2))) rfl rfl _ _ hN3.out (by rw [NV_size]; kernel_rfl) (by rw [NV_size, NV_size]) (NV_ones _) ?_)
              rw [← hz4h.out]
              go_roundw
              case rel => exact ⟨_, rfl, k + 1, by omega, by go_num, hI5, hW6⟩
              case measure => simp [intOf] <;> omega
            · obtain rfl : k = 6 := by omega
              rw [show ((6 : Nat) : Int) + 1 = 7 from rfl]
              obtain ⟨q0, q1, q2, q3, q4, q5, q6, q7⟩ := facts8 hWk.out
              have hL := heap_alloc_new wq (.cells #[.int .i64 ((wF n (toT ps) (rowsT ps ws) (idO ps i) i 6) 0), .int .i64 ((wF n (toT ps) (rowsT ps ws) (idO ps i) i 6) 1), .int .i64 ((wF n (toT ps) (rowsT ps ws) (idO ps i) i 6) 2), .int .i64 ((wF n (toT ps) (rowsT ps ws) (idO ps i) i 6) 3), .int .i64 ((wF n (toT ps) (rowsT ps ws) (idO ps i) i 6) 4), .int .i64 ((wF n (toT ps) (rowsT ps ws) (idO ps i) i 6) 5), .int .i64 ((wF n (toT ps) (rowsT ps ws) (idO ps i) i 6) 6), .int .i64 ((wF n (toT ps) (rowsT ps ws) (idO ps i) i 6) 7)] 101)
              have hbA := (Below.refl wq.heap.size wq).alloc (Nat.le_refl _) (.cells #[.int .i64 ((wF n (toT ps) (rowsT ps ws) (idO ps i) i 6) 0), .int .i64 ((wF n (toT ps) (rowsT ps ws) (idO ps i) i 6) 1), .int .i64 ((wF n (toT ps) (rowsT ps ws) (idO ps i) i 6) 2), .int .i64 ((wF n (toT ps) (rowsT ps ws) (idO ps i) i 6) 3), .int .i64 ((wF n (toT ps) (rowsT ps ws) (idO ps i) i 6) 4), .int .i64 ((wF n (toT ps) (rowsT ps ws) (idO ps i) i 6) 5), .int .i64 ((wF n (toT ps) (rowsT ps ws) (idO ps i) i 6) 6), .int .i64 ((wF n (toT ps) (rowsT ps ws) (idO ps i) i 6) 7)] 101)
              have hI3 := Lib.hid (hIk.out.below hbA)
              have HL := Lib.hid (rd_wd hL)
              have hns : nb < wq.heap.size := by obtain ⟨R', h1, -⟩ := hIk.out.nt; exact (Array.getElem?_eq_some_iff.1 h1).1
              clear hIk hWk hL hbA
              go_wp2_with (first
                | (at_builtin; refine wpList_app _ rfl _ _ 26 rfl (nb + 1) 101 iw _ 8 64 Tryd.underlying26 hiw hw0 hw1 hw2 rfl (by decide) (.slice AL i cL) i (wds (firL ps ws i)) rfl hI3.out.own _ (some ⟨wq.heap.size, 0, none⟩) 1 1 (wdc (wF n (toT ps) (rowsT ps ws) (idO ps i) i 6)) rfl HL.out (wdc_one _) ?c3 ?c4 ?c5 ?_))
              case c3 => unfold maxLen; omega
              case c4 => omega
              case c5 => first | omega | (simp <;> omega)
              intro v' z4 hown hgr hatv
              have hxs : z4.ownsRow (nb + 1) 101 8 v' (i + 1) (wds (firL ps ws (i + 1))) := by
                rw [firL_succ, wds_snoc, hlh.out]
                exact hown
              have hI4 := Lib.hid (hI3.out.grew hgr hxs)
              clear hown hgr hatv hxs HL hI3 q0 q1 q2 q3 q4 q5 q6 q7
              obtain ⟨A4, c4, rfl⟩ := ownR_val hI4.out.own
              go_wp2
              go_roundw
              case rel => exact ⟨_, rfl, i + 1, by omega, by go_num, hI4⟩
              case measure => simp [intOf] <;> omega
        · obtain rfl : i = n := by omega
          have hnn : ¬ ((i : Int) < (i : Int)) := by omega
          go_wp2
          exact bodyPost_ret (v := .tuple #[.slice AL i cL, .int .i64 0]) (by simp [results, Tryd.results12, go_sem]) rfl ⟨⟨AL, i, cL, by rw [hs.out.2], by rw [hs.out.1]; exact Go.Joins.ownsRow_le hIr.out.own (by have := hIr.out.l1; omega)⟩, hIr.out.bel⟩
end Go.Proofs.YtoakeclpakjbiaaDoor
