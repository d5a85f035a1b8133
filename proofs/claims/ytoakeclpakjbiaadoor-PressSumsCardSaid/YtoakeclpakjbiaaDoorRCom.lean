/-
  The walk of what can go into a pressing, by the reference.
-/
import Derived.Test.YtoakeclpakjbiaaDoorRNts
namespace Go.Proofs.YtoakeclpakjbiaaDoor
open Go.RowKit
set_option linter.unusedVariables false
set_option linter.unusedSimpArgs false
/-- Ten spans, as one value. -/
def PV (U : Nat → Sp) : Array Value := (sps U 10).toArray
theorem PV_size (U : Nat → Sp) : (PV U).size = 20 := by unfold PV; rw [List.size_toArray, sps_len]
theorem PV_get (U : Nat → Sp) {k t : Nat} (hk : k < 10) (ht : t < 2) : (PV U)[k * 2 + t]? = some (.int .i64 (spAt (U k) t)) := by
  obtain ⟨a, b⟩ := sps_get (U := U) hk
  rcases (by omega : t = 0 ∨ t = 1) with rfl | rfl
  · simpa [PV, spAt] using a
  · simpa [PV, spAt] using b
/-- Spans lie in a block. -/
def PB_ (w : World) (b : Nat) (U : Nat → Sp) : Prop := w.heap[b]? = some (.cells (PV U) 161 (0, 0))
section
variable {w z : World} {b : Nat} {U : Nat → Sp}
theorem PB_.at_ (h : PB_ w b U) {k : Nat} (hk : k < 10) : w.cell? ⟨b, k * 2, none⟩ = some (.int .i64 (U k).1) ∧ w.cell? ⟨b, k * 2 + 1, none⟩ = some (.int .i64 (U k).2) ∧
    w.frozen? ⟨b, k * 2, none⟩ = false ∧ w.frozen? ⟨b, k * 2 + 1, none⟩ = false := by
  refine ⟨?_, ?_, ?_, ?_⟩
  · rw [cell_of_row _ _ _ _ _ _ h]; exact PV_get U hk (t := 0) (by omega)
  · rw [cell_of_row _ _ _ _ _ _ h]; exact PV_get U hk (t := 1) (by omega)
  · simp [World.frozen?, show w.heap[b]? = _ from h]
  · simp [World.frozen?, show w.heap[b]? = _ from h]
theorem PB_.below (h : PB_ w b U) (hb : Below w.heap.size w z) : PB_ z b U := keepO hb h
theorem sps_put (U : Nat → Sp) {n i : Nat} (hi : i < n) (s : Sp) : ((sps U n).set (i * 2) (.int .i64 s.1)).set (i * 2 + 1) (.int .i64 s.2) = sps (fun a => if a = i then s else U a) n := by
  refine List.ext_getElem? fun j => ?_
  rcases Nat.lt_or_ge j (n * 2) with hj | hj
  · have e1 : j = j / 2 * 2 + j % 2 := by omega
    have h1 : j / 2 < n := by omega
    have h2 : j % 2 < 2 := by omega
    generalize j / 2 = a at *
    generalize j % 2 = d at *
    subst e1
    obtain ⟨p, q⟩ := sps_get (U := U) h1
    obtain ⟨p', q'⟩ := sps_get (U := fun a => if a = i then s else U a) h1
    have hL := sps_len U n
    rw [List.getElem?_set, List.getElem?_set]
    rcases (by omega : d = 0 ∨ d = 1) with rfl | rfl
    · rw [if_neg (by omega)]
      rw [show a * 2 + 0 = a * 2 from rfl, p']
      by_cases h : a = i
      · subst h; rw [if_pos rfl, if_pos (by omega)]; simp
      · rw [if_neg (by omega), p]; simp [h]
    · rw [q']
      by_cases h : a = i
      · subst h; rw [if_pos rfl, if_pos (by simp only [List.length_set]; omega)]; simp
      · rw [if_neg (by omega), if_neg (by omega), q]; simp [h]
  · rw [List.getElem?_eq_none (by simp [sps_len]; omega), List.getElem?_eq_none (by simp [sps_len]; omega)]
theorem PB_.put (h : PB_ w b U) {i : Nat} (hi : i < 10) (s : Sp) : PB_ ((w.setCell ⟨b, i * 2, none⟩ (.int .i64 s.1)).setCell ⟨b, i * 2 + 1, none⟩ (.int .i64 s.2)) b (fun a => if a = i then s else U a) := by
  have e : PV (fun a => if a = i then s else U a) = ((PV U).setIfInBounds (i * 2) (.int .i64 s.1)).setIfInBounds (i * 2 + 1) (.int .i64 s.2) := by
    apply Array.toList_inj.1
    rw [Array.toList_setIfInBounds, Array.toList_setIfInBounds]
    simp only [PV]
    exact (sps_put U hi s).symm
  unfold PB_
  rw [e]
  simp [World.setCell, Array.getElem?_modify, show w.heap[b]? = _ from h]
end
theorem to_is {ps : List PR} {ws : List WE} (h : ValidF ps ws) {i k : Nat} {x y : PR} (hi : ps[i]? = some x) (hk : ps[k]? = some y) : toT ps k = some i ↔ y.2.2.2 = x.1 := by
  have h1 := h.to_ k y hk
  have hx := (h.id1 i x hi).1
  have hidx := id_idx h hi y.2.2.2
  unfold toT
  rw [hk]
  by_cases h0 : y.2.2.2 = 0
  · simp only [h0, if_true]
    constructor
    · intro e; cases e
    · intro e; omega
  · simp only [h0, if_false]
    have : (k : Int) < idxP ps y.2.2.2 := h1.resolve_left h0
    constructor
    · intro e
      exact hidx.1 (by have := Option.some.inj e; omega)
    · intro e
      rw [hidx.2 e]; simp
/-- The state while it is gathered what comes. -/
structure CM (w : World) (A A' : Option Addr) (n c n' c' : Nat) (R : Nat → Nat → Sp) (U : Nat → Sp) (s : Sp) (z : World) : Prop where
  b0 : z.heap[w.heap.size]? = some (.cells #[.slice A n c, .slice A' n' c'] 25 (0, 0))
  b2 : PB_ z (w.heap.size + 2) U
  b3 : z.heap[w.heap.size + 3]? = some (.cells #[.int .i64 0, .int .i64 0] 44 (0, 0))
  b4 : z.heap[w.heap.size + 4]? = some (.cells #[.int .i64 s.1, .int .i64 s.2] 44 (0, 0))
  bel : Below w.heap.size w z
section
variable {w z y : World} {A A' : Option Addr} {n c n' c' : Nat} {R : Nat → Nat → Sp} {U : Nat → Sp} {s : Sp}
theorem CM.below (h : CM w A A' n c n' c' R U s z) (hb : Below z.heap.size z y) : CM w A A' n c n' c' R U s y :=
  ⟨keepO hb h.b0, h.b2.below hb, keepO hb h.b3, keepO hb h.b4, below_via h.bel (by have := (Array.getElem?_eq_some_iff.1 h.b0).1; omega) hb⟩
theorem CM.drewN (h : CM w A A' n c n' c' R U s z) (k : Nat) : CM w A A' n c n' c' R U s (z.drewN k) := h.below (below_drewN (Below.refl _ _) k)
theorem CM.drew (h : CM w A A' n c n' c' R U s z) : CM w A A' n c n' c' R U s z.drew := h.below (Below.refl _ _).drew
theorem CM.set (h : CM w A A' n c n' c' R U s z) (u : Sp) : CM w A A' n c n' c' R U u ((z.setCell ⟨w.heap.size + 4, 0, none⟩ (.int .i64 u.1)).setCell ⟨w.heap.size + 4, 1, none⟩ (.int .i64 u.2)) :=
  ⟨(heap_sets2 _ _ _ _ _ (by omega)).trans h.b0, (heap_sets2 _ _ _ _ _ (by omega)).trans h.b2, (heap_sets2 _ _ _ _ _ (by omega)).trans h.b3, set_two _ _ _ _ _ _ _ h.b4, below_two h.bel (by omega) _ _⟩
theorem CM.cells (h : CM w A A' n c n' c' R U s z) : z.cell? ⟨w.heap.size, 0, none⟩ = some (.slice A n c) ∧ z.cell? ⟨w.heap.size + 4, 0, none⟩ = some (.int .i64 s.1) ∧ z.cell? ⟨w.heap.size + 4, 1, none⟩ = some (.int .i64 s.2) ∧
    z.frozen? ⟨w.heap.size + 4, 0, none⟩ = false ∧ z.frozen? ⟨w.heap.size + 4, 1, none⟩ = false := by
  obtain ⟨a, b, -, -⟩ := two_facts h.b0
  obtain ⟨d, e, f, g⟩ := two_facts h.b4
  exact ⟨a, d, e, f, g⟩
theorem CM.res (h : CM w A A' n c n' c' R U s z) (u : Sp) : ((z.setCell ⟨w.heap.size + 3, 0, none⟩ (.int .i64 u.1)).setCell ⟨w.heap.size + 3, 1, none⟩ (.int .i64 u.2)).cell? ⟨w.heap.size + 3, 0, none⟩ = some (.int .i64 u.1) ∧
    ((z.setCell ⟨w.heap.size + 3, 0, none⟩ (.int .i64 u.1)).setCell ⟨w.heap.size + 3, 1, none⟩ (.int .i64 u.2)).cell? ⟨w.heap.size + 3, 1, none⟩ = some (.int .i64 u.2) ∧
    Below w.heap.size w ((z.setCell ⟨w.heap.size + 3, 0, none⟩ (.int .i64 u.1)).setCell ⟨w.heap.size + 3, 1, none⟩ (.int .i64 u.2)) := by
  obtain ⟨a, b⟩ := set_back h.b3 (.int .i64 u.1) (.int .i64 u.2)
  exact ⟨a, b, below_two h.bel (by omega) _ _⟩
theorem CM.start (w : World) (A A' : Option Addr) (n c n' c' i : Nat) (R : Nat → Nat → Sp) (U : Nat → Sp) : CM w A A' n c n' c' R U (R i 1) (((((w.alloc (.cells #[.slice A n c, .slice A' n' c'] 25)).alloc (.cells (NV R) 110)).alloc (.cells (PV U) 161)).alloc (.cells #[.int .i64 0, .int .i64 0] 44)).alloc (.cells #[.int .i64 (R i 1).1, .int .i64 (R i 1).2] 44)) ∧ NB ((((w.alloc (.cells #[.slice A n c, .slice A' n' c'] 25)).alloc (.cells (NV R) 110)).alloc (.cells (PV U) 161)).alloc (.cells #[.int .i64 0, .int .i64 0] 44)) (w.heap.size + 1) R := by
  have h1 := heap_alloc_new (w.alloc (.cells #[.slice A n c, .slice A' n' c'] 25)) (.cells (NV R) 110)
  have h2 := heap_alloc_new ((w.alloc (.cells #[.slice A n c, .slice A' n' c'] 25)).alloc (.cells (NV R) 110)) (.cells (PV U) 161)
  have h3 := heap_alloc_new (((w.alloc (.cells #[.slice A n c, .slice A' n' c'] 25)).alloc (.cells (NV R) 110)).alloc (.cells (PV U) 161)) (.cells #[.int .i64 0, .int .i64 0] 44)
  have h4 := heap_alloc_new ((((w.alloc (.cells #[.slice A n c, .slice A' n' c'] 25)).alloc (.cells (NV R) 110)).alloc (.cells (PV U) 161)).alloc (.cells #[.int .i64 0, .int .i64 0] 44)) (.cells #[.int .i64 (R i 1).1, .int .i64 (R i 1).2] 44)
  simp only [World.size_alloc] at h1 h2 h3 h4
  refine ⟨⟨?_, ?_, ?_, h4, ((((Below.refl _ _).alloc (Nat.le_refl _) _).alloc (by simp) _).alloc (by simp <;> omega) _).alloc (by simp <;> omega) _ |>.alloc (by simp <;> omega) _⟩, ?_⟩
  · rw [heap_lt_alloc' _ _ _ (by simp <;> omega), heap_lt_alloc' _ _ _ (by simp <;> omega), heap_lt_alloc' _ _ _ (by simp <;> omega), heap_lt_alloc' _ _ _ (by simp)]; exact heap_alloc_new w _
  · unfold PB_; rw [heap_lt_alloc' _ _ _ (by simp <;> omega), heap_lt_alloc' _ _ _ (by simp <;> omega)]; exact h2
  · rw [heap_lt_alloc' _ _ _ (by simp <;> omega)]; exact h3
  · unfold NB; rw [heap_lt_alloc' _ _ _ (by simp <;> omega), heap_lt_alloc' _ _ _ (by simp)]; exact h1
end
def Bd (b : Int) (s : Sp) : Prop := -b ≤ s.1 ∧ s.1 ≤ b ∧ -b ≤ s.2 ∧ s.2 ≤ b
theorem feed_bd {t : Nat → Option Nat} {U : Nat → Sp} {B : Int} (hB : 0 ≤ B) (q : Nat) : ∀ m, (∀ j, j < m → Bd B (U j)) → Bd (m * B) (feed t U q m)
  | 0, _ => by simp [feed, Bd]
  | m + 1, h => by
    have ih := feed_bd hB q m (t := t) (fun j hj => h j (by omega))
    have h1 := h m (by omega)
    have e : ((m + 1 : Nat) : Int) * B = m * B + B := by rw [Int.natCast_succ, Int.add_mul, Int.one_mul]
    unfold Bd at *
    rw [e]
    generalize (m : Int) * B = M at *
    unfold feed
    split
    · simp only [plus]; omega
    · omega
set_option maxRecDepth 100000 in
set_option maxHeartbeats 4000000 in
theorem comes_any (A A' : Option Addr) (n c n' c' : Nat) (ps : List PR) (ws : List WE) (R : Nat → Nat → Sp) (U : Nat → Sp) (i : Nat) (w : World) (hR : Reads w w.heap.size 4 A n (pgs ps)) (hv : validP ps ws = true) (hin : i < n)
    (hR1 : Bd 10000000 (R i 1)) (hU : ∀ j, j < i → Bd 10000000 (U j)) :
    Calls Tryd.prog 100 #[.agg #[.slice A n c, .slice A' n' c'], .agg (NV R), .int .i64 i, .agg (PV U)] w fun e w' => e = .returned (.agg #[.int .i64 (plus (feed (toT ps) U i i) (R i 1)).1, .int .i64 (plus (feed (toT ps) U i i) (R i 1)).2]) ∧ Below w.heap.size w w' := by
  have hVF := Lib.hid (valid_facts hv)
  have hl : ps.length = n := hR.pg_len
  have hn : n ≤ 10 := by have := hVF.out.n10; omega
  have hii : (i : Int) < (n : Int) := by omega
  have i10 : (i : Int) < 10 := by omega
  have i0 : (0 : Int) ≤ (i : Int) := by omega
  have HRd := Lib.hid (fun z (hz : Below w.heap.size w z) => (hR.below hz).more hz.size)
  have hSt := CM.start w A A' n c n' c' i R U
  have hS0 : Hid (CM w A A' n c n' c' R U (plus (feed (toT ps) U i 0) (R i 1)) (((((w.alloc (.cells #[.slice A n c, .slice A' n' c'] 25)).alloc (.cells (NV R) 110)).alloc (.cells (PV U) 161)).alloc (.cells #[.int .i64 0, .int .i64 0] 44)).alloc (.cells #[.int .i64 (R i 1).1, .int .i64 (R i 1).2] 44))) := by
    show CM _ _ _ _ _ _ _ _ _ _ _
    rw [show plus (feed (toT ps) U i 0) (R i 1) = R i 1 by simp [feed, plus]]
    exact hSt.1
  obtain ⟨r0, r1, -, -⟩ := hSt.2.at_ (i := i) (k := 1) (by omega) (by omega)
  have hsm : Hid (∀ k, k ≤ i → Bd 110000000 (plus (feed (toT ps) U i k) (R i 1))) := by
    intro k hk
    have := feed_bd (t := toT ps) (U := U) (B := 10000000) (by omega) i k (fun j hj => hU j (by omega))
    unfold Bd at *
    simp only [plus]
    omega
  have hU := Lib.hid hU
  clear hR hv hSt hR1
  go_enter Tryd.func100, Tryd.ntmps100
  go_wp2_with fail
  clear r0 r1
  generalize (((((w.alloc (.cells #[.slice A n c, .slice A' n' c'] 25)).alloc (.cells (NV R) 110)).alloc (.cells (PV U) 161)).alloc (.cells #[.int .i64 0, .int .i64 0] 44)).alloc (.cells #[.int .i64 (R i 1).1, .int .i64 (R i 1).2] 44)) = wb at *
  go_loopw [10] (fun v wq => ∃ k : Nat, k ≤ i ∧ v = .int .i64 k ∧ Hid (CM w A A' n c n' c' R U (plus (feed (toT ps) U i k) (R i 1)) wq)) (fun v _ => i - (intOf v).toNat)
  case atStart => exact ⟨0, by omega, rfl, hS0⟩
  case round =>
    clear hS0
    obtain ⟨k, hk, rfl, hSk⟩ := hrel
    by_cases hki : k < i
    · have kii : (k : Int) < (i : Int) := by omega
      have k0 : (0 : Int) ≤ (k : Int) := by omega
      have k10 : (k : Int) < 10 := by omega
      have kn : (k : Int) < (n : Int) := by omega
      obtain ⟨p0, q0, q1, g0, g1⟩ := hSk.out.cells
      obtain ⟨bp, op, I, D, Pr, T, hA, hbp, hpi, y0, -, -, -⟩ := (HRd.out _ hSk.out.bel).pg hin
      obtain ⟨bp2, op2, I2, D2, Pr2, T2, hA2, hbp2, hpk, -, -, -, y3⟩ := (HRd.out _ hSk.out.bel).pg (show k < n by omega)
      obtain ⟨u0, u1, -, -⟩ := hSk.out.b2.at_ (k := k) (by omega)
      have hto := Lib.hid (to_is hVF.out hpi hpk)
      have hs := hsm.out k (by omega)
      have hs2 := hU.out k hki
      subst hA
      simp only [Option.some.injEq, Addr.mk.injEq, and_true] at hA2
      obtain ⟨rfl, rfl⟩ := hA2
      have hSh := Lib.hid hSk.out
      clear hSk hpi hpk
      by_cases hT : T2 = I
      · have hf : Hid (plus (feed (toT ps) U i (k + 1)) (R i 1) = plus (plus (feed (toT ps) U i k) (R i 1)) (U k)) := by
          show _ = _
          simp only [feed]
          rw [if_pos (hto.out.2 hT)]
          simp only [plus, Prod.mk.injEq]
          constructor <;> omega
        generalize hgs : plus (feed (toT ps) U i k) (R i 1) = s at *
        clear hgs
        subst hT
        have e1 : IntKind.i64.wrap (s.1 + (U k).1) = s.1 + (U k).1 := IntWalk.i64_in _ (by unfold Bd at hs hs2; omega)
        have e2 : IntKind.i64.wrap (s.2 + (U k).2) = s.2 + (U k).2 := IntWalk.i64_in _ (by unfold Bd at hs hs2; omega)
        clear hs hs2
        go_wp2_with fail
        go_quiet (fail)
        clear y0 y3 p0
        go_wp2_with fail
        rename_i nq
        have hSq := Lib.hid (hSh.out.drewN nq)
        obtain ⟨p0, q0', q1', g0', g1'⟩ := hSq.out.cells
        obtain ⟨u0', u1', -, -⟩ := hSq.out.b2.at_ (k := k) (by omega)
        clear q0 q1 g0 g1 u0 u1 hSh
        generalize wr.drewN nq = wq at *
        go_still_tail 15, (by kernel_rfl)
        change wpList _ _ _ _ _ wq.drew
        have hSd := Lib.hid hSq.out.drew
        clear q0' q1' g0' g1' u0' u1' p0 hSq
        obtain ⟨p0, q0', q1', g0', g1'⟩ := hSd.out.cells
        generalize wq.drew = wd at *
        go_wp2
        go_roundw
        case rel => exact ⟨k + 1, by omega, by go_num, by rw [hf.out]; exact Lib.hid (hSd.out.set (plus s (U k)))⟩
        case measure => simp [intOf]; omega
      · have hTb : (T2 == I) = false := by simpa using hT
        have hf : Hid (plus (feed (toT ps) U i (k + 1)) (R i 1) = plus (feed (toT ps) U i k) (R i 1)) := by
          show _ = _
          simp only [feed]
          rw [if_neg (fun h => hT (hto.out.1 h))]
        generalize hgs : plus (feed (toT ps) U i k) (R i 1) = s at *
        clear hgs hs hs2
        go_wp2_with fail
        go_quiet (fail)
        clear y0 y3 p0
        go_wp2
        go_roundw
        case rel => exact ⟨k + 1, by omega, by go_num, by rw [hf.out]; exact Lib.hid (hSh.out.drewN _)⟩
        case measure => simp [intOf]; omega
    · obtain rfl : k = i := by omega
      have kii : ¬ ((k : Int) < (k : Int)) := by omega
      obtain ⟨p0, q0, q1, g0, g1⟩ := hSk.out.cells
      obtain ⟨o0, o1, of0, of1⟩ := two_facts hSk.out.b3
      have hSh := Lib.hid (hSk.out.res (plus (feed (toT ps) U k k) (R k 1)))
      clear hSk
      obtain ⟨s, hs⟩ : ∃ s, s = plus (feed (toT ps) U k k) (R k 1) := ⟨_, rfl⟩
      rw [← hs] at q0 q1 hSh
      have hsh := Lib.hid hs
      clear hs
      go_wp2
      obtain ⟨e0, e1⟩ := hSh.out
      exact bodyPost_ret (v := .agg #[.int .i64 s.1, .int .i64 s.2]) (by simp [results, Tryd.results100, go_sem, e0, e1.1]) rfl ⟨by rw [hsh.out], e1.2⟩
end Go.Proofs.YtoakeclpakjbiaaDoor
