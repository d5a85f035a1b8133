/-
  The walk of whether there is a truth, by the reference.
-/
import Derived.Test.YtoakeclpakjbiaaDoorRCom
import Derived.Test.YtoakeclpakjbiaaDoorSpan2
namespace Go.Proofs.YtoakeclpakjbiaaDoor
open Go.RowKit
set_option linter.unusedVariables false
set_option linter.unusedSimpArgs false
section
variable (t : Nat → Option Nat) (R : Nat → Nat → Sp) (at_ : Int) (inn rst : Sp) (f : Nat → Sp) (i : Nat)
/-- What is left ahead of a kind. -/
def stK (k : Nat) : Sp := if k = 2 then st0 t R at_ inn f i else if k = 3 then st2 t R at_ inn rst f i else if k = 4 then st3 t R at_ inn rst f i else if k = 5 then st4 t R at_ inn rst f i else st5 t R at_ inn rst f i
def okK (k : Nat) : Prop := ∀ q, 2 ≤ q → q < k → Ne (R i q) ∧ Ne (stK t R at_ inn rst f i (q + 1))
theorem stK_step (k : Nat) (h2 : 2 ≤ k) (h5 : k ≤ 5) : stK t R at_ inn rst f i (k + 1) = if k = 2 ∧ (i : Int) = at_ then both (minus (stK t R at_ inn rst f i k) (R i k)) rst else minus (stK t R at_ inn rst f i k) (R i k) := by
  rcases (by omega : k = 2 ∨ k = 3 ∨ k = 4 ∨ k = 5) with rfl | rfl | rfl | rfl
  · simp [stK, st2]
  · simp [stK, st3]
  · simp [stK, st4]
  · simp [stK, st5]
theorem st6_K : st6 t R at_ inn rst f i = both (stK t R at_ inn rst f i 6) (R i 6) := by simp [stK, st6]
end
section
variable {t : Nat → Option Nat} {R : Nat → Nat → Sp} {at_ : Int} {inn rst : Sp} {f : Nat → Sp} {i n k : Nat}
theorem okK_step (h : okK t R at_ inn rst f i k) (hr : Ne (R i k)) (hs : Ne (stK t R at_ inn rst f i (k + 1))) : okK t R at_ inn rst f i (k + 1) := by
  intro q h2 hq
  by_cases e : q = k
  · subst e; exact ⟨hr, hs⟩
  · exact h q h2 (by omega)
theorem okI_K (h : okI t R at_ inn rst f i) (q : Nat) (h2 : 2 ≤ q) (h5 : q ≤ 5) : Ne (R i q) ∧ Ne (stK t R at_ inn rst f i (q + 1)) := by
  obtain ⟨a, b, c, d, e, g, j, l, m, o, p⟩ := h
  rcases (by omega : q = 2 ∨ q = 3 ∨ q = 4 ∨ q = 5) with rfl | rfl | rfl | rfl
  · exact ⟨b, by simpa [stK] using c⟩
  · exact ⟨d, by simpa [stK] using e⟩
  · exact ⟨g, by simpa [stK] using j⟩
  · exact ⟨l, by simpa [stK] using m⟩
theorem okI_of (h0 : Ne (st0 t R at_ inn f i)) (h : okK t R at_ inn rst f i 6) (h6 : Ne (st6 t R at_ inn rst f i)) (h1 : Ne (R i 1)) : okI t R at_ inn rst f i := by
  have a := h 2 (by omega) (by omega)
  have b := h 3 (by omega) (by omega)
  have c := h 4 (by omega) (by omega)
  have d := h 5 (by omega) (by omega)
  simp only [stK] at a b c d
  exact ⟨h0, a.1, a.2, b.1, b.2, c.1, c.2, d.1, d.2, h6, h1⟩
theorem holds_not (hi : i < n) (h : ¬ okI t R at_ inn rst (upR t R at_ inn rst) i) : holdsR t R at_ inn rst n = false := decide_eq_false fun h' => h (h' i hi)
theorem ok_next (ha : ∀ j, j < i → okI t R at_ inn rst (upR t R at_ inn rst) j) (h0 : Ne (st0 t R at_ inn (upR t R at_ inn rst) i)) (h : okK t R at_ inn rst (upR t R at_ inn rst) i 6) (h6 : Ne (upR t R at_ inn rst i)) (h1 : Ne (R i 1)) :
    ∀ j, j < i + 1 → okI t R at_ inn rst (upR t R at_ inn rst) j := by
  intro j hj
  by_cases e : j = i
  · subst e; exact okI_of h0 h (by rw [← upR_eq]; exact h6) h1
  · exact ha j (by omega)
theorem up_bd (ha : okI t R at_ inn rst (upR t R at_ inn rst) i) (hR : Bd 10000000 (R i 6)) : Bd 10000000 (upR t R at_ inn rst i) := by
  have h := ha.2.2.2.2.2.2.2.2.2.1
  rw [upR_eq]
  unfold Bd at *
  unfold st6 at *
  unfold Ne at h
  simp only [both] at *
  omega
theorem stK_bd (hR : ∀ q, q < 7 → Bd 10000000 (R i q)) (hi : Bd 100000000 inn) (hr : Bd 100000000 rst) (hf : Bd 100000000 (feed t f i i)) : ∀ k, 2 ≤ k → k ≤ 6 → Bd 200000000 (stK t R at_ inn rst f i k) := by
  have r1 := hR 1 (by omega)
  have r2 := hR 2 (by omega)
  have r3 := hR 3 (by omega)
  have r4 := hR 4 (by omega)
  have r5 := hR 5 (by omega)
  have s0 : Bd 110000000 (st0 t R at_ inn f i) := by
    unfold st0 st1 Bd at *
    split <;> simp only [both, plus] <;> omega
  have s2 : Bd 120000000 (st2 t R at_ inn rst f i) := by
    unfold st2
    generalize st0 t R at_ inn f i = x at *
    unfold Bd at *
    split <;> simp only [both, minus] <;> omega
  have s3 : Bd 130000000 (st3 t R at_ inn rst f i) := by
    unfold st3
    generalize st2 t R at_ inn rst f i = x at *
    unfold Bd at *
    simp only [minus]; omega
  have s4 : Bd 140000000 (st4 t R at_ inn rst f i) := by
    unfold st4
    generalize st3 t R at_ inn rst f i = x at *
    unfold Bd at *
    simp only [minus]; omega
  have s5 : Bd 150000000 (st5 t R at_ inn rst f i) := by
    unfold st5
    generalize st4 t R at_ inn rst f i = x at *
    unfold Bd at *
    simp only [minus]; omega
  intro k h2 h6
  unfold Bd at *
  rcases (by omega : k = 2 ∨ k = 3 ∨ k = 4 ∨ k = 5 ∨ k = 6) with rfl | rfl | rfl | rfl | rfl <;> simp only [stK] <;> simp <;> omega
end
def pU (u : Nat → Sp) (i : Nat) : Nat → Sp := fun a => if a < i then u a else (0, 0)
theorem pU_next (u : Nat → Sp) (i : Nat) : (fun a => if a = i then u i else pU u i a) = pU u (i + 1) := by
  funext a
  unfold pU
  by_cases h : a = i
  · subst h; rw [if_pos rfl, if_pos (by omega)]
  · rw [if_neg h]
    by_cases h2 : a < i
    · rw [if_pos h2, if_pos (by omega)]
    · rw [if_neg h2, if_neg (by omega)]
theorem zc_pv : (#[.int .i64 0, .int .i64 0, .int .i64 0, .int .i64 0, .int .i64 0, .int .i64 0, .int .i64 0, .int .i64 0, .int .i64 0, .int .i64 0, .int .i64 0, .int .i64 0, .int .i64 0, .int .i64 0, .int .i64 0, .int .i64 0, .int .i64 0, .int .i64 0, .int .i64 0, .int .i64 0] : Array Value) = PV (fun _ => ((0, 0) : Sp)) := by kernel_rfl
/-- The state while it is asked whether there is a truth. -/
structure HD (w : World) (A A' : Option Addr) (n c n' c' : Nat) (R : Nat → Nat → Sp) (inn rst : Sp) (U : Nat → Sp) (z : World) : Prop where
  b0 : z.heap[w.heap.size]? = some (.cells #[.slice A n c, .slice A' n' c'] 25 (0, 0))
  b1 : NB z (w.heap.size + 1) R
  b2 : z.heap[w.heap.size + 2]? = some (.cells #[.int .i64 inn.1, .int .i64 inn.2] 44 (0, 0))
  b3 : z.heap[w.heap.size + 3]? = some (.cells #[.int .i64 rst.1, .int .i64 rst.2] 44 (0, 0))
  b4 : PB_ z (w.heap.size + 4) U
  bel : Below w.heap.size w z
section
variable {w z y : World} {A A' : Option Addr} {n c n' c' : Nat} {R : Nat → Nat → Sp} {inn rst : Sp} {U : Nat → Sp}
theorem HD.size (h : HD w A A' n c n' c' R inn rst U z) : w.heap.size + 5 ≤ z.heap.size := (Array.getElem?_eq_some_iff.1 h.b4).1
theorem HD.below (h : HD w A A' n c n' c' R inn rst U z) (hb : Below z.heap.size z y) : HD w A A' n c n' c' R inn rst U y :=
  ⟨keepO hb h.b0, h.b1.below hb, keepO hb h.b2, keepO hb h.b3, h.b4.below hb, below_via h.bel (by have := h.size; omega) hb⟩
theorem HD.drewN (h : HD w A A' n c n' c' R inn rst U z) (k : Nat) : HD w A A' n c n' c' R inn rst U (z.drewN k) := h.below (below_drewN (Below.refl _ _) k)
theorem HD.drew (h : HD w A A' n c n' c' R inn rst U z) : HD w A A' n c n' c' R inn rst U z.drew := h.below (Below.refl _ _).drew
theorem HD.far (h : HD w A A' n c n' c' R inn rst U z) {b : Nat} (hb : w.heap.size + 5 ≤ b) (u v : Value) : HD w A A' n c n' c' R inn rst U ((z.setCell ⟨b, 0, none⟩ u).setCell ⟨b, 1, none⟩ v) :=
  ⟨(heap_sets2 _ _ _ _ _ (by omega)).trans h.b0, (heap_sets2 _ _ _ _ _ (by omega)).trans h.b1, (heap_sets2 _ _ _ _ _ (by omega)).trans h.b2, (heap_sets2 _ _ _ _ _ (by omega)).trans h.b3, (heap_sets2 _ _ _ _ _ (by omega)).trans h.b4, below_two h.bel (by omega) _ _⟩
theorem HD.put (h : HD w A A' n c n' c' R inn rst U z) {i : Nat} (hi : i < 10) (s : Sp) : HD w A A' n c n' c' R inn rst (fun a => if a = i then s else U a) ((z.setCell ⟨w.heap.size + 4, i * 2, none⟩ (.int .i64 s.1)).setCell ⟨w.heap.size + 4, i * 2 + 1, none⟩ (.int .i64 s.2)) := by
  refine ⟨?_, ?_, ?_, ?_, h.b4.put hi s, (h.bel.setCell (by simp) _).setCell (by simp) _⟩
  · rw [Below.heap_setCell _ _ _ _ (by simp), Below.heap_setCell _ _ _ _ (by simp)]; exact h.b0
  · unfold NB; rw [Below.heap_setCell _ _ _ _ (by simp), Below.heap_setCell _ _ _ _ (by simp)]; exact h.b1
  · rw [Below.heap_setCell _ _ _ _ (by simp), Below.heap_setCell _ _ _ _ (by simp)]; exact h.b2
  · rw [Below.heap_setCell _ _ _ _ (by simp), Below.heap_setCell _ _ _ _ (by simp)]; exact h.b3
theorem HD.next {u : Nat → Sp} {i : Nat} {s : Sp} (h : HD w A A' n c n' c' R inn rst (fun a => if a = i then s else pU u i a) z) (e : u i = s) : Hid (HD w A A' n c n' c' R inn rst (pU u (i + 1)) z) := by
  show HD _ _ _ _ _ _ _ _ _ _ _ _
  rw [← pU_next, e]; exact h
theorem HD.ps_ (h : HD w A A' n c n' c' R inn rst U z) : z.cell? ⟨w.heap.size, 0, none⟩ = some (.slice A n c) ∧ z.cell? ⟨w.heap.size, 1, none⟩ = some (.slice A' n' c') ∧ z.cell? ⟨w.heap.size + 2, 0, none⟩ = some (.int .i64 inn.1) ∧ z.cell? ⟨w.heap.size + 2, 1, none⟩ = some (.int .i64 inn.2) := by
  obtain ⟨a, b, -, -⟩ := two_facts h.b0
  obtain ⟨d, e, -, -⟩ := two_facts h.b2
  exact ⟨a, b, d, e⟩
theorem HD.is_ (h : HD w A A' n c n' c' R inn rst U z) : z.cell? ⟨w.heap.size + 2, 0, none⟩ = some (.int .i64 inn.1) ∧ z.cell? ⟨w.heap.size + 2, 1, none⟩ = some (.int .i64 inn.2) := by
  obtain ⟨d, e, -, -⟩ := two_facts h.b2
  exact ⟨d, e⟩
theorem HD.rs (h : HD w A A' n c n' c' R inn rst U z) : z.cell? ⟨w.heap.size + 3, 0, none⟩ = some (.int .i64 rst.1) ∧ z.cell? ⟨w.heap.size + 3, 1, none⟩ = some (.int .i64 rst.2) := by
  obtain ⟨d, e, -, -⟩ := two_facts h.b3
  exact ⟨d, e⟩
theorem HD.start (w : World) (A A' : Option Addr) (n c n' c' : Nat) (R : Nat → Nat → Sp) (inn rst : Sp) : HD w A A' n c n' c' R inn rst (fun _ => (0, 0)) (((((w.alloc (.cells #[.slice A n c, .slice A' n' c'] 25)).alloc (.cells (NV R) 110)).alloc (.cells #[.int .i64 inn.1, .int .i64 inn.2] 44)).alloc (.cells #[.int .i64 rst.1, .int .i64 rst.2] 44)).alloc (.cells #[.int .i64 0, .int .i64 0, .int .i64 0, .int .i64 0, .int .i64 0, .int .i64 0, .int .i64 0, .int .i64 0, .int .i64 0, .int .i64 0, .int .i64 0, .int .i64 0, .int .i64 0, .int .i64 0, .int .i64 0, .int .i64 0, .int .i64 0, .int .i64 0, .int .i64 0, .int .i64 0] 161)) := by
  have h1 := heap_alloc_new (w.alloc (.cells #[.slice A n c, .slice A' n' c'] 25)) (.cells (NV R) 110)
  have h2 := heap_alloc_new ((w.alloc (.cells #[.slice A n c, .slice A' n' c'] 25)).alloc (.cells (NV R) 110)) (.cells #[.int .i64 inn.1, .int .i64 inn.2] 44)
  have h3 := heap_alloc_new (((w.alloc (.cells #[.slice A n c, .slice A' n' c'] 25)).alloc (.cells (NV R) 110)).alloc (.cells #[.int .i64 inn.1, .int .i64 inn.2] 44)) (.cells #[.int .i64 rst.1, .int .i64 rst.2] 44)
  have h4 := heap_alloc_new ((((w.alloc (.cells #[.slice A n c, .slice A' n' c'] 25)).alloc (.cells (NV R) 110)).alloc (.cells #[.int .i64 inn.1, .int .i64 inn.2] 44)).alloc (.cells #[.int .i64 rst.1, .int .i64 rst.2] 44)) (.cells #[.int .i64 0, .int .i64 0, .int .i64 0, .int .i64 0, .int .i64 0, .int .i64 0, .int .i64 0, .int .i64 0, .int .i64 0, .int .i64 0, .int .i64 0, .int .i64 0, .int .i64 0, .int .i64 0, .int .i64 0, .int .i64 0, .int .i64 0, .int .i64 0, .int .i64 0, .int .i64 0] 161)
  simp only [World.size_alloc] at h1 h2 h3 h4
  refine ⟨?_, ?_, ?_, ?_, ?_, ((((Below.refl _ _).alloc (Nat.le_refl _) _).alloc (by simp) _).alloc (by simp <;> omega) _).alloc (by simp <;> omega) _ |>.alloc (by simp <;> omega) _⟩
  · rw [heap_lt_alloc' _ _ _ (by simp <;> omega), heap_lt_alloc' _ _ _ (by simp <;> omega), heap_lt_alloc' _ _ _ (by simp <;> omega), heap_lt_alloc' _ _ _ (by simp)]; exact heap_alloc_new w _
  · unfold NB; rw [heap_lt_alloc' _ _ _ (by simp <;> omega), heap_lt_alloc' _ _ _ (by simp <;> omega), heap_lt_alloc' _ _ _ (by simp <;> omega)]; exact h1
  · rw [heap_lt_alloc' _ _ _ (by simp <;> omega), heap_lt_alloc' _ _ _ (by simp <;> omega)]; exact h2
  · rw [heap_lt_alloc' _ _ _ (by simp <;> omega)]; exact h3
  · unfold PB_; rw [← zc_pv]; exact h4
end
set_option maxRecDepth 100000 in
set_option maxHeartbeats 8000000 in
theorem rholds_any (A A' : Option Addr) (n c n' c' : Nat) (ps : List PR) (ws : List WE) (R : Nat → Nat → Sp) (at_ : Int) (inn rst : Sp) (w : World) (hR : Reads w w.heap.size 4 A n (pgs ps)) (hv : validP ps ws = true)
    (hRb : ∀ i, i < n → ∀ q, q < 7 → Bd 10000000 (R i q)) (hib : Bd 100000000 inn) (hrb : Bd 100000000 rst) :
    Calls Tryd.prog 103 #[.agg #[.slice A n c, .slice A' n' c'], .agg (NV R), .int .i64 at_, .agg #[.int .i64 inn.1, .int .i64 inn.2], .agg #[.int .i64 rst.1, .int .i64 rst.2]] w fun e w' => e = .returned (.bool (holdsR (toT ps) R at_ inn rst n)) ∧ Below w.heap.size w w' := by
  have hVF := Lib.hid (valid_facts hv)
  have hl : ps.length = n := hR.pg_len
  have hn : n ≤ 10 := by have := hVF.out.n10; omega
  have HRd := Lib.hid (fun z (hz : Below w.heap.size w z) => (hR.below hz).more hz.size)
  have hS0 : Hid (HD w A A' n c n' c' R inn rst (pU (upR (toT ps) R at_ inn rst) 0) (((((w.alloc (.cells #[.slice A n c, .slice A' n' c'] 25)).alloc (.cells (NV R) 110)).alloc (.cells #[.int .i64 inn.1, .int .i64 inn.2] 44)).alloc (.cells #[.int .i64 rst.1, .int .i64 rst.2] 44)).alloc (.cells #[.int .i64 0, .int .i64 0, .int .i64 0, .int .i64 0, .int .i64 0, .int .i64 0, .int .i64 0, .int .i64 0, .int .i64 0, .int .i64 0, .int .i64 0, .int .i64 0, .int .i64 0, .int .i64 0, .int .i64 0, .int .i64 0, .int .i64 0, .int .i64 0, .int .i64 0, .int .i64 0] 161))) := by
    show HD _ _ _ _ _ _ _ _ _ _ _ _
    rw [show pU (upR (toT ps) R at_ inn rst) 0 = fun _ => (0, 0) by funext a; simp [pU]]
    exact HD.start w A A' n c n' c' R inn rst
  have hv := Lib.hid hv
  have hRb := Lib.hid hRb
  have hib := Lib.hid hib
  have hrb := Lib.hid hrb
  clear hR hVF hl
  go_enter Tryd.func103, Tryd.ntmps103
  go_wp2_with fail
  generalize (((((w.alloc (.cells #[.slice A n c, .slice A' n' c'] 25)).alloc (.cells (NV R) 110)).alloc (.cells #[.int .i64 inn.1, .int .i64 inn.2] 44)).alloc (.cells #[.int .i64 rst.1, .int .i64 rst.2] 44)).alloc (.cells #[.int .i64 0, .int .i64 0, .int .i64 0, .int .i64 0, .int .i64 0, .int .i64 0, .int .i64 0, .int .i64 0, .int .i64 0, .int .i64 0, .int .i64 0, .int .i64 0, .int .i64 0, .int .i64 0, .int .i64 0, .int .i64 0, .int .i64 0, .int .i64 0, .int .i64 0, .int .i64 0] 161)) = wb at *
  go_loopw [12] (fun v wq => ∃ i : Nat, i ≤ n ∧ v = .int .i64 i ∧ Hid (∀ j, j < i → okI (toT ps) R at_ inn rst (upR (toT ps) R at_ inn rst) j) ∧ Hid (HD w A A' n c n' c' R inn rst (pU (upR (toT ps) R at_ inn rst) i) wq)) (fun v _ => n - (intOf v).toNat)
  case atStart => exact ⟨0, by omega, rfl, fun j h => absurd h (by omega), hS0⟩
  case round =>
    clear hS0
    obtain ⟨i, hi, rfl, hall, hH⟩ := hrel
    by_cases hin : i < n
    · have hii : (i : Int) < (n : Int) := by omega
      have i0 : (0 : Int) ≤ (i : Int) := by omega
      have i10 : (i : Int) < 10 := by omega
      have hUb : Hid (∀ j, j < i → Bd 10000000 (pU (upR (toT ps) R at_ inn rst) i j)) := by
        intro j hj
        show Bd _ (if j < i then _ else _)
        rw [if_pos hj]
        exact up_bd (hall.out j hj) (hRb.out j (by omega) 6 (by omega))
      have hst1 : Hid (plus (feed (toT ps) (pU (upR (toT ps) R at_ inn rst) i) i i) (R i 1) = st1 (toT ps) R (upR (toT ps) R at_ inn rst) i) := by
        show _ = _
        unfold st1
        rw [feed_congr (U := pU (upR (toT ps) R at_ inn rst) i) (U' := (upR (toT ps) R at_ inn rst)) i i (fun j hj _ => by show (if j < i then _ else _) = _; rw [if_pos hj])]
      have hbd : Hid (∀ k, 2 ≤ k → k ≤ 6 → Bd 200000000 (stK (toT ps) R at_ inn rst (upR (toT ps) R at_ inn rst) i k)) := stK_bd (fun q hq => hRb.out i hin q hq) hib.out hrb.out (by
        have h := feed_bd (t := toT ps) (U := (upR (toT ps) R at_ inn rst)) (B := 10000000) (by omega) i i (fun j hj => up_bd (hall.out j hj) (hRb.out j (by omega) 6 (by omega)))
        unfold Bd at *
        omega)
      by_cases hat : (i : Int) = at_
      · subst hat
        have hat : Hid ((i : Int) = (i : Int)) := rfl
        have hs0 : Hid ((st0 (toT ps) R (i : Int) inn (upR (toT ps) R (i : Int) inn rst) i) = both (st1 (toT ps) R (upR (toT ps) R (i : Int) inn rst) i) inn) := by show _ = _; unfold st0; rw [if_pos rfl]
        obtain ⟨p0, p1, a0, a1⟩ := hH.out.ps_
        go_wp2_with (first | refine wpList_load_row rfl 110 _ rfl (w.heap.size + 1) rfl _ _ (0, 0) _ hH.out.b1 Tryd.underlying110 rfl (by rw [NV_size]; kernel_rfl) ?_ | refine wpList_load_row rfl 161 _ rfl (w.heap.size + 4) rfl _ _ (0, 0) _ hH.out.b4 Tryd.underlying161 rfl (by rw [PV_size]; kernel_rfl) ?_)
        refine (comes_any A A' n c n' c' ps ws R _ i wr (HRd.out _ hH.out.bel) hv.out hin (hRb.out i hin 1 (by omega)) hUb.out).mono ?_
        rintro e z1 ⟨rfl, hb1⟩
        rw [hst1.out]
        generalize hgs : st1 (toT ps) R (upR (toT ps) R (i : Int) inn rst) i = s at *
        clear hgs
        have hH1 := hH.out.below hb1
        clear hb1 p0 p1 a0 a1
        obtain ⟨sb, hsbe⟩ : ∃ sb, sb = z1.heap.size := ⟨_, rfl⟩
        have hsb : w.heap.size + 5 ≤ sb := by rw [hsbe]; exact hH1.size
        have hO := heap_alloc_new z1 (.cells #[.int .i64 s.1, .int .i64 s.2] 44)
        have hH2 := hH1.below ((Below.refl z1.heap.size z1).alloc (Nat.le_refl _) (.cells #[.int .i64 s.1, .int .i64 s.2] 44))
        obtain ⟨z2, hz2⟩ : ∃ z2, z2 = z1.alloc (.cells #[.int .i64 s.1, .int .i64 s.2] 44) := ⟨_, rfl⟩
        rw [← hz2] at hO hH2
        rw [← hsbe] at hO
        have hH2 := Lib.hid hH2
        have hO := Lib.hid hO
        obtain ⟨a0, a1⟩ := hH2.out.is_
        obtain ⟨q0, q1, g0, g1⟩ := two_facts hO.out
        have hHz := hH1
        clear hH1
        obtain ⟨v, hv_⟩ : ∃ v, v = both s inn := ⟨_, rfl⟩
        have hm1 : (if s.1 < inn.1 then inn.1 else s.1) = v.1 := by rw [mx_if, hv_]; rfl
        have hm2 : (if inn.2 < s.2 then inn.2 else s.2) = v.2 := by rw [mn_if, hv_]; rfl
        rw [← hv_] at hs0
        clear hv_
        have hO3 := heap_alloc_new z1 (.cells #[.int .i64 v.1, .int .i64 v.2] 44)
        have hH3 := Lib.hid (hHz.below ((Below.refl z1.heap.size z1).alloc (Nat.le_refl _) (.cells #[.int .i64 v.1, .int .i64 v.2] 44)))
        rw [← hsbe] at hO3
        clear hHz
        rw [hz2, hsbe] at q0 q1 g0 g1
        rw [hz2] at a0 a1
        by_cases hn0 : v.1 ≤ v.2
        · have hcmp : ¬ (v.2 < v.1) := by omega
          have hne0 : Hid (Ne (st0 (toT ps) R (i : Int) inn (upR (toT ps) R (i : Int) inn rst) i)) := by show Ne _; rw [hs0.out]; exact hn0
          clear hn0
          go_wp2_with fail
          rw [← hsbe]
          have hO3 : Hid ((z1.alloc (.cells #[.int .i64 v.1, .int .i64 v.2] 44)).heap[sb]? = some (.cells #[.int .i64 (stK (toT ps) R (i : Int) inn rst (upR (toT ps) R (i : Int) inn rst) i 2).1, .int .i64 (stK (toT ps) R (i : Int) inn rst (upR (toT ps) R (i : Int) inn rst) i 2).2] 44 (0, 0))) := by show _ = _; rw [show (stK (toT ps) R (i : Int) inn rst (upR (toT ps) R (i : Int) inn rst) i 2) = v from hs0.out]; exact hO3
          generalize (z1.alloc (.cells #[.int .i64 v.1, .int .i64 v.2] 44)) = z3 at *
          clear q0 q1 g0 g1 a0 a1 hz2 hsbe hcmp hs0 hm1 hm2
          go_loopw [14] (fun v wq => ∃ wl, wl = wq ∧ ∃ k : Nat, 2 ≤ k ∧ k ≤ 6 ∧ v = .int .i64 k ∧ Hid (okK (toT ps) R (i : Int) inn rst (upR (toT ps) R (i : Int) inn rst) i k) ∧ Hid (HD w A A' n c n' c' R inn rst (pU (upR (toT ps) R (i : Int) inn rst) i) wl) ∧ Hid (wl.heap[sb]? = some (.cells #[.int .i64 (stK (toT ps) R (i : Int) inn rst (upR (toT ps) R (i : Int) inn rst) i k).1, .int .i64 (stK (toT ps) R (i : Int) inn rst (upR (toT ps) R (i : Int) inn rst) i k).2] 44 (0, 0)))) (fun v _ => 6 - (intOf v).toNat)
          case atStart => exact ⟨_, rfl, 2, by omega, by omega, rfl, fun q h1 h2 => absurd h2 (by omega), hH3, hO3⟩
          case round =>
            clear hH3 hO3 hH hst1 hH2 hO
            obtain ⟨wl, rfl, k, hk2, hk6, rfl, hok, hHk, hOk⟩ := hrel
            by_cases hk5 : k ≤ 5
            · skip
              have hki : (k : Int) ≤ 5 := by omega
              have k0 : (0 : Int) ≤ (k : Int) := by omega
              have k7 : (k : Int) < 7 := by omega
              have hH := Lib.hid hHk.out
              obtain ⟨r0, r1, -, -⟩ := hH.out.b1.at_ (i := i) (k := k) (by omega) (by omega)
              obtain ⟨q0, q1, g0, g1⟩ := two_facts hOk.out
              by_cases hnr : (R i k).1 ≤ (R i k).2
              · have hnr' : ¬ ((R i k).2 < (R i k).1) := by omega
                have hnrh := Lib.hid hnr
                clear hnr
                go_wp2_with fail
                go_quiet (fail)
                rename_i nq
                clear r0 r1 q0 q1 g0 g1
                go_wp2_with fail
                have hHq := Lib.hid (hH.out.drewN nq)
                have hOq : Hid ((wl.drewN nq).heap[sb]? = some (.cells #[.int .i64 (stK (toT ps) R (i : Int) inn rst (upR (toT ps) R (i : Int) inn rst) i k).1, .int .i64 (stK (toT ps) R (i : Int) inn rst (upR (toT ps) R (i : Int) inn rst) i k).2] 44 (0, 0))) := hOk.out
                obtain ⟨r0, r1, -, -⟩ := hHq.out.b1.at_ (i := i) (k := k) (by omega) (by omega)
                obtain ⟨q0, q1, g0, g1⟩ := two_facts hOq.out
                generalize wl.drewN nq = wq at *
                have hbs := hbd.out k hk2 (by omega)
                have hbr := hRb.out i hin k (by omega)
                have hstep := Lib.hid (stK_step (toT ps) R (i : Int) inn rst (upR (toT ps) R (i : Int) inn rst) i k hk2 hk5)
                have hokn := Lib.hid (okK_step (t := toT ps) (R := R) (at_ := (i : Int)) (inn := inn) (rst := rst) (f := (upR (toT ps) R (i : Int) inn rst)) hok.out hnrh.out)
                have e1' : IntKind.i64.wrap ((stK (toT ps) R (i : Int) inn rst (upR (toT ps) R (i : Int) inn rst) i k).1 - (R i k).2) = (stK (toT ps) R (i : Int) inn rst (upR (toT ps) R (i : Int) inn rst) i k).1 - (R i k).2 := IntWalk.i64_in _ (by unfold Bd at hbs hbr; omega)
                have e2' : IntKind.i64.wrap ((stK (toT ps) R (i : Int) inn rst (upR (toT ps) R (i : Int) inn rst) i k).2 - (R i k).1) = (stK (toT ps) R (i : Int) inn rst (upR (toT ps) R (i : Int) inn rst) i k).2 - (R i k).1 := IntWalk.i64_in _ (by unfold Bd at hbs hbr; omega)
                clear hbs hbr
                generalize hs : (stK (toT ps) R (i : Int) inn rst (upR (toT ps) R (i : Int) inn rst) i k) = s at *
                clear hs
                generalize R i k = r at *
                obtain ⟨m, hm_⟩ : ∃ m, m = minus s r := ⟨_, rfl⟩
                have e1 : IntKind.i64.wrap (s.1 - r.2) = m.1 := e1'.trans (by rw [hm_]; rfl)
                have e2 : IntKind.i64.wrap (s.2 - r.1) = m.2 := e2'.trans (by rw [hm_]; rfl)
                rw [← hm_] at hstep
                clear e1' e2' hm_
                go_still_tail 19, (by kernel_rfl)
                change wpList _ _ _ _ _ wq.drew
                have hHd := Lib.hid (hHq.out.drew.far hsb (.int .i64 m.1) (.int .i64 m.2))
                have hOd : wq.drew.heap[sb]? = some (.cells #[.int .i64 s.1, .int .i64 s.2] 44 (0, 0)) := hOq.out
                have hOe := Lib.hid (set_two wq.drew sb _ (.int .i64 m.1) (.int .i64 m.2) _ _ hOd)
                clear r0 r1 q0 q1 g0 g1
                obtain ⟨q0, q1, g0, g1⟩ := two_facts hOd
                obtain ⟨t0, t1⟩ := hHq.out.drew.rs
                clear hOd hOq hHq
                generalize wq.drew = wd at *
                by_cases hk2e : k = 2
                · subst hk2e
                  obtain ⟨v, hv_⟩ : ∃ v, v = both m rst := ⟨_, rfl⟩
                  have hm1 : (if m.1 < rst.1 then rst.1 else m.1) = v.1 := by rw [mx_if, hv_]; rfl
                  have hm2 : (if rst.2 < m.2 then rst.2 else m.2) = v.2 := by rw [mn_if, hv_]; rfl
                  rw [← hv_] at hstep
                  clear hv_
                  have hHf := Lib.hid (hHd.out.far hsb (.int .i64 v.1) (.int .i64 v.2))
                  have hOf := Lib.hid (set_two _ sb _ (.int .i64 v.1) (.int .i64 v.2) _ _ hOe.out)
                  obtain ⟨o0, o1, -, -⟩ := two_facts hOf.out
                  by_cases hnm : v.1 ≤ v.2
                  · have hcmp : ¬ (v.2 < v.1) := by omega
                    have hok2 := Lib.hid (hokn.out (by rw [hstep.out, if_pos ⟨rfl, rfl⟩]; exact hnm))
                    clear hnm
                    go_wp2_with fail
                    go_roundw
                    case rel => exact ⟨_, rfl, 2 + 1, by omega, by omega, by go_num, hok2, hHf, by rw [hstep.out, if_pos ⟨rfl, rfl⟩]; exact hOf⟩
                    case measure => simp [intOf] <;> omega
                  · have hcmp : v.2 < v.1 := by omega
                    have hres := Lib.hid (holds_not (t := toT ps) (R := R) (at_ := (i : Int)) (inn := inn) (rst := rst) (n := n) hin (fun h => hnm (by have := okI_K h 2 hk2 hk5; rw [hstep.out, if_pos ⟨rfl, rfl⟩] at this; exact this.2)))
                    clear hnm
                    go_wp2_with fail
                    go_ret
                    exact ⟨ret_bool hres.out.symm, hHf.out.bel⟩
                · have hk2b : ((k : Int) == 2) = false := by simp; omega
                  by_cases hnm : m.1 ≤ m.2
                  · have hcmp : ¬ (m.2 < m.1) := by omega
                    have hok2 := Lib.hid (hokn.out (by rw [hstep.out, if_neg (fun h => hk2e h.1)]; exact hnm))
                    clear hnm
                    go_wp2_with fail
                    go_roundw
                    case rel => exact ⟨_, rfl, k + 1, by omega, by omega, by go_num, hok2, hHd, by rw [hstep.out, if_neg (fun h => hk2e h.1)]; exact hOe⟩
                    case measure => simp [intOf] <;> omega
                  · have hcmp : m.2 < m.1 := by omega
                    have hres := Lib.hid (holds_not (t := toT ps) (R := R) (at_ := (i : Int)) (inn := inn) (rst := rst) (n := n) hin (fun h => hnm (by have := okI_K h k hk2 hk5; rw [hstep.out, if_neg (fun h => hk2e h.1)] at this; exact this.2)))
                    clear hnm
                    go_wp2_with fail
                    go_ret
                    exact ⟨ret_bool hres.out.symm, hHd.out.bel⟩
              · have hnr' : (R i k).2 < (R i k).1 := by omega
                have hres := Lib.hid (holds_not (t := toT ps) (R := R) (at_ := (i : Int)) (inn := inn) (rst := rst) (n := n) hin (fun h => hnr (okI_K h k hk2 hk5).1))
                clear hnr
                go_wp2_with fail
                go_quiet (fail)
                clear r0 r1 q0 q1 g0 g1
                go_wp2
                go_ret
                exact ⟨ret_bool hres.out.symm, (hH.out.drewN _).bel⟩
            · skip
              obtain rfl : k = 6 := by omega
              have hH := Lib.hid hHk.out
              obtain ⟨r0, r1, -, -⟩ := hH.out.b1.at_ (i := i) (k := 6) (by omega) (by omega)
              obtain ⟨q0, q1, g0, g1⟩ := two_facts hOk.out
              have hs6 := Lib.hid (st6_K (toT ps) R (i : Int) inn rst (upR (toT ps) R (i : Int) inn rst) i)
              have hup := Lib.hid (upR_eq (toT ps) R (i : Int) inn rst i)
              have hk5n : ¬ ((6 : Int) ≤ 5) := by omega
              go_wp2_with fail
              generalize hs : (stK (toT ps) R (i : Int) inn rst (upR (toT ps) R (i : Int) inn rst) i 6) = s at *
              clear hs
              obtain ⟨u, hu_⟩ : ∃ u, u = both s (R i 6) := ⟨_, rfl⟩
              have hm1 : (if s.1 < (R i 6).1 then (R i 6).1 else s.1) = u.1 := by rw [mx_if, hu_]; rfl
              have hm2 : (if (R i 6).2 < s.2 then (R i 6).2 else s.2) = u.2 := by rw [mn_if, hu_]; rfl
              have hue : Hid (upR (toT ps) R (i : Int) inn rst i = u) := by show _ = _; rw [hup.out, hs6.out, hu_]
              clear hu_ hup hs6
              go_still_tail 17, (by kernel_rfl)
              change wpList _ _ _ _ _ wl.drew
              have hHd := Lib.hid (hH.out.drew.far hsb (.int .i64 u.1) (.int .i64 u.2))
              have hOd : wl.drew.heap[sb]? = some (.cells #[.int .i64 s.1, .int .i64 s.2] 44 (0, 0)) := hOk.out
              have hOe := Lib.hid (set_two wl.drew sb _ (.int .i64 u.1) (.int .i64 u.2) _ _ hOd)
              clear r0 r1 q0 q1 g0 g1 hm1 hm2
              obtain ⟨q0, q1, g0, g1⟩ := two_facts hOd
              clear hOd hHk hOk hH
              generalize wl.drew = wd at *
              go_wp2_with fail
              clear q0 q1 g0 g1
              obtain ⟨we, hwe⟩ : ∃ we, we = (wd.setCell ⟨sb, 0, none⟩ (.int .i64 u.1)).setCell ⟨sb, 1, none⟩ (.int .i64 u.2) := ⟨_, rfl⟩
              rw [← hwe] at hHd hOe ⊢
              clear hwe
              obtain ⟨r0, r1, -, -⟩ := hHd.out.b1.at_ (i := i) (k := 1) (by omega) (by omega)
              obtain ⟨q0, q1, g0, g1⟩ := two_facts hOe.out
              by_cases hnu : u.1 ≤ u.2
              · have hnu' : ¬ (u.2 < u.1) := by omega
                by_cases hn1 : (R i 1).1 ≤ (R i 1).2
                · have hn1' : ¬ ((R i 1).2 < (R i 1).1) := by omega
                  have hnext := Lib.hid (ok_next (t := toT ps) (R := R) (at_ := (i : Int)) (inn := inn) (rst := rst) hall.out hne0.out hok.out (by rw [hue.out]; exact hnu) hn1)
                  clear hnu hn1
                  go_quiet (fail)
                  rename_i nq
                  clear r0 r1 q0 q1 g0 g1
                  have hHq := hHd.out.drewN nq
                  have hOq : (we.drewN nq).heap[sb]? = some (.cells #[.int .i64 u.1, .int .i64 u.2] 44 (0, 0)) := hOe.out
                  obtain ⟨q0, q1, g0, g1⟩ := two_facts hOq
                  obtain ⟨a0, a1, f0, f1⟩ := hHq.b4.at_ (k := i) (by omega)
                  have hHn := Lib.hid (hHq.put (i := i) (by omega) u)
                  clear hHq hOq
                  generalize we.drewN nq = wf at *
                  go_wp2
                  go_roundw
                  case rel => exact ⟨i + 1, by omega, by go_num, hnext, hHn.out.next hue.out⟩
                  case measure => simp [intOf] <;> omega
                · have hn1' : (R i 1).2 < (R i 1).1 := by omega
                  have hres := Lib.hid (holds_not (t := toT ps) (R := R) (at_ := (i : Int)) (inn := inn) (rst := rst) (n := n) hin (fun h => hn1 h.2.2.2.2.2.2.2.2.2.2))
                  clear hnu hn1
                  go_quiet (fail)
                  clear r0 r1 q0 q1 g0 g1
                  go_wp2
                  go_ret
                  exact ⟨ret_bool hres.out.symm, (hHd.out.drewN _).bel⟩
              · have hnu' : u.2 < u.1 := by omega
                have hres := Lib.hid (holds_not (t := toT ps) (R := R) (at_ := (i : Int)) (inn := inn) (rst := rst) (n := n) hin (fun h => hnu (by have := h.2.2.2.2.2.2.2.2.2.1; rw [← upR_eq, hue.out] at this; exact this)))
                clear hnu
                go_quiet (fail)
                clear r0 r1 q0 q1 g0 g1
                go_wp2
                go_ret
                exact ⟨ret_bool hres.out.symm, (hHd.out.drewN _).bel⟩
        · have hcmp : v.2 < v.1 := by omega
          have hres := Lib.hid (holds_not (t := toT ps) (R := R) (at_ := (i : Int)) (inn := inn) (rst := rst) (n := n) hin (fun h => hn0 (by have := h.1; rw [hs0.out] at this; exact this)))
          clear hn0
          go_wp2_with fail
          
          go_ret
          exact ⟨ret_bool hres.out.symm, hH3.out.bel⟩
      · skip
        have hs0 : Hid ((st0 (toT ps) R at_ inn (upR (toT ps) R at_ inn rst) i) = st1 (toT ps) R (upR (toT ps) R at_ inn rst) i) := by show _ = _; unfold st0; rw [if_neg hat]
        have hatb : ((i : Int) == at_) = false := by simpa using hat
        obtain ⟨p0, p1, a0, a1⟩ := hH.out.ps_
        go_wp2_with (first | refine wpList_load_row rfl 110 _ rfl (w.heap.size + 1) rfl _ _ (0, 0) _ hH.out.b1 Tryd.underlying110 rfl (by rw [NV_size]; kernel_rfl) ?_ | refine wpList_load_row rfl 161 _ rfl (w.heap.size + 4) rfl _ _ (0, 0) _ hH.out.b4 Tryd.underlying161 rfl (by rw [PV_size]; kernel_rfl) ?_)
        refine (comes_any A A' n c n' c' ps ws R _ i wr (HRd.out _ hH.out.bel) hv.out hin (hRb.out i hin 1 (by omega)) hUb.out).mono ?_
        rintro e z1 ⟨rfl, hb1⟩
        rw [hst1.out]
        generalize hgs : st1 (toT ps) R (upR (toT ps) R at_ inn rst) i = s at *
        clear hgs
        have hH1 := hH.out.below hb1
        clear hb1 p0 p1 a0 a1
        obtain ⟨sb, hsbe⟩ : ∃ sb, sb = z1.heap.size := ⟨_, rfl⟩
        have hsb : w.heap.size + 5 ≤ sb := by rw [hsbe]; exact hH1.size
        have hO := heap_alloc_new z1 (.cells #[.int .i64 s.1, .int .i64 s.2] 44)
        have hH2 := hH1.below ((Below.refl z1.heap.size z1).alloc (Nat.le_refl _) (.cells #[.int .i64 s.1, .int .i64 s.2] 44))
        obtain ⟨z2, hz2⟩ : ∃ z2, z2 = z1.alloc (.cells #[.int .i64 s.1, .int .i64 s.2] 44) := ⟨_, rfl⟩
        rw [← hz2] at hO hH2
        rw [← hsbe] at hO
        have hH2 := Lib.hid hH2
        have hO := Lib.hid hO
        obtain ⟨a0, a1⟩ := hH2.out.is_
        obtain ⟨q0, q1, g0, g1⟩ := two_facts hO.out
        have hHz := hH1
        clear hH1
        rw [hz2, hsbe] at q0 q1 g0 g1
        rw [hz2] at a0 a1
        by_cases hn0 : s.1 ≤ s.2
        · have hcmp : ¬ (s.2 < s.1) := by omega
          have hne0 : Hid (Ne (st0 (toT ps) R at_ inn (upR (toT ps) R at_ inn rst) i)) := by show Ne _; rw [hs0.out]; exact hn0
          clear hn0
          go_wp2_with fail
          rw [← hz2, ← hsbe]
          have hH3 := hH2
          have hO3 : Hid (z2.heap[sb]? = some (.cells #[.int .i64 (stK (toT ps) R at_ inn rst (upR (toT ps) R at_ inn rst) i 2).1, .int .i64 (stK (toT ps) R at_ inn rst (upR (toT ps) R at_ inn rst) i 2).2] 44 (0, 0))) := by show _ = _; rw [show (stK (toT ps) R at_ inn rst (upR (toT ps) R at_ inn rst) i 2) = s from hs0.out]; exact hO.out
          clear hH2 hO
          obtain ⟨z3, hz3⟩ : ∃ z3, z3 = z2 := ⟨_, rfl⟩
          rw [← hz3] at hH3 hO3 ⊢
          clear hz3
          clear q0 q1 g0 g1 a0 a1 hz2 hsbe hcmp hs0 hHz
          go_loopw [14] (fun v wq => ∃ wl, wl = wq ∧ ∃ k : Nat, 2 ≤ k ∧ k ≤ 6 ∧ v = .int .i64 k ∧ Hid (okK (toT ps) R at_ inn rst (upR (toT ps) R at_ inn rst) i k) ∧ Hid (HD w A A' n c n' c' R inn rst (pU (upR (toT ps) R at_ inn rst) i) wl) ∧ Hid (wl.heap[sb]? = some (.cells #[.int .i64 (stK (toT ps) R at_ inn rst (upR (toT ps) R at_ inn rst) i k).1, .int .i64 (stK (toT ps) R at_ inn rst (upR (toT ps) R at_ inn rst) i k).2] 44 (0, 0)))) (fun v _ => 6 - (intOf v).toNat)
          case atStart => exact ⟨_, rfl, 2, by omega, by omega, rfl, fun q h1 h2 => absurd h2 (by omega), hH3, hO3⟩
          case round =>
            clear hH3 hO3 hH hst1
            obtain ⟨wl, rfl, k, hk2, hk6, rfl, hok, hHk, hOk⟩ := hrel
            by_cases hk5 : k ≤ 5
            · skip
              have hki : (k : Int) ≤ 5 := by omega
              have k0 : (0 : Int) ≤ (k : Int) := by omega
              have k7 : (k : Int) < 7 := by omega
              have hH := Lib.hid hHk.out
              obtain ⟨r0, r1, -, -⟩ := hH.out.b1.at_ (i := i) (k := k) (by omega) (by omega)
              obtain ⟨q0, q1, g0, g1⟩ := two_facts hOk.out
              by_cases hnr : (R i k).1 ≤ (R i k).2
              · have hnr' : ¬ ((R i k).2 < (R i k).1) := by omega
                have hnrh := Lib.hid hnr
                clear hnr
                go_wp2_with fail
                go_quiet (fail)
                rename_i nq
                clear r0 r1 q0 q1 g0 g1
                go_wp2_with fail
                have hHq := Lib.hid (hH.out.drewN nq)
                have hOq : Hid ((wl.drewN nq).heap[sb]? = some (.cells #[.int .i64 (stK (toT ps) R at_ inn rst (upR (toT ps) R at_ inn rst) i k).1, .int .i64 (stK (toT ps) R at_ inn rst (upR (toT ps) R at_ inn rst) i k).2] 44 (0, 0))) := hOk.out
                obtain ⟨r0, r1, -, -⟩ := hHq.out.b1.at_ (i := i) (k := k) (by omega) (by omega)
                obtain ⟨q0, q1, g0, g1⟩ := two_facts hOq.out
                generalize wl.drewN nq = wq at *
                have hbs := hbd.out k hk2 (by omega)
                have hbr := hRb.out i hin k (by omega)
                have hstep := Lib.hid (stK_step (toT ps) R at_ inn rst (upR (toT ps) R at_ inn rst) i k hk2 hk5)
                have hokn := Lib.hid (okK_step (t := toT ps) (R := R) (at_ := at_) (inn := inn) (rst := rst) (f := (upR (toT ps) R at_ inn rst)) hok.out hnrh.out)
                have e1' : IntKind.i64.wrap ((stK (toT ps) R at_ inn rst (upR (toT ps) R at_ inn rst) i k).1 - (R i k).2) = (stK (toT ps) R at_ inn rst (upR (toT ps) R at_ inn rst) i k).1 - (R i k).2 := IntWalk.i64_in _ (by unfold Bd at hbs hbr; omega)
                have e2' : IntKind.i64.wrap ((stK (toT ps) R at_ inn rst (upR (toT ps) R at_ inn rst) i k).2 - (R i k).1) = (stK (toT ps) R at_ inn rst (upR (toT ps) R at_ inn rst) i k).2 - (R i k).1 := IntWalk.i64_in _ (by unfold Bd at hbs hbr; omega)
                clear hbs hbr
                generalize hs : (stK (toT ps) R at_ inn rst (upR (toT ps) R at_ inn rst) i k) = s at *
                clear hs
                generalize R i k = r at *
                obtain ⟨m, hm_⟩ : ∃ m, m = minus s r := ⟨_, rfl⟩
                have e1 : IntKind.i64.wrap (s.1 - r.2) = m.1 := e1'.trans (by rw [hm_]; rfl)
                have e2 : IntKind.i64.wrap (s.2 - r.1) = m.2 := e2'.trans (by rw [hm_]; rfl)
                rw [← hm_] at hstep
                clear e1' e2' hm_
                go_still_tail 19, (by kernel_rfl)
                change wpList _ _ _ _ _ wq.drew
                have hHd := Lib.hid (hHq.out.drew.far hsb (.int .i64 m.1) (.int .i64 m.2))
                have hOd : wq.drew.heap[sb]? = some (.cells #[.int .i64 s.1, .int .i64 s.2] 44 (0, 0)) := hOq.out
                have hOe := Lib.hid (set_two wq.drew sb _ (.int .i64 m.1) (.int .i64 m.2) _ _ hOd)
                clear r0 r1 q0 q1 g0 g1
                obtain ⟨q0, q1, g0, g1⟩ := two_facts hOd
                obtain ⟨t0, t1⟩ := hHq.out.drew.rs
                clear hOd hOq hHq
                generalize wq.drew = wd at *
                by_cases hk2e : k = 2
                · subst hk2e
                  by_cases hnm : m.1 ≤ m.2
                  · have hcmp : ¬ (m.2 < m.1) := by omega
                    have hok2 := Lib.hid (hokn.out (by rw [hstep.out, if_neg (fun h => hat h.2)]; exact hnm))
                    clear hnm
                    go_wp2_with fail
                    go_roundw
                    case rel => exact ⟨_, rfl, 2 + 1, by omega, by omega, by go_num, hok2, hHd, by rw [hstep.out, if_neg (fun h => hat h.2)]; exact hOe⟩
                    case measure => simp [intOf] <;> omega
                  · have hcmp : m.2 < m.1 := by omega
                    have hres := Lib.hid (holds_not (t := toT ps) (R := R) (at_ := at_) (inn := inn) (rst := rst) (n := n) hin (fun h => hnm (by have := okI_K h 2 hk2 hk5; rw [hstep.out, if_neg (fun h => hat h.2)] at this; exact this.2)))
                    clear hnm
                    go_wp2_with fail
                    go_ret
                    exact ⟨ret_bool hres.out.symm, hHd.out.bel⟩
                · have hk2b : ((k : Int) == 2) = false := by simp; omega
                  by_cases hnm : m.1 ≤ m.2
                  · have hcmp : ¬ (m.2 < m.1) := by omega
                    have hok2 := Lib.hid (hokn.out (by rw [hstep.out, if_neg (fun h => hk2e h.1)]; exact hnm))
                    clear hnm
                    go_wp2_with fail
                    go_roundw
                    case rel => exact ⟨_, rfl, k + 1, by omega, by omega, by go_num, hok2, hHd, by rw [hstep.out, if_neg (fun h => hk2e h.1)]; exact hOe⟩
                    case measure => simp [intOf] <;> omega
                  · have hcmp : m.2 < m.1 := by omega
                    have hres := Lib.hid (holds_not (t := toT ps) (R := R) (at_ := at_) (inn := inn) (rst := rst) (n := n) hin (fun h => hnm (by have := okI_K h k hk2 hk5; rw [hstep.out, if_neg (fun h => hk2e h.1)] at this; exact this.2)))
                    clear hnm
                    go_wp2_with fail
                    go_ret
                    exact ⟨ret_bool hres.out.symm, hHd.out.bel⟩
              · have hnr' : (R i k).2 < (R i k).1 := by omega
                have hres := Lib.hid (holds_not (t := toT ps) (R := R) (at_ := at_) (inn := inn) (rst := rst) (n := n) hin (fun h => hnr (okI_K h k hk2 hk5).1))
                clear hnr
                go_wp2_with fail
                go_quiet (fail)
                clear r0 r1 q0 q1 g0 g1
                go_wp2
                go_ret
                exact ⟨ret_bool hres.out.symm, (hH.out.drewN _).bel⟩
            · skip
              obtain rfl : k = 6 := by omega
              have hH := Lib.hid hHk.out
              obtain ⟨r0, r1, -, -⟩ := hH.out.b1.at_ (i := i) (k := 6) (by omega) (by omega)
              obtain ⟨q0, q1, g0, g1⟩ := two_facts hOk.out
              have hs6 := Lib.hid (st6_K (toT ps) R at_ inn rst (upR (toT ps) R at_ inn rst) i)
              have hup := Lib.hid (upR_eq (toT ps) R at_ inn rst i)
              have hk5n : ¬ ((6 : Int) ≤ 5) := by omega
              go_wp2_with fail
              generalize hs : (stK (toT ps) R at_ inn rst (upR (toT ps) R at_ inn rst) i 6) = s at *
              clear hs
              obtain ⟨u, hu_⟩ : ∃ u, u = both s (R i 6) := ⟨_, rfl⟩
              have hm1 : (if s.1 < (R i 6).1 then (R i 6).1 else s.1) = u.1 := by rw [mx_if, hu_]; rfl
              have hm2 : (if (R i 6).2 < s.2 then (R i 6).2 else s.2) = u.2 := by rw [mn_if, hu_]; rfl
              have hue : Hid (upR (toT ps) R at_ inn rst i = u) := by show _ = _; rw [hup.out, hs6.out, hu_]
              clear hu_ hup hs6
              go_still_tail 17, (by kernel_rfl)
              change wpList _ _ _ _ _ wl.drew
              have hHd := Lib.hid (hH.out.drew.far hsb (.int .i64 u.1) (.int .i64 u.2))
              have hOd : wl.drew.heap[sb]? = some (.cells #[.int .i64 s.1, .int .i64 s.2] 44 (0, 0)) := hOk.out
              have hOe := Lib.hid (set_two wl.drew sb _ (.int .i64 u.1) (.int .i64 u.2) _ _ hOd)
              clear r0 r1 q0 q1 g0 g1 hm1 hm2
              obtain ⟨q0, q1, g0, g1⟩ := two_facts hOd
              clear hOd hHk hOk hH
              generalize wl.drew = wd at *
              go_wp2_with fail
              clear q0 q1 g0 g1
              obtain ⟨we, hwe⟩ : ∃ we, we = (wd.setCell ⟨sb, 0, none⟩ (.int .i64 u.1)).setCell ⟨sb, 1, none⟩ (.int .i64 u.2) := ⟨_, rfl⟩
              rw [← hwe] at hHd hOe ⊢
              clear hwe
              obtain ⟨r0, r1, -, -⟩ := hHd.out.b1.at_ (i := i) (k := 1) (by omega) (by omega)
              obtain ⟨q0, q1, g0, g1⟩ := two_facts hOe.out
              by_cases hnu : u.1 ≤ u.2
              · have hnu' : ¬ (u.2 < u.1) := by omega
                by_cases hn1 : (R i 1).1 ≤ (R i 1).2
                · have hn1' : ¬ ((R i 1).2 < (R i 1).1) := by omega
                  have hnext := Lib.hid (ok_next (t := toT ps) (R := R) (at_ := at_) (inn := inn) (rst := rst) hall.out hne0.out hok.out (by rw [hue.out]; exact hnu) hn1)
                  clear hnu hn1
                  go_quiet (fail)
                  rename_i nq
                  clear r0 r1 q0 q1 g0 g1
                  have hHq := hHd.out.drewN nq
                  have hOq : (we.drewN nq).heap[sb]? = some (.cells #[.int .i64 u.1, .int .i64 u.2] 44 (0, 0)) := hOe.out
                  obtain ⟨q0, q1, g0, g1⟩ := two_facts hOq
                  obtain ⟨a0, a1, f0, f1⟩ := hHq.b4.at_ (k := i) (by omega)
                  have hHn := Lib.hid (hHq.put (i := i) (by omega) u)
                  clear hHq hOq
                  generalize we.drewN nq = wf at *
                  go_wp2
                  go_roundw
                  case rel => exact ⟨i + 1, by omega, by go_num, hnext, hHn.out.next hue.out⟩
                  case measure => simp [intOf] <;> omega
                · have hn1' : (R i 1).2 < (R i 1).1 := by omega
                  have hres := Lib.hid (holds_not (t := toT ps) (R := R) (at_ := at_) (inn := inn) (rst := rst) (n := n) hin (fun h => hn1 h.2.2.2.2.2.2.2.2.2.2))
                  clear hnu hn1
                  go_quiet (fail)
                  clear r0 r1 q0 q1 g0 g1
                  go_wp2
                  go_ret
                  exact ⟨ret_bool hres.out.symm, (hHd.out.drewN _).bel⟩
              · have hnu' : u.2 < u.1 := by omega
                have hres := Lib.hid (holds_not (t := toT ps) (R := R) (at_ := at_) (inn := inn) (rst := rst) (n := n) hin (fun h => hnu (by have := h.2.2.2.2.2.2.2.2.2.1; rw [← upR_eq, hue.out] at this; exact this)))
                clear hnu
                go_quiet (fail)
                clear r0 r1 q0 q1 g0 g1
                go_wp2
                go_ret
                exact ⟨ret_bool hres.out.symm, (hHd.out.drewN _).bel⟩
        · have hcmp : s.2 < s.1 := by omega
          have hres := Lib.hid (holds_not (t := toT ps) (R := R) (at_ := at_) (inn := inn) (rst := rst) (n := n) hin (fun h => hn0 (by have := h.1; rw [hs0.out] at this; exact this)))
          clear hn0
          go_wp2_with fail
          rw [← hz2]
          go_ret
          exact ⟨ret_bool hres.out.symm, hH2.out.bel⟩
    · obtain rfl : i = n := by omega
      have hii : ¬ ((i : Int) < (i : Int)) := by omega
      have hres : Hid (holdsR (toT ps) R at_ inn rst i = true) := by
        show _ = _
        exact decide_eq_true hall.out
      obtain ⟨p0, p1, a0, a1⟩ := hH.out.ps_
      go_wp2
      go_ret
      exact ⟨ret_bool hres.out.symm, hH.out.bel⟩
end Go.Proofs.YtoakeclpakjbiaaDoor
