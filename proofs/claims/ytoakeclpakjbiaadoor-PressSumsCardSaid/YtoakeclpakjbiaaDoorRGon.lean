/-
  The walk of what must have gone elsewhere, by the reference.
-/
import Derived.Test.YtoakeclpakjbiaaDoorGonD
import Derived.Test.YtoakeclpakjbiaaDoorRTr
namespace Go.Proofs.YtoakeclpakjbiaaDoor
open Go.RowKit
set_option linter.unusedVariables false
set_option linter.unusedSimpArgs false
theorem mxx_if (a b : Int) : (if a < b then b else a) = max a b := by split <;> omega
set_option maxRecDepth 100000 in
set_option maxHeartbeats 4000000 in
theorem clash_any (A A' : Option Addr) (n c n' c' : Nat) (ps : List PR) (ws : List WE) (w : World) (hnm : n ≤ maxLen) (hnm' : n' ≤ maxLen) (hR : Reads w w.heap.size 4 A n (pgs ps)) (hW : Reads w w.heap.size 5 A' n' (wgs ws)) (hv : validP ps ws = true) :
    Calls Tryd.prog 99 #[.agg #[.slice A n c, .slice A' n' c']] w fun e w' => e = .returned (.bool (clB (rowsT ps ws) n)) ∧ Below w.heap.size w w' := by
  have hl : ps.length = n := hR.pg_len
  have hn : n ≤ 10 := by have := (valid_facts hv).n10; omega
  have HRd := Lib.hid (fun z (hz : Below w.heap.size w z) => (hR.below hz).more hz.size)
  have HWd := Lib.hid (fun z (hz : Below w.heap.size w z) => (hW.below hz).more hz.size)
  have hO0 := heap_alloc_new w (.cells #[.slice A n c, .slice A' n' c'] 25)
  have HB0 := Lib.hid ((Below.refl w.heap.size w).alloc (Nat.le_refl _) (.cells #[.slice A n c, .slice A' n' c'] 25))
  have HOp := Lib.hid (fun z (hz : Below (w.alloc (.cells #[.slice A n c, .slice A' n' c'] 25)).heap.size (w.alloc (.cells #[.slice A n c, .slice A' n' c'] 25)) z) => keepO hz hO0)
  have hvh := Lib.hid hv
  clear hR hW hO0 hl hv
  go_enter Tryd.func99, Tryd.ntmps99
  go_wp2_with fail
  generalize hwb : (w.alloc (.cells #[.slice A n c, .slice A' n' c'] 25)) = wb at *
  clear hwb
  go_loopw [3] (fun v wr => ∃ wl, wl = wr ∧ ∃ i : Nat, i ≤ n ∧ v = .int .i64 i ∧ Hid (Below wb.heap.size wb wl) ∧ Hid (∀ j, j < i → ∀ k, 1 ≤ k → k ≤ 6 → Ne (rowsT ps ws j k))) (fun v _ => n - (intOf v).toNat)
  case atStart => exact ⟨_, rfl, 0, Nat.zero_le _, rfl, Lib.hid (Below.refl _ _), Lib.hid (fun j h => absurd h (by omega))⟩
  case round =>
    obtain ⟨wq, rfl, i, hi, rfl, HBb, hno⟩ := hrel
    obtain ⟨p0, p1, -, -⟩ := two_facts (HOp.out _ HBb.out)
    by_cases hin : i < n
    · have hii : (i : Int) < (n : Int) := by omega
      go_wp2_with fail
      go_loopw [4] (fun v wr => ∃ wl, wl = wr ∧ ∃ k : Nat, 1 ≤ k ∧ k ≤ 7 ∧ v = .int .i64 k ∧ Hid (Below wb.heap.size wb wl) ∧ Hid (∀ q, 1 ≤ q → q < k → Ne (rowsT ps ws i q))) (fun v _ => 7 - (intOf v).toNat)
      case atStart => exact ⟨_, rfl, 1, by omega, by omega, rfl, HBb, Lib.hid (fun q h1 h2 => absurd h2 (by omega))⟩
      case round =>
        clear p0 p1
        obtain ⟨wj, rfl, k, hk1, hk7, rfl, HBj, hnk⟩ := hrel
        have HBr := Lib.hid (below_via HB0.out HB0.out.size HBj.out)
        obtain ⟨p0, p1, -, -⟩ := two_facts (HOp.out _ HBj.out)
        by_cases hk6 : k ≤ 6
        · have hkk : (k : Int) ≤ 6 := by omega
          have hNo := Lib.hid (Noted_any A A' n c n' c' ps ws i k wj (HRd.out _ HBr.out) (HWd.out _ HBr.out) hvh.out hin (by omega))
          have hnx := Lib.hid (fun (h : ¬ (rowsT ps ws i k).2 < (rowsT ps ws i k).1) q (h1 : 1 ≤ q) (hq : q < k + 1) => (show Ne (rowsT ps ws i q) by
            by_cases e : q = k
            · subst e; unfold Ne; omega
            · exact hnk.out q h1 (by omega)))
          have hye := Lib.hid (fun (h : (rowsT ps ws i k).2 < (rowsT ps ws i k).1) => clB_yes (R := rowsT ps ws) hin hk1 hk6 h)
          go_wp2_with fail
          refine hNo.out.mono ?_
          rintro e z1 ⟨rfl, hb⟩
          have HB1 := Lib.hid (below_via HBj.out HBj.out.size hb)
          clear hb hNo p0 p1
          generalize rowsT ps ws i k = s at *
          have HB2 := Lib.hid (HB1.out.alloc HB1.out.size (.cells #[.int .i64 s.1, .int .i64 s.2] 44))
          by_cases hs : s.2 < s.1
          · have hres := Lib.hid (hye.out hs)
            have HB3 := Lib.hid (below_via HB0.out HB0.out.size HB2.out)
            clear hnx hye
            go_wp2
            go_ret
            exact ⟨by rw [hres.out]; rfl, HB3.out⟩
          · have hnn := Lib.hid (hnx.out (by omega))
            have hsd : decide (s.2 < s.1) = false := decide_eq_false hs
            clear hnx hye hs
            go_wp2
            go_roundw
            case rel => exact ⟨_, rfl, k + 1, by omega, by omega, by go_num, HB2, hnn⟩
            case measure => simp [intOf]; omega
        · obtain rfl : k = 7 := by omega
          rw [show ((7 : Nat) : Int) = 7 from rfl]
          have hnn := Lib.hid (fun j (hj : j < i + 1) q (h1 : 1 ≤ q) (h6 : q ≤ 6) => (show Ne (rowsT ps ws j q) by
            by_cases e : j = i
            · subst e; exact hnk.out q h1 (by omega)
            · exact hno.out j (by omega) q h1 h6))
          clear p0 p1
          go_wp2
          go_roundw
          case rel => exact ⟨_, rfl, i + 1, by omega, by go_num, HBj, hnn⟩
          case measure => simp [intOf]; omega
    · obtain rfl : i = n := by omega
      have hii : ¬ (i : Int) < (i : Int) := by omega
      have hres := Lib.hid (clB_of hno.out)
      have HBr := Lib.hid (below_via HB0.out HB0.out.size HBb.out)
      go_wp2
      go_ret
      exact ⟨by rw [hres.out]; rfl, HBr.out⟩
/-- What is left ahead of a kind. -/
def stG (t : Nat → Option Nat) (R U : Nat → Nat → Sp) (f : Nat → Sp) (i : Nat) : Nat → Sp
  | 0 => plus (feed t f i i) (R i 1)
  | k + 1 => minus (stG t R U f i k) (R i (k + 2))
theorem stG_can (t : Nat → Option Nat) (R U : Nat → Nat → Sp) (f : Nat → Sp) (i : Nat) : stG t R U f i 4 = canS t R f i := by
  simp only [stG, canS, restS, minus, plus, Nat.reduceAdd, Nat.zero_add]
  congr 1 <;> omega
theorem stG_bd {t : Nat → Option Nat} {R U : Nat → Nat → Sp} {f : Nat → Sp} {i : Nat} {B : Int} (h0 : Bd B (plus (feed t f i i) (R i 1))) (hR : ∀ q, q < 7 → Bd 10000000 (R i q)) : ∀ (k : Nat), k ≤ 4 → Bd (B + 10000000 * (k : Int)) (stG t R U f i k)
  | 0, _ => by unfold Bd at *; simp only [stG]; omega
  | k + 1, hk => by
    have ih := stG_bd (U := U) h0 hR k (by omega)
    have hr := hR (k + 2) (by omega)
    unfold Bd at *
    simp only [stG, minus]
    omega
/-- The blocks of the walk: the argument's copy, all notes, the parings. -/
structure GD (w : World) (A A' : Option Addr) (n c n' c' nb : Nat) (R : Nat → Nat → Sp) (U : Nat → Sp) (z : World) : Prop where
  b0 : z.heap[w.heap.size]? = some (.cells #[.slice A n c, .slice A' n' c'] 25 (0, 0))
  b1 : NB z nb R
  b4 : PB_ z (nb + 1) U
  bel : Below w.heap.size w z
  l1 : w.heap.size < nb
section
variable {w : World} {A A' : Option Addr} {n c n' c' nb : Nat} {R : Nat → Nat → Sp} {U : Nat → Sp} {z y : World}
theorem GD.size (h : GD w A A' n c n' c' nb R U z) : nb + 2 ≤ z.heap.size := (Array.getElem?_eq_some_iff.1 h.b4).1
theorem GD.below (h : GD w A A' n c n' c' nb R U z) (hb : Below z.heap.size z y) : GD w A A' n c n' c' nb R U y :=
  ⟨keepO hb h.b0, h.b1.below hb, h.b4.below hb, below_via h.bel h.bel.size hb, h.l1⟩
theorem GD.of (h : GD w A A' n c n' c' nb R U z) (hb : Below w.heap.size w y) (hk : ∀ q, q ≤ nb + 1 → y.heap[q]? = z.heap[q]?) : GD w A A' n c n' c' nb R U y := by
  have hl := h.l1
  exact ⟨(hk _ (by omega)).trans h.b0, (hk nb (by omega)).trans h.b1, (hk (nb + 1) (by omega)).trans h.b4, hb, hl⟩
theorem GD.grew (h : GD w A A' n c n' c' nb R U z) {row : Option Nat} (hg : z.grownBy y row) (hr : ∀ q, row = some q → nb + 2 ≤ q) : GD w A A' n c n' c' nb R U y := by
  have hl := h.l1
  have hs := h.size
  exact h.of (h.bel.grown hg h.bel.size (fun q hq => by have := hr q hq; omega)) (fun q hq => hg.block q (by omega) (fun e => by have := hr q e.symm; omega))
theorem GD.next {u : Nat → Sp} {i : Nat} {s : Sp} (h : GD w A A' n c n' c' nb R (fun a => if a = i then s else pU u i a) z) (e : u i = s) : GD w A A' n c n' c' nb R (pU u (i + 1)) z := by
  rw [← pU_next, e]; exact h
theorem GD.cells (h : GD w A A' n c n' c' nb R U z) : z.cell? ⟨w.heap.size, 0, none⟩ = some (.slice A n c) ∧ z.cell? ⟨w.heap.size, 1, none⟩ = some (.slice A' n' c') := by
  obtain ⟨a, b, -, -⟩ := two_facts h.b0
  exact ⟨a, b⟩
end
/-- The same, with the list so far, and a span at work. -/
structure GE (w : World) (A A' : Option Addr) (n c n' c' nb : Nat) (R : Nat → Nat → Sp) (U : Nat → Sp) (v : Value) (m : Nat) (xs : List Value) (sb : Nat) (s : Sp) (z : World) : Prop where
  gd : GD w A A' n c n' c' nb R U z
  own : z.ownsRow (nb + 2) 160 2 v m xs
  bx : z.heap[sb]? = some (.cells #[.int .i64 s.1, .int .i64 s.2] 44 (0, 0))
  l2 : nb + 2 ≤ sb
  ap : v.ownBlock ≠ some sb
section
variable {w : World} {A A' : Option Addr} {n c n' c' nb : Nat} {R : Nat → Nat → Sp} {U : Nat → Sp} {v : Value} {m sb : Nat} {xs : List Value} {s : Sp} {z y : World}
theorem GE.below (h : GE w A A' n c n' c' nb R U v m xs sb s z) (hb : Below z.heap.size z y) : GE w A A' n c n' c' nb R U v m xs sb s y :=
  ⟨h.gd.below hb, ownR_below h.own hb, keepO hb h.bx, h.l2, h.ap⟩
theorem GE.setS (h : GE w A A' n c n' c' nb R U v m xs sb s z) (u : Sp) : GE w A A' n c n' c' nb R U v m xs sb u ((z.setCell ⟨sb, 0, none⟩ (.int .i64 u.1)).setCell ⟨sb, 1, none⟩ (.int .i64 u.2)) := by
  have h2 := h.l2
  have h1 := h.gd.l1
  refine ⟨h.gd.of ((h.gd.bel.setCell (by simp only; omega) _).setCell (by simp only; omega) _) (fun q hq => heap_sets2 _ _ _ _ _ (by omega)), ownR_block h.own (fun q hq => heap_sets2 _ _ _ _ _ (fun e => h.ap (e ▸ hq))), set_two _ _ _ _ _ _ _ h.bx, h2, h.ap⟩
theorem GE.put (h : GE w A A' n c n' c' nb R U v m xs sb s z) {i : Nat} (hi : i < 10) (u : Sp) : GE w A A' n c n' c' nb R (fun a => if a = i then u else U a) v m xs sb s ((z.setCell ⟨nb + 1, i * 2, none⟩ (.int .i64 u.1)).setCell ⟨nb + 1, i * 2 + 1, none⟩ (.int .i64 u.2)) := by
  have h2 := h.l2
  have h1 := h.gd.l1
  have hy : ∀ q : Nat, q ≠ nb + 1 → ((z.setCell ⟨nb + 1, i * 2, none⟩ (.int .i64 u.1)).setCell ⟨nb + 1, i * 2 + 1, none⟩ (.int .i64 u.2)).heap[q]? = z.heap[q]? := fun q hq => (Below.heap_setCell _ _ _ _ hq).trans (Below.heap_setCell _ _ _ _ hq)
  exact ⟨⟨(hy _ (by omega)).trans h.gd.b0, (hy nb (by omega)).trans h.gd.b1, h.gd.b4.put hi u, (h.gd.bel.setCell (by simp only; omega) _).setCell (by simp only; omega) _, h1⟩, ownR_block h.own (fun q hq => hy q (by have := (ownR_lt h.own hq).1; omega)), (hy sb (by omega)).trans h.bx, h2, h.ap⟩
end
theorem sumM_next (f : Nat → Int) (i : Nat) : sumM f (i + 1) = sumM f i + max (f i) (-(f i)) := rfl
theorem sumM_bd {f : Nat → Int} {B : Int} : ∀ {m : Nat}, (∀ j, j < m → -B ≤ f j ∧ f j ≤ B) → 0 ≤ sumM f m ∧ sumM f m ≤ B * (m : Int)
  | 0, _ => by simp [sumM]
  | m + 1, h => by
    have ih := sumM_bd (f := f) (B := B) (m := m) (fun j hj => h j (by omega))
    have hm := h m (by omega)
    have e : B * ((m + 1 : Nat) : Int) = B * (m : Int) + B := by rw [Int.natCast_add, Int.mul_add]; simp
    rw [e]
    unfold sumM
    omega
theorem listM_yes {ids m : Nat → Int} {i : Nat} (h : m i ≠ 0) : listM ids m (i + 1) = listM ids m i ++ [(ids i, m i)] := if_pos h
theorem listM_no {ids m : Nat → Int} {i : Nat} (h : m i = 0) : listM ids m (i + 1) = listM ids m i := if_neg (by simpa using h)
set_option maxRecDepth 100000 in
set_option maxHeartbeats 8000000 in
theorem rGone_any (A A' : Option Addr) (n c n' c' : Nat) (ps : List PR) (ws : List WE) (w : World) (hnm : n ≤ maxLen) (hnm' : n' ≤ maxLen) (hR : Reads w w.heap.size 4 A n (pgs ps)) (hW : Reads w w.heap.size 5 A' n' (wgs ws)) :
    Calls Tryd.prog 47 #[.agg #[.slice A n c, .slice A' n' c']] w fun e w' => (∃ A1 m c1, e = .returned (.tuple #[.int .i64 (gonS ps ws), .slice A1 m c1, .int .i64 (gonE ps ws)]) ∧ m ≤ 10 ∧ Reads w' w'.heap.size 2 A1 m (mss (gonL ps ws))) ∧ Below w.heap.size w w' := by
  have hl : ps.length = n := hR.pg_len
  have HRd := Lib.hid (fun z (hz : Below w.heap.size w z) => (hR.below hz).more hz.size)
  have HWd := Lib.hid (fun z (hz : Below w.heap.size w z) => (hW.below hz).more hz.size)
  have hO0 := Lib.hid (heap_alloc_new w (.cells #[.slice A n c, .slice A' n' c'] 25))
  have hB0 : Hid (Below w.heap.size w (w.alloc (.cells #[.slice A n c, .slice A' n' c'] 25))) := (Below.refl _ _).alloc (Nat.le_refl _) _
  obtain ⟨i0, hi0, hz0, hz1, hz2⟩ := info_parts info_ms
  clear hR hW
  go_enter Tryd.func47, Tryd.ntmps47
  go_wp2_with fail
  refine (Press_any A A' n c n' c' ps ws _ hnm hnm' (HRd.out _ hB0.out) (HWd.out _ hB0.out)).mono ?_
  rintro e z1 ⟨rfl, hb1⟩
  have hO1 := Lib.hid (keepO hb1 hO0.out)
  have hB1 := Lib.hid (below_via hB0.out hB0.out.size hb1)
  clear hb1
  cases hv : validP ps ws
  · have hs : Hid (gonE ps ws = 20) := by show _ = _; unfold gonE; rw [hv]; rfl
    have hs2 : Hid (gonS ps ws = 0 ∧ gonL ps ws = []) := by show _ ∧ _; unfold gonS gonL; rw [hs.out]; exact ⟨rfl, rfl⟩
    clear hv hl
    go_wp2
    refine bodyPost_ret (v := .tuple #[.int .i64 0, .slice none 0 0, .int .i64 20]) (by simp [results, Tryd.results47, go_sem]) rfl ?_
    have hfin : (∃ A1 m c1, Ending.returned (.tuple #[.int .i64 0, .slice none 0 0, .int .i64 20]) = .returned (.tuple #[.int .i64 (gonS ps ws), .slice A1 m c1, .int .i64 (gonE ps ws)]) ∧ m ≤ 10 ∧ Reads z1 z1.heap.size 2 A1 m (mss (gonL ps ws))) ∧ Below w.heap.size w z1 := ⟨⟨none, 0, 0, by rw [hs.out, hs2.out.1], by omega, by rw [hs2.out.2]; exact Reads.none_⟩, hB1.out⟩
    first | exact hfin | simpa using hfin
  have hvh := Lib.hid hv
  obtain ⟨p0, p1, -, -⟩ := two_facts hO1.out
  go_wp2_with fail
  refine (clash_any A A' n c n' c' ps ws z1 hnm hnm' (HRd.out _ hB1.out) (HWd.out _ hB1.out) hvh.out).mono ?_
  rintro e z2 ⟨rfl, hb2⟩
  have hO2 := Lib.hid (keepO hb2 hO1.out)
  have hB2 := Lib.hid (below_via hB1.out hB1.out.size hb2)
  clear hb2 p0 p1
  cases hcl : clB (rowsT ps ws) n
  rotate_left
  · have hs : Hid (gonE ps ws = 8) := by show _ = _; unfold gonE; rw [hv, if_pos rfl, hl, hcl]; rfl
    have hs2 : Hid (gonS ps ws = 0 ∧ gonL ps ws = []) := by show _ ∧ _; unfold gonS gonL; rw [hs.out]; exact ⟨rfl, rfl⟩
    clear hv hl hcl
    go_wp2
    refine bodyPost_ret (v := .tuple #[.int .i64 0, .slice none 0 0, .int .i64 8]) (by simp [results, Tryd.results47, go_sem]) rfl ?_
    have hfin : (∃ A1 m c1, Ending.returned (.tuple #[.int .i64 0, .slice none 0 0, .int .i64 8]) = .returned (.tuple #[.int .i64 (gonS ps ws), .slice A1 m c1, .int .i64 (gonE ps ws)]) ∧ m ≤ 10 ∧ Reads z2 z2.heap.size 2 A1 m (mss (gonL ps ws))) ∧ Below w.heap.size w z2 := ⟨⟨none, 0, 0, by rw [hs.out, hs2.out.1], by omega, by rw [hs2.out.2]; exact Reads.none_⟩, hB2.out⟩
    first | exact hfin | simpa using hfin
  have hVF := valid_facts hv
  have hn : n ≤ 10 := by have := hVF.n10; omega
  have hag := notes_rows ps ws
  rw [hl] at hag
  have hs : Hid (gonE ps ws = 0) := by show _ = _; unfold gonE; rw [hv, if_pos rfl, hl, hcl]; rfl
  obtain ⟨R, hRe⟩ : ∃ R, R = notesR ps ws := ⟨_, rfl⟩
  have hNeT := clB_no hcl
  have hNe : ∀ i, i < n → ∀ k, 1 ≤ k → k ≤ 6 → Ne (R i k) := fun i hi k h1 h6 => by rw [hRe, hag i hi k h1 h6]; exact hNeT i hi k h1 h6
  have hRb : ∀ i, i < n → ∀ q, q < 7 → Bd 10000000 (R i q) := fun i hi q hq => by rw [hRe]; exact notesR_bd hVF i q
  have hcon := parV_congr (t := toT ps) (R := rowsT ps ws) (R' := R) (n := n) (fun i hi k h1 h6 => by rw [hRe]; exact hag i hi k h1 h6)
  have hpb := fun i (hi : i < n) => parV_bd (t := toT ps) hNeT (fun i _ => rows_In1 hVF i) hi
  have hs2 : Hid (gonS ps ws = sumM (misV (toT ps) R) n ∧ gonL ps ws = listM (idQ ps) (misV (toT ps) R) n) := by
    show _ ∧ _
    have e : ∀ j, j < n → misU (toT ps) (rowsT ps ws) j = (misV (toT ps) R) j := fun j hj => by rw [(hcon j hj).2, (hpb j hj).2.2]
    unfold gonS gonL
    rw [if_pos hs.out, if_pos hs.out, hl]
    exact ⟨sumM_congr n e, listM_congr n e⟩
  have hPb : ∀ j, j < n → Bd 10000000 ((parV (toT ps) R) j) := fun j hj => by
    rw [(hcon j hj).1, (hpb j hj).2.1]
    have := (hpb j hj).1
    unfold Bd; omega
  obtain ⟨p0, p1, -, -⟩ := two_facts hO2.out
  have hmvb := Lib.hid (fun j (hj : j < n) => (show -200000000 ≤ (misV (toT ps) R) j ∧ (misV (toT ps) R) j ≤ 200000000 by
    have h1 := feed_bd (t := toT ps) (B := 10000000) (by decide) j j (fun q hq => hPb q (by omega))
    have h2 := hRb j hj 1 (by omega)
    have h3 := stG_bd (t := toT ps) (R := R) (U := R) (f := (parV (toT ps) R)) (i := j) (B := 120000000) (by unfold Bd at *; simp only [plus]; omega) (hRb j hj) 4 (by omega)
    rw [stG_can] at h3
    have h4 := hRb j hj 6 (by omega)
    unfold misV misR mR1 cR1
    unfold Bd at h3 h4
    split <;> (try simp only) <;> split <;> omega))
  have hNeh := Lib.hid hNe
  have hRbh := Lib.hid hRb
  have hPbh := Lib.hid hPb
  have hno := noted_any A A' n c n' c' ps ws z2 (HRd.out _ hB2.out) (HWd.out _ hB2.out) hv
  rw [← hRe] at hno
  have hnoh := Lib.hid hno
  clear hv hl hcl hVF hag hNeT hNe hRb hcon hpb hPb hRe hno
  go_wp2_with fail
  refine hnoh.out.mono ?_
  rintro e z3 ⟨rfl, hb3⟩
  have hO3 := keepO hb3 hO2.out
  have hB3 := below_via hB2.out hB2.out.size hb3
  clear hb3 p0 p1 hnoh
  have hwn : w.heap.size < z3.heap.size := (Array.getElem?_eq_some_iff.1 hO3).1
  have hG0 : Hid (GD w A A' n c n' c' z3.heap.size R (fun _ => (0, 0)) ((z3.alloc (.cells (NV R) 110)).alloc (.cells (PV (fun _ => (0, 0))) 161))) := by
    have h4 := heap_alloc_new (z3.alloc (.cells (NV R) 110)) (.cells (PV (fun _ => (0, 0))) 161)
    simp only [World.size_alloc] at h4
    refine Lib.hid ⟨?_, ?_, h4, (hB3.alloc hB3.size _).alloc (by simp; omega) _, hwn⟩
    · rw [heap_lt_alloc' _ _ _ (by simp; omega), heap_lt_alloc' _ _ _ (by omega)]; exact hO3
    · unfold NB; rw [heap_lt_alloc' _ _ _ (by simp)]; exact heap_alloc_new z3 _
  have hZC := heap_alloc_new z3 (.cells Tryd.zeroCells110 110)
  rw [← zc_pv] at hG0
  clear hO3 hB3
  go_wp2_with (refine wpList_store_row rfl 110 _ _ rfl z3.heap.size (NV R) rfl rfl _ _ hZC (by rw [NV_size]; kernel_rfl) (by rw [NV_size]; exact zc_size) (NV_ones _) ?_; rw [World.setRow_alloc_new])
  generalize ((z3.alloc (.cells (NV R) 110)).alloc _) = wa at *
  generalize z3.heap.size = nb at *
  clear hZC
  go_loopw [6, 7, 9] (fun v u t wr => ∃ wl, wl = wr ∧ ∃ i : Nat, i ≤ n ∧ t = .int .i64 i ∧ v = .int .i64 (sumM (misV (toT ps) R) i) ∧ (∃ Al m cl, u = .slice Al m cl ∧ m ≤ i ∧ Hid (wl.ownsRow (nb + 2) 160 2 (.slice Al m cl) m (mss (listM (idQ ps) (misV (toT ps) R) i)))) ∧ Hid (GD w A A' n c n' c' nb R (pU (parV (toT ps) R) i) wl)) (fun _ _ t _ => n - (intOf t).toNat)
  case atStart => exact ⟨_, rfl, 0, Nat.zero_le _, rfl, rfl, ⟨none, 0, 0, rfl, Nat.le_refl _, Lib.hid (World.ownsRow_nil _ _ _ _)⟩, hG0⟩
  case round =>
    clear hG0
    obtain ⟨wr, rfl, i, hin', rfl, rfl, ⟨Al, m, cl, rfl, hmi, HOw⟩, hG⟩ := hrel
    obtain ⟨p0, p1⟩ := hG.out.cells
    by_cases hin : i < n
    · have hii : (i : Int) < (n : Int) := by omega
      have ii0 : (0 : Int) ≤ (i : Int) := by omega
      have ii10 : (i : Int) < 10 := by omega
      have hst0 := Lib.hid (show plus (feed (toT ps) (pU (parV (toT ps) R) i) i i) (R i 1) = stG (toT ps) R R (parV (toT ps) R) i 0 by
        rw [feed_congr i i (U' := (parV (toT ps) R)) (fun j hj _ => by unfold pU; rw [if_pos hj])]; rfl)
      have hsb0 := Lib.hid (stG_bd (U := R) (B := 120000000) (t := toT ps) (f := (parV (toT ps) R)) (i := i) (by
        have h1 := feed_bd (t := toT ps) (B := 10000000) (by decide) i i (fun j hj => hPbh.out j (by omega))
        have h2 := hRbh.out i hin 1 (by omega)
        unfold Bd at *
        simp only [plus]
        omega) (hRbh.out i hin))
      have hUb : ∀ j, j < i → Bd 10000000 (pU (parV (toT ps) R) i j) := fun j hj => by unfold pU; rw [if_pos hj]; exact hPbh.out j (by omega)
      have hcm := Lib.hid (comes_any A A' n c n' c' ps ws R _ i wr (HRd.out _ hG.out.bel) hvh.out hin (hRbh.out i hin 1 (by omega)) hUb)
      clear hUb
      go_wp2_with (first | refine wpList_load_row rfl 110 _ rfl nb rfl _ _ (0, 0) _ hG.out.b1 Tryd.underlying110 rfl (by rw [NV_size]; kernel_rfl) ?_ | refine wpList_load_row rfl 161 _ rfl (nb + 1) rfl _ _ (0, 0) _ hG.out.b4 Tryd.underlying161 rfl (by rw [PV_size]; kernel_rfl) ?_)
      refine hcm.out.mono ?_
      rintro e z4 ⟨rfl, hb⟩
      rw [hst0.out]
      have hG4 := hG.out.below hb
      have hO4 := ownR_below HOw.out hb
      clear hb p0 p1 hcm hst0
      obtain ⟨sb, hsbe⟩ : ∃ sb, sb = z4.heap.size := ⟨_, rfl⟩
      have hE0 : Hid (GE w A A' n c n' c' nb R (pU (parV (toT ps) R) i) (.slice Al m cl) m (mss (listM (idQ ps) (misV (toT ps) R) i)) sb (stG (toT ps) R R (parV (toT ps) R) i 0) (z4.alloc (.cells #[.int .i64 (stG (toT ps) R R (parV (toT ps) R) i 0).1, .int .i64 (stG (toT ps) R R (parV (toT ps) R) i 0).2] 44))) := by
        have hb := (Below.refl z4.heap.size z4).alloc (Nat.le_refl _) (.cells #[.int .i64 (stG (toT ps) R R (parV (toT ps) R) i 0).1, .int .i64 (stG (toT ps) R R (parV (toT ps) R) i 0).2] 44)
        refine Lib.hid ⟨hG4.below hb, ownR_below hO4 hb, by rw [hsbe]; exact heap_alloc_new z4 _, by rw [hsbe]; exact hG4.size, fun e => ?_⟩
        have := (ownR_lt hO4 e).2
        omega
      clear hG4 hO4 HOw hG
      go_wp2_with fail
      rw [← hsbe]
      clear hsbe
      generalize (z4.alloc (.cells #[.int .i64 (stG (toT ps) R R (parV (toT ps) R) i 0).1, .int .i64 (stG (toT ps) R R (parV (toT ps) R) i 0).2] 44)) = z5 at *
      go_loopw [11] (fun v wq => ∃ wl, wl = wq ∧ ∃ k : Nat, 2 ≤ k ∧ k ≤ 6 ∧ v = .int .i64 k ∧ Hid (GE w A A' n c n' c' nb R (pU (parV (toT ps) R) i) (.slice Al m cl) m (mss (listM (idQ ps) (misV (toT ps) R) i)) sb (stG (toT ps) R R (parV (toT ps) R) i (k - 2)) wl)) (fun v _ => 6 - (intOf v).toNat)
      case atStart => exact ⟨_, rfl, 2, by omega, by omega, rfl, hE0⟩
      case round =>
        clear hE0
        obtain ⟨wl, rfl, k, hk2, hk6, rfl, hE⟩ := hrel
        by_cases hk5 : k ≤ 5
        · have hkk : (k : Int) ≤ 5 := by omega
          have hk7 : (k : Int) < 7 := by omega
          have hk0 : (0 : Int) ≤ (k : Int) := by omega
          obtain ⟨r0, r1, -, -⟩ := hE.out.gd.b1.at_ (i := i) (k := k) (by omega) (by omega)
          obtain ⟨q0, q1, g0, g1⟩ := two_facts hE.out.bx
          have hbs := hsb0.out (k - 2) (by omega)
          have hbr := hRbh.out i hin k (by omega)
          have hstep := Lib.hid (show stG (toT ps) R R (parV (toT ps) R) i (k + 1 - 2) = minus (stG (toT ps) R R (parV (toT ps) R) i (k - 2)) (R i k) by
            obtain ⟨k', rfl⟩ : ∃ k', k = k' + 2 := ⟨k - 2, by omega⟩
            rfl)
          have hk4 : (((k - 2 : Nat)) : Int) ≤ 4 := by omega
          generalize hs_ : stG (toT ps) R R (parV (toT ps) R) i (k - 2) = s at *
          generalize hr_ : R i k = r at *
          clear hs_ hr_
          obtain ⟨mm, hm_⟩ : ∃ mm, mm = minus s r := ⟨_, rfl⟩
          have e1 : IntKind.i64.wrap (s.1 - r.2) = mm.1 := by rw [hm_, IntWalk.i64_in _ (by unfold Bd at hbs hbr; omega)]; rfl
          have e2 : IntKind.i64.wrap (s.2 - r.1) = mm.2 := by rw [hm_, IntWalk.i64_in _ (by unfold Bd at hbs hbr; omega)]; rfl
          rw [← hm_] at hstep
          clear hm_ hbs hbr
          go_wp2_with fail
          go_still_tail 19, (by kernel_rfl)
          change wpList _ _ _ _ _ wl.drew
          have hEd := Lib.hid (hE.out.below (Below.refl _ _).drew)
          clear hE q0 q1 g0 g1 r0 r1 e1 e2
          generalize wl.drew = wd at *
          obtain ⟨q0, q1, g0, g1⟩ := two_facts hEd.out.bx
          have hEn := Lib.hid (hEd.out.setS mm)
          clear hEd
          go_wp2
          go_roundw
          case rel => exact ⟨_, rfl, k + 1, by omega, by omega, by go_num, by rw [hstep.out]; exact hEn⟩
          case measure => simp [intOf]; omega
        · obtain rfl : k = 6 := by omega
          rw [show ((6 : Nat) : Int) = 6 from rfl]
          have hEc : Hid (GE w A A' n c n' c' nb R (pU (parV (toT ps) R) i) (.slice Al m cl) m (mss (listM (idQ ps) (misV (toT ps) R) i)) sb (canS (toT ps) R (parV (toT ps) R) i) wl) := Lib.hid (by rw [← stG_can]; exact hE.out)
          have hbc := hsb0.out 4 (by omega)
          rw [stG_can] at hbc
          have hbo := hRbh.out i hin 6 (by omega)
          have hno := hNeh.out i hin 6 (by omega) (by omega)
          have hmis : (misV (toT ps) R) i = misR (canS (toT ps) R (parV (toT ps) R) i) (R i 6) := rfl
          have hpar := parV_eq (toT ps) R i
          have hmb : -(12000000000 : Int) ≤ sumM (misV (toT ps) R) i ∧ sumM (misV (toT ps) R) i ≤ 12000000000 := by have h1 := sumM_bd (m := i) (B := 200000000) (f := (misV (toT ps) R)) (fun j hj => hmvb.out j (by omega)); omega
          have hsumn := sumM_next (misV (toT ps) R) i
          have hly := fun h => listM_yes (ids := idQ ps) (m := (misV (toT ps) R)) (i := i) h
          have hln := fun h => listM_no (ids := idQ ps) (m := (misV (toT ps) R)) (i := i) h
          clear hE
          obtain ⟨r0, r1, -, -⟩ := hEc.out.gd.b1.at_ (i := i) (k := 6) (by omega) (by omega)
          obtain ⟨q0, q1, g0, g1⟩ := two_facts hEc.out.bx
          generalize hc_ : canS (toT ps) R (parV (toT ps) R) i = c_ at *
          clear hc_
          generalize ho_ : R i 6 = o at *
          have hoh := Lib.hid ho_
          clear ho_
          by_cases hA : c_.2 < o.1
          · have hcmp : ¬ (o.2 < o.1) := by unfold Ne at hno; omega
            have hcd : decide (o.2 < o.1) = false := decide_eq_false hcmp
            obtain ⟨mv, hmv⟩ : ∃ x, x = (c_.2 - o.1) := ⟨_, rfl⟩
            have hmz : misR c_ o = mv := by rw [hmv]; unfold misR mR1 cR1; rw [if_pos hA, if_pos hA, if_neg (by simpa using hcmp)]
            have hPV := Lib.hid (show (parV (toT ps) R) i = (o.1, o.1) by rw [hpar]; unfold parR cR2 cR1 both; rw [if_pos hA, if_neg (by simpa using hcmp)]; simp only; unfold Ne at hno; congr 1 <;> omega)
            have hmvn : mv ≠ 0 := by omega
            have hmnb : (mv != 0) = true := by simpa using hmvn
            have hmvb : -200000000 ≤ mv ∧ mv ≤ 200000000 := by unfold Bd at hbc hbo; omega
            have em : IntKind.i64.wrap (c_.2 - o.1) = mv := by rw [hmv, IntWalk.i64_in _ (by omega)]
            rw [hmis, hmz] at hsumn hly
            obtain ⟨av, hav⟩ : ∃ x, x = max mv (-mv) := ⟨_, rfl⟩
            have hma : (if mv < -mv then -mv else mv) = av := by rw [hav]; exact mxx_if _ _
            rw [← hav] at hsumn
            have havb : 0 ≤ av ∧ av ≤ 200000000 := by omega
            have hsum := Lib.hid hsumn
            have hlst := Lib.hid (hly hmvn)
            clear hsumn hly hln hmis hpar hmz hmv hmvn hav hno hbc hbo
            generalize hSV : sumM (misV (toT ps) R) i = SV at *
            clear hSV
            have hAd : decide (c_.2 < o.1) = true := decide_eq_true hA
            have hE := hEc
            clear hEc
            go_wp2_with fail
            go_quiet (fail)
            rename_i nq
            have hEq := Lib.hid (hE.out.below (below_drewN (Below.refl _ _) nq))
            clear hE q0 q1 r0 r1 g0 g1
            obtain ⟨r0, r1, -, -⟩ := hEq.out.gd.b1.at_ (i := i) (k := 6) (by omega) (by omega)
            rw [hoh.out] at r0 r1
            obtain ⟨q0, q1, g0, g1⟩ := two_facts hEq.out.bx
            generalize wl.drewN nq = wq at *
            obtain ⟨we, hwe⟩ : ∃ we, we = wq := ⟨_, rfl⟩
            rw [← hwe] at hEq r0 r1 q0 q1 g0 g1
            rw [← hwe]
            clear hwe
            have hE := hEq
            clear hEq
            go_wp2_with fail
            go_quiet (fail)
            rename_i nq
            have hEq := Lib.hid (hE.out.below (below_drewN (Below.refl _ _) nq))
            clear hE q0 q1 r0 r1 g0 g1
            obtain ⟨r0, r1, -, -⟩ := hEq.out.gd.b1.at_ (i := i) (k := 6) (by omega) (by omega)
            rw [hoh.out] at r0 r1
            obtain ⟨q0, q1, g0, g1⟩ := two_facts hEq.out.bx
            generalize we.drewN nq = wq at *
            obtain ⟨we, hwe⟩ : ∃ we, we = wq := ⟨_, rfl⟩
            rw [← hwe] at hEq r0 r1 q0 q1 g0 g1
            rw [← hwe]
            clear hwe
            have hE := hEq
            clear hEq
            go_wp2_with fail
            go_still_tail 11, (by kernel_rfl)
            change wpList _ _ _ _ _ we.drew
            have hEd := Lib.hid (hE.out.below (Below.refl _ _).drew)
            clear hE q0 q1 g0 g1 r0 r1
            generalize we.drew = wd at *
            obtain ⟨q0, q1, g0, g1⟩ := two_facts hEd.out.bx
            have hEs := Lib.hid (hEd.out.setS (o.1, o.1))
            obtain ⟨we, hwe⟩ : ∃ we, we = (wd.setCell ⟨sb, 0, none⟩ (.int .i64 o.1)).setCell ⟨sb, 1, none⟩ (.int .i64 o.1) := ⟨_, rfl⟩
            have hE : Hid (GE w A A' n c n' c' nb R (pU (parV (toT ps) R) i) (.slice Al m cl) m (mss (listM (idQ ps) (misV (toT ps) R) i)) sb (o.1, o.1) we) := by rw [hwe]; exact hEs
            have hweh := Lib.hid hwe
            clear hwe hEs hEd
            go_wp2_with fail
            rw [← hweh.out]
            clear hweh q0 q1 g0 g1
            obtain ⟨r0, r1, -, -⟩ := hE.out.gd.b1.at_ (i := i) (k := 6) (by omega) (by omega)
            rw [hoh.out] at r0 r1
            obtain ⟨q0, q1, g0, g1⟩ := two_facts hE.out.bx
            go_quiet (fail)
            rename_i nq
            have hEq := Lib.hid (hE.out.below (below_drewN (Below.refl _ _) nq))
            clear hE q0 q1 r0 r1 g0 g1
            obtain ⟨r0, r1, -, -⟩ := hEq.out.gd.b1.at_ (i := i) (k := 6) (by omega) (by omega)
            rw [hoh.out] at r0 r1
            obtain ⟨q0, q1, g0, g1⟩ := two_facts hEq.out.bx
            generalize we.drewN nq = wq at *
            obtain ⟨we, hwe⟩ : ∃ we, we = wq := ⟨_, rfl⟩
            rw [← hwe] at hEq r0 r1 q0 q1 g0 g1
            rw [← hwe]
            clear hwe
            have hE := hEq
            clear hEq
            go_wp2_with fail
            have hpi := hPV
            go_still_tail 18, (by kernel_rfl)
            change wpList _ _ _ _ _ we.drew
            have hEd := Lib.hid (hE.out.below (Below.refl _ _).drew)
            clear hE q0 q1 g0 g1 r0 r1
            generalize we.drew = wd at *
            obtain ⟨a0, a1, f0, f1⟩ := hEd.out.gd.b4.at_ (k := i) (by omega)
            have hEp := Lib.hid (hEd.out.put (i := i) (by omega) (o.1, o.1))
            have hEz : Hid (GE w A A' n c n' c' nb R (fun a => if a = i then (o.1, o.1) else pU (parV (toT ps) R) i a) (.slice Al m cl) m (mss (listM (idQ ps) (misV (toT ps) R) i)) sb (o.1, o.1) ((wd.setCell ⟨nb + 1, i * 2, none⟩ (.int .i64 o.1)).setCell ⟨nb + 1, i * 2 + 1, none⟩ (.int .i64 o.1))) := hEp
            obtain ⟨p0, -, -, -⟩ := two_facts hEz.out.gd.b0
            obtain ⟨bp, op, I, D, P_, T_, rfl, hbp, hx, y0, y1, y2, y3⟩ := (HRd.out _ hEz.out.gd.bel).pg hin
            have hI : Hid (idQ ps i = I) := by show _ = _; unfold idQ; rw [hx]
            have hszw : wd.heap.size = (((wd.setCell ⟨nb + 1, i * 2, none⟩ (.int .i64 o.1)).setCell ⟨nb + 1, i * 2 + 1, none⟩ (.int .i64 o.1))).heap.size := by simp
            have hL := heap_alloc_new ((wd.setCell ⟨nb + 1, i * 2, none⟩ (.int .i64 o.1)).setCell ⟨nb + 1, i * 2 + 1, none⟩ (.int .i64 o.1)) (.cells #[.int .i64 I, .int .i64 mv] 160)
            have hbA := (Below.refl (((wd.setCell ⟨nb + 1, i * 2, none⟩ (.int .i64 o.1)).setCell ⟨nb + 1, i * 2 + 1, none⟩ (.int .i64 o.1))).heap.size ((wd.setCell ⟨nb + 1, i * 2, none⟩ (.int .i64 o.1)).setCell ⟨nb + 1, i * 2 + 1, none⟩ (.int .i64 o.1))).alloc (Nat.le_refl _) (.cells #[.int .i64 I, .int .i64 mv] 160)
            have hEa := Lib.hid (hEz.out.below hbA)
            have HL := Lib.hid (rd_two hL)
            rw [← hszw] at HL
            have hszz : nb + 2 ≤ wd.heap.size := hEd.out.gd.size
            clear hx y1 y2 y3 hbp hL hbA hEz hEp hEd hszw
            go_wp2_with (first
              | (at_builtin; refine wpList_app _ rfl _ _ 89 rfl (nb + 2) 160 i0 _ 2 16 Tryd.underlying89 hi0 hz0 hz1 hz2 rfl (by decide) (.slice Al m cl) m (mss (listM (idQ ps) (misV (toT ps) R) i)) rfl hEa.out.own _ (some ⟨wd.heap.size, 0, none⟩) 1 1 (spc (I, mv)) rfl HL.out (spc_one _) ?c3 ?c4 ?c5 ?_))
            case c3 => unfold maxLen; omega
            case c4 => omega
            case c5 => first | omega | (simp <;> omega)
            intro v' z4 hown hgr hatv
            have hGn := Lib.hid (GD.next (hEa.out.gd.grew hgr (fun q hq => (ownR_lt hEa.out.own hq).1)) hpi.out)
            have hOn := Lib.hid (show World.ownsRow z4 (nb + 2) 160 2 v' (m + 1) (mss (listM (idQ ps) (misV (toT ps) R) (i + 1))) by rw [hlst.out, hI.out, mss_snoc]; exact hown)
            clear hown hgr hatv HL hEa p0 y0 a0 a1 f0 f1
            obtain ⟨A4, c4, rfl⟩ := ownR_val hOn.out
            go_wp2
            go_roundw
            case rel => exact ⟨_, rfl, i + 1, by omega, by go_num, by rw [hsum.out], ⟨A4, m + 1, c4, rfl, by omega, hOn⟩, hGn⟩
            case measure => simp [intOf]; omega
          · by_cases hB : o.2 < c_.1
            · have hcmp : ¬ (o.2 < o.1) := by unfold Ne at hno; omega
              have hcd : decide (o.2 < o.1) = false := decide_eq_false hcmp
              obtain ⟨mv, hmv⟩ : ∃ x, x = (c_.1 - o.2) := ⟨_, rfl⟩
              have hmz : misR c_ o = mv := by rw [hmv]; unfold misR mR1 cR1; rw [if_neg hA, if_neg hA, if_pos hB]
              have hPV := Lib.hid (show (parV (toT ps) R) i = (o.2, o.2) by rw [hpar]; unfold parR cR2 cR1 both; rw [if_neg hA, if_pos hB]; simp only; unfold Ne at hno; congr 1 <;> omega)
              have hmvn : mv ≠ 0 := by omega
              have hmnb : (mv != 0) = true := by simpa using hmvn
              have hmvb : -200000000 ≤ mv ∧ mv ≤ 200000000 := by unfold Bd at hbc hbo; omega
              have em : IntKind.i64.wrap (c_.1 - o.2) = mv := by rw [hmv, IntWalk.i64_in _ (by omega)]
              rw [hmis, hmz] at hsumn hly
              obtain ⟨av, hav⟩ : ∃ x, x = max mv (-mv) := ⟨_, rfl⟩
              have hma : (if mv < -mv then -mv else mv) = av := by rw [hav]; exact mxx_if _ _
              rw [← hav] at hsumn
              have havb : 0 ≤ av ∧ av ≤ 200000000 := by omega
              have hsum := Lib.hid hsumn
              have hlst := Lib.hid (hly hmvn)
              clear hsumn hly hln hmis hpar hmz hmv hmvn hav hno hbc hbo
              generalize hSV : sumM (misV (toT ps) R) i = SV at *
              clear hSV
              have hAd : decide (c_.2 < o.1) = false := decide_eq_false hA
              have hBd : decide (o.2 < c_.1) = true := decide_eq_true hB
              have hE := hEc
              clear hEc
              go_wp2_with fail
              go_quiet (fail)
              rename_i nq
              have hEq := Lib.hid (hE.out.below (below_drewN (Below.refl _ _) nq))
              clear hE q0 q1 r0 r1 g0 g1
              obtain ⟨r0, r1, -, -⟩ := hEq.out.gd.b1.at_ (i := i) (k := 6) (by omega) (by omega)
              rw [hoh.out] at r0 r1
              obtain ⟨q0, q1, g0, g1⟩ := two_facts hEq.out.bx
              generalize wl.drewN nq = wq at *
              obtain ⟨we, hwe⟩ : ∃ we, we = wq := ⟨_, rfl⟩
              rw [← hwe] at hEq r0 r1 q0 q1 g0 g1
              rw [← hwe]
              clear hwe
              have hE := hEq
              clear hEq
              go_wp2_with fail
              go_quiet (fail)
              rename_i nq
              have hEq := Lib.hid (hE.out.below (below_drewN (Below.refl _ _) nq))
              clear hE q0 q1 r0 r1 g0 g1
              obtain ⟨r0, r1, -, -⟩ := hEq.out.gd.b1.at_ (i := i) (k := 6) (by omega) (by omega)
              rw [hoh.out] at r0 r1
              obtain ⟨q0, q1, g0, g1⟩ := two_facts hEq.out.bx
              generalize we.drewN nq = wq at *
              obtain ⟨we, hwe⟩ : ∃ we, we = wq := ⟨_, rfl⟩
              rw [← hwe] at hEq r0 r1 q0 q1 g0 g1
              rw [← hwe]
              clear hwe
              have hE := hEq
              clear hEq
              go_wp2_with fail
              go_quiet (fail)
              rename_i nq
              have hEq := Lib.hid (hE.out.below (below_drewN (Below.refl _ _) nq))
              clear hE q0 q1 r0 r1 g0 g1
              obtain ⟨r0, r1, -, -⟩ := hEq.out.gd.b1.at_ (i := i) (k := 6) (by omega) (by omega)
              rw [hoh.out] at r0 r1
              obtain ⟨q0, q1, g0, g1⟩ := two_facts hEq.out.bx
              generalize we.drewN nq = wq at *
              obtain ⟨we, hwe⟩ : ∃ we, we = wq := ⟨_, rfl⟩
              rw [← hwe] at hEq r0 r1 q0 q1 g0 g1
              rw [← hwe]
              clear hwe
              have hE := hEq
              clear hEq
              go_wp2_with fail
              go_still_tail 11, (by kernel_rfl)
              change wpList _ _ _ _ _ we.drew
              have hEd := Lib.hid (hE.out.below (Below.refl _ _).drew)
              clear hE q0 q1 g0 g1 r0 r1
              generalize we.drew = wd at *
              obtain ⟨q0, q1, g0, g1⟩ := two_facts hEd.out.bx
              have hEs := Lib.hid (hEd.out.setS (o.2, o.2))
              obtain ⟨we, hwe⟩ : ∃ we, we = (wd.setCell ⟨sb, 0, none⟩ (.int .i64 o.2)).setCell ⟨sb, 1, none⟩ (.int .i64 o.2) := ⟨_, rfl⟩
              have hE : Hid (GE w A A' n c n' c' nb R (pU (parV (toT ps) R) i) (.slice Al m cl) m (mss (listM (idQ ps) (misV (toT ps) R) i)) sb (o.2, o.2) we) := by rw [hwe]; exact hEs
              have hweh := Lib.hid hwe
              clear hwe hEs hEd
              go_wp2_with fail
              rw [← hweh.out]
              clear hweh q0 q1 g0 g1
              obtain ⟨r0, r1, -, -⟩ := hE.out.gd.b1.at_ (i := i) (k := 6) (by omega) (by omega)
              rw [hoh.out] at r0 r1
              obtain ⟨q0, q1, g0, g1⟩ := two_facts hE.out.bx
              have hpi := hPV
              go_still_tail 18, (by kernel_rfl)
              change wpList _ _ _ _ _ we.drew
              have hEd := Lib.hid (hE.out.below (Below.refl _ _).drew)
              clear hE q0 q1 g0 g1 r0 r1
              generalize we.drew = wd at *
              obtain ⟨a0, a1, f0, f1⟩ := hEd.out.gd.b4.at_ (k := i) (by omega)
              have hEp := Lib.hid (hEd.out.put (i := i) (by omega) (o.2, o.2))
              have hEz : Hid (GE w A A' n c n' c' nb R (fun a => if a = i then (o.2, o.2) else pU (parV (toT ps) R) i a) (.slice Al m cl) m (mss (listM (idQ ps) (misV (toT ps) R) i)) sb (o.2, o.2) ((wd.setCell ⟨nb + 1, i * 2, none⟩ (.int .i64 o.2)).setCell ⟨nb + 1, i * 2 + 1, none⟩ (.int .i64 o.2))) := hEp
              obtain ⟨p0, -, -, -⟩ := two_facts hEz.out.gd.b0
              obtain ⟨bp, op, I, D, P_, T_, rfl, hbp, hx, y0, y1, y2, y3⟩ := (HRd.out _ hEz.out.gd.bel).pg hin
              have hI : Hid (idQ ps i = I) := by show _ = _; unfold idQ; rw [hx]
              have hszw : wd.heap.size = (((wd.setCell ⟨nb + 1, i * 2, none⟩ (.int .i64 o.2)).setCell ⟨nb + 1, i * 2 + 1, none⟩ (.int .i64 o.2))).heap.size := by simp
              have hL := heap_alloc_new ((wd.setCell ⟨nb + 1, i * 2, none⟩ (.int .i64 o.2)).setCell ⟨nb + 1, i * 2 + 1, none⟩ (.int .i64 o.2)) (.cells #[.int .i64 I, .int .i64 mv] 160)
              have hbA := (Below.refl (((wd.setCell ⟨nb + 1, i * 2, none⟩ (.int .i64 o.2)).setCell ⟨nb + 1, i * 2 + 1, none⟩ (.int .i64 o.2))).heap.size ((wd.setCell ⟨nb + 1, i * 2, none⟩ (.int .i64 o.2)).setCell ⟨nb + 1, i * 2 + 1, none⟩ (.int .i64 o.2))).alloc (Nat.le_refl _) (.cells #[.int .i64 I, .int .i64 mv] 160)
              have hEa := Lib.hid (hEz.out.below hbA)
              have HL := Lib.hid (rd_two hL)
              rw [← hszw] at HL
              have hszz : nb + 2 ≤ wd.heap.size := hEd.out.gd.size
              clear hx y1 y2 y3 hbp hL hbA hEz hEp hEd hszw
              go_wp2_with (first
                | (at_builtin; refine wpList_app _ rfl _ _ 89 rfl (nb + 2) 160 i0 _ 2 16 Tryd.underlying89 hi0 hz0 hz1 hz2 rfl (by decide) (.slice Al m cl) m (mss (listM (idQ ps) (misV (toT ps) R) i)) rfl hEa.out.own _ (some ⟨wd.heap.size, 0, none⟩) 1 1 (spc (I, mv)) rfl HL.out (spc_one _) ?c3 ?c4 ?c5 ?_))
              case c3 => unfold maxLen; omega
              case c4 => omega
              case c5 => first | omega | (simp <;> omega)
              intro v' z4 hown hgr hatv
              have hGn := Lib.hid (GD.next (hEa.out.gd.grew hgr (fun q hq => (ownR_lt hEa.out.own hq).1)) hpi.out)
              have hOn := Lib.hid (show World.ownsRow z4 (nb + 2) 160 2 v' (m + 1) (mss (listM (idQ ps) (misV (toT ps) R) (i + 1))) by rw [hlst.out, hI.out, mss_snoc]; exact hown)
              clear hown hgr hatv HL hEa p0 y0 a0 a1 f0 f1
              obtain ⟨A4, c4, rfl⟩ := ownR_val hOn.out
              go_wp2
              go_roundw
              case rel => exact ⟨_, rfl, i + 1, by omega, by go_num, by rw [hsum.out], ⟨A4, m + 1, c4, rfl, by omega, hOn⟩, hGn⟩
              case measure => simp [intOf]; omega
            · have hmz : misR c_ o = 0 := by unfold misR mR1 cR1; rw [if_neg hA, if_neg hA, if_neg hB]
              have hPV := Lib.hid (show (parV (toT ps) R) i = both c_ o by rw [hpar]; unfold parR cR2 cR1; rw [if_neg hA, if_neg hB])
              rw [hmis, hmz] at hsumn hln
              have hsum := Lib.hid (show sumM (misV (toT ps) R) (i + 1) = sumM (misV (toT ps) R) i by rw [hsumn]; omega)
              have hlst := Lib.hid (hln rfl)
              have hAd : decide (c_.2 < o.1) = false := decide_eq_false hA
              have hBd : decide (o.2 < c_.1) = false := decide_eq_false hB
              clear hsumn hly hln hmis hpar hmz hno hbc hbo
              generalize hSV : sumM (misV (toT ps) R) i = SV at *
              clear hSV
              have hE := hEc
              clear hEc
              go_wp2_with fail
              go_quiet (fail)
              rename_i nq
              have hEq := Lib.hid (hE.out.below (below_drewN (Below.refl _ _) nq))
              clear hE q0 q1 r0 r1 g0 g1
              obtain ⟨r0, r1, -, -⟩ := hEq.out.gd.b1.at_ (i := i) (k := 6) (by omega) (by omega)
              rw [hoh.out] at r0 r1
              obtain ⟨q0, q1, g0, g1⟩ := two_facts hEq.out.bx
              generalize wl.drewN nq = wq at *
              obtain ⟨we, hwe⟩ : ∃ we, we = wq := ⟨_, rfl⟩
              rw [← hwe] at hEq r0 r1 q0 q1 g0 g1
              rw [← hwe]
              clear hwe
              have hE := hEq
              clear hEq
              go_wp2_with fail
              go_quiet (fail)
              rename_i nq
              have hEq := Lib.hid (hE.out.below (below_drewN (Below.refl _ _) nq))
              clear hE q0 q1 r0 r1 g0 g1
              obtain ⟨r0, r1, -, -⟩ := hEq.out.gd.b1.at_ (i := i) (k := 6) (by omega) (by omega)
              rw [hoh.out] at r0 r1
              obtain ⟨q0, q1, g0, g1⟩ := two_facts hEq.out.bx
              generalize we.drewN nq = wq at *
              obtain ⟨we, hwe⟩ : ∃ we, we = wq := ⟨_, rfl⟩
              rw [← hwe] at hEq r0 r1 q0 q1 g0 g1
              rw [← hwe]
              clear hwe
              have hE := hEq
              clear hEq
              go_wp2_with fail
              obtain ⟨u, hu_⟩ : ∃ u, u = both c_ o := ⟨_, rfl⟩
              have hm1 : (if c_.1 < o.1 then o.1 else c_.1) = u.1 := by rw [mx_if, hu_]; rfl
              have hm2 : (if o.2 < c_.2 then o.2 else c_.2) = u.2 := by rw [mn_if, hu_]; rfl
              have hpi := Lib.hid (hPV.out.trans hu_.symm)
              clear hu_
              go_still_tail 18, (by kernel_rfl)
              change wpList _ _ _ _ _ we.drew
              have hEd := Lib.hid (hE.out.below (Below.refl _ _).drew)
              clear hE q0 q1 g0 g1 r0 r1
              generalize we.drew = wd at *
              obtain ⟨a0, a1, f0, f1⟩ := hEd.out.gd.b4.at_ (k := i) (by omega)
              have hEp := Lib.hid (hEd.out.put (i := i) (by omega) u)
              have hGn := Lib.hid (GD.next hEp.out.gd hpi.out)
              have hOn := Lib.hid (show World.ownsRow _ (nb + 2) 160 2 (.slice Al m cl) m (mss (listM (idQ ps) (misV (toT ps) R) (i + 1))) by rw [hlst.out]; exact hEp.out.own)
              clear hEd hEp
              go_wp2
              go_roundw
              case rel => exact ⟨_, rfl, i + 1, by omega, by go_num, by rw [hsum.out], ⟨Al, m, cl, rfl, by omega, hOn⟩, hGn⟩
              case measure => simp [intOf]; omega
    · obtain rfl : i = n := by omega
      have hii : ¬ (i : Int) < (i : Int) := by omega
      have hrd := Lib.hid (Reads.of_own HOw.out)
      clear HOw
      go_wp2
      refine bodyPost_ret (v := .tuple #[.int .i64 (sumM (misV (toT ps) R) i), .slice Al m cl, .int .i64 0]) (by simp [results, Tryd.results47, go_sem]) rfl ?_
      have hfin : (∃ A1 m_ c1, Ending.returned (.tuple #[.int .i64 (sumM (misV (toT ps) R) i), .slice Al m cl, .int .i64 0]) = .returned (.tuple #[.int .i64 (gonS ps ws), .slice A1 m_ c1, .int .i64 (gonE ps ws)]) ∧ m_ ≤ 10 ∧ Reads wr wr.heap.size 2 A1 m_ (mss (gonL ps ws))) ∧ Below w.heap.size w wr := ⟨⟨Al, m, cl, by rw [hs.out, hs2.out.1], by omega, by rw [hs2.out.2]; exact hrd.out⟩, hG.out.bel⟩
      first | exact hfin | simpa using hfin
end Go.Proofs.YtoakeclpakjbiaaDoor
