/-
  The walk of the program's order of lists, and of the first one of the shortest.
-/
import Derived.Test.YtoakeclpakjbiaaDoorTrP
namespace Go.Proofs.YtoakeclpakjbiaaDoor
open Go.RowKit
set_option linter.unusedVariables false
set_option linter.unusedSimpArgs false
def cmpJ (x y : Int) : Int := if x < y then -1 else if y < x then 1 else 0
theorem nanJ_any (x : Int) (w : World) : Calls Tryd.prog 117 #[.int .i64 x] w fun e w' => e = .returned (.bool false) ∧ w = w' := by
  go_enter Tryd.func117, Tryd.ntmps117
  go_wp2
  go_ret
  exact ⟨ret_bool (by simp), rfl⟩
theorem compareJ_any (x y : Int) (w : World) : Calls Tryd.prog 81 #[.int .i64 x, .int .i64 y] w fun e w' => e = .returned (.int .i64 (cmpJ x y)) ∧ w = w' := by
  by_cases h1 : x < y
  · have hr : Hid (cmpJ x y = -1) := by show _ = _; unfold cmpJ; rw [if_pos h1]
    go_enter Tryd.func81, Tryd.ntmps81
    go_wp2_with (first | (go_at_call 117; refine (nanJ_any _ _).mono ?_; rintro e w' ⟨rfl, rfl⟩) | fail)
    go_ret
    exact ⟨ret_int hr.out.symm, rfl⟩
  · by_cases h2 : y < x
    · have hr : Hid (cmpJ x y = 1) := by show _ = _; unfold cmpJ; rw [if_neg h1, if_pos h2]
      go_enter Tryd.func81, Tryd.ntmps81
      go_wp2_with (first | (go_at_call 117; refine (nanJ_any _ _).mono ?_; rintro e w' ⟨rfl, rfl⟩) | fail)
      go_ret
      exact ⟨ret_int hr.out.symm, rfl⟩
    · have hr : Hid (cmpJ x y = 0) := by show _ = _; unfold cmpJ; rw [if_neg h1, if_neg h2]
      go_enter Tryd.func81, Tryd.ntmps81
      go_wp2_with (first | (go_at_call 117; refine (nanJ_any _ _).mono ?_; rintro e w' ⟨rfl, rfl⟩) | fail)
      go_ret
      exact ⟨ret_int hr.out.symm, rfl⟩
def cmL : List Int → List Int → Int
  | [], [] => 0
  | [], _ :: _ => -1
  | _ :: _, [] => 1
  | x :: a, y :: b => if x = y then cmL a b else cmpJ x y
def orS (x y : Int) : Int := if x = 0 then y else x
def shI (a b : List Int) : Int := orS (cmpJ a.length b.length) (cmL a b)
theorem cmL_lex : ∀ (a b : List Int), a.length = b.length → decide (cmL a b < 0) = lexB a b
  | [], [], _ => rfl
  | x :: a, y :: b, h => by
    unfold cmL lexB
    by_cases e : x = y
    · rw [if_pos e, if_pos e]; exact cmL_lex a b (by simpa using h)
    · rw [if_neg e, if_neg e]
      unfold cmpJ
      rw [Bool.eq_iff_iff]
      simp only [decide_eq_true_iff]
      split
      · constructor
        · intro _; assumption
        · intro _; decide
      · split
        · constructor
          · intro h; exact absurd h (by decide)
          · intro h; contradiction
        · omega
  | [], _ :: _, h => by simp at h
  | _ :: _, [], h => by simp at h
theorem shI_shB (a b : List Int) : decide (shI a b < 0) = shB a b := by
  unfold shI orS shB cmpJ
  by_cases e : a.length = b.length
  · rw [if_pos e, if_pos (by rw [e]; simp), cmL_lex a b e]
  · rw [if_neg e]
    by_cases h : a.length < b.length
    · rw [if_pos (by omega : (a.length : Int) < b.length), if_neg (by decide)]
      rw [Bool.eq_iff_iff]; simp [h]
    · rw [if_neg (by omega : ¬ (a.length : Int) < b.length), if_pos (by omega : (b.length : Int) < a.length), if_neg (by decide)]
      rw [Bool.eq_iff_iff]; simp [h]
theorem cmL_drop : ∀ (k : Nat) (a b : List Int), a.take k = b.take k → k ≤ a.length → k ≤ b.length → cmL a b = cmL (a.drop k) (b.drop k)
  | 0, _, _, _, _, _ => rfl
  | k + 1, x :: a, y :: b, h, h1, h2 => by
    simp only [List.take_succ_cons, List.cons.injEq] at h
    obtain ⟨rfl, h⟩ := h
    show (if x = x then _ else _) = _
    rw [if_pos rfl, List.drop_succ_cons, List.drop_succ_cons]
    exact cmL_drop k a b h (by simpa using h1) (by simpa using h2)
  | _ + 1, [], _, _, h, _ => by simp at h
  | _ + 1, _ :: _, [], _, _, h => by simp at h
theorem cmL_at {a b : List Int} {k : Nat} (h : a.take k = b.take k) {x y : Int} (hx : a[k]? = some x) (hy : b[k]? = some y) : cmL a b = if x = y then cmL (a.drop (k + 1)) (b.drop (k + 1)) else cmpJ x y := by
  have h1 := (List.getElem?_eq_some_iff.1 hx).1
  have h2 := (List.getElem?_eq_some_iff.1 hy).1
  rw [cmL_drop k a b h (by omega) (by omega), List.drop_eq_getElem_cons h1, List.drop_eq_getElem_cons h2]
  rw [List.getElem?_eq_getElem h1] at hx
  rw [List.getElem?_eq_getElem h2] at hy
  rw [Option.some.inj hx, Option.some.inj hy]
  rfl
theorem cmL_long {a b : List Int} {k : Nat} (h : a.take k = b.take k) (h1 : k < a.length) (h2 : k = b.length) : cmL a b = 1 := by
  rw [cmL_drop k a b h (by omega) (by omega), List.drop_eq_getElem_cons h1, List.drop_of_length_le (l := b) (i := k) (by omega)]
  rfl
theorem cmL_end {a b : List Int} (h : a = b.take a.length) (h2 : a.length ≤ b.length) : cmL a b = if a.length < b.length then -1 else 0 := by
  rw [cmL_drop a.length a b (by rw [List.take_of_length_le (Nat.le_refl _)]; exact h) (Nat.le_refl _) h2, List.drop_of_length_le (Nat.le_refl _)]
  by_cases e : a.length < b.length
  · rw [if_pos e, List.drop_eq_getElem_cons e]; rfl
  · rw [if_neg e, List.drop_of_length_le (by omega)]; rfl
set_option maxRecDepth 100000 in
theorem compareL_any (A A' : Option Addr) (n m c c' : Nat) (l l' : List Int) (w : World) (hn : n ≤ 100) (hm : m ≤ 100)
    (h : Reads w w.heap.size 1 A n (ints l)) (h' : Reads w w.heap.size 1 A' m (ints l')) :
    Calls Tryd.prog 125 #[.slice A n c, .slice A' m c'] w fun e w' => e = .returned (.int .i64 (cmL l l')) ∧ w = w' := by
  have hl : l.length = n := by simpa using h.len
  have hl' : l'.length = m := by simpa using h'.len
  have hC := Lib.hid (fun x y w => compareJ_any x y w)
  have hh := Lib.hid h
  have hh' := Lib.hid h'
  have hlh := Lib.hid hl
  have hlh' := Lib.hid hl'
  clear h h' hl hl'
  go_enter Tryd.func125, Tryd.ntmps125
  go_wp2
  go_loopw [11] (fun v wr => ∃ k : Nat, k ≤ n ∧ k ≤ m ∧ v = .int .i64 k ∧ Hid (l.take k = l'.take k) ∧ w = wr) (fun v _ => n - (intOf v).toNat)
  case atStart => exact ⟨0, by omega, by omega, rfl, Lib.hid rfl, rfl⟩
  case round =>
    obtain ⟨k, hk, hkm, rfl, ht, rfl⟩ := hrel
    by_cases hlt : k < n
    · have hki : (k : Int) < (n : Int) := by omega
      have k0 : (0 : Int) ≤ (k : Int) := by omega
      obtain ⟨b, o, rfl, hbb, hc⟩ := hh.out.int hlt
      by_cases hlm : k < m
      · have hkj : ¬ (m : Int) ≤ (k : Int) := by omega
        have hkj2 : (k : Int) < (m : Int) := by omega
        obtain ⟨b', o', rfl, hbb', hc'⟩ := hh'.out.int hlm
        have hlk : l[k]? = some (l[k]?.getD 0) := by rw [List.getElem?_eq_getElem (by have := hlh.out; omega)]; rfl
        have hlk' : l'[k]? = some (l'[k]?.getD 0) := by rw [List.getElem?_eq_getElem (by have := hlh'.out; omega)]; rfl
        have hat := cmL_at ht.out hlk hlk'
        have hnx := Lib.hid (fun (e : l[k]?.getD 0 = l'[k]?.getD 0) => (show l.take (k + 1) = l'.take (k + 1) by rw [List.take_add_one, List.take_add_one, ht.out, hlk, hlk', e]))
        clear hlk hlk'
        generalize l[k]?.getD 0 = x at *
        generalize l'[k]?.getD 0 = y at *
        by_cases he : x = y
        · have hz : cmpJ x y = 0 := by unfold cmpJ; rw [if_neg (by omega), if_neg (by omega)]
          have hCx := hC.out x y w
          rw [hz] at hCx
          have hCxh := Lib.hid hCx
          have hn1 := Lib.hid (hnx.out he)
          clear hat hnx he hz hCx ht
          go_wp2_with fail
          refine hCxh.out.mono ?_
          rintro e w' ⟨rfl, rfl⟩
          go_wp2
          go_roundw
          case rel => exact ⟨k + 1, by omega, by omega, by go_num, hn1, by simp⟩
          case measure => simp [intOf]; omega
        · have hz : cmpJ x y ≠ 0 := by unfold cmpJ; split <;> (try split) <;> omega
          rw [if_neg he] at hat
          have hath := Lib.hid hat
          have hCx := Lib.hid (hC.out x y w)
          clear hat hnx he ht
          generalize cmpJ x y = r at *
          have hzb : (r != 0) = true := by simpa using hz
          go_wp2_with fail
          refine hCx.out.mono ?_
          rintro e w' ⟨rfl, rfl⟩
          go_wp2
          go_ret
          exact ⟨by rw [hath.out]; rfl, rfl⟩
      · have hkj : (m : Int) ≤ (k : Int) := by omega
        have hr := Lib.hid (cmL_long ht.out (by have := hlh.out; omega) (by have := hlh'.out; omega))
        clear ht
        go_wp2
        go_ret
        exact ⟨by rw [hr.out]; rfl, rfl⟩
    · obtain rfl : k = n := by omega
      have hki : ¬ (k : Int) < (k : Int) := by omega
      have hr := cmL_end (a := l) (b := l') (by have := ht.out; rw [List.take_of_length_le (by have := hlh.out; omega)] at this; rw [hlh.out]; exact this) (by have := hlh.out; have := hlh'.out; omega)
      rw [hlh.out, hlh'.out] at hr
      by_cases hkm' : k < m
      · rw [if_pos hkm'] at hr
        have hrh := Lib.hid hr
        have hki2 : (k : Int) < (m : Int) := by omega
        clear hr ht
        go_wp2
        go_ret
        exact ⟨by rw [hrh.out]; rfl, rfl⟩
      · rw [if_neg hkm'] at hr
        have hrh := Lib.hid hr
        have hki2 : ¬ (k : Int) < (m : Int) := by omega
        clear hr ht
        go_wp2
        go_ret
        exact ⟨by rw [hrh.out]; rfl, rfl⟩
set_option maxRecDepth 100000 in
theorem orJ_any (x y : Int) (g : Nat) (w : World) (h0 : w.cell? ⟨g, 0, none⟩ = some (.int .i64 x)) (h1 : w.cell? ⟨g, 1, none⟩ = some (.int .i64 y)) :
    Calls Tryd.prog 124 #[.slice (some ⟨g, 0, none⟩) 2 2] w fun e w' => e = .returned (.int .i64 (orS x y)) ∧ w = w' := by
  go_enter Tryd.func124, Tryd.ntmps124
  go_wp2
  go_loopw [8] (fun v wr => w = wr ∧ ∃ k : Nat, k ≤ 2 ∧ v = .int .i64 k ∧ (0 < k → x = 0) ∧ (1 < k → y = 0)) (fun v _ => 2 - (intOf v).toNat)
  case atStart => exact ⟨rfl, 0, by omega, rfl, fun h => absurd h (by omega), fun h => absurd h (by omega)⟩
  case round =>
    obtain ⟨rfl, k, hk, rfl, hx, hy⟩ := hrel
    rcases (by omega : k = 0 ∨ k = 1 ∨ k = 2) with rfl | rfl | rfl
    · rw [show ((0 : Nat) : Int) = 0 from rfl]
      clear hx hy
      by_cases e : x = 0
      · have eb : (x != 0) = false := by simpa using e
        have eh := Lib.hid e
        clear e
        go_wp2
        go_roundw
        case rel => exact ⟨by simp, 1, by omega, by go_num, fun _ => eh.out, fun h => absurd h (by omega)⟩
        case measure => simp [intOf]
      · have eb : (x != 0) = true := by simpa using e
        have eh := Lib.hid (show orS x y = x from if_neg e)
        clear e
        go_wp2
        go_ret
        exact ⟨by rw [eh.out]; rfl, rfl⟩
    · rw [show ((1 : Nat) : Int) = 1 from rfl]
      have hx0 := hx (by omega)
      have eh := Lib.hid (show orS x y = y from if_pos hx0)
      have hx0h := Lib.hid hx0
      clear hx hy hx0
      by_cases e : y = 0
      · have eb : (y != 0) = false := by simpa using e
        have e2 := Lib.hid e
        clear e
        go_wp2
        go_roundw
        case rel => exact ⟨by simp, 2, by omega, by go_num, fun _ => hx0h.out, fun _ => e2.out⟩
        case measure => simp [intOf]
      · have eb : (y != 0) = true := by simpa using e
        clear e
        go_wp2
        go_ret
        exact ⟨by rw [eh.out]; rfl, rfl⟩
    · rw [show ((2 : Nat) : Int) = 2 from rfl]
      have hx0 := hx (by omega)
      have hy0 := hy (by omega)
      have eh := Lib.hid (show orS x y = 0 by unfold orS; rw [if_pos hx0, hy0])
      clear hx hy hx0 hy0
      go_wp2
      go_ret
      exact ⟨by rw [eh.out]; rfl, rfl⟩
set_option maxRecDepth 100000 in
theorem shorterP_any (A A' : Option Addr) (n m c c' : Nat) (l l' : List Int) (w : World) (hn : n ≤ 100) (hm : m ≤ 100)
    (h : Reads w w.heap.size 1 A n (ints l)) (h' : Reads w w.heap.size 1 A' m (ints l')) :
    Calls Tryd.prog 92 #[.slice A n c, .slice A' m c'] w fun e w' => e = .returned (.int .i64 (shI l l')) ∧ Below w.heap.size w w' := by
  have hl : l.length = n := by simpa using h.len
  have hl' : l'.length = m := by simpa using h'.len
  have hC := Lib.hid (fun w => compareJ_any n m w)
  have hL := Lib.hid (compareL_any A A' n m c c' l l' w hn hm h h')
  have hsh := Lib.hid (show shI l l' = orS (cmpJ n m) (cmL l l') by unfold shI; rw [hl, hl'])
  clear h h' hl hl'
  generalize cmpJ n m = x at *
  generalize cmL l l' = y at *
  go_enter Tryd.func92, Tryd.ntmps92
  go_wp2_with fail
  refine (hC.out w).mono ?_
  rintro e w1 ⟨rfl, rfl⟩
  go_wp2_with fail
  refine hL.out.mono ?_
  rintro e w2 ⟨rfl, rfl⟩
  have hO := heap_alloc_new w (.cells #[.int .i64 x, .int .i64 y] 3)
  obtain ⟨o0, o1, -, -⟩ := two_facts hO
  have hor := Lib.hid (orJ_any x y w.heap.size (w.alloc (.cells #[.int .i64 x, .int .i64 y] 3)) o0 o1)
  clear hO o0 o1
  go_wp2_with fail
  refine hor.out.mono ?_
  rintro e w3 ⟨rfl, rfl⟩
  go_wp2
  go_ret
  exact ⟨by rw [hsh.out]; rfl, (Below.refl _ _).alloc (Nat.le_refl _) _⟩
/-- A list of lists reads so. -/
def RdL (w : World) (A : Option Addr) (n : Nat) (Ls : List (List Int)) : Prop :=
  ∃ vs : List Value, Reads w w.heap.size 1 A n vs ∧ Ls.length = n ∧ ∀ (j : Nat) (L : List Int), Ls[j]? = some L → ∃ (B : Option Addr) (m d : Nat), vs[j]? = some (Value.slice B m d) ∧ m ≤ 10 ∧ Reads w w.heap.size 1 B m (ints L)
theorem RdL.below {w w' : World} {A : Option Addr} {n : Nat} {Ls : List (List Int)} (h : RdL w A n Ls) (hb : Below w.heap.size w w') : RdL w' A n Ls := by
  obtain ⟨vs, h1, h2, h3⟩ := h
  refine ⟨vs, (h1.below hb).more hb.size, h2, fun j L hL => ?_⟩
  obtain ⟨B, m, d, e1, e2, e3⟩ := h3 j L hL
  exact ⟨B, m, d, e1, e2, (e3.below hb).more hb.size⟩
theorem RdL.at_ {w : World} {A : Option Addr} {n j : Nat} {Ls : List (List Int)} (h : RdL w A n Ls) (hj : j < n) : ∃ (b o : Nat) (B : Option Addr) (m d : Nat) (L : List Int), A = some ⟨b, o, none⟩ ∧ Ls[j]? = some L ∧ w.cell? ⟨b, o + j, none⟩ = some (.slice B m d) ∧ m ≤ 10 ∧ Reads w w.heap.size 1 B m (ints L) := by
  obtain ⟨vs, h1, h2, h3⟩ := h
  obtain ⟨b, o, u, e, hb, hu, hc⟩ := h1.at_ hj
  have hL := List.getElem?_eq_getElem (l := Ls) (i := j) (by omega)
  obtain ⟨B, m, d, e1, e2, e3⟩ := h3 j _ hL
  rw [hu] at e1
  rw [Option.some.inj e1] at hc
  exact ⟨b, o, B, m, d, _, e, hL, hc, e2, e3⟩
set_option maxRecDepth 100000 in
set_option maxHeartbeats 1000000 in
theorem minF_any (A : Option Addr) (n c : Nat) (M : List Int) (Ls : List (List Int)) (w : World) (hn : n ≤ 4096) (h : RdL w A n (M :: Ls)) (eg : ∀ args w, (callFunc 92 args).run Tryd.prog w = .ok (.enter 92 args) w) :
    Calls Tryd.prog 123 #[.slice A n c, .func (.func 92) #[] #[]] w fun e w' => (∃ B m d, e = .returned (.slice B m d) ∧ m ≤ 10 ∧ Reads w' w'.heap.size 1 B m (ints (minL M Ls))) ∧ Below w.heap.size w w' := by
  have hl : Ls.length + 1 = n := by obtain ⟨vs, h1, h2, h3⟩ := h; simpa using h2
  obtain ⟨b, o, B0, m0, d0, L0, rfl, hL0, hc0, hm0, hR0⟩ := h.at_ (j := 0) (by omega)
  simp at hL0
  subst hL0
  have hn1 : ¬ (n : Int) < 1 := by omega
  have hn0 : (0 : Int) < (n : Int) := by omega
  have hR0h := Lib.hid hR0
  have HR := Lib.hid (fun z (hz : Below w.heap.size w z) => h.below hz)
  have hlh := Lib.hid hl
  have c0 : w.cell? ⟨b, o, none⟩ = some (.slice B0 m0 d0) := by simpa using hc0
  clear h hR0 hl hc0
  go_enter Tryd.func123, Tryd.ntmps123
  go_wp2
  go_loopw [5, 6] (fun v u wr => ∃ wl, wl = wr ∧ ∃ k : Nat, 1 ≤ k ∧ k ≤ n ∧ u = .int .i64 k ∧ (∃ B m d X, v = .slice B m d ∧ m ≤ 10 ∧ Hid (Reads wl wl.heap.size 1 B m (ints X)) ∧ Hid (minL X (Ls.drop (k - 1)) = minL M Ls)) ∧ Hid (Below w.heap.size w wl)) (fun _ u _ => n - (intOf u).toNat)
  case atStart => exact ⟨_, rfl, 1, by omega, by omega, rfl, ⟨B0, m0, d0, _, rfl, hm0, hR0h, Lib.hid rfl⟩, Lib.hid (Below.refl _ _)⟩
  case round =>
    clear c0 hR0h
    obtain ⟨wq, rfl, k, hk1, hkn, rfl, ⟨B, m, d, X, rfl, hm, HX, hmin⟩, HB⟩ := hrel
    by_cases hlt : k < n
    · have hki : (k : Int) < (n : Int) := by omega
      have k0 : (0 : Int) ≤ (k : Int) := by omega
      obtain ⟨b', o', B1, m1, d1, L1, e, hL1, hc1, hm1, hR1⟩ := (HR.out _ HB.out).at_ hlt
      simp only [Option.some.injEq, Addr.mk.injEq, and_true] at e
      obtain ⟨rfl, rfl⟩ := e
      have hd : Ls.drop (k - 1) = L1 :: Ls.drop k := by
        obtain ⟨k', rfl⟩ : ∃ k', k = k' + 1 := ⟨k - 1, by omega⟩
        simp only [Nat.add_sub_cancel, List.getElem?_cons_succ] at hL1 ⊢
        have hlt' := (List.getElem?_eq_some_iff.1 hL1).1
        rw [List.drop_eq_getElem_cons hlt']
        rw [List.getElem?_eq_getElem hlt'] at hL1
        rw [Option.some.inj hL1]
      have hmin2 := hmin.out
      rw [hd] at hmin2
      have hst : minL (if shB L1 X = true then L1 else X) (Ls.drop k) = minL M Ls := hmin2
      have hcall := Lib.hid (shorterP_any B1 B m1 m d1 d L1 X wq (by omega) (by omega) hR1 HX.out)
      have hR1h := Lib.hid hR1
      have hsb := shI_shB L1 X
      clear hmin2 hd hmin hR1 hL1
      cases hs : shB L1 X
      · rw [hs] at hsb hst
        have hneg : ¬ shI L1 X < 0 := of_decide_eq_false hsb
        have hsth := Lib.hid (show minL X (Ls.drop (k + 1 - 1)) = minL M Ls by simpa using hst)
        clear hsb hst hs
        generalize shI L1 X = r at *
        go_wp2_with fail
        refine hcall.out.mono ?_
        rintro e wz ⟨rfl, hb⟩
        have HBz := Lib.hid (below_via HB.out HB.out.size hb)
        have HXz := Lib.hid ((HX.out.below hb).more hb.size)
        clear hb hcall
        go_wp2
        go_roundw
        case rel => exact ⟨_, rfl, k + 1, by omega, by omega, by go_num, ⟨B, m, d, X, rfl, hm, HXz, hsth⟩, HBz⟩
        case measure => simp [intOf]; omega
      · rw [hs] at hsb hst
        have hneg : shI L1 X < 0 := of_decide_eq_true hsb
        have hsth := Lib.hid (show minL L1 (Ls.drop (k + 1 - 1)) = minL M Ls by simpa using hst)
        clear hsb hst hs
        generalize shI L1 X = r at *
        go_wp2_with fail
        refine hcall.out.mono ?_
        rintro e wz ⟨rfl, hb⟩
        have HBz := Lib.hid (below_via HB.out HB.out.size hb)
        have HRz := Lib.hid ((hR1h.out.below hb).more hb.size)
        obtain ⟨b', o', B2, m2, d2, L2, e, -, hc2, -, -⟩ := (HR.out _ HBz.out).at_ hlt
        simp only [Option.some.injEq, Addr.mk.injEq, and_true] at e
        obtain ⟨rfl, rfl⟩ := e
        have hcz : wz.cell? ⟨b, o + k, none⟩ = some (.slice B1 m1 d1) := (hb.cell (p := ⟨b, o + k, none⟩) (World.block_lt_of_cell? _ _ hc1)).trans hc1
        clear hb hcall hc2 hc1
        go_wp2
        go_roundw
        case rel => exact ⟨_, rfl, k + 1, by omega, by omega, by go_num, ⟨B1, m1, d1, L1, rfl, hm1, HRz, hsth⟩, HBz⟩
        case measure => simp [intOf]; omega
    · obtain rfl : k = n := by omega
      have hki : ¬ (k : Int) < (k : Int) := by omega
      have hX : X = minL M Ls := by
        have := hmin.out
        rw [List.drop_of_length_le (by have := hlh.out; omega)] at this
        exact this
      have hXh := Lib.hid hX
      clear hX hmin
      go_wp2
      go_ret
      have hrd : Reads wq wq.heap.size 1 B m (ints (minL M Ls)) := by rw [← hXh.out]; exact HX.out
      first | exact ⟨⟨B, m, d, rfl, hm, hrd⟩, HB.out⟩ | exact ⟨⟨B, m, ⟨d, rfl⟩, hm, hrd⟩, HB.out⟩
set_option maxRecDepth 100000 in
theorem first_any (A : Option Addr) (n c : Nat) (M : List Int) (Ls : List (List Int)) (w : World) (hn : n ≤ 4096) (h : RdL w A n (M :: Ls)) :
    Calls Tryd.prog 91 #[.slice A n c, .func (.func 92) #[] #[]] w fun e w' => (∃ B m d, e = .returned (.slice B m d) ∧ m ≤ 10 ∧ Reads w' w'.heap.size 1 B m (ints (minL M Ls))) ∧ Below w.heap.size w w' := by
  have H := Lib.hid (minF_any A n c M Ls w hn h (fun args w => rfl))
  clear h
  go_enter Tryd.func91, Tryd.ntmps91
  go_wp2_with fail
  refine H.out.mono ?_
  rintro e w' ⟨⟨B, m, d, rfl, hm, hr⟩, hb⟩
  have hrh := Lib.hid hr
  have hbh := Lib.hid hb
  clear hr hb H
  go_wp2
  go_ret
  first | exact ⟨⟨B, m, d, rfl, hm, hrh.out⟩, hbh.out⟩ | exact ⟨⟨B, m, ⟨d, rfl⟩, hm, hrh.out⟩, hbh.out⟩
end Go.Proofs.YtoakeclpakjbiaaDoor
