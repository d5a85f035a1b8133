/-
  The walks of the library's comparison of two numbers, and of its binary search for the place of a weighing.
-/
import Derived.Test.YtoakeclpakjbiaaDoorDel2
namespace Go.Proofs.YtoakeclpakjbiaaDoor
open Go.RowKit
set_option linter.unusedVariables false
set_option linter.unusedSimpArgs false

def cmpI (x y : Int) : Int := if x < y then -1 else if y < x then 1 else 0
theorem isNaN_any (x : Int) (w : World) : Calls Tryd.prog 117 #[.int .i64 x] w fun e w' => e = .returned (.bool false) ∧ w = w' := by
  go_enter Tryd.func117, Tryd.ntmps117
  go_wp2
  go_ret
  exact ⟨ret_bool (by simp), rfl⟩
theorem compare_any (x y : Int) (w : World) : Calls Tryd.prog 81 #[.int .i64 x, .int .i64 y] w fun e w' => e = .returned (.int .i64 (cmpI x y)) ∧ w = w' := by
  by_cases h1 : x < y
  · have hr : Hid (cmpI x y = -1) := by show _ = _; unfold cmpI; rw [if_pos h1]
    go_enter Tryd.func81, Tryd.ntmps81
    go_wp2_with (first | (go_at_call 117; refine (isNaN_any _ _).mono ?_; rintro e w' ⟨rfl, rfl⟩) | fail)
    go_ret
    exact ⟨ret_int hr.out.symm, rfl⟩
  · by_cases h2 : y < x
    · have hr : Hid (cmpI x y = 1) := by show _ = _; unfold cmpI; rw [if_neg h1, if_pos h2]
      go_enter Tryd.func81, Tryd.ntmps81
      go_wp2_with (first | (go_at_call 117; refine (isNaN_any _ _).mono ?_; rintro e w' ⟨rfl, rfl⟩) | fail)
      go_ret
      exact ⟨ret_int hr.out.symm, rfl⟩
    · have hr : Hid (cmpI x y = 0) := by show _ = _; unfold cmpI; rw [if_neg h1, if_neg h2]
      go_enter Tryd.func81, Tryd.ntmps81
      go_wp2_with (first | (go_at_call 117; refine (isNaN_any _ _).mono ?_; rintro e w' ⟨rfl, rfl⟩) | fail)
      go_ret
      exact ⟨ret_int hr.out.symm, rfl⟩

theorem weigh1_any (x : WE) (t : Int) (w : World) :
    Calls Tryd.prog 80 #[.agg #[.int .i64 x.1, .int .i64 x.2.1, .int .i64 x.2.2.1, .int .i64 x.2.2.2.1, .int .i64 x.2.2.2.2], .int .i64 t] w fun e w' => e = .returned (.int .i64 (cmpI x.1 t)) ∧ Below w.heap.size w w' := by
  obtain ⟨N, P, K, L, H⟩ := x
  have hH := Lib.hid (fun w => compare_any N t w)
  simp only
  generalize cmpI N t = r at *
  go_enter Tryd.func80, Tryd.ntmps80
  go_wp2_with fail
  refine (hH.out _).mono ?_
  rintro e w1 ⟨rfl, rfl⟩
  go_wp2
  go_ret
  exact ⟨rfl, (Below.refl _ _).alloc (Nat.le_refl _) _⟩

/-- How many weighings stand ahead of a number. -/
def posW (ws : List WE) (t : Int) : Nat := (ws.takeWhile fun x => decide (x.1 < t)).length
theorem takeWhile_len {α : Type} (p : α → Bool) : ∀ (l : List α) (i : Nat), i ≤ l.length → (∀ (k : Nat) (x : α), k < i → l[k]? = some x → p x = true) → (∀ x, l[i]? = some x → p x = false) → (l.takeWhile p).length = i
  | [], i, h, _, _ => by simp at h; subst h; rfl
  | y :: r, 0, _, _, h => by
    have := h y rfl
    simp [List.takeWhile_cons, this]
  | y :: r, i + 1, hl, h1, h2 => by
    have hy := h1 0 y (by omega) rfl
    have := takeWhile_len p r i (by simpa using hl) (fun k x hk hx => h1 (k + 1) x (by omega) (by simpa using hx)) (fun x hx => h2 x (by simpa using hx))
    simp [List.takeWhile_cons, hy, this]
/-- Numbers rise. -/
def Rise (ws : List WE) : Prop := ∀ (i j : Nat) (x y : WE), i < j → ws[i]? = some x → ws[j]? = some y → x.1 < y.1

set_option maxRecDepth 100000 in
set_option maxHeartbeats 1000000 in
theorem search_any (A : Option Addr) (n c : Nat) (ws : List WE) (t : Int) (w : World) (hn : n ≤ 4096) (hR : Reads w w.heap.size 5 A n (wgs ws)) (hS : Rise ws) :
    Calls Tryd.prog 79 #[.slice A n c, .int .i64 t, .func (.func 80) #[] #[]] w fun e w' => ∃ b, e = .returned (.tuple #[.int .i64 (posW ws t), .bool b]) ∧ Below w.heap.size w w' := by
  have hl := hR.wg_len
  have HW1 := Lib.hid (fun x w => weigh1_any x t w)
  have HSr := Lib.hid hS
  clear hS
  go_enter Tryd.func79, Tryd.ntmps79
  go_wp2
  go_loopw [9, 10] (fun s9 s10 wr => ∃ i j : Nat, i ≤ j ∧ j ≤ n ∧ s9 = .int .i64 i ∧ s10 = .int .i64 j ∧ Hid (∀ (k : Nat) (x : WE), k < i → ws[k]? = some x → x.1 < t) ∧ Hid (∀ (k : Nat) (x : WE), j ≤ k → ws[k]? = some x → t ≤ x.1) ∧ Hid (Below w.heap.size w wr)) (fun s9 s10 _ => (intOf s10).toNat - (intOf s9).toNat)
  case atStart => exact ⟨0, n, by omega, by omega, rfl, rfl, fun k x hk => absurd hk (by omega), fun k x hk hx => absurd (List.getElem?_eq_some_iff.1 hx).1 (by omega), Below.refl _ _⟩
  case round =>
    obtain ⟨i, j, hij, hjn, rfl, rfl, hlo, hhi, hB⟩ := hrel
    have hsz := Lib.hid hB.out.size
    by_cases hlt : i < j
    · have hh1 : i ≤ (i + j) / 2 := by omega
      have hh2 : (i + j) / 2 < j := by omega
      obtain ⟨b, o, N, P, K, L, H, rfl, hb, hx, c0, c1, c2, c3, c4⟩ := (hR.below hB.out).wg (k := (i + j) / 2) (by omega)
      by_cases hN : N < t
      · have hr : Hid (cmpI N t = -1) := by show _ = _; unfold cmpI; rw [if_pos hN]
        have hlo' : Hid (∀ (k : Nat) (x : WE), k < (i + j) / 2 + 1 → ws[k]? = some x → x.1 < t) := by
          intro k x hk hkx
          by_cases hkh : k = (i + j) / 2
          · subst hkh; rw [hx] at hkx; cases hkx; exact hN
          · have := HSr.out k ((i + j) / 2) x _ (by omega) hkx hx
            simp only at this; omega
        clear hx hN
        go_wp2_with fail
        refine (HW1.out (N, P, K, L, H) _).mono ?_
        rintro e w1 ⟨rfl, hb1⟩
        rw [hr.out]
        have hB1 := Lib.hid (below_via hB.out hsz.out hb1)
        clear hb1
        go_wp2
        go_roundw
        case rel => exact ⟨(i + j) / 2 + 1, j, by omega, by omega, vint (by omega), rfl, hlo', hhi, hB1⟩
        case measure => simp [intOf]; omega
      · have hr : Hid (0 ≤ cmpI N t) := by show _ ≤ _; unfold cmpI; rw [if_neg hN]; split <;> omega
        have hhi' : Hid (∀ (k : Nat) (x : WE), (i + j) / 2 ≤ k → ws[k]? = some x → t ≤ x.1) := by
          intro k x hk hkx
          by_cases hkh : k = (i + j) / 2
          · subst hkh; rw [hx] at hkx; cases hkx; simp only; omega
          · have := HSr.out ((i + j) / 2) k _ x (by omega) hx hkx
            simp only at this; omega
        clear hx hN
        go_wp2_with fail
        refine (HW1.out (N, P, K, L, H) _).mono ?_
        rintro e w1 ⟨rfl, hb1⟩
        have hB1 := Lib.hid (below_via hB.out hsz.out hb1)
        clear hb1
        simp only
        have hr' : ¬ (cmpI N t < 0) := by have := hr.out; omega
        generalize cmpI N t = r at *
        go_wp2
        go_roundw
        case rel => exact ⟨i, (i + j) / 2, by omega, by omega, rfl, vint (by omega), hlo, hhi', hB1⟩
        case measure => simp [intOf]; omega
    · obtain rfl : i = j := by omega
      have hpos : Hid (posW ws t = i) := takeWhile_len _ ws i (by omega) (fun k x hk hx => by simpa using hlo.out k x hk hx) (fun x hx => by have := hhi.out i x (Nat.le_refl _) hx; simpa using this)
      have key := Lib.hid (fun b : Bool => (by rw [hpos.out] : Ending.returned (.tuple #[.int .i64 i, .bool b]) = .returned (.tuple #[.int .i64 (posW ws t), .bool b])))
      by_cases hin : i < n
      · obtain ⟨b, o, N, P, K, L, H, rfl, hb, hx, c0, c1, c2, c3, c4⟩ := (hR.below hB.out).wg hin
        clear hx
        go_wp2_with fail
        refine (HW1.out (N, P, K, L, H) _).mono ?_
        rintro e w1 ⟨rfl, hb1⟩
        have hB1 := Lib.hid (below_via hB.out hsz.out hb1)
        clear hb1
        simp only
        generalize cmpI N t = r at *
        go_wp2
        go_ret2
        exact ⟨_, key.out _, hB1.out⟩
      · go_wp2
        go_ret2
        exact ⟨_, key.out _, hB.out⟩
end Go.Proofs.YtoakeclpakjbiaaDoor
