/-
  The walk of the law on teeth: it returns true, whatever the numbers.
-/
import Derived.Test.YtlmmjaolmmcklaaStrikesR
namespace Go.Proofs.Ytlmmjaolmmcklaa
open Go.RowKit

/-- When teeth meet again, and the error. -/
def meetS (a b : Int) : Int × Int × Int :=
  if twoB a b then (((b.toNat / Nat.gcd a.toNat b.toNat : Nat) : Int), ((a.toNat / Nat.gcd a.toNat b.toNat : Nat) : Int), 0) else (0, 0, 2)
/-- The teeth that are struck, and the error. -/
def strkS (a b t : Int) : List Int × Int :=
  if twoB a b && (decide (0 ≤ t) && decide (t ≤ a - 1)) then (strk a.toNat b.toNat t.toNat, 0) else ([], 2)

theorem two_nat {a b : Int} (h : twoB a b = true) : ∃ x y : Nat, a = x ∧ b = y ∧ 6 ≤ x ∧ x ≤ 120 ∧ 6 ≤ y ∧ y ≤ 120 := by
  unfold twoB at h
  simp at h
  exact ⟨a.toNat, b.toNat, by omega, by omega, by omega, by omega, by omega, by omega⟩

theorem meet_any (a b : Int) (w : World) : Calls Try.prog 6 #[.int .i64 a, .int .i64 b] w fun e w' =>
    e = .returned (.tuple #[.int .i64 (meetS a b).1, .int .i64 (meetS a b).2.1, .int .i64 (meetS a b).2.2]) ∧ Below w.heap.size w w' := by
  cases h : twoB a b
  · have e : meetS a b = (0, 0, 2) := by unfold meetS; rw [h]; rfl
    rw [e]
    exact meet_no a b h w
  · obtain ⟨x, y, rfl, rfl, h1, h2, h3, h4⟩ := two_nat h
    have e : meetS x y = (((y / Nat.gcd x y : Nat) : Int), ((x / Nat.gcd x y : Nat) : Int), 0) := by unfold meetS; rw [h]; rfl
    rw [e]
    exact meet_yes x y h1 h2 h3 h4 w

theorem Meet_any (a b : Int) (w : World) : Calls Try.prog 7 #[.int .i64 a, .int .i64 b] w fun e w' =>
    e = .returned (.tuple #[.int .i64 (meetS a b).1, .int .i64 (meetS a b).2.1, .int .i64 (meetS a b).2.2]) ∧ Below w.heap.size w w' := by
  cases h : twoB a b
  · have e : meetS a b = (0, 0, 2) := by unfold meetS; rw [h]; rfl
    rw [e]
    exact Meet_no a b h w
  · obtain ⟨x, y, rfl, rfl, h1, h2, h3, h4⟩ := two_nat h
    have e : meetS x y = (((y / Nat.gcd x y : Nat) : Int), ((x / Nat.gcd x y : Nat) : Int), 0) := by unfold meetS; rw [h]; rfl
    rw [e]
    exact Meet_yes x y h1 h2 h3 h4 w

theorem strikes_any (a b t : Int) (wa : -9223372036854775808 ≤ a) (wa' : a ≤ 9223372036854775807) (w : World) :
    Calls Try.prog 8 #[.int .i64 a, .int .i64 b, .int .i64 t] w fun e w' =>
      ∃ A n c, e = .returned (.tuple #[.slice A n c, .int .i64 (strkS a b t).2]) ∧ n ≤ 120 ∧ Reads w' w'.heap.size 1 A n (ints (strkS a b t).1) ∧ Below w.heap.size w w' := by
  cases h : (twoB a b && (decide (0 ≤ t) && decide (t ≤ a - 1)))
  · have e : strkS a b t = ([], 2) := by unfold strkS; rw [h]; rfl
    rw [e]
    refine (strikes_no a b t h wa wa' w).mono ?_
    rintro e w' ⟨rfl, hb⟩
    exact ⟨none, 0, 0, rfl, by omega, Reads.none_, hb⟩
  · have h' := h
    simp only [Bool.and_eq_true, decide_eq_true_eq] at h
    obtain ⟨x, y, rfl, rfl, h1, h2, h3, h4⟩ := two_nat h.1
    obtain ⟨t, rfl⟩ := Int.eq_ofNat_of_zero_le h.2.1
    have e : strkS x y t = (strk x y t, 0) := by unfold strkS; rw [h']; rfl
    rw [e]
    exact strikes_yes x y t h1 h2 h3 h4 (by omega) w

theorem Strikes_any (a b t : Int) (w : World) :
    Calls Try.prog 9 #[.int .i64 a, .int .i64 b, .int .i64 t] w fun e w' =>
      ∃ A n c, e = .returned (.tuple #[.slice A n c, .int .i64 (strkS a b t).2]) ∧ n ≤ 120 ∧ Reads w' w'.heap.size 1 A n (ints (strkS a b t).1) ∧ Below w.heap.size w w' := by
  cases h : (twoB a b && (decide (0 ≤ t) && decide (t ≤ a - 1)))
  · have e : strkS a b t = ([], 2) := by unfold strkS; rw [h]; rfl
    rw [e]
    refine (Strikes_no a b t h w).mono ?_
    rintro e w' ⟨rfl, hb⟩
    exact ⟨none, 0, 0, rfl, by omega, Reads.none_, hb⟩
  · have h' := h
    simp only [Bool.and_eq_true, decide_eq_true_eq] at h
    obtain ⟨x, y, rfl, rfl, h1, h2, h3, h4⟩ := two_nat h.1
    obtain ⟨t, rfl⟩ := Int.eq_ofNat_of_zero_le h.2.1
    have e : strkS x y t = (strk x y t, 0) := by unfold strkS; rw [h']; rfl
    rw [e]
    exact Strikes_yes x y t h1 h2 h3 h4 (by omega) w

theorem law_teeth (a b t : Int) (wa : -9223372036854775808 ≤ a) (wa' : a ≤ 9223372036854775807) (w : World) :
    Calls Try.prog 3 #[.int .i64 a, .int .i64 b, .int .i64 t] w fun e w' => e = .returned (.bool true) ∧ Below w.heap.size w w' := by
  have C1 := Lib.hid (fun w => meet_any a b w)
  have C2 := Lib.hid (fun w => Meet_any a b w)
  have C3 := Lib.hid (fun w => strikes_any a b t wa wa' w)
  have C4 := Lib.hid (fun w => Strikes_any a b t w)
  clear wa wa'
  generalize (meetS a b).1 = x at *
  generalize (meetS a b).2.1 = y at *
  generalize (meetS a b).2.2 = z at *
  generalize (strkS a b t).1 = l at *
  generalize (strkS a b t).2 = u at *
  go_enter Try.func3, Try.ntmps3
  go_wp2_with fail
  refine (C1.out _).mono ?_
  rintro e w1 ⟨rfl, b1⟩
  have B1 := Lib.hid b1
  clear b1
  go_wp2_with fail
  refine (C2.out _).mono ?_
  rintro e w2 ⟨rfl, b2⟩
  have B2 := Lib.hid (B1.out.trans (b2.mono B1.out.size))
  clear b2 B1
  go_wp2_with fail
  refine (C3.out _).mono ?_
  rintro e w3 ⟨A, n, c, rfl, hn, hr, b3⟩
  have B3 := Lib.hid (B2.out.trans (b3.mono B2.out.size))
  have R1 := Lib.hid hr
  clear b3 B2 hr
  go_wp2_with fail
  refine (C4.out _).mono ?_
  rintro e w4 ⟨A', n', c', rfl, hn', hr, b4⟩
  have B4 := Lib.hid (B3.out.trans (b4.mono B3.out.size))
  have R1' := Lib.hid ((R1.out.below b4).more b4.size)
  have R2 := Lib.hid hr
  clear b4 B3 hr R1
  go_wp2_with fail
  refine (sameInts_any A A' n n' c c' l l w4 (by unfold maxLen; omega) (by unfold maxLen; omega) R1' R2).mono ?_
  have el : decide (l = l) = true := by simp
  rw [el]
  rintro e w5 ⟨rfl, q, rfl⟩
  go_wp2
  go_ret
  exact ⟨ret_bool (by simp), below_drewN B4 q⟩
end Go.Proofs.Ytlmmjaolmmcklaa
