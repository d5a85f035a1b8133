/-
  The reference's number of bits.
-/
import Derived.Test.YtjmegnbjacndpaaWKp
import Derived.Test.YtjmegnbjacndpaaWtN
namespace Go.Proofs.Ytjmegnbjacndpaa
open Go.RowKit
set_option linter.unusedVariables false
set_option linter.unusedSimpArgs false

def popc : Nat → Nat → Nat
  | 0, _ => 0
  | f + 1, a => if a = 0 then 0 else a % 2 + popc f (a / 2)
theorem cntP_shift (p : Nat → Bool) : ∀ k, cntP p (k + 1) = (if p 0 then 1 else 0) + cntP (fun j => p (j + 1)) k
  | 0 => by simp [cntP]
  | k + 1 => by
    show (if p (k + 1) then cntP p (k + 1) + 1 else cntP p (k + 1)) = _ + (if p (k + 1) then cntP (fun j => p (j + 1)) k + 1 else cntP (fun j => p (j + 1)) k)
    rw [cntP_shift p k]
    split <;> omega
theorem cntB_half (n a : Nat) : cntB (n + 1) a = a % 2 + cntB n (a / 2) := by
  unfold cntB
  rw [cntP_shift]
  have h0 : (if a.testBit 0 then 1 else 0) = a % 2 := by
    rw [Nat.testBit_zero]
    have : a % 2 < 2 := Nat.mod_lt _ (by omega)
    by_cases h : a % 2 = 1
    · simp [h]
    · have : a % 2 = 0 := by omega
      simp [this]
  rw [h0]
  congr 1
  exact cntP_congr n fun j hj => by rw [Nat.testBit_succ]
theorem cntB_zero : ∀ n, cntB n 0 = 0
  | 0 => rfl
  | n + 1 => by rw [cntB_half, Nat.zero_div, cntB_zero n]
theorem cntB_le : ∀ n a, cntB n a ≤ n
  | 0, _ => Nat.le_refl _
  | n + 1, a => by rw [cntB_half]; have := cntB_le n (a / 2); have : a % 2 < 2 := Nat.mod_lt _ (by omega); omega

set_option maxRecDepth 100000 in
theorem size_any (n a : Nat) (hn : n ≤ 8) (ha : a < 2 ^ n) (w : World) :
    Calls Try.prog 30 #[.int .i64 (a : Int)] w fun e w' => e = .returned (.int .i64 (cntB n a : Int)) ∧ Below w.heap.size w w' := by
  have h256 : ∀ k, k ≤ 8 → 2 ^ k ≤ 256 := fun k hk => Nat.le_trans (Nat.pow_le_pow_right (by omega) hk) (by decide)
  have h2 := h256 n hn
  have hc := cntB_le n a
  clear h256
  go_enter Try.func30, Try.ntmps30
  go_wp2
  go_loopw [0, 3] (fun v0 v3 wr => ∃ wl, wl = wr ∧ ∃ b m k : Nat, v0 = .int .i64 (b : Int) ∧ v3 = .int .i64 (m : Int) ∧ b < 256 ∧ b < 2 ^ k ∧ Hid (m + cntB k b = cntB n a) ∧ wl = w) (fun v0 _ _ => (RowKit.intOf v0).toNat)
  case atStart => exact ⟨_, rfl, a, 0, n, rfl, rfl, by omega, ha, Lib.hid (by simp), rfl⟩
  case round =>
    obtain ⟨wl, rfl, b, m, k, rfl, rfl, hb, hbk, hs, rfl⟩ := hrel
    by_cases h0 : 0 < b
    · have hk1 : 1 ≤ k := by
        rcases Nat.eq_zero_or_pos k with e | e
        · subst e; simp at hbk; omega
        · exact e
      obtain ⟨j, rfl⟩ : ∃ j, k = j + 1 := ⟨k - 1, by omega⟩
      have hs2 := Lib.hid (show (m + b % 2) + cntB j (b / 2) = cntB n a by have := hs.out; rw [cntB_half] at this; omega)
      have hmb : m + b % 2 ≤ 8 := by have := hs2.out; omega
      have hbj : b / 2 < 2 ^ j := by rw [Nat.pow_succ] at hbk; omega
      have hgt : (0 : Int) < (b : Int) := by omega
      have hw1 : IntKind.i64.wrap ((b : Int).tmod 2) = ((b % 2 : Nat) : Int) := by rw [Int.tmod_eq_emod_of_nonneg (by omega)]; rw [IntWalk.i64_in _ (by omega)]; omega
      have hw2 : IntKind.i64.wrap ((b : Int).tdiv 2) = ((b / 2 : Nat) : Int) := by rw [Int.tdiv_eq_ediv_of_nonneg (by omega)]; rw [IntWalk.i64_in _ (by omega)]; omega
      have hw3 : IntKind.i64.wrap ((m : Int) + ((b % 2 : Nat) : Int)) = ((m + b % 2 : Nat) : Int) := by rw [IntWalk.i64_in _ (by omega)]; omega
      clear hs hbk
      go_wp2
      go_roundw
      case rel => exact ⟨_, rfl, b / 2, m + b % 2, j, by rw [show ((b / 2 : Nat) : Int) = (b : Int) / 2 by omega], by rw [show ((m + b % 2 : Nat) : Int) = (m : Int) + (b : Int) % 2 by omega], by omega, hbj, hs2, rfl⟩
      case measure => simp [RowKit.intOf]; omega
    · have hz : b = 0 := by omega
      subst hz
      have hr : cntB n a = m := by have := hs.out; rw [cntB_zero] at this; omega
      have hgt : ¬ (0 : Int) < ((0 : Nat) : Int) := by omega
      clear hs
      go_wp2
      go_ret
      exact ⟨rfl, Below.refl _ _⟩
end Go.Proofs.Ytjmegnbjacndpaa
