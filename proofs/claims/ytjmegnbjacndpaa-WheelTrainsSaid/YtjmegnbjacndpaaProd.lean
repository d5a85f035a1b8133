/-
  Products of teeth, and fractions in lowest terms: plain arithmetic.
-/
import Derived.Test.YtjmegnbjacndpaaLowest
namespace Go.Proofs.Ytjmegnbjacndpaa
open Go.RowKit Go.Maps
def numT (ts : List Int) : List (Int × Int) → Int
  | [] => 1
  | x :: r => tAt ts x.1 * numT ts r
def denT (ts : List Int) : List (Int × Int) → Int
  | [] => 1
  | x :: r => tAt ts x.2 * denT ts r
theorem numT_take (ts : List Int) (l : List (Int × Int)) (k : Nat) (D V : Int) (h : l[k]? = some (D, V)) : numT ts (l.take (k + 1)) = numT ts (l.take k) * tAt ts D := by
  induction l generalizing k with
  | nil => simp at h
  | cons a l ih =>
    cases k with
    | zero => simp at h; subst h; simp [numT]
    | succ k => simp at h; simp only [List.take_succ_cons, numT]; rw [ih k h, Int.mul_assoc]
theorem denT_take (ts : List Int) (l : List (Int × Int)) (k : Nat) (D V : Int) (h : l[k]? = some (D, V)) : denT ts (l.take (k + 1)) = denT ts (l.take k) * tAt ts V := by
  induction l generalizing k with
  | nil => simp at h
  | cons a l ih =>
    cases k with
    | zero => simp at h; subst h; simp [denT]
    | succ k => simp at h; simp only [List.take_succ_cons, denT]; rw [ih k h, Int.mul_assoc]
/-- The wheels of a train are wheels, and have from 1 to 120 teeth. -/
structure Okay (n : Nat) (ts : List Int) (l : List (Int × Int)) : Prop where
  len : l.length ≤ 3
  teeth : ∀ D : Int, 1 ≤ D → D ≤ n → 1 ≤ tAt ts D ∧ tAt ts D ≤ 120
  one : ∀ (i : Nat) (D V : Int), l[i]? = some (D, V) → (1 ≤ D ∧ D ≤ n) ∧ 1 ≤ V ∧ V ≤ n
theorem Okay.bound {n : Nat} {ts : List Int} {l : List (Int × Int)} (h : Okay n ts l) (k : Nat) (hk : k ≤ l.length) :
    (1 ≤ numT ts (l.take k) ∧ numT ts (l.take k) ≤ 120 ^ k) ∧ 1 ≤ denT ts (l.take k) ∧ denT ts (l.take k) ≤ 120 ^ k := by
  induction k with
  | zero => simp [numT, denT]
  | succ k ih =>
    obtain ⟨⟨a1, a2⟩, b1, b2⟩ := ih (by omega)
    have hx : l[k]? = some ((l[k]'(by omega)).1, (l[k]'(by omega)).2) := List.getElem?_eq_getElem (by omega)
    obtain ⟨⟨d1, d2⟩, v1, v2⟩ := h.one k _ _ hx
    rw [numT_take ts l k _ _ hx, denT_take ts l k _ _ hx]
    obtain ⟨t1, t2⟩ := h.teeth _ d1 d2
    obtain ⟨u1, u2⟩ := h.teeth _ v1 v2
    rw [Int.pow_succ]
    refine ⟨⟨?_, Int.mul_le_mul a2 t2 (by omega) (Int.le_trans (by decide) (Int.le_trans a1 a2))⟩, ?_, Int.mul_le_mul b2 u2 (by omega) (Int.le_trans (by decide) (Int.le_trans b1 b2))⟩
    · have := Int.mul_le_mul a1 t1 (by decide) (by omega); simpa using this
    · have := Int.mul_le_mul b1 u1 (by decide) (by omega); simpa using this
theorem redu_bound (a b : Int) (ha : 1 ≤ a) (hb : 1 ≤ b) : (1 ≤ (redu a b).1 ∧ (redu a b).1 ≤ a) ∧ 1 ≤ (redu a b).2 ∧ (redu a b).2 ≤ b := by
  unfold redu
  have hg : (0 : Int) < ((Int.gcd a b : Nat) : Int) := by
    have : 0 < Int.gcd a b := Int.gcd_pos_of_ne_zero_left _ (by omega)
    omega
  have d1 : ((Int.gcd a b : Nat) : Int) ∣ a := Int.gcd_dvd_left ..
  have d2 : ((Int.gcd a b : Nat) : Int) ∣ b := Int.gcd_dvd_right ..
  obtain ⟨x, hx⟩ := d1
  obtain ⟨y, hy⟩ := d2
  have e1 : a / ((Int.gcd a b : Nat) : Int) = x := by
    generalize ((Int.gcd a b : Nat) : Int) = g at *
    subst hx; exact Int.mul_ediv_cancel_left _ (by omega)
  have e2 : b / ((Int.gcd a b : Nat) : Int) = y := by
    generalize ((Int.gcd a b : Nat) : Int) = g at *
    subst hy; exact Int.mul_ediv_cancel_left _ (by omega)
  refine ⟨⟨?_, Int.ediv_le_self _ (by omega)⟩, ?_, Int.ediv_le_self _ (by omega)⟩
  · rw [e1]
    rcases Int.lt_or_le 0 x with h | h
    · omega
    · have := Int.mul_nonpos_of_nonneg_of_nonpos (Int.le_of_lt hg) h; omega
  · rw [e2]
    rcases Int.lt_or_le 0 y with h | h
    · omega
    · have := Int.mul_nonpos_of_nonneg_of_nonpos (Int.le_of_lt hg) h; omega
theorem redu_scale (g x y : Int) (hg : 1 ≤ g) : redu (g * x) (g * y) = redu x y := by
  unfold redu
  have : ((Int.gcd (g * x) (g * y) : Nat) : Int) = g * ((Int.gcd x y : Nat) : Int) := by
    rw [Int.gcd_mul_left]; push_cast; congr 1; omega
  rw [this, Int.mul_ediv_mul_of_pos _ _ (by omega), Int.mul_ediv_mul_of_pos _ _ (by omega)]
theorem redu_step (N D a b : Int) (hN : 1 ≤ N) : redu ((redu N D).1 * a) ((redu N D).2 * b) = redu (N * a) (D * b) := by
  have hg : (1 : Int) ≤ ((Int.gcd N D : Nat) : Int) := by
    have : 0 < Int.gcd N D := Int.gcd_pos_of_ne_zero_left _ (by omega)
    omega
  have d1 : ((Int.gcd N D : Nat) : Int) ∣ N := Int.gcd_dvd_left ..
  have d2 : ((Int.gcd N D : Nat) : Int) ∣ D := Int.gcd_dvd_right ..
  have h1 : N * a = ((Int.gcd N D : Nat) : Int) * ((redu N D).1 * a) := by
    rw [← Int.mul_assoc]; congr 1; exact (Int.mul_ediv_cancel' d1).symm
  have h2 : D * b = ((Int.gcd N D : Nat) : Int) * ((redu N D).2 * b) := by
    rw [← Int.mul_assoc]; congr 1; exact (Int.mul_ediv_cancel' d2).symm
  rw [h1, h2, redu_scale _ _ _ hg]
end Go.Proofs.Ytjmegnbjacndpaa
