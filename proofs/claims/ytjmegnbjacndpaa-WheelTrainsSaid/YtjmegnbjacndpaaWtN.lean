/-
  The plain law of WheelTrains: how many ratios there are: over trains, and over pairs of sets of wheels.
-/
import Derived.Test.YtjmegnbjacndpaaWtM
import Derived.Test.YtjmegnbjacndpaaOkay
namespace Go.Proofs.Ytjmegnbjacndpaa
open Go.RowKit
set_option linter.unusedVariables false
set_option linter.unusedSimpArgs false

/-- A list without doubles, one thing more. -/
def addU (acc : List (Int × Int)) (x : Int × Int) : List (Int × Int) := if x ∈ acc then acc else acc ++ [x]
theorem addU_nodup {acc : List (Int × Int)} {x : Int × Int} (h : acc.Nodup) : (addU acc x).Nodup := by
  unfold addU
  split
  · exact h
  · rename_i hx
    refine List.nodup_append.2 ⟨h, by simp, fun a ha b hb => ?_⟩
    simp only [List.mem_singleton] at hb
    subst hb
    rintro rfl
    exact hx ha
theorem addU_mem {acc : List (Int × Int)} {x y : Int × Int} : y ∈ addU acc x ↔ y ∈ acc ∨ y = x := by
  unfold addU
  split
  · rename_i hx
    exact ⟨.inl, fun h => h.elim id (fun e => e ▸ hx)⟩
  · simp
theorem foldU : ∀ (L acc : List (Int × Int)), acc.Nodup → (L.foldl addU acc).Nodup ∧ ∀ y, y ∈ L.foldl addU acc ↔ y ∈ acc ∨ y ∈ L
  | [], acc, h => ⟨h, fun y => by simp⟩
  | x :: r, acc, h => by
    obtain ⟨a, b⟩ := foldU r (addU acc x) (addU_nodup h)
    refine ⟨a, fun y => ?_⟩
    rw [List.foldl_cons, b y, addU_mem, List.mem_cons, or_assoc]
theorem foldU_len {L M : List (Int × Int)} (h : ∀ y, y ∈ L ↔ y ∈ M) : (L.foldl addU []).length = (M.foldl addU []).length := by
  obtain ⟨a, b⟩ := foldU L [] List.nodup_nil
  obtain ⟨c, d⟩ := foldU M [] List.nodup_nil
  exact nodup_len _ _ a c fun y => by rw [b, d, h]

def ratL (ts : List Int) (l : List (Int × Int)) : Int × Int := redu (numT ts l) (denT ts l)
def tsN (ts : List Int) (i : Nat) : Int := tAt ts ((i : Int) + 1)
/-- All ratios of trains of up to so many pairs. -/
def manL (n : Nat) (ts : List Int) (p : Nat) : List (Int × Int) := (List.range p).flatMap fun k => (lev n (k + 1)).map (ratL ts)
def cntB (n a : Nat) : Nat := cntP (fun j => a.testBit j) n
def prodB (n : Nat) (ts : List Int) (a : Nat) : Int := prodP (tsN ts) (fun j => a.testBit j) n
/-- The ratio of two sets, where they are asked. -/
def setR (n : Nat) (ts : List Int) (p a b : Nat) : List (Int × Int) :=
  if (!decide (a &&& b = 0) || (!decide (cntB n a = cntB n b) || decide (p < cntB n a))) = true then [] else [redu (prodB n ts a) (prodB n ts b)]
def setsR (n : Nat) (ts : List Int) (p : Nat) : List (Int × Int) := (List.range' 1 (2 ^ n - 1)).flatMap fun a => (List.range' 1 (2 ^ n - 1)).flatMap fun b => setR n ts p a b

theorem numT_prod {ts : List Int} : ∀ (l : List (Int × Int)), (∀ x ∈ l, 1 ≤ x.1 ∧ 1 ≤ x.2) → numT ts l = prodL (tsN ts) (drvT l) ∧ denT ts l = prodL (tsN ts) (dvnT l)
  | [], _ => ⟨rfl, rfl⟩
  | (d, v) :: r, h => by
    obtain ⟨a, b⟩ := numT_prod r (fun x hx => h x (List.mem_cons_of_mem _ hx))
    have hd := h (d, v) (List.mem_cons_self ..)
    refine ⟨?_, ?_⟩
    · show tAt ts d * numT ts r = prodL (tsN ts) (drvT r) * tsN ts ((d - 1).toNat)
      rw [a, Int.mul_comm]
      unfold tsN
      rw [show (((d - 1).toNat : Nat) : Int) + 1 = d by simp only at hd; omega]
    · show tAt ts v * denT ts r = prodL (tsN ts) (dvnT r) * tsN ts ((v - 1).toNat)
      rw [b, Int.mul_comm]
      unfold tsN
      rw [show (((v - 1).toNat : Nat) : Int) + 1 = v by simp only at hd; omega]
/-- The number of a set. -/
def numB (p : Nat → Bool) : Nat → Nat
  | 0 => 0
  | k + 1 => if p k then 2 ^ k + numB p k else numB p k
theorem numB_lt (p : Nat → Bool) : ∀ k, numB p k < 2 ^ k
  | 0 => by simp [numB]
  | k + 1 => by
    have := numB_lt p k
    unfold numB
    rw [Nat.pow_succ]
    split <;> omega
theorem numB_bit (p : Nat → Bool) : ∀ k j, (numB p k).testBit j = (decide (j < k) && p j)
  | 0, j => by simp [numB]
  | k + 1, j => by
    have hl := numB_lt p k
    unfold numB
    by_cases hk : p k = true
    · rw [if_pos hk]
      by_cases e : j = k
      · subst e
        rw [Nat.testBit_two_pow_add_eq, Nat.testBit_lt_two_pow hl, hk]
        simp
      · by_cases hj : j < k
        · rw [Nat.testBit_two_pow_add_gt hj, numB_bit p k j]
          have : j < k + 1 := by omega
          simp [hj, this]
        · have : ¬ j < k + 1 := by omega
          rw [Nat.testBit_lt_two_pow (Nat.lt_of_lt_of_le (show 2 ^ k + numB p k < 2 ^ (k + 1) by rw [Nat.pow_succ]; omega) (Nat.pow_le_pow_right (by omega) (by omega)))]
          simp [this]
    · rw [if_neg hk, numB_bit p k j]
      by_cases e : j = k
      · subst e
        have : p j = false := by simpa using hk
        simp [this]
      · by_cases hj : j < k
        · have : j < k + 1 := by omega
          simp [hj, this]
        · have : ¬ j < k + 1 := by omega
          simp [hj, this]
theorem cntB_pos {n a : Nat} (h1 : 1 ≤ a) (h2 : a < 2 ^ n) : 1 ≤ cntB n a := by
  unfold cntB
  have hz : ∀ (k : Nat) (p : Nat → Bool), cntP p k = 0 → ∀ j, j < k → p j = false := by
    intro k
    induction k with
    | zero => intro p _ j hj; omega
    | succ k ih =>
      intro p h j hj
      unfold cntP at h
      split at h
      · omega
      · rename_i hk
        by_cases e : j = k
        · subst e; simpa using hk
        · exact ih p h j (by omega)
  by_cases h0 : cntP (fun j => a.testBit j) n = 0
  · have hb := hz n _ h0
    have : a = 0 := by
      refine Nat.eq_of_testBit_eq fun j => ?_
      by_cases hj : j < n
      · rw [Nat.zero_testBit]; exact hb j hj
      · rw [Nat.zero_testBit, Nat.testBit_lt_two_pow (Nat.lt_of_lt_of_le h2 (Nat.pow_le_pow_right (by omega) (by omega)))]
    omega
  · omega
theorem and_zero {n a b : Nat} (ha : a < 2 ^ n) : a &&& b = 0 ↔ ∀ j, j < n → a.testBit j = true → b.testBit j = false := by
  constructor
  · intro h j _ hj
    have := congrArg (fun x => Nat.testBit x j) h
    simp only [Nat.testBit_and, Nat.zero_testBit, hj, Bool.true_and] at this
    exact this
  · intro h
    refine Nat.eq_of_testBit_eq fun j => ?_
    rw [Nat.testBit_and, Nat.zero_testBit]
    by_cases hj : j < n
    · cases e : a.testBit j
      · rfl
      · rw [h j hj e]; rfl
    · rw [Nat.testBit_lt_two_pow (Nat.lt_of_lt_of_le ha (Nat.pow_le_pow_right (by omega) (by omega)))]; rfl
theorem setsR_mem {n p : Nat} {ts : List Int} {x : Int × Int} : x ∈ setsR n ts p ↔ ∃ a b, (1 ≤ a ∧ a < 2 ^ n) ∧ (1 ≤ b ∧ b < 2 ^ n) ∧ a &&& b = 0 ∧ cntB n a = cntB n b ∧ cntB n a ≤ p ∧ x = redu (prodB n ts a) (prodB n ts b) := by
  have hp : 1 ≤ 2 ^ n := Nat.one_le_two_pow
  unfold setsR
  simp only [List.mem_flatMap, List.mem_range'_1]
  constructor
  · rintro ⟨a, ha, b, hb, h⟩
    unfold setR at h
    split at h
    · cases h
    · rename_i hc
      simp only [Bool.or_eq_true, Bool.not_eq_true', decide_eq_false_iff_not, decide_eq_true_eq, not_or, Decidable.not_not] at hc
      simp only [List.mem_singleton] at h
      exact ⟨a, b, by omega, by omega, hc.1, hc.2.1, by omega, h⟩
  · rintro ⟨a, b, ha, hb, h1, h2, h3, rfl⟩
    refine ⟨a, by omega, b, by omega, ?_⟩
    unfold setR
    rw [if_neg (by simp only [Bool.or_eq_true, Bool.not_eq_true', decide_eq_false_iff_not, decide_eq_true_eq, not_or, Decidable.not_not]; exact ⟨h1, h2, by omega⟩)]
    simp
theorem ratL_prod {n k : Nat} (hk : k ≤ 3) {ts : List Int} {l : List (Int × Int)} (h : l ∈ lev n k) : numT ts l = prodL (tsN ts) (drvT l) ∧ denT ts l = prodL (tsN ts) (dvnT l) := by
  obtain ⟨hl, hp⟩ := (lev_mem k hk l).1 h
  obtain ⟨hn, hS⟩ := (pick_iff _ _).1 hp
  refine numT_prod l fun x hx => ?_
  have h1 := hS x.1 (by unfold flatT; exact List.mem_flatMap.2 ⟨x, hx, by simp⟩)
  have h2 := hS x.2 (by unfold flatT; exact List.mem_flatMap.2 ⟨x, hx, by simp⟩)
  unfold freeB at h1 h2
  simp only [Bool.and_eq_true, decide_eq_true_eq] at h1 h2
  exact ⟨h1.1, h2.1⟩
/-- The members are the same. -/
theorem many_mem {n p : Nat} (hp : p ≤ 3) {ts : List Int} (x : Int × Int) : x ∈ manL n ts p ↔ x ∈ setsR n ts p := by
  rw [setsR_mem]
  unfold manL
  simp only [List.mem_flatMap, List.mem_range, List.mem_map]
  constructor
  · rintro ⟨k, hk, l, hl, rfl⟩
    obtain ⟨P, Q, ⟨h1, h2, h3⟩, h4, h5⟩ := train_sets (n := n) (k := k + 1) (by omega) (ts := tsN ts) hl
    obtain ⟨e1, e2⟩ := ratL_prod (ts := ts) (by omega) hl
    have ca : ∀ P : Nat → Bool, cntB n (numB P n) = cntP P n := fun P => cntP_congr n fun j hj => by simp only [numB_bit]; simp [hj]
    have pa : ∀ P : Nat → Bool, prodB n ts (numB P n) = prodP (tsN ts) P n := fun P => prodP_congr n fun j hj => by simp only [numB_bit]; simp [hj]
    have pos : ∀ P : Nat → Bool, cntP P n = k + 1 → 1 ≤ numB P n := fun P h => by
      by_cases h0 : numB P n = 0
      · have := ca P
        rw [h0, h] at this
        have hz : cntB n 0 = 0 := by
          unfold cntB
          have : ∀ m, cntP (fun j => Nat.testBit 0 j) m = 0 := fun m => by
            induction m with
            | zero => rfl
            | succ m ih => unfold cntP; rw [if_neg (by simp)]; exact ih
          exact this n
        omega
      · omega
    refine ⟨numB P n, numB Q n, ⟨pos P h2, numB_lt _ _⟩, ⟨pos Q h3, numB_lt _ _⟩, (and_zero (numB_lt _ _)).2 fun j hj hb => ?_, by rw [ca, ca, h2, h3], by rw [ca, h2]; omega, ?_⟩
    · rw [numB_bit] at hb ⊢
      simp only [Bool.and_eq_true, decide_eq_true_eq] at hb
      rw [h1 j hj hb.2]; simp
    · show redu (numT ts l) (denT ts l) = _
      rw [e1, e2, ← h4, ← h5, pa, pa]
  · rintro ⟨a, b, ⟨ha, ha'⟩, ⟨hb, hb'⟩, h1, h2, h3, rfl⟩
    have hc := cntB_pos ha ha'
    obtain ⟨k, hk⟩ : ∃ k, cntB n a = k + 1 := ⟨cntB n a - 1, by omega⟩
    obtain ⟨l, hl, e1, e2⟩ := sets_train (n := n) (k := k + 1) (by omega) (ts := tsN ts) (p := fun j => a.testBit j) (q := fun j => b.testBit j) ⟨(and_zero ha').1 h1, hk, by rw [← hk]; exact h2.symm⟩
    obtain ⟨f1, f2⟩ := ratL_prod (ts := ts) (by omega) hl
    refine ⟨k, by omega, l, hl, ?_⟩
    show redu (numT ts l) (denT ts l) = _
    rw [f1, f2, ← e1, ← e2]
    rfl
theorem many_len {n p : Nat} (hp : p ≤ 3) (ts : List Int) : ((manL n ts p).foldl addU []).length = ((setsR n ts p).foldl addU []).length := foldU_len (many_mem hp)
end Go.Proofs.Ytjmegnbjacndpaa
