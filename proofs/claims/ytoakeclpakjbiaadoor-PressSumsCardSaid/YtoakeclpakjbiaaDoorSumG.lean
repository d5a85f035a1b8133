/-
  The plain law of what must have gone elsewhere: both ways of telling it. No program in sight.
-/
import Derived.Test.YtoakeclpakjbiaaDoorSpan2
namespace Go.Proofs.YtoakeclpakjbiaaDoor
set_option linter.unusedVariables false
set_option linter.unusedSimpArgs false
/-- What is missing, if so much can be, and parings are so many. -/
def misP (c o : Sp) : Int := min 0 (c.2 - o.1) + max 0 (c.1 - o.2)
def parP (c o : Sp) : Sp := if misP c o > 0 then (o.2, o.2) else if misP c o < 0 then (o.1, o.1) else both (c.1 - misP c o, c.2 - misP c o) o
/-- The same, by the reference. -/
def cR1 (c o : Sp) : Sp := if c.2 < o.1 then (o.1, o.1) else c
def mR1 (c o : Sp) : Int := if c.2 < o.1 then c.2 - o.1 else 0
def cR2 (c o : Sp) : Sp := if o.2 < (cR1 c o).1 then (o.2, o.2) else cR1 c o
def misR (c o : Sp) : Int := if o.2 < (cR1 c o).1 then (cR1 c o).1 - o.2 else mR1 c o
def parR (c o : Sp) : Sp := both (cR2 c o) o
theorem mis_eq {c o : Sp} (hc : Ne c) (ho : Ne o) : misR c o = misP c o := by
  unfold Ne at *
  unfold misR misP mR1 cR1
  split
  · simp only; split <;> omega
  · split <;> omega
theorem par_eq {c o : Sp} (hc : Ne c) (ho : Ne o) : parR c o = parP c o := by
  unfold Ne at *
  unfold parR parP cR2 cR1 misP both
  by_cases h1 : c.2 < o.1
  · rw [if_pos h1, if_neg (by simp only; omega), if_neg (by omega), if_pos (by omega)]
    simp only
    congr 1 <;> omega
  · rw [if_neg h1]
    by_cases h2 : o.2 < c.1
    · rw [if_pos h2, if_pos (by omega)]
      simp only
      congr 1 <;> omega
    · rw [if_neg h2, if_neg (by omega), if_neg (by omega)]
      simp only
      congr 1 <;> omega
theorem par_in {c o : Sp} (hc : Ne c) (ho : Ne o) : Ne (parP c o) ∧ o.1 ≤ (parP c o).1 ∧ (parP c o).2 ≤ o.2 := by
  unfold Ne at *
  unfold parP misP both
  split
  · simp only; omega
  · split
    · simp only; omega
    · simp only; omega
section
variable (to : Nat → Option Nat) (R : Nat → Nat → Sp)
def canS (f : Nat → Sp) (i : Nat) : Sp := minus (plus (feed to f i i) (R i 1)) (restS R i)
def parU : Nat → Sp := fixU fun f i => parP (canS to R f i) (R i 6)
def parV : Nat → Sp := fixU fun f i => parR (canS to R f i) (R i 6)
theorem parU_eq (i : Nat) : parU to R i = parP (canS to R (parU to R) i) (R i 6) :=
  fixU_eq (fun f f' i h => by simp only [canS]; rw [feed_congr i i (fun j hj _ => h j hj)]) i
theorem parV_eq (i : Nat) : parV to R i = parR (canS to R (parV to R) i) (R i 6) :=
  fixU_eq (fun f f' i h => by simp only [canS]; rw [feed_congr i i (fun j hj _ => h j hj)]) i
/-- What is missing at a place. -/
def misU (i : Nat) : Int := misP (canS to R (parU to R) i) (R i 6)
def misV (i : Nat) : Int := misR (canS to R (parV to R) i) (R i 6)
end
section
variable {n : Nat} {to : Nat → Option Nat} {R : Nat → Nat → Sp}
theorem can_ne {f : Nat → Sp} {i : Nat} (hf : ∀ j, j < i → Ne (f j)) (hr : ∀ k, 1 ≤ k → k ≤ 6 → Ne (R i k)) : Ne (canS to R f i) := by
  have h1 := feed_ne (to := to) (U := f) i i hf
  have h2 := rest_ne hr
  have h3 := hr 1 (by omega) (by omega)
  unfold canS Ne minus plus at *
  simp only
  omega
theorem gone_law (hr : ∀ i, i < n → ∀ k, 1 ≤ k → k ≤ 6 → Ne (R i k)) : ∀ i, i < n → parV to R i = parU to R i ∧ misV to R i = misU to R i ∧ Ne (parU to R i) ∧ (R i 6).1 ≤ (parU to R i).1 ∧ (parU to R i).2 ≤ (R i 6).2 := by
  intro i
  induction i using Nat.strongRecOn with
  | _ i ih =>
    intro hi
    have hc : canS to R (parV to R) i = canS to R (parU to R) i := by
      unfold canS
      rw [feed_congr i i (fun j hj _ => (ih j hj (by omega)).1)]
    have hn := can_ne (to := to) (fun j hj => (ih j hj (by omega)).2.2.1) (hr i hi)
    have h6 := hr i hi 6 (by omega) (by omega)
    obtain ⟨p1, p2, p3⟩ := par_in hn h6
    refine ⟨?_, ?_, ?_, ?_, ?_⟩
    · rw [parV_eq, parU_eq, hc]; exact par_eq hn h6
    · unfold misV misU; rw [hc]; exact mis_eq hn h6
    · rw [parU_eq]; exact p1
    · rw [parU_eq]; exact p2
    · rw [parU_eq]; exact p3
end
/-- The sum of what is missing. -/
def sumM (m : Nat → Int) : Nat → Int
  | 0 => 0
  | k + 1 => sumM m k + max (m k) (-m k)
/-- What is missing, and where. -/
def listM (ids : Nat → Int) (m : Nat → Int) : Nat → List (Int × Int)
  | 0 => []
  | k + 1 => if m k ≠ 0 then listM ids m k ++ [(ids k, m k)] else listM ids m k
theorem sumM_congr {m m' : Nat → Int} : ∀ n, (∀ j, j < n → m j = m' j) → sumM m n = sumM m' n
  | 0, _ => rfl
  | n + 1, h => by unfold sumM; rw [sumM_congr n (fun j hj => h j (by omega)), h n (by omega)]
theorem listM_congr {ids : Nat → Int} {m m' : Nat → Int} : ∀ n, (∀ j, j < n → m j = m' j) → listM ids m n = listM ids m' n
  | 0, _ => rfl
  | n + 1, h => by unfold listM; rw [listM_congr n (fun j hj => h j (by omega)), h n (by omega)]
end Go.Proofs.YtoakeclpakjbiaaDoor
