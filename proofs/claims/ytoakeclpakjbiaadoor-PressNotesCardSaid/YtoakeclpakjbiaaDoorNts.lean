/-
  The plain law of a press at its start: where parings go, and what the notes leave.
-/
import Derived.Test.YtoakeclpakjbiaaDoorCst
namespace Go.Proofs.YtoakeclpakjbiaaDoor
open Go.RowKit
set_option linter.unusedVariables false
set_option linter.unusedSimpArgs false

/-- Where the parings of a place go. -/
def toT (ps : List PR) (i : Nat) : Option Nat :=
  match ps[i]? with
  | some x => if x.2.2.2 = 0 then none else some (idxP ps x.2.2.2).toNat
  | none => none
/-- What is so ahead of all notes. -/
def base (ps : List PR) (i k : Nat) : Sp := if k = 6 ∧ (match ps[i]? with | some x => decide (x.2.2.2 = 0) | none => false) = true then (0, 0) else (0, 1000000)
/-- One note. -/
def note1 (ps : List PR) (x : WE) (R : Nat → Nat → Sp) : Nat → Nat → Sp := fun i k => if (i : Int) = idxP ps x.2.1 ∧ (k : Int) = x.2.2.1 then both (R i k) (x.2.2.2.1, x.2.2.2.2) else R i k
def rowsT (ps : List PR) (ws : List WE) : Nat → Nat → Sp := ws.foldl (fun R x => note1 ps x R) (base ps)
theorem rowsT_take {ps : List PR} {ws : List WE} {m : Nat} {x : WE} (h : ws[m]? = some x) : rowsT ps (ws.take (m + 1)) = note1 ps x (rowsT ps (ws.take m)) := by
  unfold rowsT
  rw [List.take_add_one, h]
  simp
structure ValidF (ps : List PR) (ws : List WE) : Prop where
  n10 : ps.length ≤ 10
  m30 : ws.length ≤ 30
  to_ : ∀ (i : Nat) (x : PR), ps[i]? = some x → x.2.2.2 = 0 ∨ (i : Int) < idxP ps x.2.2.2
  id1 : ∀ (i : Nat) (x : PR), ps[i]? = some x → 1 ≤ x.1 ∧ x.1 ≤ 9999
  inc : ∀ (i : Nat) (x y : PR), ps[i]? = some x → ps[i + 1]? = some y → x.1 < y.1
  w_ : ∀ (m : Nat) (x : WE), ws[m]? = some x → 0 ≤ idxP ps x.2.1 ∧ 1 ≤ x.2.2.1 ∧ x.2.2.1 ≤ 6 ∧ 0 ≤ x.2.2.2.1 ∧ x.2.2.2.1 ≤ 1000000 ∧ 0 ≤ x.2.2.2.2 ∧ x.2.2.2.2 ≤ 1000000
theorem allW_at {ps : List PR} : ∀ {ws : List WE} {last : Int}, allW ps last ws = true → ∀ (m : Nat) (x : WE), ws[m]? = some x → ∃ l, okW ps l x = true
  | [], _, _, m, x, h => by simp at h
  | y :: r, last, ha, m, x, h => by
    simp only [allW, Bool.and_eq_true] at ha
    cases m with
    | zero => simp at h; subst h; exact ⟨_, ha.1⟩
    | succ m => exact allW_at ha.2 m x (by simpa using h)
theorem valid_facts {ps : List PR} {ws : List WE} (h : validP ps ws = true) : ValidF ps ws := by
  simp only [validP, Bool.and_eq_true, decide_eq_true_eq] at h
  obtain ⟨⟨⟨h1, h2⟩, h3⟩, h4⟩ := h
  have hP : ∀ (i : Nat) (x : PR), ps[i]? = some x → okP ps i x = true := by
    intro i x hx
    have := List.all_eq_true.1 h3 i (List.mem_range.2 (List.getElem?_eq_some_iff.1 hx).1)
    rw [hx] at this
    exact this
  refine ⟨h1, h2, fun i x hx => ?_, fun i x hx => ?_, fun i x y hx hy => ?_, fun m x hx => ?_⟩
  · have := hP i x hx
    simp only [okP, okTo, Bool.and_eq_true, Bool.or_eq_true, decide_eq_true_eq] at this
    exact this.2
  · have := hP i x hx
    simp only [okP, Bool.and_eq_true] at this
    exact rng_iff this.1.1.1.1
  · have := hP (i + 1) y hy
    simp only [okP, okPrev, hx, Bool.and_eq_true, decide_eq_true_eq] at this
    exact this.1.2.1
  · obtain ⟨l, hl⟩ := allW_at h4 m x hx
    simp only [okW, Bool.and_eq_true, decide_eq_true_eq] at hl
    obtain ⟨⟨⟨⟨⟨⟨-, -⟩, a⟩, b⟩, c⟩, d⟩, e⟩ := hl
    have := rng_iff b
    have := rng_iff c
    have := rng_iff d
    omega
section
variable {ps : List PR} {ws : List WE}
theorem ValidF.fwd (h : ValidF ps ws) : Fwd ps.length (toT ps) := by
  intro i k hi ht
  unfold toT at ht
  rw [List.getElem?_eq_getElem hi] at ht
  have h1 := h.to_ i _ (List.getElem?_eq_getElem hi)
  have hb := idxP_bound ps (ps[i]).2.2.2
  simp only at ht
  split at ht
  · cases ht
  · cases ht
    rcases h1 with h0 | h0
    · contradiction
    · omega
/-- The notes leave numbers from 0 to most. -/
theorem ValidF.inr (h : ValidF ps ws) : ∀ m, ∀ i k, 0 ≤ (rowsT ps (ws.take m) i k).1 ∧ (rowsT ps (ws.take m) i k).1 ≤ 1000000 ∧ 0 ≤ (rowsT ps (ws.take m) i k).2 ∧ (rowsT ps (ws.take m) i k).2 ≤ 1000000
  | 0, i, k => by
    have : rowsT ps (ws.take 0) i k = (0, 0) ∨ rowsT ps (ws.take 0) i k = (0, 1000000) := by
      simp only [List.take_zero, rowsT, List.foldl_nil]
      unfold base
      generalize (match ps[i]? with | some x => decide (x.2.2.2 = 0) | none => false) = c
      by_cases h : k = 6 ∧ c = true
      · rw [if_pos h]; exact Or.inl rfl
      · rw [if_neg h]; exact Or.inr rfl
    rcases this with e | e <;> rw [e] <;> simp
  | m + 1, i, k => by
    cases hx : ws[m]? with
    | none =>
      have hl := List.getElem?_eq_none_iff.1 hx
      have ih := h.inr m i k
      rw [List.take_of_length_le (by omega)]
      rw [List.take_of_length_le (by omega)] at ih
      exact ih
    | some x =>
      have ih := h.inr m i k
      have hw := h.w_ m x hx
      rw [rowsT_take hx]
      unfold note1
      split
      · simp only [both]; omega
      · exact ih
theorem ValidF.smr (h : ValidF ps ws) (m : Nat) : SmR (rowsT ps (ws.take m)) ps.length := by
  intro i k hi hk
  have := h.inr m i k
  omega
theorem toV_toT (h : ValidF ps ws) {i : Nat} {x : PR} (hx : ps[i]? = some x) : toV (toT ps) i = if x.2.2.2 = 0 then -1 else idxP ps x.2.2.2 := by
  unfold toV toT
  rw [hx]
  have h1 := h.to_ i x hx
  by_cases h0 : x.2.2.2 = 0
  · simp [h0]
  · simp only [h0, if_false]
    have : (i : Int) < idxP ps x.2.2.2 := h1.resolve_left h0
    omega
end
end Go.Proofs.YtoakeclpakjbiaaDoor
