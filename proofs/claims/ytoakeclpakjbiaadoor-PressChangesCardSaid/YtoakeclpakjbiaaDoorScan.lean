/-
  A list of numbers that is found in order among numbers that rise: it rises, and all of it is there.
-/
import Derived.Test.YtoakeclpakjbiaaDoorStk
import Derived.Test.YtoakeclpakjbiaaDoorWei
namespace Go.Proofs.YtoakeclpakjbiaaDoor
set_option linter.unusedVariables false

def scanStep (l : List Int) (k : Nat) (x : WE) : Nat := if k < l.length ∧ l[k]?.getD 0 = x.1 then k + 1 else k
def scanK (l : List Int) (ws : List WE) : Nat := ws.foldl (scanStep l) 0
theorem scanK_snoc {l : List Int} {ws : List WE} {m : Nat} {x : WE} (hx : ws[m]? = some x) : scanK l (ws.take (m + 1)) = scanStep l (scanK l (ws.take m)) x := by
  unfold scanK
  rw [List.take_add_one, hx]
  simp [List.foldl_append]
theorem scanK_le (l : List Int) (ws : List WE) : ∀ m, scanK l (ws.take m) ≤ l.length := by
  intro m
  induction m with
  | zero => simp [scanK]
  | succ m ih =>
    cases hx : ws[m]? with
    | none =>
      have : ws.take (m + 1) = ws.take m := by rw [List.take_add_one, hx]; simp
      rw [this]; exact ih
    | some x =>
      rw [scanK_snoc hx]
      unfold scanStep
      split <;> omega
theorem numW_iff {ws : List WE} {j : Int} : numW ws j = true ↔ ∃ (i : Nat) (x : WE), ws[i]? = some x ∧ x.1 = j := by
  unfold numW
  rw [List.any_eq_true]
  constructor
  · rintro ⟨x, hx, h⟩
    obtain ⟨i, hi⟩ := List.getElem?_of_mem hx
    exact ⟨i, x, hi, by simpa [eq_comm] using h⟩
  · rintro ⟨i, x, hi, rfl⟩
    exact ⟨x, List.mem_of_getElem? hi, by simp⟩
theorem numW_take {ws : List WE} {m : Nat} {j : Int} : numW (ws.take m) j = true ↔ ∃ (i : Nat) (x : WE), i < m ∧ ws[i]? = some x ∧ x.1 = j := by
  rw [numW_iff]
  constructor
  · rintro ⟨i, x, hi, h⟩
    have hm : i < m := by have := (List.getElem?_eq_some_iff.1 hi).1; simp at this; omega
    rw [List.getElem?_take_of_lt hm] at hi
    exact ⟨i, x, hm, hi, h⟩
  · rintro ⟨i, x, hm, hi, h⟩
    exact ⟨i, x, by rw [List.getElem?_take_of_lt hm]; exact hi, h⟩
theorem incB_iff {l : List Int} : incB l = true ↔ IncTo l l.length := by
  constructor
  · intro h
    unfold incB at h
    rw [List.all_eq_true] at h
    intro i hi
    have := h (i + 1) (List.mem_range.2 hi)
    simpa using this
  · exact incB_true
theorem inc_lt {l : List Int} (h : IncTo l l.length) : ∀ (i j : Nat), i < j → j < l.length → l[i]?.getD 0 < l[j]?.getD 0 := by
  intro i j
  induction j with
  | zero => intro h; omega
  | succ j ih =>
    intro hij hj
    have h1 := h j hj
    by_cases e : i = j
    · subst e; exact h1
    · have := ih (by omega) (by omega); omega

theorem scan_one {l : List Int} {ws : List WE} (hR : Rise ws) : ∀ m, m ≤ ws.length → (∀ i, i < scanK l (ws.take m) → numW (ws.take m) (l[i]?.getD 0) = true) ∧ IncTo l (scanK l (ws.take m)) := by
  intro m
  induction m with
  | zero => intro _; simp [scanK, IncTo]
  | succ m ih =>
    intro hm
    obtain ⟨h1, h2⟩ := ih (by omega)
    have hx : ws[m]? = some (ws[m]'(by omega)) := List.getElem?_eq_getElem _
    rw [scanK_snoc hx]
    have mono : ∀ j, numW (ws.take m) j = true → numW (ws.take (m + 1)) j = true := fun j hj => by
      rw [numW_take] at hj ⊢
      obtain ⟨i, x, a, b, c⟩ := hj
      exact ⟨i, x, by omega, b, c⟩
    unfold scanStep
    split
    · rename_i hc
      obtain ⟨hc1, hc2⟩ := hc
      refine ⟨fun i hi => ?_, fun i hi => ?_⟩
      · by_cases e : i = scanK l (ws.take m)
        · rw [e, hc2, numW_take]; exact ⟨m, _, by omega, hx, rfl⟩
        · exact mono _ (h1 i (by omega))
      · by_cases e : i + 1 = scanK l (ws.take m)
        · rw [e, hc2]
          have := h1 i (by omega)
          rw [numW_take] at this
          obtain ⟨j, y, a, b, c⟩ := this
          rw [← c]
          exact hR j m y _ a b hx
        · exact h2 i (by omega)
    · exact ⟨fun i hi => mono _ (h1 i hi), h2⟩

theorem scan_two {l : List Int} {ws : List WE} (hR : Rise ws) (hI : IncTo l l.length) (hA : ∀ i, i < l.length → numW ws (l[i]?.getD 0) = true) : ∀ m, m ≤ ws.length → ∀ i, scanK l (ws.take m) ≤ i → i < l.length → numW (ws.take m) (l[i]?.getD 0) = false := by
  intro m
  induction m with
  | zero => intro _ i _ _; simp [numW]
  | succ m ih =>
    intro hm i hi hil
    have hx : ws[m]? = some (ws[m]'(by omega)) := List.getElem?_eq_getElem _
    rw [scanK_snoc hx] at hi
    have key : ∀ q, numW (ws.take m) q = false → q ≠ (ws[m]'(by omega)).1 → numW (ws.take (m + 1)) q = false := fun q h h' => by
      cases hq : numW (ws.take (m + 1)) q
      · rfl
      · rw [numW_take] at hq
        obtain ⟨j, y, a, b, c⟩ := hq
        exfalso
        by_cases e : j = m
        · subst e; rw [hx] at b; cases b; exact h' c.symm
        · have : numW (ws.take m) q = true := by rw [numW_take]; exact ⟨j, y, by omega, b, c⟩
          rw [h] at this; cases this
    unfold scanStep at hi
    split at hi
    · rename_i hc
      obtain ⟨hc1, hc2⟩ := hc
      refine key _ (ih (by omega) i (by omega) hil) ?_
      have := inc_lt hI _ i (show scanK l (ws.take m) < i by omega) hil
      omega
    · rename_i hc
      refine key _ (ih (by omega) i hi hil) ?_
      intro e
      by_cases e2 : i = scanK l (ws.take m)
      · exact hc ⟨by omega, by rw [← e2]; exact e⟩
      · have hk : scanK l (ws.take m) < l.length := by omega
        have h3 := inc_lt hI _ i (show scanK l (ws.take m) < i by omega) hil
        have h4 := hA _ hk
        rw [numW_iff] at h4
        obtain ⟨j, y, b, c⟩ := h4
        have h5 := ih (by omega) _ (Nat.le_refl _) hk
        by_cases hj : j < m
        · have : numW (ws.take m) (l[scanK l (ws.take m)]?.getD 0) = true := by rw [numW_take]; exact ⟨j, y, hj, b, c⟩
          rw [h5] at this; cases this
        · by_cases hjm : j = m
          · subst hjm; rw [hx] at b; cases b; omega
          · have := hR m j _ y (by omega) hx b
            omega

theorem scan_all {l : List Int} {ws : List WE} (hR : Rise ws) : (incB l && l.all (numW ws)) = decide (scanK l ws = l.length) := by
  have e : ws.take ws.length = ws := List.take_length
  rw [Bool.eq_iff_iff, Bool.and_eq_true, decide_eq_true_eq, incB_iff, List.all_eq_true]
  constructor
  · rintro ⟨h1, h2⟩
    have h3 := scan_two hR h1 (fun i hi => h2 _ (by rw [List.getElem?_eq_getElem hi]; exact List.getElem_mem _)) ws.length (Nat.le_refl _)
    have h4 := scanK_le l ws ws.length
    rw [e] at h3 h4
    rcases Nat.lt_or_ge (scanK l ws) l.length with h5 | h5
    · have := h3 _ (Nat.le_refl _) h5
      rw [h2 _ (by rw [List.getElem?_eq_getElem h5]; exact List.getElem_mem _)] at this
      cases this
    · omega
  · intro h
    obtain ⟨h1, h2⟩ := scan_one (l := l) hR ws.length (Nat.le_refl _)
    rw [e, h] at h1 h2
    refine ⟨h2, fun x hx => ?_⟩
    obtain ⟨i, hi⟩ := List.getElem?_of_mem hx
    have := h1 i (List.getElem?_eq_some_iff.1 hi).1
    rw [hi] at this
    exact this
end Go.Proofs.YtoakeclpakjbiaaDoor
