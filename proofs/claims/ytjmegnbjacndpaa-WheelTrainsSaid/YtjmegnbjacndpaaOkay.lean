/-
  A train that is valid, of valid wheels, picks wheels that have from 1 to 120 teeth.
-/
import Derived.Test.YtjmegnbjacndpaaRefB
namespace Go.Proofs.Ytjmegnbjacndpaa
open Go.RowKit Go.Maps
theorem pick_mem (l : List (Int × Int)) : ∀ (S : Int → Bool), pick S l = true → ∀ (i : Nat) (D V : Int), l[i]? = some (D, V) → S D = true ∧ S V = true := by
  induction l with
  | nil => intro S _ i D V h; simp at h
  | cons a l ih =>
    intro S h i D V hi
    unfold pick at h
    simp only [Bool.and_eq_true] at h
    obtain ⟨⟨h1, h2, h3⟩, h4⟩ := h
    cases i with
    | zero => simp at hi; subst hi; exact ⟨h1, h3⟩
    | succ i =>
      have := ih _ h4 i D V (by simpa using hi)
      simp only [Bool.and_eq_true] at this
      exact ⟨this.1.2.2, this.2.2.2⟩
theorem okay_of {n : Nat} {ts : List Int} {l : List (Int × Int)} (hl : ts.length = n) (h : okW n ts = true) (h' : validB n l = true) : Okay n ts l := by
  unfold okW at h
  unfold validB at h'
  simp only [Bool.and_eq_true, decide_eq_true_eq] at h h'
  refine ⟨h'.1.2, fun D h1 h2 => ?_, fun i D V hi => ?_⟩
  · have hlt : (D - 1).toNat < ts.length := by omega
    have he : tAt ts D = ts[(D - 1).toNat] := by unfold tAt; rw [List.getD_eq_getElem?_getD, List.getElem?_eq_getElem hlt]; rfl
    rw [he]
    have := h.2
    unfold inB at this
    rw [List.all_eq_true] at this
    have := this _ (List.getElem_mem hlt)
    generalize ts[(D - 1).toNat] = x at *
    simp at this
    omega
  · obtain ⟨a, b⟩ := pick_mem l _ h'.2 i D V hi
    unfold freeB at a b
    simp at a b
    exact ⟨a, b⟩
end Go.Proofs.Ytjmegnbjacndpaa
