/-
  The call's own map of numbers to bools, by which keys there are: a store of true, a strike, how many there are.
-/
import Derived.Test.YtoakeclpakjbiaaDoorKit
import Derived.Maps.OwnSet
import Derived.Maps.OwnOps
import Derived.Maps.Views
namespace Go.Proofs.YtoakeclpakjbiaaDoor
open Go.RowKit Go.Maps
set_option linter.unusedVariables false

theorem lawI : Keyed Tryd.prog 3 := int_keyed Tryd.underlying3
def otherKey (p : Lit × DataW Unit) : Bool := match p.1 with | .int .i64 _ => false | _ => true
def noOther (D : DataW Unit) : Prop := ∀ es, D = .map es → es.any otherKey = false
theorem noOther_nil : noOther (.map []) := fun es e => by cases e; rfl
theorem noOther_put {D : DataW Unit} (h : noOther D) (k : Int) (d : DataW Unit) : noOther (D.put (.int .i64 k) d) := by
  intro es e
  cases D with
  | map es0 =>
    simp only [DataW.put, DataW.map.injEq] at e
    subst e
    rw [any_insert]
    have h0 := h es0 rfl
    rw [List.any_eq_false] at h0
    simp only [otherKey, Bool.false_or]
    rw [List.any_eq_false]
    intro x hx
    exact h0 x ((List.mem_filter.1 hx).1)
  | _ => cases e
theorem noOther_del {D : DataW Unit} (h : noOther D) (k : Int) : noOther (D.del (.int .i64 k)) := by
  intro es e
  cases D with
  | map es0 =>
    simp only [DataW.del, DataW.map.injEq] at e
    subst e
    have h0 := h es0 rfl
    rw [List.any_eq_false] at h0 ⊢
    intro x hx
    exact h0 x ((List.mem_filter.1 hx).1)
  | _ => cases e

/-- Block b of w is a map of at most n numbers, those of which S says so. -/
def OwnsKeys (w : World) (b n : Nat) (S : Int → Bool) : Prop :=
  ∃ D : DataW Unit, w.ownsMap Tryd.prog 3 (plainElem Tryd.prog 4) b n D ∧ IsMap D ∧ noOther D ∧ ∀ k : Int, Maps.has D (.int .i64 k) = S k
theorem OwnsKeys.made (w : World) : OwnsKeys (w.alloc (.map #[] 0)) w.heap.size 0 (fun _ => false) :=
  ⟨.map [], World.ownsMap_made _ _ _ _, ⟨[], rfl⟩, noOther_nil, fun _ => rfl⟩
theorem OwnsKeys.lt {w : World} {b n : Nat} {S : Int → Bool} (h : OwnsKeys w b n S) : b < w.heap.size := by
  obtain ⟨D, h1, h2⟩ := h
  exact h1.lt
theorem OwnsKeys.of_block {w w' : World} {b n : Nat} {S : Int → Bool} (h : OwnsKeys w b n S) (hb : w'.heap[b]? = w.heap[b]?) : OwnsKeys w' b n S := by
  obtain ⟨D, ⟨es, clock, h1, h2⟩, h3⟩ := h
  exact ⟨D, ⟨es, clock, hb.trans h1, h2⟩, h3⟩
theorem OwnsKeys.ext {w : World} {b n : Nat} {S T : Int → Bool} (h : OwnsKeys w b n S) (e : ∀ k, S k = T k) : OwnsKeys w b n T := by
  obtain ⟨D, h1, h2, h3, h4⟩ := h
  exact ⟨D, h1, h2, h3, fun k => by rw [h4, e]⟩

section
variable {w : World} {ops : Array Oper} {rest : List Oper} {o : Oper} {a : Act} {Q : Exit → Act → World → Prop}
theorem put_key (hg : o.guard = none) (m x v : Operand) (hop : o.op = Op.mapUpdate 122 m x v) (b n : Nat) (S : Int → Bool) (k : Int)
    (hm : a.eval m = .map (some b)) (hown : OwnsKeys w b n S) (hn : n < maxLen) (hx : a.eval x = .int .i64 k) (hk : (Lit.int .i64 k).wf = true) (hv : a.eval v = .bool true)
    (hK : ∀ w', OwnsKeys w' b (n + 1) (fun j => decide (j = k) || S j) → w.grownBy w' (some b) → wpList Tryd.prog ops Q rest (a.put o.dst undef) w') : wpList Tryd.prog ops Q (o :: rest) a w := by
  obtain ⟨D, h1, h2, h3, h4⟩ := hown
  refine wpList_mapUpdate_own w hg m x v 122 hop 3 4 lawI Tryd.underlying122 _ b n D hm h1 hn _ _ _ hx hv (keyOf_int_mk Tryd.underlying3 hk) (.lit (.bool true)) [] (plainElem_bool Tryd.underlying4 true) ?_
  intro w' g1 g2
  refine hK w' ⟨_, g1, h2.put _ _, noOther_put h3 _ _, fun j => ?_⟩ g2
  by_cases hj : j = k
  · subst hj; rw [has_put_same h2 (k := .int .i64 j) (by simp [WideAt.IsKeyLit])]; simp
  · rw [has_put_other (by simpa using hj), h4]; simp [hj]

theorem del_key (hg : o.guard = none) (m x : Operand) (hop : o.op = Op.call { callee := Callee.builtin Builtin.delete, args := #[m, x], argTypes := #[122, 3] }) (b n : Nat) (S : Int → Bool) (k : Int)
    (hm : a.eval m = .map (some b)) (hown : OwnsKeys w b n S) (hx : a.eval x = .int .i64 k) (hk : (Lit.int .i64 k).wf = true)
    (hK : ∀ w', OwnsKeys w' b n (fun j => !decide (j = k) && S j) → w.grownBy w' (some b) → wpList Tryd.prog ops Q rest (a.put o.dst (.tuple #[])) w') : wpList Tryd.prog ops Q (o :: rest) a w := by
  obtain ⟨D, h1, h2, h3, h4⟩ := hown
  refine wpList_delete_own w hg m x 122 3 hop 4 lawI Tryd.underlying122 _ b n D hm h1 _ _ hx (keyOf_int_mk Tryd.underlying3 hk) ?_
  intro w' g1 g2
  refine hK w' ⟨_, g1, h2.del _, noOther_del h3 _, fun j => ?_⟩ g2.grown
  by_cases hj : j = k
  · subst hj; rw [has_del_same]; simp
  · rw [has_del_other (by simpa using hj), h4]; simp [hj]

theorem len_key (hg : o.guard = none) (m : Operand) (hop : o.op = Op.call { callee := Callee.builtin Builtin.len, args := #[m], argTypes := #[122] }) (b n : Nat) (S : Int → Bool)
    (hm : a.eval m = .map (some b)) (hown : OwnsKeys w b n S)
    (hK : ∀ c : Nat, c ≤ n → (c = 0 ↔ ∀ k, S k = false) → wpList Tryd.prog ops Q rest (a.put o.dst (.int .i64 c)) w) : wpList Tryd.prog ops Q (o :: rest) a w := by
  obtain ⟨D, h1, h2, h3, h4⟩ := hown
  refine wpList_len_own w hg m 122 hop 3 4 Tryd.underlying122 _ b n D hm h1 (hK (Maps.size D) h1.size_le ?_)
  obtain ⟨es, rfl⟩ := h2
  simp only [size_eq, has_eq] at h4 ⊢
  constructor
  · intro h0 k
    rw [← h4, List.eq_nil_of_length_eq_zero h0]; rfl
  · intro hS
    cases es with
    | nil => rfl
    | cons p r =>
      exfalso
      have h0 := h3 _ rfl
      rw [List.any_eq_false] at h0
      have h5 := h0 p (by simp)
      obtain ⟨l, d⟩ := p
      match l, h5 with
      | .int .i64 k, _ =>
        have h6 := h4 k
        rw [hS k] at h6
        simp [Lit.sameKey] at h6
end
end Go.Proofs.YtoakeclpakjbiaaDoor
