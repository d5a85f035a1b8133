/-
  The call's own map of numbers to bools, as a set: what a look-up gives, a store of true, a strike.
-/
import Derived.Test.YtjmegnbjacndpaaKit
import Derived.Maps.OwnSet
import Derived.Maps.OwnOps
import Derived.Maps.Views
namespace Go.Proofs.Ytjmegnbjacndpaa
open Go.RowKit Go.Maps
theorem lawI : Keyed Try.prog 3 := int_keyed Try.underlying3
/-- Block b of w is a map of at most n numbers to bools, in which each number reads as S says. -/
def OwnsSet (w : World) (b n : Nat) (S : Int → Bool) : Prop :=
  ∃ D : DataW Unit, w.ownsMap Try.prog 3 (plainElem Try.prog 4) b n D ∧ IsMap D ∧ ∀ k : Int, D.atKey (.int .i64 k) (.lit (.bool false)) = .lit (.bool (S k))
theorem OwnsSet.made (w : World) : OwnsSet (w.alloc (.map #[] 0)) w.heap.size 0 (fun _ => false) :=
  ⟨.map [], World.ownsMap_made _ _ _ _, ⟨[], rfl⟩, fun _ => rfl⟩
theorem OwnsSet.mono {w : World} {b n m : Nat} {S : Int → Bool} (h : OwnsSet w b n S) (hn : n ≤ m) : OwnsSet w b m S := by
  obtain ⟨D, h1, h2⟩ := h
  exact ⟨D, h1.mono hn, h2⟩
theorem OwnsSet.below {w w' : World} {b n B : Nat} {S : Int → Bool} (h : OwnsSet w b n S) (hb : Below B w w') (hB : b < B) : OwnsSet w' b n S := by
  obtain ⟨D, ⟨es, clock, h1, h2⟩, h3⟩ := h
  exact ⟨D, ⟨es, clock, (hb.block b hB).trans h1, h2⟩, h3⟩
theorem OwnsSet.alloc {w : World} {b n : Nat} {S : Int → Bool} (h : OwnsSet w b n S) (o : Obj) : OwnsSet (w.alloc o) b n S := by
  obtain ⟨D, h1, h2⟩ := h
  exact ⟨D, h1.alloc o, h2⟩
theorem OwnsSet.drewN {w : World} {b n : Nat} {S : Int → Bool} (h : OwnsSet w b n S) (k : Nat) : OwnsSet (w.drewN k) b n S := h
theorem OwnsSet.cell {w : World} {b n : Nat} {S : Int → Bool} (h : OwnsSet w b n S) {a : Addr} (ha : b ≠ a.block) (u : Value) : OwnsSet (w.setCell a u) b n S := by
  obtain ⟨D, h1, h2⟩ := h
  exact ⟨D, h1.setCell ha u, h2⟩
theorem OwnsSet.ext {w : World} {b n : Nat} {S T : Int → Bool} (h : OwnsSet w b n S) (e : ∀ k, S k = T k) : OwnsSet w b n T := by
  obtain ⟨D, h1, h2, h3⟩ := h
  exact ⟨D, h1, h2, fun k => by rw [h3, e]⟩
section
variable {w : World} {ops : Array Oper} {rest : List Oper} {o : Oper} {a : Act} {Q : Exit → Act → World → Prop}
theorem put_set (hg : o.guard = none) (m x v : Operand) (hop : o.op = Op.mapUpdate 78 m x v) (b n : Nat) (S : Int → Bool) (k : Int)
    (hm : a.eval m = .map (some b)) (hown : OwnsSet w b n S) (hn : n < maxLen) (hx : a.eval x = .int .i64 k) (hk : (Lit.int .i64 k).wf = true) (hv : a.eval v = .bool true)
    (hK : ∀ w', OwnsSet w' b (n + 1) (fun j => decide (j = k) || S j) → w.grownBy w' (some b) → wpList Try.prog ops Q rest (a.put o.dst undef) w') : wpList Try.prog ops Q (o :: rest) a w := by
  obtain ⟨D, h1, h2, h3⟩ := hown
  refine wpList_mapUpdate_own w hg m x v 78 hop 3 4 lawI Try.underlying78 _ b n D hm h1 hn _ _ _ hx hv (keyOf_int_mk Try.underlying3 hk) (.lit (.bool true)) [] (plainElem_bool Try.underlying4 true) ?_
  intro w' g1 g2
  refine hK w' ⟨_, g1, ?_, fun j => ?_⟩ g2
  · obtain ⟨es, rfl⟩ := h2
    exact ⟨_, rfl⟩
  · by_cases hj : j = k
    · subst hj; rw [atKey_put_same h2 (k := .int .i64 j) (by simp [WideAt.IsKeyLit])]; simp
    · rw [atKey_put_other (by simpa using hj), h3]; simp [hj]
end
end Go.Proofs.Ytjmegnbjacndpaa
