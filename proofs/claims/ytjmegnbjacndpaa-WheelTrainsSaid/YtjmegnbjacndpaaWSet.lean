/-
  The call's own set of numbers whose keys are just its members; all free wheels as such a set.
-/
import Derived.Test.YtjmegnbjacndpaaWtP
import Derived.Lib.SlKeysI
namespace Go.Proofs.Ytjmegnbjacndpaa
open Go.RowKit Go.Maps
set_option linter.unusedVariables false
set_option linter.unusedSimpArgs false

/-- Block b of w is a map of at most n numbers to bools, whose keys are just those that S holds. -/
def OwnsF (w : World) (b n : Nat) (S : Int → Bool) : Prop :=
  ∃ D : DataW Unit, w.ownsMap Try.prog 3 (plainElem Try.prog 4) b n D ∧ IsMap D ∧ (∀ k : Int, D.atKey (.int .i64 k) (.lit (.bool false)) = .lit (.bool (S k))) ∧ ∀ k : Int, has D (.int .i64 k) = S k
theorem OwnsF.made (w : World) : OwnsF (w.alloc (.map #[] 0)) w.heap.size 0 (fun _ => false) :=
  ⟨.map [], World.ownsMap_made _ _ _ _, ⟨[], rfl⟩, fun _ => rfl, fun _ => rfl⟩
theorem OwnsF.set {w : World} {b n : Nat} {S : Int → Bool} (h : OwnsF w b n S) : OwnsSet w b n S := by
  obtain ⟨D, h1, h2, h3, h4⟩ := h
  exact ⟨D, h1, h2, h3⟩
theorem OwnsF.lt {w : World} {b n : Nat} {S : Int → Bool} (h : OwnsF w b n S) : b < w.heap.size := by
  obtain ⟨D, h1, h2⟩ := h
  exact h1.lt
theorem OwnsF.block {w w' : World} {b n : Nat} {S : Int → Bool} (h : OwnsF w b n S) (hb : w'.heap[b]? = w.heap[b]?) : OwnsF w' b n S := by
  obtain ⟨D, ⟨es, clock, h1, h2⟩, h3⟩ := h
  exact ⟨D, ⟨es, clock, hb.trans h1, h2⟩, h3⟩
theorem OwnsF.below {w w' : World} {b n B : Nat} {S : Int → Bool} (h : OwnsF w b n S) (hb : Below B w w') (hB : b < B) : OwnsF w' b n S := h.block (hb.block b hB)
theorem OwnsF.alloc {w : World} {b n : Nat} {S : Int → Bool} (h : OwnsF w b n S) (o : Obj) : OwnsF (w.alloc o) b n S := by
  obtain ⟨D, h1, h2⟩ := h
  exact ⟨D, h1.alloc o, h2⟩
theorem OwnsF.ext {w : World} {b n : Nat} {S T : Int → Bool} (h : OwnsF w b n S) (e : ∀ k, S k = T k) : OwnsF w b n T := by
  obtain ⟨D, h1, h2, h3, h4⟩ := h
  exact ⟨D, h1, h2, fun k => by rw [h3, e], fun k => by rw [h4, e]⟩

section
variable {w : World} {ops : Array Oper} {rest : List Oper} {o : Oper} {a : Act} {Q : Exit → Act → World → Prop}
theorem put_setF (hg : o.guard = none) (m x v : Operand) (hop : o.op = Op.mapUpdate 78 m x v) (b n : Nat) (S : Int → Bool) (k : Int)
    (hm : a.eval m = .map (some b)) (hown : OwnsF w b n S) (hn : n < maxLen) (hx : a.eval x = .int .i64 k) (hk : (Lit.int .i64 k).wf = true) (hv : a.eval v = .bool true)
    (hK : ∀ w', OwnsF w' b (n + 1) (fun j => decide (j = k) || S j) → w.grownBy w' (some b) → wpList Try.prog ops Q rest (a.put o.dst undef) w') : wpList Try.prog ops Q (o :: rest) a w := by
  obtain ⟨D, h1, h2, h3, h4⟩ := hown
  refine wpList_mapUpdate_own w hg m x v 78 hop 3 4 lawI Try.underlying78 _ b n D hm h1 hn _ _ _ hx hv (keyOf_int_mk Try.underlying3 hk) (.lit (.bool true)) [] (plainElem_bool Try.underlying4 true) ?_
  intro w' g1 g2
  refine hK w' ⟨_, g1, ?_, fun j => ?_, fun j => ?_⟩ g2
  · obtain ⟨es, rfl⟩ := h2
    exact ⟨_, rfl⟩
  · by_cases hj : j = k
    · subst hj; rw [atKey_put_same h2 (k := .int .i64 j) (by simp [WideAt.IsKeyLit])]; simp
    · rw [atKey_put_other (by simpa using hj), h3]; simp [hj]
  · by_cases hj : j = k
    · subst hj; rw [has_put_same h2 (k := .int .i64 j) (by simp [WideAt.IsKeyLit])]; simp
    · rw [has_put_other (by simpa using hj), h4]; simp [hj]
theorem del_setF (hg : o.guard = none) (m x : Operand) (hop : o.op = Op.call { callee := Callee.builtin Builtin.delete, args := #[m, x], argTypes := #[78, 3] }) (b n : Nat) (S : Int → Bool) (k : Int)
    (hm : a.eval m = .map (some b)) (hown : OwnsF w b n S) (hx : a.eval x = .int .i64 k) (hk : (Lit.int .i64 k).wf = true)
    (hK : ∀ w', OwnsF w' b n (fun j => !decide (j = k) && S j) → w.grownBy w' (some b) → wpList Try.prog ops Q rest (a.put o.dst (.tuple #[])) w') : wpList Try.prog ops Q (o :: rest) a w := by
  obtain ⟨D, h1, h2, h3, h4⟩ := hown
  refine wpList_delete_own w hg m x 78 3 hop 4 lawI Try.underlying78 _ b n D hm h1 _ _ hx (keyOf_int_mk Try.underlying3 hk) ?_
  intro w' g1 g2
  refine hK w' ⟨_, g1, ?_, fun j => ?_, fun j => ?_⟩ g2.grown
  · obtain ⟨es, rfl⟩ := h2
    exact ⟨_, rfl⟩
  · by_cases hj : j = k
    · subst hj; rw [atKey_del_same]; simp
    · rw [atKey_del_other (by simpa using hj), h3]; simp [hj]
  · by_cases hj : j = k
    · subst hj; rw [has_del_same]; simp
    · rw [has_del_other (by simpa using hj), h4]; simp [hj]
end

/-- The free wheels, in order. -/
def frs (n : Nat) (S : Int → Bool) : List Int := (whs n).filter S
theorem whs_sorted (n : Nat) : (whs n).Pairwise (fun a b => a ≤ b) ∧ (whs n).Nodup := by
  have hr := List.pairwise_lt_range (n := n)
  refine ⟨?_, ?_⟩
  · unfold whs
    exact List.pairwise_map.2 (hr.imp fun h => by omega)
  · unfold whs
    exact List.pairwise_map.2 (hr.imp fun h => by omega)
theorem whs_memS {n : Nat} {x : Int} : x ∈ whs n ↔ 1 ≤ x ∧ x ≤ n := by
  unfold whs
  rw [List.mem_map]
  constructor
  · rintro ⟨i, hi, rfl⟩
    have := List.mem_range.1 hi
    omega
  · rintro ⟨a, b⟩
    exact ⟨(x - 1).toNat, List.mem_range.2 (by omega), by omega⟩
theorem frs_mem {n : Nat} {S : Int → Bool} (hS : ∀ k, S k = true → 1 ≤ k ∧ k ≤ (n : Int)) (x : Int) : x ∈ frs n S ↔ S x = true := by
  unfold frs
  rw [List.mem_filter, whs_memS]
  exact ⟨fun h => h.2, fun h => ⟨hS x h, h⟩⟩
theorem frs_len (n : Nat) (S : Int → Bool) : (frs n S).length ≤ n := by
  refine Nat.le_trans (List.length_filter_le _ _) ?_
  simp [whs]
theorem frs_of_perm {n : Nat} {S : Int → Bool} {D : DataW Unit} {w : World} {b m : Nat} (hS : ∀ k, S k = true → 1 ≤ k ∧ k ≤ (n : Int)) (h1 : w.ownsMap Try.prog 3 (plainElem Try.prog 4) b m D) (h4 : ∀ k : Int, has D (.int .i64 k) = S k) {ss : List Int} (hp : ss.Perm (intKeys D)) :
    ss.mergeSort (fun x y => decide (x ≤ y)) = frs n S := by
  obtain ⟨es, hD, hpw, hkl⟩ := h1.entries lawI
  obtain ⟨es', hD', hko⟩ := h1.keysOf
  obtain rfl : es = es' := by rw [hD] at hD'; simpa using hD'
  subst hD
  have hq : (frs n S).Perm (intKeys (.map es)) := perm_intKeys hpw (fun p hp => by obtain ⟨v, hv⟩ := hko p hp; obtain ⟨x, _, hx, _⟩ := Maps.keyOf_i64 Try.underlying3 hv; exact ⟨x, hx⟩) ((whs_sorted n).2.filter _) (fun x => by rw [h4, frs_mem hS])
  have h := mergeSort_of_perm_i (hp.trans hq.symm)
  unfold leI at h
  rw [h]
  refine List.mergeSort_of_pairwise ?_
  exact ((whs_sorted n).1.filter _).imp fun h => by simpa using h

set_option maxRecDepth 100000 in
theorem freeF_any (A : Option Addr) (n c : Nat) (hn : n ≤ 20) (w : World) :
    Calls Try.prog 41 #[.agg #[.slice A n c]] w fun e w' => (∃ b, e = .returned (.map (some b)) ∧ w.heap.size ≤ b ∧ OwnsF w' b n (freeB n)) ∧ Below w.heap.size w w' := by
  have hmm := @run_makeMap Try.prog
  go_enter Try.func41, Try.ntmps41
  go_wp2
  go_loopw [10] (fun i wr => ∃ k : Nat, k ≤ n ∧ i = .int .i64 k ∧ Hid (OwnsF wr (w.heap.size + 1) k (freeB k)) ∧ Below w.heap.size w wr) (fun i _ => n - (RowKit.intOf i).toNat)
  case atStart => exact ⟨0, Nat.zero_le _, rfl, Lib.hid (by simpa using (OwnsF.made (w.alloc (.cells #[.slice A n c] 50))).ext (fun k => by unfold freeB; simp; omega)), ((Below.refl _ _).alloc (Nat.le_refl _) _).alloc (by simp) _⟩
  case round =>
    obtain ⟨k, hk, rfl, hown, hnx⟩ := hrel
    go_wp2_with (first
      | (at_mapUpdate; refine put_setF rfl _ _ _ rfl (w.heap.size + 1) k (freeB k) _ rfl hown.out (by unfold maxLen; omega) rfl (WalkArith.wf_i64 (by omega)) rfl ?_; intro w1 hown1 hgrow1)
      | go_in)
    · go_roundw
      case rel => exact ⟨k + 1, by omega, by go_num, hown1.ext (fun j => by unfold freeB; apply Bool.eq_iff_iff.2; simp; omega), hnx.grown hgrow1 hnx.size (fun j hj => by cases hj; omega)⟩
      case measure => simp [RowKit.intOf]; omega
    · have : k = n := by omega
      subst this
      go_ret
      exact ⟨⟨_, rfl, by omega, hown.out⟩, hnx⟩
end Go.Proofs.Ytjmegnbjacndpaa
