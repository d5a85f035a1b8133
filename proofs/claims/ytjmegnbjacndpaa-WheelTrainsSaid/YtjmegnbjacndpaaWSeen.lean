/-
  The call's own map of parts to bools: the set of those that were seen.
-/
import Derived.Test.YtjmegnbjacndpaaWKp
import Derived.Test.YtjmegnbjacndpaaWtN
import Derived.Maps.Own
import Derived.Maps.OwnSet
import Derived.Maps.Views
import Derived.DeepKeys4
import Derived.DeepKeys5
namespace Go.Proofs.Ytjmegnbjacndpaa
open Go.RowKit Go.Maps
set_option linter.unusedVariables false
set_option linter.unusedSimpArgs false

set_option maxRecDepth 100000 in
theorem laidP : laidOutB Try.prog = true := by kernel_rfl
set_option maxRecDepth 100000 in
theorem rowP : (26 : TypeId) < Try.prog.types.size := of_decide_eq_true (by kernel_rfl)
theorem wideP : (match Try.prog.underlying 26 with | some (.array _ _) | some (.struct _) => true | _ => false) = true := by rw [Try.underlying26]
set_option maxRecDepth 100000 in
theorem lawP : Keyed Try.prog 26 := Keyed.of_law (deep_law_laid laidP (m := 2) (by omega) rowP (by kernel_rfl) wideP)
theorem zeroP (w : World) : (zeroValue 4).run Try.prog w = .ok (.bool false) w := by kernel_rfl
def keyP (x : Int × Int) : Lit := .string (keyBytes [.int .i64 x.1, .int .i64 x.2])
def inK (x : Int × Int) : Prop := (-9223372036854775808 ≤ x.1 ∧ x.1 ≤ 9223372036854775807) ∧ -9223372036854775808 ≤ x.2 ∧ x.2 ≤ 9223372036854775807
theorem keyP_of (x : Int × Int) (hx : inK x) : keyOf Try.prog 26 (.agg #[.int .i64 x.1, .int .i64 x.2]) = some (keyP x) := by
  have h1 : (Lit.int .i64 x.1).wf = true := WalkArith.wf_i64 hx.1
  have h2 : (Lit.int .i64 x.2).wf = true := WalkArith.wf_i64 hx.2
  have hty : (Try.prog.keyType 26 && (Value.agg #[.int .i64 x.1, .int .i64 x.2]).formed Try.prog 26) = true := by kernel_rfl
  have hc : Try.prog.cellsOf 26 = 2 := by kernel_rfl
  have hci : Try.prog.cellsOf 3 = 1 := by kernel_rfl
  obtain ⟨k, hk⟩ : ∃ k, Try.prog.types.size = k + 1 := Nat.exists_eq_succ_of_ne_zero (fun h => by have h1 := rowP; rw [h] at h1; exact absurd h1 (Nat.not_lt_zero _))
  have e1 : Try.prog.keyLits (k + 1 + 1) 26 [.int .i64 x.1, .int .i64 x.2] = some [.int .i64 x.1, .int .i64 x.2] := by
    unfold Program.keyLits
    rw [Try.underlying26]
    simp only [hc]
    unfold Program.keyLits
    simp [hci, Try.underlying3, h1, h2]
  unfold keyOf
  rw [Try.underlying26]
  simp only
  rw [if_pos hty, hk]
  show (Try.prog.keyLits (k + 1 + 1) 26 [.int .i64 x.1, .int .i64 x.2]).map _ = _
  rw [e1]
  rfl
theorem keyP_inj {x y : Int × Int} (hx : inK x) (hy : inK y) (h : keyP x = keyP y) : x = y := by
  have h1 := keyP_of x hx
  have h2 := keyP_of y hy
  rw [h] at h1
  have := lawP.inj h1 h2
  simp at this
  exact Prod.ext this.1 this.2
theorem keyP_key (x : Int × Int) : WideAt.IsKeyLit (keyP x) := by unfold keyP; simp [WideAt.IsKeyLit]

/-- Block b is a map of parts to bools; its keys are just a list without doubles. -/
def OwnsK (w : World) (b : Nat) (acc : List (Int × Int)) : Prop :=
  ∃ D : DataW Unit, w.ownsMap Try.prog 26 (plainElem Try.prog 4) b acc.length D ∧ Tidy D ∧ Maps.size D = acc.length ∧ ∀ x : Int × Int, inK x → has D (keyP x) = decide (x ∈ acc)
theorem OwnsK.made (w : World) : OwnsK (w.alloc (.map #[] 0)) w.heap.size [] :=
  ⟨.map [], World.ownsMap_made _ _ _ _, tidy_empty, rfl, fun _ _ => rfl⟩
theorem OwnsK.lt {w : World} {b : Nat} {acc : List (Int × Int)} (h : OwnsK w b acc) : b < w.heap.size := by
  obtain ⟨D, h1, h2⟩ := h
  exact h1.lt
theorem OwnsK.block {w w' : World} {b : Nat} {acc : List (Int × Int)} (h : OwnsK w b acc) (hb : w'.heap[b]? = w.heap[b]?) : OwnsK w' b acc := by
  obtain ⟨D, ⟨es, clock, h1, h2⟩, h3⟩ := h
  exact ⟨D, ⟨es, clock, hb.trans h1, h2⟩, h3⟩
theorem OwnsK.below {w w' : World} {b : Nat} {acc : List (Int × Int)} (h : OwnsK w b acc) (hb : Below w.heap.size w w') : OwnsK w' b acc := h.block (hb.block b h.lt)
theorem ownsMap_size {w : World} {b n : Nat} {k : TypeId} {R : Value → Option (DataW Unit × List MemPlace)} {D : DataW Unit} (h : w.ownsMap Try.prog k R b n D) : w.ownsMap Try.prog k R b (Maps.size D) D := by
  obtain ⟨es, clock, h1, h2, h3, rfl⟩ := h
  exact ⟨es, clock, h1, h2, by simp [Maps.size, length_sorted], rfl⟩
theorem OwnsK.len {w : World} {b : Nat} {acc : List (Int × Int)} (h : OwnsK w b acc) (ty : TypeId) : (Builtin.len_ #[67] ty #[.map (some b)]).run Try.prog w = .ok (.int .i64 (acc.length : Int)) w := by
  obtain ⟨D, h1, h2, h3, h4⟩ := h
  have := h1.len Try.underlying67 ty
  rw [h3] at this
  exact this
/-- A store into the set, in a region that draws its order. -/
theorem step_seen {w : World} {ops : Array Oper} {o : Oper} {a : Act} {K : Act → World → Prop} {Q : Exit → Act → World → Prop} {E : Prop} (hgd : o.guard = none) (m x v : Operand) (hop : o.op = Op.mapUpdate 67 m x v) (b : Nat) (acc : List (Int × Int)) (k : Int × Int) (hk : inK k)
    (hm : a.eval m = .map (some b)) (hown : OwnsK w b acc) (hn : acc.length < maxLen) (hx : a.eval x = .agg #[.int .i64 k.1, .int .i64 k.2]) (hv : a.eval v = .bool true)
    (hK : ∀ w', OwnsK w' b (addU acc k) → w.grownBy w' (some b) → K (a.put o.dst undef) w') : if Region.wanted o (yielded ops a.tmps) = true then Oper.wp Try.prog o a w K Q else E := by
  have hw : Region.wanted o (yielded ops a.tmps) = true := by simp [Region.wanted, hgd]
  rw [if_pos hw]
  obtain ⟨D, h1, h2, h3, h4⟩ := hown
  obtain ⟨w', hrun, r1, r2⟩ := h1.update lawP Try.underlying67 hn (keyP_of k hk) (d := .lit (.bool true)) (plainElem_bool Try.underlying4 true)
  have hsz : Maps.size (D.put (keyP k) (.lit (.bool true))) = (addU acc k).length := by
    rw [size_put h2, h4 k hk]
    unfold addU
    by_cases hm : k ∈ acc
    · simp [hm, h3]
    · simp [hm, h3]
  unfold Oper.wp
  simp [execOp, hop, hm, hx, hv, hrun, Result.andThen]
  refine hK w' ⟨D.put (keyP k) (.lit (.bool true)), ?_, h2.put (keyP_key k) _, hsz, fun y hy => ?_⟩ r2
  · have := ownsMap_size r1
    rw [hsz] at this
    exact this
  · by_cases e : y = k
    · subst e
      rw [has_put_same h2.isMap (keyP_key _)]
      symm
      simp [addU_mem]
    · rw [has_put_other (fun h => e (keyP_inj hy hk h)), h4 y hy]
      simp [addU_mem, e]
/-- There are no more of them than ratios of trains. -/
theorem acc_len {n : Nat} {ts : List Int} {acc : List (Int × Int)} (hnd : acc.Nodup) (M : List (Int × Int)) (h : ∀ x ∈ acc, x ∈ M) : acc.length ≤ M.length := by
  induction acc generalizing M with
  | nil => simp
  | cons y r ih =>
    rw [List.nodup_cons] at hnd
    have hy := h y (List.mem_cons_self ..)
    have h2 := ih hnd.2 (M.erase y) fun x hx => (List.mem_erase_of_ne (fun (e : x = y) => hnd.1 (e ▸ hx))).2 (h x (List.mem_cons_of_mem _ hx))
    rw [List.length_erase_of_mem hy] at h2
    have : 0 < M.length := List.length_pos_of_mem hy
    simp only [List.length_cons]
    omega
end Go.Proofs.Ytjmegnbjacndpaa
