/-
  A slice of pairs of integers opened: as a list, all of whose numbers fit.
-/
import Derived.Test.YtlmmjaolmmcklaaOpen
import Derived.Test.YtlmmjaolmmcklaaValid
import Derived.Lib.SmallJoins
namespace Go.Proofs.Ytlmmjaolmmcklaa
open Go.RowKit Go.WideShapes Go.ChangeShapes Go.ChangeAt Go.Deep Go.Joins
set_option linter.unusedVariables false

section
variable {H : Type} {enc : TypeId × Value → H} {P : Program} {w : World} {base : Nat} {spare : Nat → Bool} {held : Bool}
theorem array1 {α : Type} {cs : Array α} (h : cs.size = 1) : ∃ c0, cs = #[c0] := by
  obtain ⟨l⟩ := cs
  match l, h with
  | [c0], _ => exact ⟨c0, rfl⟩
theorem open_agg1 {r : Reach} {b0 : Nat} {t : TypeId} {f0 : Field} {v : Value} {d : DataW H} {p : List MemPlace} (hs : P.underlying t = some (.struct #[f0])) (hone : oneCellFields P #[f0] = true) (hC : P.cellsOf t = 1)
    (hv : Value.okWide P w r b0 t v) (h : DataW.Trod enc P w base spare held t v d p) :
    ∃ (v0 : Value) (y0 : DataW H × List MemPlace) (n : Nat), v = .agg #[v0] ∧ d = .agg [y0.1] ∧ p = y0.2 ∧ DataW.trod enc P w base spare held n f0.type [v0] = some y0 := by
  obtain ⟨cs, rfl, hsz⟩ := okWide_struct hs hv
  obtain ⟨c0, rfl⟩ := array1 (hsz.trans hC)
  obtain ⟨fuel, hf⟩ := h
  obtain ⟨y0, n, hx, _, h0⟩ := trod_struct1 hs hf
  obtain ⟨o0, k0⟩ := hone_of hone 0 f0 rfl
  simp only [Prod.mk.injEq] at hx
  exact ⟨c0, y0, n, rfl, hx.1, hx.2, by simpa [Value.cells, o0, k0] using h0⟩
theorem open_prs {t e : TypeId} {fuel : Nat} {v : Value} {x : DataW H × List MemPlace} {f0 f1 : Field} (ht : P.underlying t = some (.slice e)) (he : P.underlying e = some (.struct #[f0, f1]))
    (hone : oneCellFields P #[f0, f1] = true) (hC : P.cellsOf e = 2) (t0 : P.underlying f0.type = some (.int .i64)) (t1 : P.underlying f1.type = some (.int .i64))
    (h : DataW.trod enc P w base spare held fuel t [v] = some x) : ∃ A n c l, v = .slice A n c ∧ n ≤ maxLen ∧ n ≤ c ∧ Fit2 l ∧ Reads w w.heap.size 2 A n (prs l) := by
  rcases open_fields ht he hone hC h with hcs | ⟨a, len, cap, hcs, hl, hm, hi⟩
  · simp only [List.cons.injEq, and_true] at hcs
    exact ⟨none, 0, 0, [], hcs, by unfold maxLen; omega, by omega, fun D V i h => by simp at h, Reads.none_⟩
  · simp only [List.cons.injEq, and_true] at hcs
    obtain ⟨b, o, spot⟩ := a
    have hsp : 0 < len → spot = none := fun hpos => by
      obtain ⟨u, y, k, hc, _⟩ := hi 0 hpos 0 f0 rfl
      simpa [Addr.add] using World.cell?_spot hc
    have hblt : 0 < len → b < w.heap.size := fun hpos => by
      obtain ⟨u, y, k, hc, _⟩ := hi 0 hpos 0 f0 rfl
      simpa [Addr.add] using cell_lt hc
    have hadd : 0 < len → ∀ k, (⟨b, o, spot⟩ : Addr).add k = ⟨b, o + k, none⟩ := fun hpos k => by
      rw [hsp hpos]; by_cases hk : k = 0
      · subst hk; simp [Addr.add]
      · simp [Addr.add, hk]
    obtain ⟨l, hll, hq⟩ := list_of (fun i (x : Int × Int) => ((-9223372036854775808 ≤ x.1 ∧ x.1 ≤ 9223372036854775807) ∧ -9223372036854775808 ≤ x.2 ∧ x.2 ≤ 9223372036854775807) ∧ ∀ j u, (prc x)[j]? = some u → w.cell? ⟨b, o + (i * 2 + j), none⟩ = some u) len (fun i hil => by
      have hpos : 0 < len := by omega
      obtain ⟨u0, y0, k0, c0, h0⟩ := hi i hil 0 f0 rfl
      obtain ⟨u1, y1, k1, c1, h1⟩ := hi i hil 1 f1 rfl
      obtain ⟨z0, e0, _, w0⟩ := DataW.trod_int t0 h0
      obtain ⟨z1, e1, _, w1⟩ := DataW.trod_int t1 h1
      simp at e0 e1
      subst e0 e1
      rw [hadd hpos] at c0 c1
      refine ⟨(z0, z1), ⟨fit64 w0, fit64 w1⟩, fun j u hu => ?_⟩
      match j, hu with
      | 0, hu => simp [prc] at hu; rw [← hu]; exact c0
      | 1, hu => simp [prc] at hu; rw [← hu]; exact c1
      | j + 2, hu => simp [prc] at hu)
    rcases Nat.eq_zero_or_pos len with hz | hz
    · have hl0 : l = [] := List.eq_nil_of_length_eq_zero (by omega)
      subst hz
      exact ⟨_, 0, cap, [], hcs, by unfold maxLen; omega, by omega, fun D V i h => by simp at h, ⟨by simp [prs], fun h => absurd h (by omega)⟩⟩
    · have hs0 := hsp hz
      subst hs0
      refine ⟨_, len, cap, l, hcs, by omega, hl, fun D V i h => (hq i _ h).1, ?_⟩
      have := Reads.of_recs (w := w) (B := w.heap.size) (b := b) (o := o) (m := 2) (f := prc) (l := l) (fun _ => rfl) (by omega) (fun _ => hblt hz) (fun k x h => (hq k x h).2)
      rw [hll] at this
      exact this
end
end Go.Proofs.Ytlmmjaolmmcklaa
