/-
  A row's arguments opened: slices of integers and of records as lists; all arguments read again after a call that left all that was there as it was.
-/
import Derived.Test.YtlmmjaolmmcklaaDoorRec
import Derived.Test.YtlmmjaolmmcklaaDoorRow
import Derived.Deep.Slices
import Derived.Deep.Fields
import Derived.Lib.SmallJoins
namespace Go.Proofs.YtlmmjaolmmcklaaDoor
open Go.RowKit Go.WideShapes Go.ChangeShapes Go.ChangeAt Go.Deep
set_option linter.unusedVariables false

section
variable {H : Type} {enc : TypeId × Value → H} {P : Program}
theorem trodAll_stays (hl : laidOutB P = true) {W W' : World} {sp' : Nat → Bool} :
    ∀ {ts : List TypeId} {vs : List Value} {ds : List (DataW H)} {ps : List MemPlace}, (∀ t ∈ ts, P.readableRec t = true ∧ t < P.types.size) →
      DataW.TrodAll enc P W 0 (fun _ => true) true ts vs ds ps → (∀ p ∈ ps, W.sameAt W' p) → (∀ p ∈ ps, sp' p.block = true) → DataW.TrodAll enc P W' 0 sp' true ts vs ds ps
  | [], vs, ds, ps, _, h, _, _ => by
    obtain ⟨rfl, rfl, rfl⟩ := trodAll_nil h
    exact trodAll_mk0
  | t :: ts, vs, ds, ps, ht, h, hsame, hs => by
    obtain ⟨v, vs', d, ds', p, q, rfl, rfl, rfl, h1, h2⟩ := trodAll_cons h
    refine trodAll_cons_mk (WideElems.Trod_stays hl (ht t (by simp)).1 (ht t (by simp)).2 h1 (fun x hx => hsame x (by simp [hx])) (fun x hx => hs x (by simp [hx])))
      (trodAll_stays hl (fun u hu => ht u (by simp [hu])) h2 (fun x hx => hsame x (by simp [hx])) (fun x hx => hs x (by simp [hx])))
end

theorem cell_lt {w : World} {p : Addr} {v : Value} (h : w.cell? p = some v) : p.block < w.heap.size := by
  rcases Nat.lt_or_ge p.block w.heap.size with hlt | hge
  · exact hlt
  · have : w.heap[p.block]? = none := Array.getElem?_eq_none hge
    simp [World.cell?, this] at h

theorem list_of {α : Type} (Q : Nat → α → Prop) : ∀ n : Nat, (∀ i, i < n → ∃ x, Q i x) → ∃ l : List α, l.length = n ∧ ∀ i x, l[i]? = some x → Q i x
  | 0, _ => ⟨[], rfl, fun i x h => by simp at h⟩
  | n + 1, h => by
    obtain ⟨l, hl, hq⟩ := list_of Q n (fun i hi => h i (by omega))
    obtain ⟨x, hx⟩ := h n (by omega)
    refine ⟨l ++ [x], by simp [hl], fun i y hy => ?_⟩
    rcases Nat.lt_or_ge i n with h1 | h1
    · rw [List.getElem?_append_left (by omega)] at hy
      exact hq i y hy
    · rw [List.getElem?_append_right (by omega)] at hy
      have hi : i - l.length = 0 := by
        rcases Nat.eq_zero_or_pos (i - l.length) with h2 | h2
        · exact h2
        · rw [List.getElem?_eq_none (by simp; omega)] at hy; cases hy
      rw [hi] at hy
      simp at hy
      have : i = n := by omega
      subst this; subst hy
      exact hx

theorem Reads.of_recs {α : Type} {w : World} {B b o m : Nat} {f : α → List Value} {l : List α} (hm : ∀ x, (f x).length = m) (h0 : 0 < m) (hb : 0 < l.length → b < B)
    (h : ∀ k x, l[k]? = some x → ∀ j u, (f x)[j]? = some u → w.cell? ⟨b, o + (k * m + j), none⟩ = some u) : Reads w B m (some ⟨b, o, none⟩) l.length (l.flatMap f) := by
  refine ⟨flat_len f m hm l, fun hn => ⟨b, o, rfl, hb hn, fun j u hu => ?_⟩⟩
  have hj : j = j / m * m + j % m := by rw [Nat.mul_comm]; exact (Nat.div_add_mod j m).symm
  rw [hj, flat_get f m hm l _ _ (Nat.mod_lt _ h0)] at hu
  obtain ⟨x, hx, hu'⟩ := Option.bind_eq_some_iff.1 hu
  rw [hj]
  exact h _ x hx _ u hu'

section
variable {H : Type} {enc : TypeId × Value → H} {P : Program} {w : World} {base : Nat} {spare : Nat → Bool} {held : Bool}
theorem open_ints_reads {t e : TypeId} {fuel : Nat} {v : Value} {x : DataW H × List MemPlace} (ht : P.underlying t = some (.slice e)) (he : P.underlying e = some (.int .i64)) (hc : P.cellsOf e = 1)
    (h : DataW.trod enc P w base spare held fuel t [v] = some x) : ∃ A n c l, v = .slice A n c ∧ n ≤ maxLen ∧ Reads w w.heap.size 1 A n (ints l) := by
  rcases open_ints ht he hc h with ⟨hcs, _⟩ | ⟨a, len, cap, zs, hcs, _, hlc, hcm, hz, _, hcell, _⟩
  · simp only [List.cons.injEq, and_true] at hcs
    exact ⟨none, 0, 0, [], hcs, by unfold maxLen; omega, Reads.none_⟩
  · simp only [List.cons.injEq, and_true] at hcs
    have hlz : len ≤ zs.length := by rw [hz]; split <;> omega
    rcases Nat.eq_zero_or_pos len with h0 | h0
    · subst h0
      exact ⟨some a, 0, cap, [], hcs, by unfold maxLen; omega, ⟨by simp [ints], fun h => absurd h (by omega)⟩⟩
    · have h1 := hcell 0 (by omega)
      obtain ⟨b, o, spot⟩ := a
      have hs : spot = none := by simpa [Addr.add] using World.cell?_spot h1
      subst hs
      refine ⟨_, len, cap, zs.take len, hcs, by omega, ⟨by simp; omega, fun _ => ⟨b, o, rfl, by simpa [Addr.add] using cell_lt h1, fun j u hu => ?_⟩⟩⟩
      have hj : j < len := by have := (List.getElem?_eq_some_iff.1 hu).1; simp at this; omega
      rw [ints_get, List.getElem?_take_of_lt hj] at hu
      obtain ⟨z, hz1, rfl⟩ := Option.map_eq_some_iff.1 hu
      have h2 := hcell j (by omega)
      rw [List.getD_eq_getElem?_getD, hz1] at h2
      by_cases hj0 : j = 0
      · subst hj0; simpa [Addr.add] using h2
      · simpa [Addr.add, hj0] using h2

theorem open_fields {t e : TypeId} {fs : Array Field} {fuel : Nat} {cs : List Value} {x : DataW H × List MemPlace} (ht : P.underlying t = some (.slice e)) (he : P.underlying e = some (.struct fs))
    (hone : oneCellFields P fs = true) (hC : P.cellsOf e = fs.size) (h : DataW.trod enc P w base spare held fuel t cs = some x) :
    (cs = [.slice none 0 0]) ∨
    ∃ (a : Addr) (len cap : Nat), cs = [.slice (some a) len cap] ∧ len ≤ cap ∧ cap ≤ maxLen ∧
      ∀ i, i < len → ∀ (j : Nat) (f : Field), fs[j]? = some f → ∃ (v : Value) (y : DataW H × List MemPlace) (n : Nat), w.cell? (a.add (i * fs.size + j)) = some v ∧ DataW.trod enc P w base spare held n f.type [v] = some y := by
  rcases open_slice ht h with ⟨h0, _⟩ | ⟨a, len, cap, m, n, D, Pl, hcs, hb, hl, hm, hmm, hx, hi⟩
  · exact .inl h0
  · refine .inr ⟨a, len, cap, hcs, hl, hm, fun i hil => ?_⟩
    obtain ⟨cs', hc, ht'⟩ := hi i (by rw [hmm]; split <;> omega)
    rw [hC] at hc
    obtain ⟨ys, n', hn', hy, hlen, hyl, hf⟩ := DataW.trod_struct he ht'
    obtain ⟨_, hcl, hat⟩ := World.cells?_some hc
    intro j f hj
    obtain ⟨ho, hk⟩ := hone_of hone j f hj
    have hjl : j < fs.size := (Array.getElem?_eq_some_iff.1 hj).1
    have hcell := hat j hjl
    have hv : cs'[j]? = some (cs'[j]'(by omega)) := List.getElem?_eq_getElem (by omega)
    have h1 := hf j f hj
    rw [ho, hk] at h1
    have hone' : (cs'.drop j).take 1 = [cs'[j]'(by omega)] := by
      rw [List.drop_eq_getElem_cons (by omega)]
      rfl
    rw [hone'] at h1
    have hys : ys[j]? = some (ys[j]'(by omega)) := List.getElem?_eq_getElem (by omega)
    refine ⟨_, _, _, ?_, h1.trans hys⟩
    rw [← Go.Deep.add_add, hcell, hv]

theorem open_sts {t e ty : TypeId} {n0 n1 n2 : String} {o0 o1 o2 : Nat} {fuel : Nat} {v : Value} {x : DataW H × List MemPlace} {f0 f1 f2 : Field} (ht : P.underlying t = some (.slice e)) (he : P.underlying e = some (.struct #[f0, f1, f2]))
    (hone : oneCellFields P #[f0, f1, f2] = true) (hC : P.cellsOf e = 3) (t0 : P.underlying f0.type = some (.int .i64)) (t1 : P.underlying f1.type = some (.int .i64)) (t2 : P.underlying f2.type = some (.int .i64))
    (h : DataW.trod enc P w base spare held fuel t [v] = some x) : ∃ A n c l, v = .slice A n c ∧ n ≤ maxLen ∧ Reads w w.heap.size 3 A n (sts l) := by
  rcases open_fields ht he hone hC h with hcs | ⟨a, len, cap, hcs, hl, hm, hi⟩
  · simp only [List.cons.injEq, and_true] at hcs
    exact ⟨none, 0, 0, [], hcs, by unfold maxLen; omega, Reads.none_⟩
  · simp only [List.cons.injEq, and_true] at hcs
    obtain ⟨b, o, spot⟩ := a
    have hsp : 0 < len → spot = none := fun hpos => by
      obtain ⟨u, y, k, hc, _⟩ := hi 0 hpos 0 f0 rfl
      simpa [Addr.add] using World.cell?_spot hc
    have hblt : 0 < len → b < w.heap.size := fun hpos => by
      obtain ⟨u, y, k, hc, _⟩ := hi 0 hpos 0 f0 rfl
      simpa [Addr.add] using cell_lt hc
    have hadd : 0 < len → ∀ k, (⟨b, o, spot⟩ : Addr).add k = ⟨b, o + k, none⟩ := fun hpos k => by
      rw [hsp hpos]; by_cases hk : k = 0
      · subst hk; simp [Addr.add]
      · simp [Addr.add, hk]
    obtain ⟨l, hll, hq⟩ := list_of (fun i (x : Int × Int × Int) => ∀ j u, (stc x)[j]? = some u → w.cell? ⟨b, o + (i * 3 + j), none⟩ = some u) len (fun i hil => by
      have hpos : 0 < len := by omega
      obtain ⟨u0, y0, k0, c0, h0⟩ := hi i hil 0 f0 rfl
      obtain ⟨u1, y1, k1, c1, h1⟩ := hi i hil 1 f1 rfl
      obtain ⟨u2, y2, k2, c2, h2⟩ := hi i hil 2 f2 rfl
      obtain ⟨z0, e0, _, _⟩ := DataW.trod_int t0 h0
      obtain ⟨z1, e1, _, _⟩ := DataW.trod_int t1 h1
      obtain ⟨z2, e2, _, _⟩ := DataW.trod_int t2 h2
      simp at e0 e1 e2
      subst e0 e1 e2
      rw [hadd hpos] at c0 c1 c2
      refine ⟨(z0, z1, z2), fun j u hu => ?_⟩
      match j, hu with
      | 0, hu => simp [stc] at hu; rw [← hu]; exact c0
      | 1, hu => simp [stc] at hu; rw [← hu]; exact c1
      | 2, hu => simp [stc] at hu; rw [← hu]; exact c2
      | j + 3, hu => simp [stc] at hu)
    rcases Nat.eq_zero_or_pos len with hz | hz
    · have hl0 : l = [] := List.eq_nil_of_length_eq_zero (by omega)
      subst hz
      exact ⟨_, 0, cap, [], hcs, by unfold maxLen; omega, ⟨by simp [sts], fun h => absurd h (by omega)⟩⟩
    · have hs0 := hsp hz
      subst hs0
      refine ⟨_, len, cap, l, hcs, by omega, ?_⟩
      have := Reads.of_recs (w := w) (B := w.heap.size) (b := b) (o := o) (m := 3) (f := stc) (l := l) (fun _ => rfl) (by omega) (fun _ => hblt hz) hq
      rw [hll] at this
      exact this
end
end Go.Proofs.YtlmmjaolmmcklaaDoor
