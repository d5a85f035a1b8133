/-
  Slices of records: each element some cells; element k's cell j is found at its place.
-/
import Derived.Test.YtoakeclpakjbiaaDoorKit
namespace Go.Proofs.YtoakeclpakjbiaaDoor
open Go.RowKit

theorem below_via {B : Nat} {a w w1 : World} (h : Below B a w) (hB : B ≤ w.heap.size) (hb : Below w.heap.size w w1) : Below B a w1 := h.trans (hb.mono hB)
theorem below_in {B : Nat} {a w w1 : World} {o : Obj} (h : Below B a w) (hB : B ≤ w.heap.size) (hb : Below (w.alloc o).heap.size (w.alloc o) w1) : Below B a w1 :=
  (h.alloc hB o).trans (hb.mono (by simp; omega))
theorem cellN (w : World) (v : Value) (t : TypeId) : (w.alloc (.cells #[v] t)).cell? ⟨w.heap.size, 0, none⟩ = some v := by rw [World.cell?_alloc_at _ _ _ _ rfl]; rfl
theorem cellNd (w : World) (v : Value) (t : TypeId) : (w.alloc (.cells #[v] t)).drew.cell? ⟨w.heap.size, 0, none⟩ = some v := cellN w v t
theorem keepA {B : Nat} {a w : World} (h : Hid (Below B a w)) (hz : Hid (B ≤ a.heap.size)) (o : Obj) : Below B a (w.alloc o) :=
  h.out.alloc (Nat.le_trans hz.out h.out.size) o
theorem keepAd {B : Nat} {a w : World} (h : Hid (Below B a w.drew)) (hz : Hid (B ≤ a.heap.size)) (o : Obj) : Below B a (w.alloc o).drew :=
  (keepA (w := w) ⟨h.out.os, h.out.tape, h.out.output, h.out.size, h.out.block⟩ hz o).drew
theorem keepC {B : Nat} {a w w1 : World} (h : Hid (Below B a w)) (hz : Hid (B ≤ a.heap.size)) (hb : Hid (Below w.heap.size w w1)) : Below B a w1 :=
  below_via h.out (Nat.le_trans hz.out h.out.size) hb.out
theorem keepG {B : Nat} {a w w1 : World} {row : Option Nat} (h : Hid (Below B a w)) (hz : Hid (B ≤ a.heap.size)) (hg : Hid (w.grownBy w1 row)) (hr : Hid (∀ k, row = some k → B ≤ k)) : Below B a w1 :=
  h.out.grown hg.out (Nat.le_trans hz.out h.out.size) hr.out
theorem keepS {B : Nat} {a w : World} (h : Hid (Below B a w)) {p : Addr} (hp : B ≤ p.block) (u : Value) : Below B a (w.setCell p u) := h.out.setCell hp u
section
variable {P : Program} {ops : Array Oper} {Q : Exit → Act → World → Prop} {md : Region.Mode} {S : World → Prop}
/-- In a region that draws its order: operation i comes up next, and yields a value in each world that meets S. -/
theorem tkY (i d : Nat) {oi : Oper} {v : Value} {fuel : Nat} {listed : Array Bool} {a : Act} {w : World} (hi : ops[i]? = some oi) (hd : oi.dst = some d)
    (hs : Region.noSelect ops = true) (hf : Region.free md ops listed i = true) (hr : (Region.ready md ops listed).contains i = true)
    (hQ : ∀ c a w, Q (.panic c) (a.put oi.dst v) w → Q (.panic c) a w) (hw : Region.wanted oi (yielded ops a.tmps) = true) (hy : ∀ w, S w → (execOp a.eval oi).run P w = .ok (.value v) w) (hS : S w)
    (h : wpAnyH P md ops Q S fuel (listed.setIfInBounds i true) (a.put (some d) v) w) : wpAnyH P md ops Q S (fuel + 1) listed a w :=
  wpAnyH_take hi hs hf hr hQ (Or.inl ⟨hw, hy⟩) hS (by rw [hd]; exact h)
/-- The same, an operation whose guard says no. -/
theorem tkN (i d : Nat) {oi : Oper} {fuel : Nat} {listed : Array Bool} {a : Act} {w : World} (hi : ops[i]? = some oi) (hd : oi.dst = some d)
    (hs : Region.noSelect ops = true) (hf : Region.free md ops listed i = true) (hr : (Region.ready md ops listed).contains i = true)
    (hQ : ∀ c a w, Q (.panic c) (a.put oi.dst undef) w → Q (.panic c) a w) (hw : Region.wanted oi (yielded ops a.tmps) = false) (hS : S w)
    (h : wpAnyH P md ops Q S fuel (listed.setIfInBounds i true) (a.put (some d) undef) w) : wpAnyH P md ops Q S (fuel + 1) listed a w :=
  wpAnyH_take hi hs hf hr hQ (Or.inr ⟨hw, rfl⟩) hS (by rw [hd]; exact h)
end
theorem flat_len {α : Type} (f : α → List Value) (m : Nat) (hm : ∀ x, (f x).length = m) (l : List α) : (l.flatMap f).length = l.length * m := by
  induction l with
  | nil => simp
  | cons a l ih => rw [List.flatMap_cons, List.length_append, ih, hm, List.length_cons, Nat.succ_mul, Nat.add_comm]

theorem flat_get {α : Type} (f : α → List Value) (m : Nat) (hm : ∀ x, (f x).length = m) (l : List α) (k j : Nat) (hj : j < m) :
    (l.flatMap f)[k * m + j]? = (l[k]?).bind fun x => (f x)[j]? := by
  induction l generalizing k with
  | nil => simp
  | cons a l ih =>
    rw [List.flatMap_cons]
    cases k with
    | zero => rw [Nat.zero_mul, Nat.zero_add, List.getElem?_append_left (by rw [hm]; exact hj)]; simp
    | succ k =>
      rw [List.getElem?_append_right (by rw [hm, Nat.succ_mul]; omega), hm]
      have : (k + 1) * m + j - m = k * m + j := by rw [Nat.succ_mul]; omega
      rw [this, ih]; simp

theorem Reads.rec_len {α : Type} {w : World} {B n m : Nat} {A : Option Addr} {f : α → List Value} {l : List α} (hm : ∀ x, (f x).length = m) (h0 : 0 < m) (h : Reads w B m A n (l.flatMap f)) : l.length = n := by
  have := h.1
  rw [flat_len f m hm] at this
  exact Nat.eq_of_mul_eq_mul_right h0 this

theorem Reads.rec_at {α : Type} {w : World} {B n m k : Nat} {A : Option Addr} {f : α → List Value} {l : List α} (hm : ∀ x, (f x).length = m) (h0 : 0 < m) (h : Reads w B m A n (l.flatMap f)) (hk : k < n) :
    ∃ b o x, A = some ⟨b, o, none⟩ ∧ b < B ∧ l[k]? = some x ∧ ∀ j u, (f x)[j]? = some u → w.cell? ⟨b, o + (k * m + j), none⟩ = some u := by
  obtain ⟨b, o, e, hb, hc⟩ := h.2 (by omega)
  have hl := h.rec_len hm h0
  have hx : l[k]? = some (l[k]'(by omega)) := List.getElem?_eq_getElem (by omega)
  refine ⟨b, o, _, e, hb, hx, fun j u hu => hc _ _ ?_⟩
  have hj : j < m := by rw [← hm (l[k]'(by omega))]; exact (List.getElem?_eq_some_iff.1 hu).1
  rw [flat_get f m hm l k j hj, hx]
  exact hu

/-- A stamper's cells: cams, up, pounds. -/
def stc (x : Int × Int × Int) : List Value := [.int .i64 x.1, .int .i64 x.2.1, .int .i64 x.2.2]
def sts (l : List (Int × Int × Int)) : List Value := l.flatMap stc

theorem Reads.st {w : World} {B n k : Nat} {A : Option Addr} {l : List (Int × Int × Int)} (h : Reads w B 3 A n (sts l)) (hk : k < n) :
    ∃ b o C U P, A = some ⟨b, o, none⟩ ∧ b < B ∧ l[k]? = some (C, U, P) ∧ w.cell? ⟨b, o + k * 3, none⟩ = some (.int .i64 C) ∧
      w.cell? ⟨b, o + k * 3 + 1, none⟩ = some (.int .i64 U) ∧ w.cell? ⟨b, o + k * 3 + 2, none⟩ = some (.int .i64 P) := by
  obtain ⟨b, o, ⟨C, U, P⟩, e, hb, hx, hc⟩ := h.rec_at (m := 3) (fun _ => rfl) (by omega) hk
  exact ⟨b, o, C, U, P, e, hb, hx, hc 0 _ rfl, hc 1 _ rfl, hc 2 _ rfl⟩
theorem Reads.st_len {w : World} {B n : Nat} {A : Option Addr} {l : List (Int × Int × Int)} (h : Reads w B 3 A n (sts l)) : l.length = n := h.rec_len (m := 3) (fun _ => rfl) (by omega)
end Go.Proofs.YtoakeclpakjbiaaDoor
