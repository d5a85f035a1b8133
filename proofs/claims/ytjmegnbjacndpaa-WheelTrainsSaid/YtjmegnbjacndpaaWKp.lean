/-
  What a world keeps but for some blocks; rows of the call's own; an append in a region that draws its order.
-/
import Derived.Test.YtjmegnbjacndpaaTk
import Derived.Test.YtjmegnbjacndpaaAppG
namespace Go.Proofs.Ytjmegnbjacndpaa
open Go.RowKit
set_option linter.unusedVariables false
set_option linter.unusedSimpArgs false

/-- Below a number, all blocks but some are as they were. -/
structure Kp (B : Nat) (D : List Nat) (w w' : World) : Prop where
  os : w'.os = w.os
  tape : w'.tape = w.tape
  output : w'.output = w.output
  size : w.heap.size ≤ w'.heap.size
  block : ∀ k, k < B → k ∉ D → w'.heap[k]? = w.heap[k]?
section
variable {B B' : Nat} {D D' : List Nat} {a w w' : World}
theorem Kp.refl (B : Nat) (D : List Nat) (w : World) : Kp B D w w := ⟨rfl, rfl, rfl, Nat.le_refl _, fun _ _ _ => rfl⟩
theorem Kp.trans (h : Kp B D a w) (k : Kp B D w w') : Kp B D a w' :=
  ⟨k.os.trans h.os, k.tape.trans h.tape, k.output.trans h.output, Nat.le_trans h.size k.size, fun i hi hd => (k.block i hi hd).trans (h.block i hi hd)⟩
theorem Kp.mono (h : Kp B D a w) (hB : B' ≤ B) (hD : ∀ d, d ∈ D → d ∈ D' ∨ B' ≤ d) : Kp B' D' a w :=
  ⟨h.os, h.tape, h.output, h.size, fun k hk hd => h.block k (by omega) (fun hm => (hD k hm).elim hd (by omega))⟩
theorem Kp.of_below (h : Below B a w) : Kp B D a w := ⟨h.os, h.tape, h.output, h.size, fun k hk _ => h.block k hk⟩
theorem Kp.below (h : Kp B D a w) (hB : B' ≤ B) (hD : ∀ d, d ∈ D → B' ≤ d) : Below B' a w :=
  ⟨h.os, h.tape, h.output, h.size, fun k hk => h.block k (by omega) (fun hm => by have := hD k hm; omega)⟩
theorem Kp.drew (h : Kp B D a w) : Kp B D a w.drew := ⟨h.os, h.tape, h.output, h.size, h.block⟩
theorem Kp.alloc (h : Kp B D a w) (hB : B ≤ w.heap.size) (o : Obj) : Kp B D a (w.alloc o) :=
  h.trans (.of_below ((Below.refl _ _).alloc hB o))
theorem Kp.set (h : Kp B D a w) {p : Addr} (hp : p.block ∈ D ∨ B ≤ p.block) (u : Value) : Kp B D a (w.setCell p u) := by
  refine h.trans ⟨rfl, rfl, rfl, by simp, fun k hk hd => Below.heap_setCell w p u k (fun e => ?_)⟩
  subst e
  rcases hp with h | h
  · exact hd h
  · omega
theorem Kp.call (h : Kp B D a w) (hB : B ≤ w.heap.size) (hb : Below w.heap.size w w') : Kp B D a w' := h.trans (.of_below (hb.mono hB))
theorem Kp.grown {row : Option Nat} (h : Kp B D a w) (hg : w.grownBy w' row) (hB : B ≤ w.heap.size) (hr : ∀ k, row = some k → k ∈ D ∨ B ≤ k) : Kp B D a w' := by
  refine h.trans ?_
  have hx := (Below.refl w.heap.size w).size
  refine ⟨?_, ?_, ?_, hg.size, fun k hk hd => hg.block k (by omega) (fun e => ?_)⟩
  · exact ((Below.refl 0 w).grown hg (Nat.zero_le _) (fun _ _ => Nat.zero_le _)).os
  · exact ((Below.refl 0 w).grown hg (Nat.zero_le _) (fun _ _ => Nat.zero_le _)).tape
  · exact ((Below.refl 0 w).grown hg (Nat.zero_le _) (fun _ _ => Nat.zero_le _)).output
  · rcases hr k e.symm with h | h
    · exact hd h
    · omega
theorem Kp.cell (h : Kp B D w w') {p : Addr} (hp : p.block < B) (hd : p.block ∉ D) : w'.cell? p = w.cell? p := World.cell?_of_block (w := w) (h.block p.block hp hd)
theorem Kp.frozen (h : Kp B D w w') {p : Addr} (hp : p.block < B) (hd : p.block ∉ D) : w'.frozen? p = w.frozen? p := World.frozen?_of_block (w := w) (h.block p.block hp hd)
end

theorem keepO {w z : World} {b : Nat} {o : Obj} (hb : Below w.heap.size w z) (hO : w.heap[b]? = some o) : z.heap[b]? = some o := (hb.block b (Array.getElem?_eq_some_iff.1 hO).1).trans hO
theorem two_facts {x : World} {b : Nat} {c0 c1 : Value} {t : TypeId} (h : x.heap[b]? = some (.cells #[c0, c1] t (0, 0))) :
    x.cell? ⟨b, 0, none⟩ = some c0 ∧ x.cell? ⟨b, 1, none⟩ = some c1 ∧ x.frozen? ⟨b, 0, none⟩ = false ∧ x.frozen? ⟨b, 1, none⟩ = false :=
  ⟨by simp [World.cell?, h], by simp [World.cell?, h], by simp [World.frozen?, h], by simp [World.frozen?, h]⟩
theorem set_two (y : World) (b : Nat) (t : TypeId) (v0 v1 c0 c1 : Value) (h : y.heap[b]? = some (.cells #[c0, c1] t (0, 0))) : ((y.setCell ⟨b, 0, none⟩ v0).setCell ⟨b, 1, none⟩ v1).heap[b]? = some (.cells #[v0, v1] t (0, 0)) := by
  simp [World.setCell, Array.getElem?_modify, h]
theorem one_facts {x : World} {b : Nat} {c0 : Value} {t : TypeId} (h : x.heap[b]? = some (.cells #[c0] t (0, 0))) : x.cell? ⟨b, 0, none⟩ = some c0 ∧ x.frozen? ⟨b, 0, none⟩ = false :=
  ⟨by simp [World.cell?, h], by simp [World.frozen?, h]⟩
theorem set_one {y : World} {b : Nat} {t : TypeId} {c0 : Value} (h : y.heap[b]? = some (.cells #[c0] t (0, 0))) (v : Value) : (y.setCell ⟨b, 0, none⟩ v).heap[b]? = some (.cells #[v] t (0, 0)) := by
  simp [World.setCell, Array.getElem?_modify, h]
/-- A slice reads as a list, in blocks below B and none of some. -/
def RdX (D : List Nat) (w : World) (B size : Nat) (A : Option Addr) (n : Nat) (xs : List Value) : Prop :=
  Reads w B size A n xs ∧ ∀ p, A = some p → 0 < n → p.block ∉ D
theorem RdX.keep {D D' : List Nat} {w x : World} {B B' size n : Nat} {A : Option Addr} {xs : List Value} (h : RdX D w B size A n xs) (hk : Kp B' D' w x) (hB : B ≤ B') (hD : ∀ d, d ∈ D' → d ∈ D ∨ B ≤ d) : RdX D x B size A n xs := by
  refine ⟨⟨h.1.1, fun hn => ?_⟩, h.2⟩
  obtain ⟨b, o, e, hb, hc⟩ := h.1.2 hn
  refine ⟨b, o, e, hb, fun j u hu => ?_⟩
  rw [hk.cell (p := ⟨b, o + j, none⟩) (by simp only; omega) (fun hm => ?_)]
  · exact hc j u hu
  · rcases hD b hm with h' | h'
    · exact h.2 _ e hn h'
    · omega
theorem RdX.of_own {D : List Nat} {w : World} {base size n c : Nat} {A : Option Addr} {e : TypeId} {xs : List Value} (h : w.ownsRow base e size (.slice A n c) n xs) (hD : ∀ d, d ∈ D → d < base) : RdX D w w.heap.size size A n xs := by
  refine ⟨Reads.of_own h, fun p hp hn hm => ?_⟩
  subst hp
  have := (h.lt _ rfl).1
  have := hD _ hm
  omega
theorem RdX.more {D : List Nat} {w : World} {B B' size n : Nat} {A : Option Addr} {xs : List Value} (h : RdX D w B size A n xs) (hB : B ≤ B') : RdX D w B' size A n xs := ⟨h.1.more hB, h.2⟩

theorem ownR_block {w w' : World} {base : Nat} {e : TypeId} {size n : Nat} {v : Value} {xs : List Value} (h : w.ownsRow base e size v n xs) (hb : ∀ k, v.ownBlock = some k → w'.heap[k]? = w.heap[k]?) : w'.ownsRow base e size v n xs := by
  refine ⟨h.1, ?_⟩
  rcases h.2 with h0 | ⟨g1, cap', cur, h1, h2, h3, h4⟩
  · exact .inl h0
  · exact .inr ⟨g1, cap', cur, h1, h2, (hb g1 (by rw [h1]; rfl)).trans h3, h4⟩
theorem ownR_lt {w : World} {base : Nat} {e : TypeId} {size n : Nat} {v : Value} {xs : List Value} (h : w.ownsRow base e size v n xs) {k : Nat} (hk : v.ownBlock = some k) : base ≤ k ∧ k < w.heap.size := by
  rcases h.2 with ⟨rfl, -⟩ | ⟨g1, cap', cur, rfl, h2, h3, h4⟩
  · cases hk
  · simp only [Value.ownBlock, Option.some.injEq] at hk
    subst hk
    exact ⟨h2, (Array.getElem?_eq_some_iff.1 h3).1⟩
theorem ownR_below {w w' : World} {base : Nat} {e : TypeId} {size n : Nat} {v : Value} {xs : List Value} (h : w.ownsRow base e size v n xs) (hb : Below w.heap.size w w') : w'.ownsRow base e size v n xs :=
  ownR_block h fun k hk => hb.block k (ownR_lt h hk).2
theorem ownR_val {w : World} {base : Nat} {e : TypeId} {size n : Nat} {v : Value} {xs : List Value} (h : w.ownsRow base e size v n xs) : ∃ A c, v = .slice A n c := by
  rcases h.2 with ⟨rfl, rfl⟩ | ⟨g1, cap', cur, rfl, h2⟩
  · exact ⟨_, _, rfl⟩
  · exact ⟨_, _, rfl⟩
theorem rdI_one {w : World} {b : Nat} {x : Int} {t : TypeId} (h : w.heap[b]? = some (.cells #[.int .i64 x] t (0, 0))) : Reads w w.heap.size 1 (some ⟨b, 0, none⟩) 1 (ints [x]) := by
  refine ⟨rfl, fun _ => ⟨b, 0, rfl, (Array.getElem?_eq_some_iff.1 h).1, fun j u hu => ?_⟩⟩
  have hj : j < 1 := (List.getElem?_eq_some_iff.1 hu).1
  obtain rfl : j = 0 := by omega
  simp [ints] at hu; subst hu; simp [World.cell?, h]
theorem rdI_two {w : World} {b : Nat} {x y : Int} {t : TypeId} (h : w.heap[b]? = some (.cells #[.int .i64 x, .int .i64 y] t (0, 0))) : Reads w w.heap.size 1 (some ⟨b, 0, none⟩) 2 (ints [x, y]) := by
  refine ⟨rfl, fun _ => ⟨b, 0, rfl, (Array.getElem?_eq_some_iff.1 h).1, fun j u hu => ?_⟩⟩
  have hj : j < 2 := (List.getElem?_eq_some_iff.1 hu).1
  rcases (by omega : j = 0 ∨ j = 1) with rfl | rfl <;> simp [ints] at hu <;> subst hu <;> simp [World.cell?, h]
theorem set_both {z : World} {b2 b3 : Nat} {t2 t3 : TypeId} {c2 c3 : Value} (h2 : z.heap[b2]? = some (.cells #[c2] t2 (0, 0))) (h3 : z.heap[b3]? = some (.cells #[c3] t3 (0, 0))) (hne : b2 ≠ b3) (v2 v3 : Value) :
    ((z.setCell ⟨b2, 0, none⟩ v2).setCell ⟨b3, 0, none⟩ v3).heap[b2]? = some (.cells #[v2] t2 (0, 0)) ∧ ((z.setCell ⟨b2, 0, none⟩ v2).setCell ⟨b3, 0, none⟩ v3).heap[b3]? = some (.cells #[v3] t3 (0, 0)) :=
  ⟨(Below.heap_setCell _ _ _ _ (by simpa using hne)).trans (set_one h2 v2), set_one ((Below.heap_setCell _ _ _ _ (by simpa using Ne.symm hne)).trans h3) v3⟩
end Go.Proofs.Ytjmegnbjacndpaa
