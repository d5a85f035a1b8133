/-
  After how many turns a train stands as at first.
-/
import Derived.Test.YtlmmjaolmmcklaaHunts
namespace Go.Proofs.Ytlmmjaolmmcklaa
open Go.RowKit Go.Maps

theorem quiet_add_drew {P : Program} {f : FuncId} {args : Array Value} {w : World} {a n : Nat} {v : Value}
    (h : Calls P f args (w.drewN (a + n)) fun e w' => e = .returned v ∧ ∃ k, w' = (w.drewN (a + n)).drewN k) :
    Calls P f args (w.drewN (a + n)) fun e w'' => e = .returned v ∧ ∃ m, w'' = w.drewN (a + m) :=
  h.mono fun _ _ ⟨he, k, hk⟩ => ⟨he, n + k, by rw [hk, World.drewN_drewN]; congr 1; omega⟩

/-- The blocks of a call of Again: the wheels, the axle so far. -/
structure AF (w : World) (A : Option Addr) (n c : Nat) (r s : Int) (x : World) : Prop where
  b0 : x.heap[w.heap.size]? = some (.cells #[.slice A n c] 76 (0, 0))
  b1 : x.heap[w.heap.size + 1]? = some (.cells #[.int .i64 r, .int .i64 s] 40 (0, 0))
  bel : Below w.heap.size w x
  size : w.heap.size + 2 ≤ x.heap.size
section
variable {w x y : World} {A : Option Addr} {n c : Nat} {r s : Int}
theorem AF.alloc (h : AF w A n c r s x) (o : Obj) : AF w A n c r s (x.alloc o) :=
  have hz := h.size
  ⟨(heap_lt_alloc _ _ _ (by omega)).trans h.b0, (heap_lt_alloc _ _ _ (by omega)).trans h.b1, h.bel.alloc (by omega) _, by simp; omega⟩
theorem AF.below (h : AF w A n c r s x) (hb : Below x.heap.size x y) : AF w A n c r s y :=
  have hz := h.size
  ⟨(hb.block _ (by omega)).trans h.b0, (hb.block _ (by omega)).trans h.b1, below_via h.bel (by omega) hb, Nat.le_trans hz hb.size⟩
theorem AF.drewN (h : AF w A n c r s x) (k : Nat) : AF w A n c r s (x.drewN k) := ⟨h.b0, h.b1, below_drewN h.bel k, h.size⟩
theorem AF.c0 (h : AF w A n c r s x) : x.cell? ⟨w.heap.size, 0, none⟩ = some (.slice A n c) := by simp [World.cell?, h.b0]
theorem AF.c10 (h : AF w A n c r s x) : x.cell? ⟨w.heap.size + 1, 0, none⟩ = some (.int .i64 r) := by simp [World.cell?, h.b1]
theorem AF.c11 (h : AF w A n c r s x) : x.cell? ⟨w.heap.size + 1, 1, none⟩ = some (.int .i64 s) := by simp [World.cell?, h.b1]
theorem AF.f1 (h : AF w A n c r s x) (k : Nat) : x.frozen? ⟨w.heap.size + 1, k, none⟩ = false := by simp [World.frozen?, h.b1]
theorem AF.store (h : AF w A n c r s x) (r' s' : Int) : AF w A n c r' s' ((x.setCell ⟨w.heap.size + 1, 0, none⟩ (.int .i64 r')).setCell ⟨w.heap.size + 1, 1, none⟩ (.int .i64 s')) := by
  have hz := h.size
  refine ⟨?_, ?_, (h.bel.setCell (by simp) _).setCell (by simp) _, by simpa using hz⟩
  · simp [World.setCell, Array.getElem?_modify, h.b0]
  · simp [World.setCell, Array.getElem?_modify, h.b1]
end

/-- How many turns of the first wheel, for so many pairs. -/
def againT (ts : List Int) (l : List (Int × Int)) : Nat → Int
  | 0 => 1
  | k + 1 => againT ts l k * ((redu (numT ts (l.take (k + 1))) (denT ts (l.take (k + 1)))).2 / ((Int.gcd (againT ts l k) (redu (numT ts (l.take (k + 1))) (denT ts (l.take (k + 1)))).2 : Nat) : Int))

def tri : Nat → Nat
  | 0 => 0
  | k + 1 => tri k + (k + 1)

theorem lcm_bound (t d : Int) (ht : 1 ≤ t) (hd : 1 ≤ d) : (1 ≤ ((Int.gcd t d : Nat) : Int)) ∧ 1 ≤ d / ((Int.gcd t d : Nat) : Int) ∧ d / ((Int.gcd t d : Nat) : Int) ≤ d := by
  obtain ⟨⟨-, -⟩, h1, h2⟩ := redu_bound t d ht hd
  have : 0 < Int.gcd t d := Int.gcd_pos_of_ne_zero_left _ (by omega)
  exact ⟨by omega, h1, h2⟩

theorem again_bound {n : Nat} {ts : List Int} {l : List (Int × Int)} (h : Okay n ts l) (k : Nat) (hk : k ≤ l.length) : 1 ≤ againT ts l k ∧ againT ts l k ≤ 120 ^ tri k := by
  induction k with
  | zero => simp [againT, tri]
  | succ k ih =>
    obtain ⟨a1, a2⟩ := ih (by omega)
    obtain ⟨⟨n1, -⟩, d1, d2⟩ := h.bound (k + 1) hk
    obtain ⟨-, e1, e2⟩ := redu_bound _ _ n1 d1
    obtain ⟨-, g1, g2⟩ := lcm_bound _ _ a1 e1
    unfold againT tri
    rw [Int.pow_add]
    refine ⟨?_, Int.mul_le_mul a2 (by omega) (by omega) (Int.le_trans (by decide) (Int.le_trans a1 a2))⟩
    have := Int.mul_le_mul a1 g1 (by decide) (by omega)
    simpa using this
end Go.Proofs.Ytlmmjaolmmcklaa
