/-
  The walk of what asks a press: whether there is a truth, what a weight can be, what can go in.
-/
import Derived.Test.YtoakeclpakjbiaaDoorStart
import Derived.Test.YtoakeclpakjbiaaDoorHold
namespace Go.Proofs.YtoakeclpakjbiaaDoor
open Go.RowKit
set_option linter.unusedVariables false
set_option linter.unusedSimpArgs false
def hasT (ps : List PR) (ws : List WE) : Bool := holdsB (rowsT ps ws) (upP (toT ps) (rowsT ps ws)) ps.length
def askE (ps : List PR) (ws : List WE) (id kind : Int) : Int :=
  if validP ps ws then if idxP ps id < 0 then 6 else if rng 1 6 kind then if hasT ps ws then 0 else 8 else 2 else 20
/-- What stands behind the copy of the argument. -/
structure PX (w : World) (A A' : Option Addr) (n c n' c' : Nat) (ps : List PR) (ws : List WE) (z : World) : Prop where
  b0 : z.heap[w.heap.size]? = some (.cells #[.slice A n c, .slice A' n' c'] 25 (0, 0))
  bel : Below w.heap.size w z
  rp : Reads z z.heap.size 4 A n (pgs ps)
  rw_ : Reads z z.heap.size 5 A' n' (wgs ws)
  laid : Laid z
section
variable {w z y : World} {A A' : Option Addr} {n c n' c' : Nat} {ps : List PR} {ws : List WE}
theorem PX.below (h : PX w A A' n c n' c' ps ws z) (hb : Below z.heap.size z y) : PX w A A' n c n' c' ps ws y := by
  have hs2 := hb.size
  have h0 := (Array.getElem?_eq_some_iff.1 h.b0).1
  exact ⟨keepO hb h.b0, below_via h.bel (by omega) hb, (h.rp.below hb).more hs2, (h.rw_.below hb).more hs2, h.laid.below hb h.laid.2.2.2⟩
theorem PX.start (hR : Reads w w.heap.size 4 A n (pgs ps)) (hW : Reads w w.heap.size 5 A' n' (wgs ws)) (hL : Laid w) : PX w A A' n c n' c' ps ws (w.alloc (.cells #[.slice A n c, .slice A' n' c'] 25)) := by
  have hb : Below w.heap.size w (w.alloc (.cells #[.slice A n c, .slice A' n' c'] 25)) := (Below.refl _ _).alloc (Nat.le_refl _) _
  exact ⟨heap_alloc_new w _, hb, (hR.below hb).more hb.size, (hW.below hb).more hb.size, hL.below hb hL.2.2.2⟩
theorem PX.cells (h : PX w A A' n c n' c' ps ws z) : z.cell? ⟨w.heap.size, 0, none⟩ = some (.slice A n c) ∧ z.cell? ⟨w.heap.size, 1, none⟩ = some (.slice A' n' c') := by
  obtain ⟨a, b, -, -⟩ := two_facts h.b0
  exact ⟨a, b⟩
end
/-- What is returned: a press at work, or an error. -/
def AskR (w : World) (ps : List PR) (ws : List WE) (id kind : Int) (n : Nat) (e : Ending) (w' : World) : Prop :=
  Below w.heap.size w w' ∧ (askE ps ws id kind ≠ 0 → e = .returned (.tuple #[.pointer none, .int .i64 0, .int .i64 (askE ps ws id kind)])) ∧
  (askE ps ws id kind = 0 → ∃ mb At Ar Au Ai ct cr cu ci, e = .returned (.tuple #[.pointer (some ⟨mb, 0, none⟩), .int .i64 (idxP ps id), .int .i64 0]) ∧
    MR w' mb n (toT ps) (rowsT ps ws) (upP (toT ps) (rowsT ps ws)) (intoP (toT ps) (rowsT ps ws)) At Ar Au Ai ct cr cu ci)
theorem AskR.bad {w w' : World} {ps : List PR} {ws : List WE} {id kind : Int} {n : Nat} {er : Int} (h : askE ps ws id kind = er) (h0 : er ≠ 0) (hb : Below w.heap.size w w') : AskR w ps ws id kind n (.returned (.tuple #[.pointer none, .int .i64 0, .int .i64 er])) w' :=
  ⟨hb, fun _ => by rw [h], fun h1 => absurd (h.symm.trans h1) h0⟩
/-- With a result's cells. -/
structure PY (w : World) (A A' : Option Addr) (n c n' c' : Nat) (ps : List PR) (ws : List WE) (z : World) : Prop extends PX w A A' n c n' c' ps ws z where
  b1 : z.heap[w.heap.size + 1]? = some (.cells #[.int .i64 0, .int .i64 0] 44 (0, 0))
section
variable {w z y : World} {A A' : Option Addr} {n c n' c' : Nat} {ps : List PR} {ws : List WE}
theorem PY.below (h : PY w A A' n c n' c' ps ws z) (hb : Below z.heap.size z y) : PY w A A' n c n' c' ps ws y := ⟨h.toPX.below hb, keepO hb h.b1⟩
theorem PY.start (hR : Reads w w.heap.size 4 A n (pgs ps)) (hW : Reads w w.heap.size 5 A' n' (wgs ws)) (hL : Laid w) : PY w A A' n c n' c' ps ws ((w.alloc (.cells #[.slice A n c, .slice A' n' c'] 25)).alloc (.cells #[.int .i64 0, .int .i64 0] 44)) := by
  refine ⟨(PX.start hR hW hL).below ((Below.refl _ _).alloc (Nat.le_refl _) _), ?_⟩
  have := heap_alloc_new (w.alloc (.cells #[.slice A n c, .slice A' n' c'] 25)) (.cells #[.int .i64 0, .int .i64 0] 44)
  simpa using this
end
end Go.Proofs.YtoakeclpakjbiaaDoor
