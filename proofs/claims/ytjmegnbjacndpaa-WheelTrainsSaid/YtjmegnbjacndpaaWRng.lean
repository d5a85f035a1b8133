/-
  Ranges over a function: the law of a range, a region inside of a round, the marks among the deferred calls.
-/
import Derived.RangeFuncNested
import Derived.RangeFuncBound
import Derived.RangeFuncCalls
import Derived.RangeFuncLeaves
import Derived.Shelf.Abstract
import Derived.Shelf.RegionOpen
import Derived.WalkKit
import Derived.OwnWalkIn
import Derived.TacticsInMore
import Derived.RegionIn
import Derived.LoopNIn
import Derived.LoopIn
import Derived.WalkMore
import Derived.Scope
import Derived.Test.YtjmegnbjacndpaaWKp
namespace Go.Proofs.Ytjmegnbjacndpaa
open Go.RowKit Go.Shelf
set_option linter.unusedVariables false
set_option linter.unusedSimpArgs false

/-- A loop's record. -/
def rcd (fn : FuncId) (tmps : Array Value) (ps : Array Tmp) (assign body : Code) (D : Nat) (st : LoopState) (pe : Option Code) : Loop := { state := st, pending := pe, fn, tmps, params := ps, assign, body, defers := D }
/-- A range over a function, outside of any round: its function is called with yield; a pending jump is taken up behind it. -/
theorem wp_range {P : Program} {g : Operand} {ps : Array Tmp} {assign body : Code} {Q : Exit → Act → World → Prop} {a : Act} {w : World} {gf : Nat} {lb : Array Value}
    (hg : a.eval g = .func (.func gf) #[] lb) (eg : ∀ args w, (callFunc gf args).run P w = .ok (.enter gf args) w)
    (h : ∀ (fn : FuncId) (rc : LoopState → Option Code → Loop), rc = rcd fn a.tmps ps assign body w.heap.size → Calls P gf (#[.func (.yield (w.heap.size + 1)) #[] #[]] ++ lb) ((w.alloc (.deferred (some []))).alloc (.loop (rc .ready none))) fun e w3 => (∃ v, e = .returned v) ∧
      ∃ st pe, w3.heap[w.heap.size + 1]? = some (.loop (rc st pe)) ∧ st ≠ .busy ∧
        (match pe with
         | none => Q .normal { a with defers := { target := .collected w.heap.size, args := #[] } :: a.defers } (w3.putObj (w.heap.size + 1) (.loop (rc .exhausted pe)))
         | some c => c.wp P Q { a with defers := { target := .collected w.heap.size, args := #[] } :: a.defers } (w3.putObj (w.heap.size + 1) (.loop (rc .exhausted pe))))) :
    (Code.rangeFunc g ps assign body).wp P Q a w := by
  refine (wpIn_wide (n := 3)).1 (wpIn_rangeFunc ?_)
  intro fn _
  obtain ⟨W1, hW1⟩ : ∃ W1, (w.alloc (.deferred (some []))).alloc (.loop (rcd fn a.tmps ps assign body w.heap.size .ready none)) = W1 := ⟨_, rfl⟩
  have h := h fn _ rfl
  rw [hW1] at h
  refine ⟨w.heap.size + 1, [{ target := .collected w.heap.size, args := #[] }], W1, { target := .fn (.func gf) lb, args := #[.func (.yield (w.heap.size + 1)) #[] #[]] }, W1, gf,
    #[.func (.yield (w.heap.size + 1)) #[] #[]] ++ lb, W1, ?_, ?_, fun _ _ => trivial, ?_, ?_, ?_⟩
  · rw [← hW1]; exact run_enterLoop_outer _ _ _ _ _
  · simp only [resolve, hg]
    simp [go_sem]
  · simp [invoke, go_sem, eg]
  · intro h; cases h
  · refine callsIn_wide.2 (h.mono ?_)
    rintro e w3 ⟨⟨v, rfl⟩, st, pe, hl, hst, hq⟩
    refine ⟨pe, _, run_endLoop hl hst, ?_⟩
    cases pe with
    | none => exact hq
    | some c => exact wpIn_wide.2 hq

theorem below_put {B : Nat} {a W : World} (h : Below B a W) {l : Nat} (o : Obj) (hl : B ≤ l) : Below B a (W.putObj l o) :=
  ⟨h.os, h.tape, h.output, by simpa using h.size, fun k hk => (World.putObj_heap_other (by omega)).trans (h.block k hk)⟩
theorem reads_put {W : World} {B size n : Nat} {A : Option Addr} {xs : List Value} (h : Reads W B size A n xs) (hs : 0 < size) {l : Nat} {r : Loop} (o : Obj) (hl : W.heap[l]? = some (.loop r)) : Reads (W.putObj l o) B size A n xs := by
  refine ⟨h.1, fun hn => ?_⟩
  obtain ⟨b, q, e, hb, hc⟩ := h.2 hn
  have hlen : 0 < xs.length := by rw [h.1]; exact Nat.mul_pos hn hs
  have hne : b ≠ l := by
    rintro rfl
    have := hc 0 (xs[0]) (by simp)
    simp [World.cell?, hl] at this
  refine ⟨b, q, e, hb, fun j u hu => ?_⟩
  have := hc j u hu
  simp only [World.cell?, World.putObj_heap_other hne] at this ⊢
  exact this

theorem reads_putD {W : World} {B size n : Nat} {A : Option Addr} {xs : List Value} (h : Reads W B size A n xs) (hs : 0 < size) {l : Nat} {r : Option (List Deferred)} (o : Obj) (hl : W.heap[l]? = some (.deferred r)) : Reads (W.putObj l o) B size A n xs := by
  refine ⟨h.1, fun hn => ?_⟩
  obtain ⟨b, q, e, hb, hc⟩ := h.2 hn
  have hlen : 0 < xs.length := by rw [h.1]; exact Nat.mul_pos hn hs
  have hne : b ≠ l := by
    rintro rfl
    have := hc 0 (xs[0]) (by simp)
    simp [World.cell?, hl] at this
  refine ⟨b, q, e, hb, fun j u hu => ?_⟩
  have := hc j u hu
  simp only [World.cell?, World.putObj_heap_other hne] at this ⊢
  exact this

/-- A cell of a block of records is kept by a put of another kind of object. -/
theorem put_other {w : World} {l q : Nat} {o o' : Obj} (h : w.heap[q]? = some o') (hne : q ≠ l) : (w.putObj l o).heap[q]? = some o' := (World.putObj_heap_other hne).trans h
theorem Kp.put {B : Nat} {D : List Nat} {a w : World} (h : Kp B D a w) {l : Nat} (o : Obj) (hl : l ∈ D ∨ B ≤ l) : Kp B D a (w.putObj l o) :=
  ⟨h.os, h.tape, h.output, by simpa using h.size, fun k hk hd => (World.putObj_heap_other (fun e => by subst e; rcases hl with h | h; exact hd h; omega)).trans (h.block k hk hd)⟩

/-- The marks that ranges leave. -/
def mkD (r : Nat) : Deferred := { target := .collected r, args := #[] }
theorem leaves_marks {n : Nat} {P : Program} {fn : Func} {tmps : Array Value} {R : Ending → World → Prop} : ∀ (rs : List Nat) (W : World), rs.Nodup → (∀ r ∈ rs, W.heap[r]? = some (.deferred (some []))) →
    (∀ W', W'.os = W.os → W'.tape = W.tape → W'.output = W.output → W'.heap.size = W.heap.size → (∀ k, k ∉ rs → W'.heap[k]? = W.heap[k]?) → ∃ v, (results fn tmps).run P W' = .ok v W' ∧ R (.returned v) W') → LeavesInM Fence.wide n P fn tmps R (rs.map mkD) .returning W
  | [], W, _, _, h => h W rfl rfl rfl rfl fun _ _ => rfl
  | r :: rs, W, hnd, hm, h => by
    rw [List.nodup_cons] at hnd
    refine ⟨by simp, .inl ⟨r, W.putObj r (.deferred none), rfl, run_takeDeferred (hm r (List.mem_cons_self ..)), ?_⟩⟩
    refine leaves_marks rs _ hnd.2 (fun q hq => put_other (hm q (List.mem_cons_of_mem _ hq)) (fun e => hnd.1 (e ▸ hq))) fun W' h1 h2 h3 h4 h5 => ?_
    refine h W' h1 h2 h3 (h4.trans World.putObj_size) fun k hk => ?_
    rw [h5 k (fun hm => hk (List.mem_cons_of_mem _ hm)), World.putObj_heap_other (fun e => hk (by rw [e]; exact List.mem_cons_self ..))]

/-- Only the plain way on. -/
def only (K : Act → World → Prop) : Exit → Act → World → Prop
  | .normal, a, w => K a w
  | _, _, _ => False
theorem only_out {K : Act → World → Prop} : ¬ LetsOut (only K) := fun ⟨_, _, h⟩ => h
section
variable {P : Program} {ops : Array Oper} {Q : Exit → Act → World → Prop} {n l : Nat}
theorem upon_in {o : Oper} {a : Act} {K K' : Act → World → Prop} (h : ∀ a w, K a w → K' a w) : ∀ r : Result Next, o.upon P a K (only (Q .normal)) r → o.uponIn (Fence.wide.inRound l) n P a K' Q r
  | .ok (.value v) w', g => h _ _ g
  | .ok .skip w', g => h _ _ g
  | .ok (.defer d) w', g => h _ _ g
  | .ok (.enter f args) w', g => ⟨fun e => by simp [Fence.wide] at e, CallsIn.inRound l (callsIn_wide.2 (Calls.mono g (by
      rintro e w'' he
      cases e with
      | returned v => exact h _ _ he
      | panicked c => exact he.elim
      | outgrown => exact (only_out he).elim)))⟩
  | .ok (.row row args) w', g => ⟨fun e => by simp [Fence.wide] at e, fun c cs _ => by
      obtain ⟨v, w2, r, s⟩ := g c cs
      exact ⟨v, w2, h _ _ r, stepsIn_wide.2 s⟩⟩
  | .ok (.round ..) w', g => False.elim g
  | .ok .recover w', g => False.elim g
  | .ok (.spawn ..) w', g => False.elim g
  | .halt h w', g => by cases h <;> exact False.elim g
theorem upon_out {o : Oper} {a : Act} {K K' : Act → World → Prop} (h : ∀ a w, K a w → K' a w) : ∀ r : Result Next, o.upon P a K (only (Q .normal)) r → o.upon P a K' Q r
  | .ok (.value v) w', g => h _ _ g
  | .ok .skip w', g => h _ _ g
  | .ok (.defer d) w', g => h _ _ g
  | .ok (.enter f args) w', g => Calls.mono g (by
      rintro e w'' he
      cases e with
      | returned v => exact h _ _ he
      | panicked c => exact he.elim
      | outgrown => exact (only_out he).elim)
  | .ok (.row row args) w', g => Rows.mono g fun _ _ r => h _ _ r
  | .ok (.round ..) w', g => False.elim g
  | .ok .recover w', g => False.elim g
  | .ok (.spawn ..) w', g => False.elim g
  | .halt h w', g => by cases h <;> exact False.elim g
theorem any_out : ∀ (fuel : Nat) (listed : Array Bool) (a : Act) (w : World), wpAny P .any ops (only (Q .normal)) fuel listed a w → wpAny P .any ops Q fuel listed a w
  | 0, listed, a, w, h => h
  | fuel + 1, listed, a, w, h => ⟨h.1, fun i hi => by
    have g := h.2 i hi
    unfold wpOp at g ⊢
    cases ho : ops[i]? with
    | none => rw [ho] at g; exact any_out fuel _ a w g
    | some o =>
      rw [ho] at g
      simp only at g ⊢
      split
      · rename_i hw
        rw [if_pos hw] at g
        rcases g with g | ⟨-, g⟩
        · exact .inl (upon_out (fun a w h => any_out fuel _ a w h) _ g)
        · exact (only_out g).elim
      · rename_i hw
        rw [if_neg hw] at g
        exact any_out fuel _ _ w g⟩
/-- A region that draws its order: only the plain way on is walked. -/
theorem region_out {S : World → Prop} {id : Nat} {a : Act} {w : World} (hm : P.follows .mixedOrders = true) (hS : S w.drew)
    (h : S w.drew → wpAnyH P .any ops (only (Q .normal)) S ops.size (Array.replicate ops.size false) a w.drew) : (Code.region id ops true).wp P Q a w :=
  wp_region_any hm (any_out _ _ _ _ (wpAny_of_held _ _ _ _ (h hS)))
/-- None of the operations defers a call. -/
def nodef (ops : Array Oper) : Bool := ops.all fun o => match o.op with | .defer _ => false | _ => true
theorem nodef_op (hd : nodef ops = true) {i : Nat} {o : Oper} (hi : ops[i]? = some o) : ∀ c, o.op ≠ .defer c := fun c e => by
  unfold nodef at hd
  rw [Array.all_eq_true] at hd
  obtain ⟨h1, h2⟩ := Array.getElem?_eq_some_iff.1 hi
  have := hd i h1
  rw [h2, e] at this
  cases this
theorem any_in (hd : nodef ops = true) : ∀ (fuel : Nat) (listed : Array Bool) (a : Act) (w : World), wpAny P .any ops (only (Q .normal)) fuel listed a w → wpAnyIn (Fence.wide.inRound l) n P .any ops Q fuel listed a w
  | 0, listed, a, w, h => h
  | fuel + 1, listed, a, w, h => ⟨h.1, fun i hi => by
    have g := h.2 i hi
    unfold wpOp at g
    unfold wpOpIn
    cases ho : ops[i]? with
    | none => rw [ho] at g; exact any_in hd fuel _ a w g
    | some o =>
      rw [ho] at g
      simp only at g ⊢
      split
      · rename_i hw
        rw [if_pos hw] at g
        rcases g with g | ⟨-, g⟩
        · refine ⟨fun _ _ => trivial, ?_⟩
          rw [Oper.semAt_plain _ _ _ (nodef_op hd ho)]
          exact upon_in (fun a w h => any_in hd fuel _ a w h) _ g
        · exact (only_out g).elim
      · rename_i hw
        rw [if_neg hw] at g
        exact ⟨fun _ _ => trivial, any_in hd fuel _ _ w g⟩⟩
/-- A region that draws its order, inside of a round: walked as if it stood outside. -/
theorem region_in {S : World → Prop} {id : Nat} {a : Act} {w : World} (hm : P.follows .mixedOrders = true) (hd : nodef ops = true) (hS : S w.drew)
    (h : S w.drew → wpAnyH P .any ops (only (Q .normal)) S ops.size (Array.replicate ops.size false) a w.drew) : (Code.region id ops true).wpIn (Fence.wide.inRound l) n P Q a w :=
  wpIn_region_any hm (any_in hd _ _ _ _ (wpAny_of_held _ _ _ _ (h hS)))
end
end Go.Proofs.Ytjmegnbjacndpaa
