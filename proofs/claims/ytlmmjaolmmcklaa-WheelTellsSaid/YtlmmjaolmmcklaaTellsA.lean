/-
  What the program and the reference answer on trains, of whatever wheels.
-/
import Derived.Test.YtlmmjaolmmcklaaTwinW
namespace Go.Proofs.Ytlmmjaolmmcklaa
open Go.RowKit Go.Maps

/-- The answers: the ratio, whether all pairs hunt, the turns, the error. -/
structure AnsV where
  r : Int
  s : Int
  h : Bool
  t : Int
  e : Int

def ansV (ok va : Bool) (ts : List Int) (l : List (Int × Int)) : AnsV := match ok, va with
  | true, true => ⟨(redu (numT ts l) (denT ts l)).1, (redu (numT ts l) (denT ts l)).2, huntsB ts l, againT ts l l.length, 0⟩
  | true, false => ⟨0, 0, false, 0, 101⟩
  | false, _ => ⟨0, 0, false, 0, 100⟩

theorem prog_ans (A A' : Option Addr) (n c m c' : Nat) (hn : n ≤ 20) (hm : m ≤ 20) (ts : List Int) (l : List (Int × Int)) (hF : Fit2 l) (w : World) (hT : Reads w w.heap.size 1 A n (ints ts)) (hR : Reads w w.heap.size 2 A' m (prs l)) (v : AnsV) (hv : ansV (okW n ts) (validB n l) ts l = v) :
    (Calls Try.prog 13 #[.agg #[.slice A n c], .slice A' m c'] w fun e w' => e = .returned (.tuple #[.agg #[.int .i64 v.r, .int .i64 v.s], .int .i64 v.e]) ∧ Below w.heap.size w w') ∧
    (Calls Try.prog 15 #[.agg #[.slice A n c], .slice A' m c'] w fun e w' => e = .returned (.tuple #[.bool v.h, .int .i64 v.e]) ∧ Below w.heap.size w w') ∧
    (Calls Try.prog 17 #[.agg #[.slice A n c], .slice A' m c'] w fun e w' => e = .returned (.tuple #[.int .i64 v.t, .int .i64 v.e]) ∧ Below w.heap.size w w') := by
  have hl : ts.length = n := by simpa using hT.len
  subst hv
  cases h : okW n ts
  · have hS := Lib.hid (st_100 (A := A) (A' := A') (c := c) (m := m) (c' := c') hn hT h)
    exact ⟨Ratio_bad A A' n c m c' 100 w (Or.inl rfl) hS, Hunts_bad A A' n c m c' 100 w (Or.inl rfl) hS, Again_bad A A' n c m c' 100 w (Or.inl rfl) hS⟩
  · cases h' : validB n l
    · have hS := Lib.hid (st_101 (c := c) (c' := c') hn hm hF hT hR h h')
      exact ⟨Ratio_bad A A' n c m c' 101 w (Or.inr rfl) hS, Hunts_bad A A' n c m c' 101 w (Or.inr rfl) hS, Again_bad A A' n c m c' 101 w (Or.inr rfl) hS⟩
    · have hS := Lib.hid (st_ok (c := c) (c' := c') hn hm hF hT hR h h')
      have hO := okay_of hl h h'
      exact ⟨Ratio_good A A' n c m c' hn ts l hO w hT hR hS, Hunts_good A A' n c m c' hn ts l hO w hT hR hS, Again_good A A' n c m c' hn ts l hO w hT hR hS⟩

theorem ref_ans (A A' : Option Addr) (n c m c' : Nat) (hn : n ≤ 20) (hm : m ≤ 20) (hmc : m ≤ c') (ts : List Int) (l : List (Int × Int)) (w : World) (hT : Reads w w.heap.size 1 A n (ints ts)) (hR : Reads w w.heap.size 2 A' m (prs l)) (v : AnsV) (hv : ansV (okW n ts) (validB n l) ts l = v) :
    (Calls Try.prog 14 #[.agg #[.slice A n c], .slice A' m c'] w fun e w' => e = .returned (.tuple #[.agg #[.int .i64 v.r, .int .i64 v.s], .int .i64 v.e]) ∧ Below w.heap.size w w') ∧
    (Calls Try.prog 16 #[.agg #[.slice A n c], .slice A' m c'] w fun e w' => e = .returned (.tuple #[.bool v.h, .int .i64 v.e]) ∧ Below w.heap.size w w') ∧
    (Calls Try.prog 18 #[.agg #[.slice A n c], .slice A' m c'] w fun e w' => e = .returned (.tuple #[.int .i64 v.t, .int .i64 v.e]) ∧ Below w.heap.size w w') := by
  have hl : ts.length = n := by simpa using hT.len
  subst hv
  cases h : okW n ts
  · have hS : Hid (RSt w A A' n c m c' 0 0 100) := Lib.hid fun x hx => RRatio_100 A A' n c m c' hn ts x ((hT.below hx).more hx.size) h
    exact ⟨RRatio_100 A A' n c m c' hn ts w hT h, RHunts_bad A A' n c m c' 0 0 100 w (Or.inl rfl) hS, RAgain_bad A A' n c m c' 0 0 100 w (Or.inl rfl) hS⟩
  · cases h' : validB n l
    · have hS : Hid (RSt w A A' n c m c' 0 0 101) := Lib.hid fun x hx => RRatio_101 A A' n c m c' hn hm ts l x ((hT.below hx).more hx.size) ((hR.below hx).more hx.size) h h'
      exact ⟨RRatio_101 A A' n c m c' hn hm ts l w hT hR h h', RHunts_bad A A' n c m c' 0 0 101 w (Or.inr rfl) hS, RAgain_bad A A' n c m c' 0 0 101 w (Or.inr rfl) hS⟩
    · have hO := okay_of hl h h'
      have hS : Hid (RSt w A A' n c m c' _ _ 0) := Lib.hid fun x hx => RRatio_ok A A' n c m c' hn hm ts l hO x ((hT.below hx).more hx.size) ((hR.below hx).more hx.size) h h'
      exact ⟨RRatio_ok A A' n c m c' hn hm ts l hO w hT hR h h', RHunts_good A A' n c m c' _ _ hn ts l hO w hT hR hS, RAgain_good A A' n c m c' hmc _ _ hn ts l hO w hT hR hS⟩
end Go.Proofs.Ytlmmjaolmmcklaa
