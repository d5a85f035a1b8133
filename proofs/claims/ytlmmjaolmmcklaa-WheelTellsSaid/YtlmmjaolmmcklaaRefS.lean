/-
  The reference: the error of wheels, and whether they are great.
-/
import Derived.Test.YtlmmjaolmmcklaaRefH
namespace Go.Proofs.Ytlmmjaolmmcklaa
open Go.RowKit Go.Maps

/-- The error of wheels. -/
def errW (b : Bool) : Int := match b with | true => 0 | false => 100

set_option maxRecDepth 100000 in
theorem RCheck_any (A : Option Addr) (n c : Nat) (ts : List Int) (hn : n ≤ 20) (w : World) (hT : Reads w w.heap.size 1 A n (ints ts)) :
    Calls Try.prog 20 #[.agg #[.slice A n c]] w fun e w' => e = .returned (.int .i64 (errW (okW n ts))) ∧ Below w.heap.size w w' := by
  have H := Lib.hid (Wheels_any A n c ts hn (w.alloc (.cells #[.slice A n c] 35)) ((hT.alloc (Nat.le_refl _) _).more (by simp)))
  have hB := Lib.hid ((Below.refl w.heap.size w).alloc (Nat.le_refl _) (.cells #[.slice A n c] 35))
  cases h : okW n ts
  · rw [h] at H
    have he : Hid (100 = errW (okW n ts)) := Lib.hid (by rw [h]; rfl)
    clear h
    go_enter Try.func20, Try.ntmps20
    go_wp2_with fail
    refine H.out.mono ?_
    rintro e w1 ⟨rfl, hb1⟩
    go_wp2
    go_ret
    exact ⟨rfl, hB.out.trans (hb1.mono (by simp))⟩
  · rw [h] at H
    have he : Hid (0 = errW (okW n ts)) := Lib.hid (by rw [h]; rfl)
    clear h
    go_enter Try.func20, Try.ntmps20
    go_wp2_with fail
    refine H.out.mono ?_
    rintro e w1 ⟨rfl, hb1⟩
    go_wp2
    go_ret
    exact ⟨rfl, hB.out.trans (hb1.mono (by simp))⟩

theorem Check_any (A : Option Addr) (n c : Nat) (ts : List Int) (hn : n ≤ 20) (w : World) (hT : Reads w w.heap.size 1 A n (ints ts)) :
    Calls Try.prog 19 #[.agg #[.slice A n c]] w fun e w' => e = .returned (.int .i64 (errW (okW n ts))) ∧ Below w.heap.size w w' := by
  cases h : okW n ts
  · exact check_no A n c ts hn w hT h
  · exact check_ok A n c ts hn w hT h

set_option maxRecDepth 100000 in
theorem Great_any (A : Option Addr) (n c : Nat) (w : World) :
    Calls Try.prog 11 #[.agg #[.slice A n c]] w fun e w' => e = .returned (.bool (decide (20 < n))) ∧ Below w.heap.size w w' := by
  have hB := Lib.hid ((Below.refl w.heap.size w).alloc (Nat.le_refl _) (.cells #[.slice A n c] 35))
  go_enter Try.func11, Try.ntmps11
  go_wp2
  go_ret
  exact ⟨ret_bool (by apply Bool.eq_iff_iff.2; simp; omega), hB.out⟩
end Go.Proofs.Ytlmmjaolmmcklaa
