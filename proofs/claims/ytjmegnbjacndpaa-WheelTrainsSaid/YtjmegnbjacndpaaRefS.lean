/-
  The reference: the error of wheels, and whether they are great.
-/
import Derived.Test.YtjmegnbjacndpaaRefH
namespace Go.Proofs.Ytjmegnbjacndpaa
open Go.RowKit Go.Maps
/-- The error of wheels. -/
def errW (b : Bool) : Int := match b with | true => 0 | false => 100
theorem Check_any (A : Option Addr) (n c : Nat) (ts : List Int) (hn : n ≤ 20) (w : World) (hT : Reads w w.heap.size 1 A n (ints ts)) :
    Calls Try.prog 14 #[.agg #[.slice A n c]] w fun e w' => e = .returned (.int .i64 (errW (okW n ts))) ∧ Below w.heap.size w w' := by
  cases h : okW n ts
  · exact check_no A n c ts hn w hT h
  · exact check_ok A n c ts hn w hT h
set_option maxRecDepth 100000 in
theorem Great_any (A : Option Addr) (n c : Nat) (w : World) :
    Calls Try.prog 4 #[.agg #[.slice A n c]] w fun e w' => e = .returned (.bool (decide (20 < n))) ∧ Below w.heap.size w w' := by
  have hB := Lib.hid ((Below.refl w.heap.size w).alloc (Nat.le_refl _) (.cells #[.slice A n c] 24))
  go_enter Try.func4, Try.ntmps4
  go_wp2
  go_ret
  exact ⟨ret_bool (by apply Bool.eq_iff_iff.2; simp; omega), hB.out⟩
end Go.Proofs.Ytjmegnbjacndpaa
