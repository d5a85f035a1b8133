/-
  The reference compares wheels.
-/
import Derived.Test.YtjmegnbjacndpaaOkay
import Derived.Test.YtjmegnbjacndpaaStrikes
namespace Go.Proofs.Ytjmegnbjacndpaa
open Go.RowKit Go.Maps
set_option maxRecDepth 100000 in
theorem SameWheels_any (A A' : Option Addr) (n m c c' : Nat) (l l' : List Int) (w : World) (hn : n ≤ maxLen) (hm : m ≤ maxLen) (h : Reads w w.heap.size 1 A n (ints l)) (h' : Reads w w.heap.size 1 A' m (ints l')) :
    Calls Try.prog 13 #[.agg #[.slice A n c], .agg #[.slice A' m c']] w fun e w' => e = .returned (.bool (decide (l = l'))) ∧ Below w.heap.size w w' := by
  have hB := Lib.hid (((Below.refl w.heap.size w).alloc (Nat.le_refl _) (.cells #[.slice A n c] 24)).alloc (by simp) (.cells #[.slice A' m c'] 24))
  have H := Lib.hid (sameInts_any A A' n m c c' l l' ((w.alloc (.cells #[.slice A n c] 24)).alloc (.cells #[.slice A' m c'] 24)) hn hm
    ((h.below hB.out).more hB.out.size) ((h'.below hB.out).more hB.out.size))
  clear h h'
  go_enter Try.func13, Try.ntmps13
  go_wp2_with fail
  refine H.out.mono ?_
  rintro e w1 ⟨rfl, k, rfl⟩
  have hB1 := Lib.hid (below_drewN hB.out k)
  go_wp2
  go_ret
  exact ⟨rfl, hB1.out⟩
end Go.Proofs.Ytjmegnbjacndpaa
