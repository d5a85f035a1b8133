/-
  The wheels that are free, and whether a train is valid.
-/
import Derived.Test.YtjmegnbjacndpaaMap
import Derived.Test.YtjmegnbjacndpaaKit
import Derived.Test.YtjmegnbjacndpaaTeeth
namespace Go.Proofs.Ytjmegnbjacndpaa
open Go.RowKit Go.Maps
def freeB (n : Nat) (j : Int) : Bool := decide (1 ≤ j) && decide (j ≤ n)
set_option maxRecDepth 100000 in
theorem free_any (A : Option Addr) (n c : Nat) (hn : n ≤ 20) (w : World) :
    Calls Try.prog 41 #[.agg #[.slice A n c]] w fun e w' => (∃ b, e = .returned (.map (some b)) ∧ w.heap.size ≤ b ∧ OwnsSet w' b n (freeB n)) ∧ Below w.heap.size w w' := by
  have hmm := @run_makeMap Try.prog
  go_enter Try.func41, Try.ntmps41
  go_wp2
  go_loopw [10] (fun i wr => ∃ k : Nat, k ≤ n ∧ i = .int .i64 k ∧ Hid (OwnsSet wr (w.heap.size + 1) k (freeB k)) ∧ Below w.heap.size w wr) (fun i _ => n - (intOf i).toNat)
  case atStart => exact ⟨0, Nat.zero_le _, rfl, Lib.hid (by simpa using (OwnsSet.made (w.alloc (.cells #[.slice A n c] 50))).ext (fun k => by unfold freeB; simp; omega)), ((Below.refl _ _).alloc (Nat.le_refl _) _).alloc (by simp) _⟩
  case round =>
    obtain ⟨k, hk, rfl, hown, hnx⟩ := hrel
    go_wp2_with (first
      | (at_mapUpdate; refine put_set rfl _ _ _ rfl (w.heap.size + 1) k (freeB k) _ rfl hown.out (by unfold maxLen; omega) rfl (WalkArith.wf_i64 (by omega)) rfl ?_; intro w1 hown1 hgrow1)
      | go_in)
    · go_roundw
      case rel => exact ⟨k + 1, by omega, by go_num, hown1.ext (fun j => by unfold freeB; apply Bool.eq_iff_iff.2; simp; omega), hnx.grown hgrow1 hnx.size (fun j hj => by cases hj; omega)⟩
      case measure => simp [intOf]; omega
    · have : k = n := by omega
      subst this
      go_ret
      exact ⟨⟨_, rfl, by omega, hown.out⟩, hnx⟩
end Go.Proofs.Ytjmegnbjacndpaa
