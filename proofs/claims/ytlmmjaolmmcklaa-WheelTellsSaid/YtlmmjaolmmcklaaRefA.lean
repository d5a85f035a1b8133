/-
  The reference: after how many turns a train stands as at first.
-/
import Derived.Test.YtlmmjaolmmcklaaRefS
namespace Go.Proofs.Ytlmmjaolmmcklaa
open Go.RowKit Go.Maps

theorem Reads.pr_take {w : World} {B m k : Nat} {A : Option Addr} {l : List (Int × Int)} (h : Reads w B 2 A m (prs l)) (hk : k ≤ m) : Reads w B 2 A k (prs (l.take k)) := by
  have hl := h.pr_len
  have hp : prs l = prs (l.take k) ++ prs (l.drop k) := by unfold prs; rw [← List.flatMap_append, List.take_append_drop]
  refine ⟨?_, fun h0 => ?_⟩
  · unfold prs; rw [flat_len prc 2 (fun _ => rfl), List.length_take]; congr 1; omega
  · obtain ⟨b, o, e, hb, hc⟩ := h.2 (by omega)
    refine ⟨b, o, e, hb, fun j u hu => hc j u ?_⟩
    rw [hp, List.getElem?_append_left (List.getElem?_eq_some_iff.1 hu).1]
    exact hu

theorem Okay.take {n : Nat} {ts : List Int} {l : List (Int × Int)} (h : Okay n ts l) (k : Nat) : Okay n ts (l.take k) := by
  refine ⟨?_, h.teeth, fun i D V hi => h.one i D V ?_⟩
  · have := h.len; rw [List.length_take]; omega
  · rw [List.getElem?_take] at hi
    split at hi
    · exact hi
    · cases hi

theorem lcm_same (t d : Int) (ht : 1 ≤ t) : t / ((Int.gcd t d : Nat) : Int) * d = t * (d / ((Int.gcd t d : Nat) : Int)) := by
  obtain ⟨x, hx⟩ : ((Int.gcd t d : Nat) : Int) ∣ t := Int.gcd_dvd_left ..
  obtain ⟨y, hy⟩ : ((Int.gcd t d : Nat) : Int) ∣ d := Int.gcd_dvd_right ..
  have hg : ((Int.gcd t d : Nat) : Int) ≠ 0 := by
    have : 0 < Int.gcd t d := Int.gcd_pos_of_ne_zero_left _ (by omega)
    omega
  generalize ((Int.gcd t d : Nat) : Int) = g at *
  subst hx hy
  rw [Int.mul_ediv_cancel_left _ hg, Int.mul_ediv_cancel_left _ hg, ← Int.mul_assoc, Int.mul_comm x g]
end Go.Proofs.Ytlmmjaolmmcklaa
