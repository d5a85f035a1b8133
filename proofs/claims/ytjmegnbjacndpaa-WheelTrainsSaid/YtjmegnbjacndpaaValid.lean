/-
  Whether a train is valid: each wheel is picked out of those that are free.
-/
import Derived.Test.YtjmegnbjacndpaaFree
namespace Go.Proofs.Ytjmegnbjacndpaa
open Go.RowKit Go.Maps
/-- A pair's cells: driver, driven. -/
def prc (x : Int × Int) : List Value := [.int .i64 x.1, .int .i64 x.2]
def prs (l : List (Int × Int)) : List Value := l.flatMap prc
theorem Reads.pr {w : World} {B n k : Nat} {A : Option Addr} {l : List (Int × Int)} (h : Reads w B 2 A n (prs l)) (hk : k < n) :
    ∃ b o D V, A = some ⟨b, o, none⟩ ∧ b < B ∧ l[k]? = some (D, V) ∧ w.cell? ⟨b, o + k * 2, none⟩ = some (.int .i64 D) ∧ w.cell? ⟨b, o + k * 2 + 1, none⟩ = some (.int .i64 V) := by
  obtain ⟨b, o, ⟨D, V⟩, e, hb, hx, hc⟩ := h.rec_at (m := 2) (fun _ => rfl) (by omega) hk
  exact ⟨b, o, D, V, e, hb, hx, hc 0 _ rfl, hc 1 _ rfl⟩
theorem Reads.pr_len {w : World} {B n : Nat} {A : Option Addr} {l : List (Int × Int)} (h : Reads w B 2 A n (prs l)) : l.length = n := h.rec_len (m := 2) (fun _ => rfl) (by omega)
def pick (S : Int → Bool) : List (Int × Int) → Bool
  | [] => true
  | x :: r => S x.1 && (!decide (x.2 = x.1) && S x.2) && pick (fun j => !decide (j = x.2) && (!decide (j = x.1) && S j)) r
def validB (n : Nat) (l : List (Int × Int)) : Bool := decide (1 ≤ l.length) && decide (l.length ≤ 3) && pick (freeB n) l
theorem pick_step (S : Int → Bool) (l : List (Int × Int)) (k : Nat) (D V : Int) (h : l[k]? = some (D, V)) :
    pick S (l.drop k) = (S D && (!decide (V = D) && S V) && pick (fun j => !decide (j = V) && (!decide (j = D) && S j)) (l.drop (k + 1))) := by
  obtain ⟨h1, h2⟩ := List.getElem?_eq_some_iff.1 h
  rw [List.drop_eq_getElem_cons h1, h2]
  rfl
end Go.Proofs.Ytjmegnbjacndpaa
