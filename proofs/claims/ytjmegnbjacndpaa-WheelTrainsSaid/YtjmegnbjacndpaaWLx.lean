/-
  The plain law: the first train that is just the wish is the nearest one, where that is nought off.
-/
import Derived.Test.YtjmegnbjacndpaaWNe
namespace Go.Proofs.Ytjmegnbjacndpaa
open Go.RowKit
set_option linter.unusedVariables false
set_option linter.unusedSimpArgs false

theorem redu_parts (a b : Int) (ha : 1 ≤ a) (hb : 1 ≤ b) : ∃ g : Int, 1 ≤ g ∧ a = g * (redu a b).1 ∧ b = g * (redu a b).2 := by
  have hg : 0 < Int.gcd a b := Int.gcd_pos_of_ne_zero_left _ (by omega)
  refine ⟨((Int.gcd a b : Nat) : Int), by omega, ?_, ?_⟩
  · unfold redu
    exact (Int.mul_ediv_cancel' (Int.gcd_dvd_left ..)).symm
  · unfold redu
    exact (Int.mul_ediv_cancel' (Int.gcd_dvd_right ..)).symm
theorem redu_eq (a b c d : Int) (ha : 1 ≤ a) (hb : 1 ≤ b) (hc : 1 ≤ c) (hd : 1 ≤ d) : redu a b = redu c d ↔ a * d = c * b := by
  constructor
  · intro h
    obtain ⟨g, hg, e1, e2⟩ := redu_parts a b ha hb
    obtain ⟨k, hk, e3, e4⟩ := redu_parts c d hc hd
    rw [← h] at e3 e4
    generalize (redu a b).1 = x at *
    generalize (redu a b).2 = y at *
    rw [e1, e2, e3, e4]
    simp only [Int.mul_assoc, Int.mul_comm, Int.mul_left_comm]
  · intro h
    rw [← redu_scale c a b hc, ← redu_scale a c d ha, ← h, Int.mul_comm c a]
theorem redu_redu (N D : Int) (hN : 1 ≤ N) : redu (redu N D).1 (redu N D).2 = redu N D := by
  have := redu_step N D 1 1 hN
  simpa using this
theorem off_zero {N D p q : Int} (hN : 1 ≤ N) (hD : 1 ≤ D) (hp : 1 ≤ p) (hq : 1 ≤ q) : (offF (redu N D) (p, q)).1 = 0 ↔ redu N D = redu p q := by
  obtain ⟨⟨h1, -⟩, h2, -⟩ := redu_bound N D hN hD
  rw [← redu_redu N D hN]
  generalize hr : redu N D = r at *
  obtain ⟨r1, r2⟩ := r
  simp only at h1 h2
  have hx : redu (redu (r1, r2).1 (r1, r2).2).1 (redu (r1, r2).1 (r1, r2).2).2 = redu r1 r2 := redu_redu r1 r2 h1
  have he : redu r1 r2 = (r1, r2) := by have := redu_redu N D hN; rw [hr] at this; exact this
  show (offF (redu r1 r2) (p, q)).1 = 0 ↔ redu r1 r2 = redu p q
  rw [redu_eq r1 r2 p q h1 h2 hp hq, he]
  unfold offF redu
  simp only
  have hz : 1 ≤ r2 * q := by have := Int.mul_le_mul h2 hq (by omega) (by omega); omega
  generalize hz0 : r2 * q = z at *
  generalize hx0 : r1 * q - p * r2 = x
  obtain ⟨m, hm⟩ : ∃ m, m = max x (-x) := ⟨_, rfl⟩
  rw [← hm]
  have hg : (0 : Int) < ((Int.gcd m z : Nat) : Int) := by have : 0 < Int.gcd m z := Int.gcd_pos_of_ne_zero_right _ (by omega); omega
  have hd : ((Int.gcd m z : Nat) : Int) ∣ m := Int.gcd_dvd_left ..
  constructor
  · intro h
    have h3 := Int.mul_ediv_cancel' hd
    rw [h, Int.mul_zero] at h3
    omega
  · intro h
    have : m = 0 := by omega
    rw [this, Int.zero_ediv]
theorem OkN_of {x : List (Int × Int) × Int × Int} (h : FarOk x.2) : OkN x := ⟨h.1.1, h.2.1⟩
/-- What the reference's Exact takes out of its nearest one. -/
def rxL (b : Best) : List (Int × Int) := match b with | some y => if y.2.1 = 0 then y.1 else [] | none => []
theorem exact_law {n : Nat} {ts : List Int} {p q : Int} (hl : ts.length = n) (hok : okW n ts = true) (hp : 1 ≤ p ∧ p ≤ 1000) (hq : 1 ≤ q ∧ q ≤ 1000) :
    zeroF (bestS n ts p q 3 []) = exF n ts p q := by
  have hall : ∀ l ∈ allT n 3, Okay n ts l ∧ l.length ≤ 3 := fun l hlm => by
    unfold allT at hlm
    obtain ⟨k, hk, h⟩ := List.mem_flatMap.1 hlm
    have hk3 := List.mem_range.1 hk
    exact ⟨okay_of hl hok (valid_lev hk3 h), by rw [((lev_mem (k + 1) (by omega) l).1 h).1]; omega⟩
  unfold bestS
  rw [List.append_nil]
  rw [near_zero _ none (fun x hx => by
    obtain ⟨l, h1, rfl⟩ := List.mem_map.1 hx
    exact OkN_of (far_ok (rat_bound (hall l h1).1 (hall l h1).2) hp hq)) (fun y h => by cases h)]
  unfold exF
  have : ∀ L : List (List (Int × Int)), (∀ l ∈ L, Okay n ts l ∧ l.length ≤ 3) → (((L.map (candL ts p q)).find? fun x => decide (x.2.1 = 0)).map (·.1)) = L.find? fun l => decide (ratL ts l = redu p q) := by
    intro L
    induction L with
    | nil => intro _; rfl
    | cons l r ih =>
      intro h
      have hO := (h l (List.mem_cons_self ..)).1
      obtain ⟨⟨b1, -⟩, b2, -⟩ := hO.bound l.length (Nat.le_refl _)
      rw [List.take_length] at b1 b2
      have hz : (candL ts p q l).2.1 = 0 ↔ ratL ts l = redu p q := off_zero b1 b2 hp.1 hq.1
      rw [List.map_cons]
      by_cases hc : ratL ts l = redu p q
      · rw [List.find?_cons_of_pos (by simpa using hz.2 hc), List.find?_cons_of_pos (by simpa using hc)]
        rfl
      · rw [List.find?_cons_of_neg (by simpa using fun e => hc (hz.1 e)), List.find?_cons_of_neg (by simpa using hc)]
        exact ih fun x hx => h x (List.mem_cons_of_mem _ hx)
  exact this _ hall
end Go.Proofs.Ytjmegnbjacndpaa
