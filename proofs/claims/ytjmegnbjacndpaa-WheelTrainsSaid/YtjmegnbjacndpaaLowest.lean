/-
  A fraction in lowest terms.
-/
import Derived.Test.YtjmegnbjacndpaaRatio
namespace Go.Proofs.Ytjmegnbjacndpaa
open Go.RowKit Go.Maps
/-- A fraction in lowest terms. -/
def redu (a b : Int) : Int × Int := (a / ((Int.gcd a b : Nat) : Int), b / ((Int.gcd a b : Nat) : Int))
set_option maxRecDepth 100000 in
theorem lowest_any (a b : Int) (ha : 0 ≤ a) (ha' : a ≤ 1000000000000000) (hb : 1 ≤ b) (hb' : b ≤ 1000000000000000) (w : World) :
    Calls Try.prog 29 #[.int .i64 a, .int .i64 b] w fun e w' =>
      e = .returned (.agg #[.int .i64 (redu a b).1, .int .i64 (redu a b).2]) ∧ Below w.heap.size w w' := by
  have H := Lib.hid (common_any b a (by omega) ha (w.alloc (.cells #[.int .i64 0, .int .i64 0] 26)))
  have hr1 : (redu a b).1 = a / ((Int.gcd b a : Nat) : Int) := by unfold redu; rw [Int.gcd_comm]
  have hr2 : (redu a b).2 = b / ((Int.gcd b a : Nat) : Int) := by unfold redu; rw [Int.gcd_comm]
  have hg : 1 ≤ ((Int.gcd b a : Nat) : Int) := by
    have : 0 < Int.gcd b a := Int.gcd_pos_of_ne_zero_left _ (by omega)
    omega
  rw [hr1, hr2]
  clear hr1 hr2
  generalize ((Int.gcd b a : Nat) : Int) = g at *
  have q1 : a.tdiv g = a / g := Int.tdiv_eq_ediv_of_nonneg ha
  have q2 : b.tdiv g = b / g := Int.tdiv_eq_ediv_of_nonneg (by omega)
  have l1 : a / g ≤ a := Int.ediv_le_self _ ha
  have l2 : b / g ≤ b := Int.ediv_le_self _ (by omega)
  have p1 : 0 ≤ a / g := Int.ediv_nonneg ha (by omega)
  have p2 : 0 ≤ b / g := Int.ediv_nonneg (by omega) (by omega)
  have e1 : IntKind.i64.wrap (a / g) = a / g := IntWalk.i64_in _ (by omega)
  have e2 : IntKind.i64.wrap (b / g) = b / g := IntWalk.i64_in _ (by omega)
  have c3 : (w.alloc (.cells #[.int .i64 0, .int .i64 0] 26)).cell? ⟨w.heap.size, 0, none⟩ = some (.int .i64 0) := by
    rw [World.cell?_alloc_at _ _ _ _ rfl]; rfl
  have c4 : (w.alloc (.cells #[.int .i64 0, .int .i64 0] 26)).cell? ⟨w.heap.size, 1, none⟩ = some (.int .i64 0) := by
    rw [World.cell?_alloc_at _ _ _ _ rfl]; rfl
  have f3 := fz_new w #[.int .i64 0, .int .i64 0] 26 0
  have f4 := fz_new w #[.int .i64 0, .int .i64 0] 26 1
  have hB := Lib.hid ((Below.refl w.heap.size w).alloc (Nat.le_refl _) (.cells #[.int .i64 0, .int .i64 0] 26))
  clear l1 l2 p1 p2
  go_enter Try.func29, Try.ntmps29
  go_wp2_with fail
  refine H.out.mono ?_
  rintro e w1 ⟨rfl, k, rfl⟩
  have hB' := Lib.hid (below_drewN hB.out k)
  replace c3 : ((w.alloc (.cells #[.int .i64 0, .int .i64 0] 26)).drewN k).cell? ⟨w.heap.size, 0, none⟩ = some (.int .i64 0) := c3
  replace c4 : ((w.alloc (.cells #[.int .i64 0, .int .i64 0] 26)).drewN k).cell? ⟨w.heap.size, 1, none⟩ = some (.int .i64 0) := c4
  replace f3 : ((w.alloc (.cells #[.int .i64 0, .int .i64 0] 26)).drewN k).frozen? ⟨w.heap.size, 0, none⟩ = false := f3
  replace f4 : ((w.alloc (.cells #[.int .i64 0, .int .i64 0] 26)).drewN k).frozen? ⟨w.heap.size, 1, none⟩ = false := f4
  go_wp2
  clear H hB
  generalize (w.alloc (.cells #[.int .i64 0, .int .i64 0] 26)).drewN k = wq at *
  have gz : ¬ g = 0 := by omega
  have gz' : (g == 0) = false := by simpa using gz
  go_still_tail 7, (by kernel_rfl)
  change wpList _ _ _ _ _ wq.drew
  have hB2 := Lib.hid hB'.out.drew
  replace c3 : wq.drew.cell? ⟨w.heap.size, 0, none⟩ = some (.int .i64 0) := c3
  replace c4 : wq.drew.cell? ⟨w.heap.size, 1, none⟩ = some (.int .i64 0) := c4
  replace f3 : wq.drew.frozen? ⟨w.heap.size, 0, none⟩ = false := f3
  replace f4 : wq.drew.frozen? ⟨w.heap.size, 1, none⟩ = false := f4
  clear hB'
  generalize wq.drew = w2 at *
  go_wp2
  obtain ⟨g0, g1⟩ := two_cells w2 w.heap.size (.int .i64 (a / g)) (.int .i64 (b / g)) _ _ c3 c4
  refine bodyPost_ret (v := .agg #[.int .i64 (a / g), .int .i64 (b / g)]) (by simp [results, Try.results29, go_sem, g0, g1]) rfl ⟨rfl, (hB2.out.setCell (Nat.le_refl _) _).setCell (Nat.le_refl _) _⟩
end Go.Proofs.Ytjmegnbjacndpaa
