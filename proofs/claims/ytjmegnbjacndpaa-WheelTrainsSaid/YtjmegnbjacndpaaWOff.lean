/-
  How far a ratio is from a wish, and which of two fractions is nearer: the program's walks.
-/
import Derived.Test.YtjmegnbjacndpaaLowest
import Derived.Test.YtjmegnbjacndpaaWtP
namespace Go.Proofs.Ytjmegnbjacndpaa
open Go.RowKit
set_option linter.unusedVariables false
set_option linter.unusedSimpArgs false

theorem two_cellsP {x : World} {b : Nat} {c0 c1 : Value} {t : TypeId} (h : x.heap[b]? = some (.cells #[c0, c1] t (0, 0))) : x.cell? ⟨b, 0, none⟩ = some c0 ∧ x.cell? ⟨b, 1, none⟩ = some c1 ∧ x.frozen? ⟨b, 0, none⟩ = false ∧ x.frozen? ⟨b, 1, none⟩ = false :=
  ⟨by simp [World.cell?, h], by simp [World.cell?, h], by simp [World.frozen?, h], by simp [World.frozen?, h]⟩
theorem keepP {w w' : World} {b : Nat} {o : Obj} (hb : Below w.heap.size w w') (h : w.heap[b]? = some o) : w'.heap[b]? = some o := (hb.block b (Array.getElem?_eq_some_iff.1 h).1).trans h
/-- How far. -/
def offF (r q : Int × Int) : Int × Int := redu (max (r.1 * q.2 - q.1 * r.2) (-(r.1 * q.2 - q.1 * r.2))) (r.2 * q.2)
theorem mx_ifP (a b : Int) : (if a < b then b else a) = max a b := by split <;> omega
theorem mul_inP {x y X Y : Int} (h1 : 0 ≤ x) (h2 : x ≤ X) (h3 : 0 ≤ y) (h4 : y ≤ Y) : 0 ≤ x * y ∧ x * y ≤ X * Y := ⟨Int.mul_nonneg h1 h3, Int.mul_le_mul h2 h4 h3 (by omega)⟩
set_option maxRecDepth 100000 in
theorem off_any (n d p q : Int) (w : World) (hn : 0 ≤ n ∧ n ≤ 1728000) (hd : 1 ≤ d ∧ d ≤ 1728000) (hp : 1 ≤ p ∧ p ≤ 1000) (hq : 1 ≤ q ∧ q ≤ 1000) :
    Calls Try.prog 18 #[.agg #[.int .i64 n, .int .i64 d], .agg #[.int .i64 p, .int .i64 q]] w fun e w' => e = .returned (.agg #[.int .i64 (offF (n, d) (p, q)).1, .int .i64 (offF (n, d) (p, q)).2]) ∧ Below w.heap.size w w' := by
  have m1 := mul_inP hn.1 hn.2 (show 0 ≤ q by omega) hq.2
  have m2 := mul_inP (show 0 ≤ p by omega) hp.2 (show 0 ≤ d by omega) hd.2
  have m3 := mul_inP (show 0 ≤ d by omega) hd.2 (show 0 ≤ q by omega) hq.2
  have m4 : 1 ≤ d * q := by have := Int.mul_le_mul hd.1 hq.1 (by omega) (by omega); omega
  obtain ⟨x, hx⟩ : ∃ x, x = n * q - p * d := ⟨_, rfl⟩
  obtain ⟨mx, hmx_⟩ : ∃ y, y = max x (-x) := ⟨_, rfl⟩
  obtain ⟨z, hz⟩ : ∃ z, z = d * q := ⟨_, rfl⟩
  have hsp : Hid (offF (n, d) (p, q) = redu mx z) := by show _ = _; unfold offF; simp only; rw [hmx_, hz, hx]
  have w1 : IntKind.i64.wrap (n * q) = n * q := IntWalk.i64_in _ (by omega)
  have w2 : IntKind.i64.wrap (p * d) = p * d := IntWalk.i64_in _ (by omega)
  have w3 : IntKind.i64.wrap (n * q - p * d) = x := by rw [IntWalk.i64_in _ (by omega), hx]
  have w4 : IntKind.i64.wrap (-x) = -x := IntWalk.i64_in _ (by omega)
  have w5 : IntKind.i64.wrap (d * q) = z := by rw [IntWalk.i64_in _ (by omega), hz]
  have hmx : (if x < -x then -x else x) = mx := by rw [hmx_]; exact mx_ifP _ _
  have H := Lib.hid (fun W => lowest_any mx z (by omega) (by omega) (by omega) (by omega) W)
  obtain ⟨wb, hwb_⟩ : ∃ y, y = ((w.alloc (.cells #[.int .i64 n, .int .i64 d] 26)).alloc (.cells #[.int .i64 p, .int .i64 q] 26)).alloc (.cells #[.int .i64 0, .int .i64 0] 26) := ⟨_, rfl⟩
  have hB0 : Below w.heap.size w wb := by rw [hwb_]; exact (((Below.refl _ _).alloc (Nat.le_refl _) _).alloc (by simp) _).alloc (by simp; omega) _
  have hO0 : wb.heap[w.heap.size + 1 + 1]? = some (.cells #[.int .i64 0, .int .i64 0] 26 (0, 0)) := by rw [hwb_]; have := heap_alloc_new ((w.alloc (.cells #[.int .i64 n, .int .i64 d] 26)).alloc (.cells #[.int .i64 p, .int .i64 q] 26)) (.cells #[.int .i64 0, .int .i64 0] 26); simpa using this
  have hB := Lib.hid hB0
  have hO := Lib.hid hO0
  have hwb := Lib.hid hwb_
  clear m1 m2 m3 m4 hx hmx_ hz hn hd hp hq hB0 hO0 hwb_
  rw [hsp.out]
  go_enter Try.func18, Try.ntmps18
  go_wp2_with fail
  rw [← hwb.out]
  refine (H.out wb).mono ?_
  rintro e w1' ⟨rfl, hb⟩
  have hO1 := keepP hb hO.out
  obtain ⟨s0, s1, f0, f1⟩ := two_cellsP hO1
  have hB1 := Lib.hid (hB.out.trans (hb.mono hB.out.size))
  clear hO1 hb
  go_wp2
  obtain ⟨g0, g1⟩ := two_cells w1' (w.heap.size + 1 + 1) (.int .i64 (redu mx z).1) (.int .i64 (redu mx z).2) _ _ s0 s1
  exact bodyPost_ret (v := .agg #[.int .i64 (redu mx z).1, .int .i64 (redu mx z).2]) (by simp [results, Try.results18, go_sem, g0, g1]) rfl ⟨rfl, (hB1.out.setCell (p := ⟨w.heap.size + 1 + 1, 0, none⟩) (by simp only; omega) _).setCell (p := ⟨w.heap.size + 1 + 1, 1, none⟩) (by simp only; omega) _⟩
def cmpJ (x y : Int) : Int := if x < y then -1 else if y < x then 1 else 0
theorem nanJ_any (x : Int) (w : World) : Calls Try.prog 52 #[.int .i64 x] w fun e w' => e = .returned (.bool false) ∧ w = w' := by
  go_enter Try.func52, Try.ntmps52
  go_wp2
  go_ret
  exact ⟨ret_bool (by simp), rfl⟩
theorem compareJ_any (x y : Int) (w : World) : Calls Try.prog 43 #[.int .i64 x, .int .i64 y] w fun e w' => e = .returned (.int .i64 (cmpJ x y)) ∧ w = w' := by
  by_cases h1 : x < y
  · have hr : Hid (cmpJ x y = -1) := by show _ = _; unfold cmpJ; rw [if_pos h1]
    go_enter Try.func43, Try.ntmps43
    go_wp2_with (first | (go_at_call 52; refine (nanJ_any _ _).mono ?_; rintro e w' ⟨rfl, rfl⟩) | fail)
    go_ret
    exact ⟨ret_int hr.out.symm, rfl⟩
  · by_cases h2 : y < x
    · have hr : Hid (cmpJ x y = 1) := by show _ = _; unfold cmpJ; rw [if_neg h1, if_pos h2]
      go_enter Try.func43, Try.ntmps43
      go_wp2_with (first | (go_at_call 52; refine (nanJ_any _ _).mono ?_; rintro e w' ⟨rfl, rfl⟩) | fail)
      go_ret
      exact ⟨ret_int hr.out.symm, rfl⟩
    · have hr : Hid (cmpJ x y = 0) := by show _ = _; unfold cmpJ; rw [if_neg h1, if_neg h2]
      go_enter Try.func43, Try.ntmps43
      go_wp2_with (first | (go_at_call 52; refine (nanJ_any _ _).mono ?_; rintro e w' ⟨rfl, rfl⟩) | fail)
      go_ret
      exact ⟨ret_int hr.out.symm, rfl⟩
set_option maxRecDepth 100000 in
theorem nearer_any (a b p q : Int) (w : World) (h1 : IntKind.i64.wrap (a * q) = a * q) (h2 : IntKind.i64.wrap (p * b) = p * b) :
    Calls Try.prog 20 #[.agg #[.int .i64 a, .int .i64 b], .agg #[.int .i64 p, .int .i64 q]] w fun e w' => e = .returned (.int .i64 (cmpJ (a * q) (p * b))) ∧ Below w.heap.size w w' := by
  obtain ⟨wb, hwb_⟩ : ∃ y, y = (w.alloc (.cells #[.int .i64 a, .int .i64 b] 26)).alloc (.cells #[.int .i64 p, .int .i64 q] 26) := ⟨_, rfl⟩
  have hB := Lib.hid (show Below w.heap.size w wb by rw [hwb_]; exact ((Below.refl _ _).alloc (Nat.le_refl _) _).alloc (by simp) _)
  have hwb := Lib.hid hwb_
  clear hwb_
  go_enter Try.func20, Try.ntmps20
  go_wp2_with fail
  rw [← hwb.out]
  refine (compareJ_any _ _ wb).mono ?_
  rintro e w1 ⟨rfl, rfl⟩
  go_wp2
  go_ret
  exact ⟨rfl, hB.out⟩
end Go.Proofs.Ytjmegnbjacndpaa
