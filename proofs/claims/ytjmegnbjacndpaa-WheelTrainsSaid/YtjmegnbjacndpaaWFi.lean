/-
  The first of candidates, where there is one only; how far a train may be off.
-/
import Derived.Test.YtjmegnbjacndpaaWEx
import Derived.Test.YtjmegnbjacndpaaWOff
namespace Go.Proofs.Ytjmegnbjacndpaa
open Go.RowKit Go.Maps Go.Shelf
set_option linter.unusedVariables false
set_option linter.unusedSimpArgs false

theorem three_facts {x : World} {b : Nat} {c0 c1 c2 : Value} {t : TypeId} (h : x.heap[b]? = some (.cells #[c0, c1, c2] t (0, 0))) :
    x.cell? ⟨b, 0, none⟩ = some c0 ∧ x.cell? ⟨b, 1, none⟩ = some c1 ∧ x.cell? ⟨b, 2, none⟩ = some c2 ∧ x.frozen? ⟨b, 0, none⟩ = false ∧ x.frozen? ⟨b, 1, none⟩ = false ∧ x.frozen? ⟨b, 2, none⟩ = false :=
  ⟨by simp [World.cell?, h], by simp [World.cell?, h], by simp [World.cell?, h], by simp [World.frozen?, h], by simp [World.frozen?, h], by simp [World.frozen?, h]⟩
theorem set_three (y : World) (b : Nat) (t : TypeId) (v0 v1 v2 c0 c1 c2 : Value) (h : y.heap[b]? = some (.cells #[c0, c1, c2] t (0, 0))) : (((y.setCell ⟨b, 0, none⟩ v0).setCell ⟨b, 1, none⟩ v1).setCell ⟨b, 2, none⟩ v2).heap[b]? = some (.cells #[v0, v1, v2] t (0, 0)) := by
  simp [World.setCell, Array.getElem?_modify, h]
theorem min_any (cb : Nat) (A : Option Addr) (m c : Nat) (f1 f2 : Int) (fn : Value) (w : World) (h : w.heap[cb]? = some (.cells #[.slice A m c, .int .i64 f1, .int .i64 f2] 58 (0, 0))) :
    Calls Try.prog 44 #[.slice (some ⟨cb, 0, none⟩) 1 1, fn] w fun e w' => e = .returned (.agg #[.slice A m c, .int .i64 f1, .int .i64 f2]) ∧ Below w.heap.size w w' := by
  have hlt : cb < w.heap.size := (Array.getElem?_eq_some_iff.1 h).1
  have c0 : ∀ o, (w.alloc o).cell? ⟨cb, 0, none⟩ = some (.slice A m c) := fun o => by rw [World.cell?_alloc_lt _ _ _ hlt]; simp [World.cell?, h]
  have c1 : ∀ o, (w.alloc o).cell? ⟨cb, 1, none⟩ = some (.int .i64 f1) := fun o => by rw [World.cell?_alloc_lt _ _ _ hlt]; simp [World.cell?, h]
  have c2 : ∀ o, (w.alloc o).cell? ⟨cb, 2, none⟩ = some (.int .i64 f2) := fun o => by rw [World.cell?_alloc_lt _ _ _ hlt]; simp [World.cell?, h]
  go_enter Try.func44, Try.ntmps44
  go_wp2_with fail
  refine wp_loop_rounds 2 ?_
  rw [rounds_succ]
  go_wp2
  obtain ⟨g0, g1, g2, -⟩ := three_facts (show ((w.alloc (.cells #[.slice A m c, .int .i64 f1, .int .i64 f2] 58)).alloc (.cells #[.slice A m c, .int .i64 f1, .int .i64 f2] 58)).heap[w.heap.size]? = some (.cells #[.slice A m c, .int .i64 f1, .int .i64 f2] 58 (0, 0)) by rw [Below.heap_alloc _ _ _ (by simp)]; exact heap_alloc_new w _)
  exact bodyPost_ret (v := .agg #[.slice A m c, .int .i64 f1, .int .i64 f2]) (by simp [results, Try.results44, go_sem, g0, g1, g2]) rfl ⟨rfl, ((Below.refl _ _).alloc (Nat.le_refl _) _).alloc (by simp) _⟩
theorem first_any (cb : Nat) (A : Option Addr) (m c : Nat) (f1 f2 : Int) (fn : Value) (w : World) (h : w.heap[cb]? = some (.cells #[.slice A m c, .int .i64 f1, .int .i64 f2] 58 (0, 0))) :
    Calls Try.prog 21 #[.slice (some ⟨cb, 0, none⟩) 1 1, fn] w fun e w' => e = .returned (.agg #[.slice A m c, .int .i64 f1, .int .i64 f2]) ∧ Below w.heap.size w w' := by
  have hb1 := (Below.refl w.heap.size w).alloc (Nat.le_refl _) (.cells #[.slice none 0 0, .int .i64 0, .int .i64 0] 58)
  have HB := Lib.hid hb1
  have HO := Lib.hid (heap_alloc_new w (.cells #[.slice none 0 0, .int .i64 0, .int .i64 0] 58))
  have HM := Lib.hid (min_any cb A m c f1 f2 fn _ (keepO hb1 h))
  clear hb1 h
  go_enter Try.func21, Try.ntmps21
  go_wp2_with fail
  refine HM.out.mono ?_
  rintro e w1 ⟨rfl, hb⟩
  have hO := keepO hb HO.out
  have hB1 := Lib.hid (HB.out.trans (hb.mono HB.out.size))
  obtain ⟨e0, e1, e2, f0, f1', f2'⟩ := three_facts hO
  have hS := Lib.hid (set_three w1 w.heap.size _ (.slice A m c) (.int .i64 f1) (.int .i64 f2) _ _ _ hO)
  clear hb hO HM HO HB
  go_wp2
  obtain ⟨g0, g1, g2, -⟩ := three_facts hS.out
  exact bodyPost_ret (v := .agg #[.slice A m c, .int .i64 f1, .int .i64 f2]) (by simp [results, Try.results21, go_sem, g0, g1, g2]) rfl ⟨rfl, ((hB1.out.setCell (p := ⟨w.heap.size, 0, none⟩) (Nat.le_refl _) _).setCell (p := ⟨w.heap.size, 1, none⟩) (Nat.le_refl _) _).setCell (p := ⟨w.heap.size, 2, none⟩) (Nat.le_refl _) _⟩

/-- How far off a train is. -/
def candL (ts : List Int) (p q : Int) (l : List (Int × Int)) : List (Int × Int) × Int × Int := (l, offF (ratL ts l) (p, q))
theorem redu_bound0 (a b A B : Int) (ha : 0 ≤ a ∧ a ≤ A) (hb : 1 ≤ b ∧ b ≤ B) : (0 ≤ (redu a b).1 ∧ (redu a b).1 ≤ A) ∧ 1 ≤ (redu a b).2 ∧ (redu a b).2 ≤ B := by
  by_cases h : a = 0
  · subst h
    have e : redu 0 b = (0, 1) := by
      unfold redu
      have hg : ((Int.gcd 0 b : Nat) : Int) = b := by rw [Int.gcd_zero_left]; omega
      rw [hg, Int.zero_ediv, Int.ediv_self (by omega)]
    rw [e]
    simp only
    omega
  · obtain ⟨⟨h1, h2⟩, h3, h4⟩ := redu_bound a b (by omega) hb.1
    omega
/-- Its parts are of a size. -/
def FarOk (f : Int × Int) : Prop := (0 ≤ f.1 ∧ f.1 ≤ 1728000000) ∧ 1 ≤ f.2 ∧ f.2 ≤ 1728000000
theorem rat_bound {n : Nat} {ts : List Int} {l : List (Int × Int)} (h : Okay n ts l) (hl : l.length ≤ 3) : (1 ≤ (ratL ts l).1 ∧ (ratL ts l).1 ≤ 1728000) ∧ 1 ≤ (ratL ts l).2 ∧ (ratL ts l).2 ≤ 1728000 := by
  obtain ⟨⟨h1, h2⟩, h3, h4⟩ := h.bound l.length (Nat.le_refl _)
  rw [List.take_length] at h1 h2 h3 h4
  have hp : (120 : Int) ^ l.length ≤ 1728000 := by
    rcases (by omega : l.length = 0 ∨ l.length = 1 ∨ l.length = 2 ∨ l.length = 3) with e | e | e | e <;> rw [e] <;> decide
  obtain ⟨⟨a1, a2⟩, a3, a4⟩ := redu_bound _ _ h1 h3
  unfold ratL
  omega
theorem far_ok {r : Int × Int} {p q : Int} (hr : (1 ≤ r.1 ∧ r.1 ≤ 1728000) ∧ 1 ≤ r.2 ∧ r.2 ≤ 1728000) (hp : 1 ≤ p ∧ p ≤ 1000) (hq : 1 ≤ q ∧ q ≤ 1000) : FarOk (offF r (p, q)) := by
  have m1 := mul_inP (show 0 ≤ r.1 by omega) hr.1.2 (show 0 ≤ q by omega) hq.2
  have m2 := mul_inP (show 0 ≤ p by omega) hp.2 (show 0 ≤ r.2 by omega) hr.2.2
  have m3 := mul_inP (show 0 ≤ r.2 by omega) hr.2.2 (show 0 ≤ q by omega) hq.2
  have m4 : 1 ≤ r.2 * q := by have := Int.mul_le_mul hr.2.1 hq.1 (by omega) (by omega); omega
  unfold offF FarOk
  simp only
  exact redu_bound0 _ _ _ _ (by omega) (by omega)
theorem far_mul {f g : Int × Int} (hf : FarOk f) (hg : FarOk g) : IntKind.i64.wrap (f.1 * g.2) = f.1 * g.2 := by
  have := mul_inP hf.1.1 hf.1.2 (show 0 ≤ g.2 by have := hg.2.1; omega) hg.2.2
  exact IntWalk.i64_in _ (by omega)
end Go.Proofs.Ytjmegnbjacndpaa
