/-
  The plain law of yields: the corners of what oil, and what goes in, can be together, and the program's two points.
-/
import Derived.Test.YtoakeclpakjbiaaDoorSides
namespace Go.Proofs.YtoakeclpakjbiaaDoor
set_option linter.unusedVariables false
set_option linter.unusedSimpArgs false

/-- The program's points: how much goes in, and how much oil, for the least part and for the greatest. -/
def n1 (o r a : Sp) : Int := min a.2 (max a.1 (o.1 + r.2))
def o1 (o r a : Sp) : Int := max o.1 (n1 o r a - r.2)
def n2 (o r a : Sp) : Int := min a.2 (max a.1 (o.2 + r.1))
def o2 (o r a : Sp) : Int := min o.2 (n2 o r a - r.1)
def cornK (o r a : Sp) (k : Nat) : List Sp :=
  [((if k % 2 = 1 then o.2 else o.1), (if k % 2 = 1 then o.2 else o.1) + (if k / 2 = 1 then r.2 else r.1)), ((if k % 2 = 1 then o.2 else o.1), a.1), ((if k % 2 = 1 then o.2 else o.1), a.2),
    (a.1 - (if k / 2 = 1 then r.2 else r.1), a.1), (a.2 - (if k / 2 = 1 then r.2 else r.1), a.2)]
def cornN (o r a : Sp) : Nat → List Sp
  | 0 => []
  | k + 1 => cornN o r a k ++ cornK o r a k
def okC (o r a x : Sp) : Bool := decide (o.1 ≤ x.1) && decide (x.1 ≤ o.2) && (decide (a.1 ≤ x.2) && decide (x.2 ≤ a.2)) && (decide (r.1 ≤ x.2 - x.1) && decide (x.2 - x.1 ≤ r.2))
def corn (o r a : Sp) : List Sp := (cornN o r a 4).filter (okC o r a)
theorem okC_iff {o r a x : Sp} : okC o r a x = true ↔ (o.1 ≤ x.1 ∧ x.1 ≤ o.2) ∧ (a.1 ≤ x.2 ∧ x.2 ≤ a.2) ∧ (r.1 ≤ x.2 - x.1 ∧ x.2 - x.1 ≤ r.2) := by
  unfold okC; simp only [Bool.and_eq_true, decide_eq_true_eq]; constructor
  · rintro ⟨⟨⟨p, q⟩, s, t⟩, u, v⟩; exact ⟨⟨p, q⟩, ⟨s, t⟩, u, v⟩
  · rintro ⟨⟨p, q⟩, ⟨s, t⟩, u, v⟩; exact ⟨⟨⟨p, q⟩, s, t⟩, u, v⟩
/-- There is some oil, and something that goes in, together. -/
structure Meets (o r a : Sp) : Prop where
  ho : o.1 ≤ o.2
  hr : r.1 ≤ r.2
  ha : a.1 ≤ a.2
  h1 : o.1 + r.1 ≤ a.2
  h2 : a.1 ≤ o.2 + r.2
section
variable {o r a : Sp}
theorem p1_ok (h : Meets o r a) : okC o r a (o1 o r a, n1 o r a) = true := by
  obtain ⟨a1, a2, a3, a4, a5⟩ := h
  rw [okC_iff]; unfold o1 n1; simp only; omega
theorem p2_ok (h : Meets o r a) : okC o r a (o2 o r a, n2 o r a) = true := by
  obtain ⟨a1, a2, a3, a4, a5⟩ := h
  rw [okC_iff]; unfold o2 n2; simp only; omega
theorem p1_cases (h : Meets o r a) : (o1 o r a, n1 o r a) = (o.1, o.1 + r.2) ∨ (o1 o r a, n1 o r a) = (o.1, a.2) ∨ (o1 o r a, n1 o r a) = (a.1 - r.2, a.1) := by
  obtain ⟨a1, a2, a3, a4, a5⟩ := h
  unfold o1 n1; simp only [Prod.mk.injEq]; omega
theorem p2_cases (h : Meets o r a) : (o2 o r a, n2 o r a) = (o.2, o.2 + r.1) ∨ (o2 o r a, n2 o r a) = (a.2 - r.1, a.2) ∨ (o2 o r a, n2 o r a) = (o.2, a.1) := by
  obtain ⟨a1, a2, a3, a4, a5⟩ := h
  unfold o2 n2; simp only [Prod.mk.injEq]; omega
theorem p1_in (h : Meets o r a) : (o1 o r a, n1 o r a) ∈ corn o r a := by
  refine List.mem_filter.2 ⟨?_, p1_ok h⟩
  rcases p1_cases h with e | e | e <;> rw [e] <;> simp [cornN, cornK]
theorem p2_in (h : Meets o r a) : (o2 o r a, n2 o r a) ∈ corn o r a := by
  refine List.mem_filter.2 ⟨?_, p2_ok h⟩
  rcases p2_cases h with e | e | e <;> rw [e] <;> simp [cornN, cornK]
theorem p1_least (h : Meets o r a) {x : Sp} (hx : okC o r a x = true) {D N : Int} (h0 : 0 ≤ N) (hD : N ≤ D) : o1 o r a * D - n1 o r a * N ≤ x.1 * D - x.2 * N := by
  obtain ⟨⟨x1, x2⟩, ⟨x3, x4⟩, x5, x6⟩ := okC_iff.1 hx
  rcases p1_cases h with e | e | e <;> simp only [Prod.mk.injEq] at e <;> obtain ⟨e1, e2⟩ := e <;> rw [e1, e2]
  · have g1 : 0 ≤ (x.1 - o.1) * (D - N) := Int.mul_nonneg (by omega) (by omega)
    have g2 : 0 ≤ (r.2 - (x.2 - x.1)) * N := Int.mul_nonneg (by omega) h0
    simp only [Int.sub_mul, Int.mul_sub, Int.add_mul] at g1 g2 ⊢
    omega
  · have g1 : 0 ≤ (x.1 - o.1) * D := Int.mul_nonneg (by omega) (by omega)
    have g2 : 0 ≤ (a.2 - x.2) * N := Int.mul_nonneg (by omega) h0
    simp only [Int.sub_mul] at g1 g2 ⊢
    omega
  · have g1 : 0 ≤ (x.2 - a.1) * (D - N) := Int.mul_nonneg (by omega) (by omega)
    have g2 : 0 ≤ (r.2 - (x.2 - x.1)) * D := Int.mul_nonneg (by omega) (by omega)
    simp only [Int.sub_mul, Int.mul_sub] at g1 g2 ⊢
    omega
theorem p2_most (h : Meets o r a) {x : Sp} (hx : okC o r a x = true) {D N : Int} (h0 : 0 ≤ N) (hD : N ≤ D) : x.1 * D - x.2 * N ≤ o2 o r a * D - n2 o r a * N := by
  obtain ⟨⟨x1, x2⟩, ⟨x3, x4⟩, x5, x6⟩ := okC_iff.1 hx
  rcases p2_cases h with e | e | e <;> simp only [Prod.mk.injEq] at e <;> obtain ⟨e1, e2⟩ := e <;> rw [e1, e2]
  · have g1 : 0 ≤ (o.2 - x.1) * (D - N) := Int.mul_nonneg (by omega) (by omega)
    have g2 : 0 ≤ ((x.2 - x.1) - r.1) * N := Int.mul_nonneg (by omega) h0
    simp only [Int.sub_mul, Int.mul_sub, Int.add_mul] at g1 g2 ⊢
    omega
  · have g1 : 0 ≤ (a.2 - x.2) * (D - N) := Int.mul_nonneg (by omega) (by omega)
    have g2 : 0 ≤ ((x.2 - x.1) - r.1) * D := Int.mul_nonneg (by omega) (by omega)
    simp only [Int.sub_mul, Int.mul_sub] at g1 g2 ⊢
    omega
  · have g1 : 0 ≤ (o.2 - x.1) * D := Int.mul_nonneg (by omega) (by omega)
    have g2 : 0 ≤ (x.2 - a.1) * N := Int.mul_nonneg (by omega) h0
    simp only [Int.sub_mul] at g1 g2 ⊢
    omega
end
/-- A fraction in lowest terms. -/
def redu (a b : Int) : Sp := (a / ((Int.gcd a b : Nat) : Int), b / ((Int.gcd a b : Nat) : Int))
theorem redu_scale (g x y : Int) (hg : 1 ≤ g) : redu (g * x) (g * y) = redu x y := by
  unfold redu
  have : ((Int.gcd (g * x) (g * y) : Nat) : Int) = g * ((Int.gcd x y : Nat) : Int) := by
    rw [Int.gcd_mul_left]; push_cast; congr 1; omega
  rw [this, Int.mul_ediv_mul_of_pos _ _ (by omega), Int.mul_ediv_mul_of_pos _ _ (by omega)]
theorem redu_same {a b c d : Int} (hb : 1 ≤ b) (hd : 1 ≤ d) (h : a * d = c * b) : redu a b = redu c d := by
  rw [← redu_scale d a b hd, ← redu_scale b c d hb, show d * a = b * c by rw [Int.mul_comm d a, h, Int.mul_comm], Int.mul_comm d b]
/-- The least and the greatest part of a list, as the reference finds them. -/
def lessF (x a : Sp) : Bool := decide (x.1 * a.2 < a.1 * x.2)
def stepA (a x : Sp) : Sp := if x.1 * a.2 < a.1 * x.2 then x else a
def stepB (b x : Sp) : Sp := if x.1 * b.2 > b.1 * x.2 then x else b
def foldA (l : List Sp) (a : Sp) : Sp := l.foldl stepA a
def foldB (l : List Sp) (b : Sp) : Sp := l.foldl stepB b
theorem frac_trans {a b c : Sp} (ha : 1 ≤ a.2) (hb : 1 ≤ b.2) (hc : 1 ≤ c.2) (h1 : a.1 * b.2 ≤ b.1 * a.2) (h2 : b.1 * c.2 ≤ c.1 * b.2) : a.1 * c.2 ≤ c.1 * a.2 := by
  have g1 : a.1 * b.2 * c.2 ≤ b.1 * a.2 * c.2 := Int.mul_le_mul_of_nonneg_right h1 (by omega)
  have g2 : b.1 * c.2 * a.2 ≤ c.1 * b.2 * a.2 := Int.mul_le_mul_of_nonneg_right h2 (by omega)
  have g3 : (a.1 * c.2) * b.2 ≤ (c.1 * a.2) * b.2 := by
    have e1 : a.1 * c.2 * b.2 = a.1 * b.2 * c.2 := by rw [Int.mul_assoc, Int.mul_comm c.2, ← Int.mul_assoc]
    have e2 : c.1 * a.2 * b.2 = c.1 * b.2 * a.2 := by rw [Int.mul_assoc, Int.mul_comm a.2, ← Int.mul_assoc]
    have e3 : b.1 * a.2 * c.2 = b.1 * c.2 * a.2 := by rw [Int.mul_assoc, Int.mul_comm a.2, ← Int.mul_assoc]
    omega
  exact Int.le_of_mul_le_mul_right g3 (by omega)
theorem foldA_law : ∀ (l : List Sp) (a : Sp), 1 ≤ a.2 → (∀ x ∈ l, 1 ≤ x.2) → (foldA l a = a ∨ foldA l a ∈ l) ∧ 1 ≤ (foldA l a).2 ∧ (∀ x, (x = a ∨ x ∈ l) → (foldA l a).1 * x.2 ≤ x.1 * (foldA l a).2)
  | [], a, ha, _ => ⟨.inl rfl, ha, fun x hx => by rcases hx with rfl | h; exact Int.le_refl _; cases h⟩
  | y :: l, a, ha, hl => by
    have hy := hl y (by simp)
    have hs : 1 ≤ (stepA a y).2 := by unfold stepA; split <;> assumption
    obtain ⟨h1, h2, h3⟩ := foldA_law l (stepA a y) hs (fun x hx => hl x (by simp [hx]))
    have e : foldA (y :: l) a = foldA l (stepA a y) := rfl
    rw [e]
    have hle : (stepA a y).1 * a.2 ≤ a.1 * (stepA a y).2 ∧ (stepA a y).1 * y.2 ≤ y.1 * (stepA a y).2 := by
      unfold stepA; split <;> omega
    have hf := h3 _ (.inl rfl)
    refine ⟨?_, h2, fun x hx => ?_⟩
    · rcases h1 with h | h
      · rw [h]; unfold stepA; split
        · right; simp
        · left; rfl
      · right; simp [h]
    · rcases hx with rfl | hx
      · exact frac_trans h2 hs ha hf hle.1
      · rcases List.mem_cons.1 hx with rfl | hx
        · exact frac_trans h2 hs hy hf hle.2
        · exact h3 x (.inr hx)
theorem foldB_law : ∀ (l : List Sp) (a : Sp), 1 ≤ a.2 → (∀ x ∈ l, 1 ≤ x.2) → (foldB l a = a ∨ foldB l a ∈ l) ∧ 1 ≤ (foldB l a).2 ∧ (∀ x, (x = a ∨ x ∈ l) → x.1 * (foldB l a).2 ≤ (foldB l a).1 * x.2)
  | [], a, ha, _ => ⟨.inl rfl, ha, fun x hx => by rcases hx with rfl | h; exact Int.le_refl _; cases h⟩
  | y :: l, a, ha, hl => by
    have hy := hl y (by simp)
    have hs : 1 ≤ (stepB a y).2 := by unfold stepB; split <;> assumption
    obtain ⟨h1, h2, h3⟩ := foldB_law l (stepB a y) hs (fun x hx => hl x (by simp [hx]))
    have e : foldB (y :: l) a = foldB l (stepB a y) := rfl
    rw [e]
    have hle : a.1 * (stepB a y).2 ≤ (stepB a y).1 * a.2 ∧ y.1 * (stepB a y).2 ≤ (stepB a y).1 * y.2 := by
      unfold stepB; split <;> omega
    have hf := h3 _ (.inl rfl)
    refine ⟨?_, h2, fun x hx => ?_⟩
    · rcases h1 with h | h
      · rw [h]; unfold stepB; split
        · right; simp
        · left; rfl
      · right; simp [h]
    · rcases hx with rfl | hx
      · exact frac_trans ha hs h2 hle.1 hf
      · rcases List.mem_cons.1 hx with rfl | hx
        · exact frac_trans hy hs h2 hle.2 hf
        · exact h3 x (.inr hx)
section
variable {o r a : Sp}
theorem corn_ok {x : Sp} (hx : x ∈ corn o r a) : okC o r a x = true := (List.mem_filter.1 hx).2
/-- The first corner there is. -/
theorem yield_law (h : Meets o r a) (h1 : 1 ≤ a.1) (h0 : 0 ≤ o.1) (hr : 0 ≤ r.1) {y : Sp} {l : List Sp} (hl : corn o r a = y :: l) :
    redu (foldA (corn o r a) y).1 (foldA (corn o r a) y).2 = redu (o1 o r a) (n1 o r a) ∧ redu (foldB (corn o r a) y).1 (foldB (corn o r a) y).2 = redu (o2 o r a) (n2 o r a) ∧ (1 ≤ (foldA (corn o r a) y).2 ∧ 0 ≤ (foldA (corn o r a) y).1 ∧ (foldA (corn o r a) y).2 ≤ a.2 ∧ (foldA (corn o r a) y).1 ≤ o.2) ∧ (1 ≤ (foldB (corn o r a) y).2 ∧ 0 ≤ (foldB (corn o r a) y).1 ∧ (foldB (corn o r a) y).2 ≤ a.2 ∧ (foldB (corn o r a) y).1 ≤ o.2) := by
  have hall : ∀ x ∈ corn o r a, 1 ≤ x.2 := fun x hx => by have := okC_iff.1 (corn_ok hx); omega
  have hy : y ∈ corn o r a := by rw [hl]; simp
  obtain ⟨i1, i2, i3⟩ := foldA_law (corn o r a) y (hall y hy) hall
  obtain ⟨j1, j2, j3⟩ := foldB_law (corn o r a) y (hall y hy) hall
  have hA : foldA (corn o r a) y ∈ corn o r a := by rcases i1 with e | e; rw [e]; exact hy; exact e
  have hB : foldB (corn o r a) y ∈ corn o r a := by rcases j1 with e | e; rw [e]; exact hy; exact e
  have kA := okC_iff.1 (corn_ok hA)
  have kB := okC_iff.1 (corn_ok hB)
  have k1 := okC_iff.1 (p1_ok h)
  have k2 := okC_iff.1 (p2_ok h)
  simp only at k1 k2
  refine ⟨redu_same i2 (by omega) ?_, redu_same j2 (by omega) ?_, ⟨i2, by omega, by omega, by omega⟩, j2, by omega, by omega, by omega⟩
  · have := i3 _ (.inr (p1_in h))
    have q := p1_least h (corn_ok hA) (D := n1 o r a) (N := o1 o r a) (by omega) (by omega)
    simp only at this
    have e : o1 o r a * n1 o r a = n1 o r a * o1 o r a := Int.mul_comm _ _
    have e2 : (foldA (corn o r a) y).2 * o1 o r a = o1 o r a * (foldA (corn o r a) y).2 := Int.mul_comm _ _
    omega
  · have := j3 _ (.inr (p2_in h))
    have q := p2_most h (corn_ok hB) (D := n2 o r a) (N := o2 o r a) (by omega) (by omega)
    simp only at this
    have e : o2 o r a * n2 o r a = n2 o r a * o2 o r a := Int.mul_comm _ _
    have e2 : (foldB (corn o r a) y).2 * o2 o r a = o2 o r a * (foldB (corn o r a) y).2 := Int.mul_comm _ _
    omega
theorem corn_some (h : Meets o r a) : ∃ y l, corn o r a = y :: l := by
  have := p1_in h
  cases e : corn o r a with
  | nil => rw [e] at this; cases this
  | cons y l => exact ⟨y, l, rfl⟩
theorem corn_none (h : a.2 < a.1) : corn o r a = [] := by
  cases e : corn o r a with
  | nil => rfl
  | cons y l =>
    have hy : y ∈ corn o r a := by rw [e]; simp
    have := okC_iff.1 (corn_ok hy)
    omega
def alw (l : List Sp) (N D : Int) : Bool := l.all fun x => decide (x.1 * D < x.2 * N)
def nev (l : List Sp) (N D : Int) : Bool := l.all fun x => !decide (x.1 * D < x.2 * N)
theorem less_law (h : Meets o r a) {N D : Int} (h0 : 0 ≤ N) (hD : N ≤ D) : (alw (corn o r a) N D = decide (o2 o r a * D - n2 o r a * N < 0)) ∧ (nev (corn o r a) N D = decide (0 ≤ o1 o r a * D - n1 o r a * N)) := by
  constructor
  · rw [Bool.eq_iff_iff]
    unfold alw
    simp only [List.all_eq_true, decide_eq_true_eq]
    constructor
    · intro g; have := g _ (p2_in h); simp only at this; omega
    · intro g x hx; have := p2_most h (corn_ok hx) h0 hD; omega
  · rw [Bool.eq_iff_iff]
    unfold nev
    simp only [List.all_eq_true, Bool.not_eq_true', decide_eq_false_iff_not, decide_eq_true_eq]
    constructor
    · intro g; have := g _ (p1_in h); simp only at this; omega
    · intro g x hx; have := p1_least h (corn_ok hx) h0 hD; omega
end
theorem meet_lo {I d u t q g : Sp} (hq : Ne q) (ht : Ne (minus1 t q)) (u1 : u.1 = max (I.1 - t.2) g.1) (hm : Ne (both u d)) : (both q (minus I (plus (both d u) (minus1 t q)))).1 + (both (plus d (minus1 t q)) (minus I q)).1 ≤ (both I (plus d t)).1 := by
  obtain ⟨i1, i2⟩ := I
  obtain ⟨a1, a2⟩ := d
  obtain ⟨b1, b2⟩ := u
  obtain ⟨c1, c2⟩ := t
  obtain ⟨e1, e2⟩ := q
  obtain ⟨g1, g2⟩ := g
  unfold Ne both minus plus minus1 at *
  simp only at *
  have k1 : i1 - c2 ≤ min a2 b2 := by omega
  have k2 : a1 ≤ min a2 b2 := by omega
  clear u1 hm
  generalize min a2 b2 = X at *
  omega
theorem meet_hi {I d u t q g : Sp} (hq : Ne q) (ht : Ne (minus1 t q)) (u2 : u.2 = min (I.2 - t.1) g.2) (hm : Ne (both u d)) : (both I (plus d t)).2 ≤ (both q (minus I (plus (both d u) (minus1 t q)))).2 + (both (plus d (minus1 t q)) (minus I q)).2 := by
  obtain ⟨i1, i2⟩ := I
  obtain ⟨a1, a2⟩ := d
  obtain ⟨b1, b2⟩ := u
  obtain ⟨c1, c2⟩ := t
  obtain ⟨e1, e2⟩ := q
  obtain ⟨g1, g2⟩ := g
  unfold Ne both minus plus minus1 at *
  simp only at *
  have k1 : max a1 b1 ≤ i2 - c1 := by omega
  have k2 : max a1 b1 ≤ a2 := by omega
  clear u2 hm
  generalize max a1 b1 = X at *
  omega
section
variable {n : Nat} {to : Nat → Option Nat} {R : Nat → Nat → Sp}
/-- Oil, all else and all that goes in: there is a truth in which all goes in that can. -/
theorem spans_meet (hF : Fwd n to) (hH : Holds n R (upP to R)) {i : Nat} (hi : i < n) :
    (spanP to R n i 2).1 + (othersP to R n i).1 ≤ (insideP to R n i).1 ∧ (insideP to R n i).2 ≤ (spanP to R n i 2).2 + (othersP to R n i).2 := by
  have r2 := (hH i hi).1 2 (by omega) (by omega)
  have rr := rest_less hH hi (k := 2) (by omega) (by omega)
  obtain ⟨hd, hm⟩ := down_meets hF (fun j _ => upP_eq to R j) hH n i hi (by omega)
  have hu := upP_eq to R i
  have u1 : (upP to R i).1 = max ((intoP to R i).1 - (restS R i).2) (R i 6).1 := by rw [hu]; rfl
  have u2 : (upP to R i).2 = min ((intoP to R i).2 - (restS R i).1) (R i 6).2 := by rw [hu]; rfl
  have e : spanP to R n i 2 = both (R i 2) (minus (intoP to R i) (plus (both (downP to R n i) (upP to R i)) (minus1 (restS R i) (R i 2)))) := by
    unfold spanP; rw [if_neg (by decide), if_neg (by decide)]
  rw [e]
  exact ⟨meet_lo r2 rr u1 hm, meet_hi r2 rr u2 hm⟩
end
end Go.Proofs.YtoakeclpakjbiaaDoor
