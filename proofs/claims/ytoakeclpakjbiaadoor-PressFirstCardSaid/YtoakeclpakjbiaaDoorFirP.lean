/-
  The plain law of the first truth: a weight that is laid to what it can be leaves a truth.
-/
import Derived.Test.YtoakeclpakjbiaaDoorSpan2
namespace Go.Proofs.YtoakeclpakjbiaaDoor
set_option linter.unusedVariables false
set_option linter.unusedSimpArgs false

theorem seed_at {O s t g d u : Sp} {x : Int} (hO : Ne O) (hs : Ne s) (ht : Ne t) (hg : Ne g) (hd : Ne d) (d1 : g.1 ≤ d.1) (d2 : d.2 ≤ g.2) (hu : u = both (minus (plus O s) t) g) (hne : Ne u) (hm : Ne (both u d))
    (h1 : (both s (minus (plus (both d u) t) (minus1 (plus O s) s))).1 ≤ x) (h2 : x ≤ (both s (minus (plus (both d u) t) (minus1 (plus O s) s))).2) :
    Ne (max x s.1, min x s.2) ∧ Ne (both (minus (plus O (max x s.1, min x s.2)) t) g) ∧ Ne (both (both (minus (plus O (max x s.1, min x s.2)) t) g) d) := by
  subst hu
  unfold Ne both minus minus1 plus at *
  simp only at *
  refine ⟨by omega, by omega, by omega⟩
theorem out_at {O s t q w g d u : Sp} {x : Int} (hO : Ne O) (hs : Ne s) (hq : Ne q) (hw : Ne w) (e1 : t.1 = q.1 + w.1) (e2 : t.2 = q.2 + w.2) (hg : Ne g) (hd : Ne d) (d1 : g.1 ≤ d.1) (d2 : d.2 ≤ g.2) (hu : u = both (minus (plus O s) t) g) (hne : Ne u) (hm : Ne (both u d))
    (h1 : (both w (minus (plus O s) (plus (both d u) (minus1 t w)))).1 ≤ x) (h2 : x ≤ (both w (minus (plus O s) (plus (both d u) (minus1 t w)))).2) :
    Ne (max x w.1, min x w.2) ∧ Ne (both (minus (plus O s) (q.1 + max x w.1, q.2 + min x w.2)) g) ∧ Ne (both (both (minus (plus O s) (q.1 + max x w.1, q.2 + min x w.2)) g) d) := by
  subst hu
  unfold Ne both minus minus1 plus at *
  simp only at *
  refine ⟨by omega, by omega, by omega⟩
theorem par_at {O s t g d u : Sp} {x : Int} (hO : Ne O) (hs : Ne s) (ht : Ne t) (hg : Ne g) (hd : Ne d) (d1 : g.1 ≤ d.1) (d2 : d.2 ≤ g.2) (hu : u = both (minus (plus O s) t) g) (hne : Ne u) (hm : Ne (both u d))
    (h1 : (both d u).1 ≤ x) (h2 : x ≤ (both d u).2) :
    Ne (max x g.1, min x g.2) ∧ Ne (both (minus (plus O s) t) (max x g.1, min x g.2)) ∧ Ne (both (both (minus (plus O s) t) (max x g.1, min x g.2)) d) := by
  subst hu
  unfold Ne both minus plus at *
  simp only at *
  refine ⟨by omega, by omega, by omega⟩
section
variable {n : Nat} {to : Nat → Option Nat} {R : Nat → Nat → Sp}
theorem span_at (hF : Fwd n to) (hH : Holds n R (upP to R)) {i k : Nat} (hi : i < n) (h1 : 1 ≤ k) (h6 : k ≤ 6) {x : Int} (x1 : (spanP to R n i k).1 ≤ x) (x2 : x ≤ (spanP to R n i k).2) :
    Holds n (wth R i k x x) (upP to (wth R i k x x)) := by
  rw [wth_holds hF hH hi h1 h6, wth_up hF hi, wth_in]
  have hO := feed_ne (to := to) (U := upP to R) i i (fun j hj => (hH j (by omega)).2)
  have hs := (hH i hi).1 1 (by omega) (by omega)
  have ht := rest_ne (hH i hi).1
  have hg := (hH i hi).1 6 (by omega) (by omega)
  have hw := (hH i hi).1 k h1 h6
  obtain ⟨hd, hm⟩ := down_meets hF (fun j _ => upP_eq to R j) hH n i hi (by omega)
  obtain ⟨d1, d2⟩ := down_six (to := to) (R := R) (U := upP to R) (n := n) n i
  have hu : upP to R i = both (minus (plus (feed to (upP to R) i i) (R i 1)) (restS R i)) (R i 6) := upP_eq to R i
  have hne := (hH i hi).2
  unfold spanP intoP downP at x1 x2
  unfold downP
  rcases (by omega : k = 1 ∨ k = 6 ∨ (2 ≤ k ∧ k ≤ 5)) with rfl | rfl | ⟨k2, k5⟩
  · rw [if_neg (by omega), if_pos rfl] at x1 x2
    rw [wth_in, wth_rest_out (Or.inl rfl), wth_at (by omega)]
    exact seed_at hO hs ht hg hd d1 d2 hu hne hm x1 x2
  · rw [if_pos rfl] at x1 x2
    rw [wth_in, wth_rest_out (Or.inr rfl), wth_at (by omega)]
    exact par_at hO hs ht hg hd d1 d2 hu hne hm x1 x2
  · rw [if_neg (by omega), if_neg (by omega)] at x1 x2
    rw [wth_rest_in k2 k5, wth_at (by omega), wth_at (by omega)]
    exact out_at hO hs (rest_less hH hi k2 k5) hw (by simp only [minus1]; omega) (by simp only [minus1]; omega) hg hd d1 d2 hu hne hm x1 x2
theorem span_sub {i k : Nat} : (R i k).1 ≤ (spanP to R n i k).1 ∧ (spanP to R n i k).2 ≤ (R i k).2 := by
  obtain ⟨d1, d2⟩ := down_six (to := to) (R := R) (U := upP to R) (n := n) n i
  unfold spanP downP
  by_cases k6 : k = 6
  · subst k6; rw [if_pos rfl]; unfold both; simp only; omega
  · rw [if_neg k6]
    by_cases k1 : k = 1
    · subst k1; rw [if_pos rfl]; unfold both; simp only; omega
    · rw [if_neg k1]; unfold both; simp only; omega
/-- What is laid: the least that a weight can be. -/
def lay (n : Nat) (to : Nat → Option Nat) (R : Nat → Nat → Sp) (i k : Nat) : Nat → Nat → Sp := fun a b => if a = i ∧ b = k then ((spanP to R n i k).1, (spanP to R n i k).1) else R a b
theorem lay_wth (hF : Fwd n to) (hH : Holds n R (upP to R)) {most : Int} (hI : InR n R most) {i k : Nat} (hi : i < n) (h1 : 1 ≤ k) (h6 : k ≤ 6) : lay n to R i k = wth R i k (spanP to R n i k).1 (spanP to R n i k).1 := by
  have hs := span_sub (n := n) (to := to) (R := R) (i := i) (k := k)
  have hin := span_in hF hH hI hi h1 h6
  funext a b
  unfold lay wth
  by_cases h : a = i ∧ b = k
  · rw [if_pos h, if_pos h]
    have e1 : max (spanP to R n i k).1 (R i k).1 = (spanP to R n i k).1 := by omega
    have e2 : min (spanP to R n i k).1 (R i k).2 = (spanP to R n i k).1 := by omega
    rw [e1, e2]
  · rw [if_neg h, if_neg h]
structure FSt (n : Nat) (to : Nat → Option Nat) (R : Nat → Nat → Sp) : Prop where
  hH : Holds n R (upP to R)
  hI : ∀ i k, 0 ≤ (R i k).1 ∧ (R i k).1 ≤ 1000000 ∧ 0 ≤ (R i k).2 ∧ (R i k).2 ≤ 1000000
theorem FSt.lay (hF : Fwd n to) (h : FSt n to R) {i k : Nat} (hi : i < n) (h1 : 1 ≤ k) (h6 : k ≤ 6) : FSt n to (lay n to R i k) := by
  have hIn : InR n R 1000000 := fun a _ b => by have := h.hI a b; omega
  have hin := span_in hF h.hH hIn hi h1 h6
  refine ⟨?_, fun a b => ?_⟩
  · rw [lay_wth hF h.hH hIn hi h1 h6]
    exact span_at hF h.hH hi h1 h6 (Int.le_refl _) hin.2.1
  · unfold Go.Proofs.YtoakeclpakjbiaaDoor.lay
    split
    · simp only; omega
    · exact h.hI a b
/-- Behind some kinds of a place; behind some places. -/
def layK (n : Nat) (to : Nat → Option Nat) (R : Nat → Nat → Sp) (i : Nat) : Nat → Nat → Nat → Sp
  | 0 => R
  | k + 1 => lay n to (layK n to R i k) i (k + 1)
def layI (n : Nat) (to : Nat → Option Nat) (R : Nat → Nat → Sp) : Nat → Nat → Nat → Sp
  | 0 => R
  | i + 1 => layK n to (layI n to R i) i 6
theorem FSt.layK (hF : Fwd n to) (h : FSt n to R) {i : Nat} (hi : i < n) : ∀ k, k ≤ 6 → FSt n to (layK n to R i k)
  | 0, _ => h
  | k + 1, hk => (FSt.layK hF h hi k (by omega)).lay hF hi (by omega) hk
theorem FSt.layI (hF : Fwd n to) (h : FSt n to R) : ∀ i, i ≤ n → FSt n to (layI n to R i)
  | 0, _ => h
  | i + 1, hi => (FSt.layI hF h i (by omega)).layK hF (by omega) 6 (by omega)
/-- The weight of kind k + 1 at place i. -/
def valF (n : Nat) (to : Nat → Option Nat) (R : Nat → Nat → Sp) (i k : Nat) : Int := (spanP to (Go.Proofs.YtoakeclpakjbiaaDoor.layK n to (Go.Proofs.YtoakeclpakjbiaaDoor.layI n to R i) i k) n i (k + 1)).1
end
end Go.Proofs.YtoakeclpakjbiaaDoor
