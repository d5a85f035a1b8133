/-
  The plain law of what goes in, and of all of it but its oil: the reference's question at a place, and the program's answer.
-/
import Derived.Test.YtoakeclpakjbiaaDoorSpan2
namespace Go.Proofs.YtoakeclpakjbiaaDoor
set_option linter.unusedVariables false
set_option linter.unusedSimpArgs false

/-- By scalars. -/
theorem in_lo {O s q Q g d u : Sp} {mid : Int} (hO : Ne O) (hs : Ne s) (hq : Ne q) (hQ : Ne Q) (hg : Ne g) (hd : Ne d) (d1 : g.1 ≤ d.1) (d2 : d.2 ≤ g.2) (hu : u = both (minus (plus O s) (plus q Q)) g) (hne : Ne u) (hm : Ne (both u d))
    (q0 : 0 ≤ q.1) (q1 : q.2 ≤ 1000000) (Q0 : 0 ≤ Q.1) (Q1 : Q.2 ≤ 3000000) (g0 : 0 ≤ g.1) (g1 : g.2 ≤ 1000000) :
    (Ne (both (plus O s) (0, mid)) ∧ Ne (both (minus (both (plus O s) (0, mid)) q) (0, 10000000)) ∧ Ne (both (both (minus (both (minus (both (plus O s) (0, mid)) q) (0, 10000000)) Q) g) d)) ↔ (both (plus O s) (plus d (plus q Q))).1 ≤ mid := by
  subst hu
  unfold Ne both minus plus at *
  simp only at *
  constructor
  · rintro ⟨h1, h2, h3⟩
    omega
  · intro h
    refine ⟨by omega, by omega, by omega⟩
theorem in_hi {O s q Q g d u : Sp} {mid : Int} (hO : Ne O) (hs : Ne s) (hq : Ne q) (hQ : Ne Q) (hg : Ne g) (hd : Ne d) (d1 : g.1 ≤ d.1) (d2 : d.2 ≤ g.2) (hu : u = both (minus (plus O s) (plus q Q)) g) (hne : Ne u) (hm : Ne (both u d))
    (q0 : 0 ≤ q.1) (q1 : q.2 ≤ 1000000) (Q0 : 0 ≤ Q.1) (Q1 : Q.2 ≤ 3000000) (g0 : 0 ≤ g.1) (g1 : g.2 ≤ 1000000) :
    (Ne (both (plus O s) (mid, 10000000)) ∧ Ne (both (minus (both (plus O s) (mid, 10000000)) q) (0, 10000000)) ∧ Ne (both (both (minus (both (minus (both (plus O s) (mid, 10000000)) q) (0, 10000000)) Q) g) d)) ↔ mid ≤ (both (plus O s) (plus d (plus q Q))).2 := by
  subst hu
  unfold Ne both minus plus at *
  simp only at *
  constructor
  · rintro ⟨h1, h2, h3⟩
    omega
  · intro h
    refine ⟨by omega, by omega, by omega⟩
theorem ot_lo {O s q Q g d u : Sp} {mid : Int} (hO : Ne O) (hs : Ne s) (hq : Ne q) (hQ : Ne Q) (hg : Ne g) (hd : Ne d) (d1 : g.1 ≤ d.1) (d2 : d.2 ≤ g.2) (hu : u = both (minus (plus O s) (plus q Q)) g) (hne : Ne u) (hm : Ne (both u d))
    (q0 : 0 ≤ q.1) (q1 : q.2 ≤ 1000000) (Q0 : 0 ≤ Q.1) (Q1 : Q.2 ≤ 3000000) (g0 : 0 ≤ g.1) (g1 : g.2 ≤ 1000000) :
    (Ne (both (plus O s) (0, 10000000)) ∧ Ne (both (minus (both (plus O s) (0, 10000000)) q) (0, mid)) ∧ Ne (both (both (minus (both (minus (both (plus O s) (0, 10000000)) q) (0, mid)) Q) g) d)) ↔ (both (plus d Q) (minus (plus O s) q)).1 ≤ mid := by
  subst hu
  unfold Ne both minus plus at *
  simp only at *
  constructor
  · rintro ⟨h1, h2, h3⟩
    omega
  · intro h
    refine ⟨by omega, by omega, by omega⟩
theorem ot_hi {O s q Q g d u : Sp} {mid : Int} (hO : Ne O) (hs : Ne s) (hq : Ne q) (hQ : Ne Q) (hg : Ne g) (hd : Ne d) (d1 : g.1 ≤ d.1) (d2 : d.2 ≤ g.2) (hu : u = both (minus (plus O s) (plus q Q)) g) (hne : Ne u) (hm : Ne (both u d))
    (q0 : 0 ≤ q.1) (q1 : q.2 ≤ 1000000) (Q0 : 0 ≤ Q.1) (Q1 : Q.2 ≤ 3000000) (g0 : 0 ≤ g.1) (g1 : g.2 ≤ 1000000) :
    (Ne (both (plus O s) (0, 10000000)) ∧ Ne (both (minus (both (plus O s) (0, 10000000)) q) (mid, 10000000)) ∧ Ne (both (both (minus (both (minus (both (plus O s) (0, 10000000)) q) (mid, 10000000)) Q) g) d)) ↔ mid ≤ (both (plus d Q) (minus (plus O s) q)).2 := by
  subst hu
  unfold Ne both minus plus at *
  simp only at *
  constructor
  · rintro ⟨h1, h2, h3⟩
    omega
  · intro h
    refine ⟨by omega, by omega, by omega⟩
theorem io_in {O s q Q g d u : Sp} (hO : Ne O) (hs : Ne s) (hq : Ne q) (hQ : Ne Q) (hg : Ne g) (hd : Ne d) (d1 : g.1 ≤ d.1) (d2 : d.2 ≤ g.2) (hu : u = both (minus (plus O s) (plus q Q)) g) (hne : Ne u) (hm : Ne (both u d))
    (q0 : 0 ≤ q.1) (q1 : q.2 ≤ 1000000) (Q0 : 0 ≤ Q.1) (Q1 : Q.2 ≤ 3000000) (g0 : 0 ≤ g.1) (g1 : g.2 ≤ 1000000) :
    (0 ≤ (both (plus O s) (plus d (plus q Q))).1 ∧ (both (plus O s) (plus d (plus q Q))).1 ≤ (both (plus O s) (plus d (plus q Q))).2 ∧ (both (plus O s) (plus d (plus q Q))).2 ≤ 10000000) ∧
    (0 ≤ (both (plus d Q) (minus (plus O s) q)).1 ∧ (both (plus d Q) (minus (plus O s) q)).1 ≤ (both (plus d Q) (minus (plus O s) q)).2 ∧ (both (plus d Q) (minus (plus O s) q)).2 ≤ 10000000) := by
  subst hu
  unfold Ne both minus plus at *
  simp only at *
  omega

section
variable {n : Nat} {to : Nat → Option Nat} {R : Nat → Nat → Sp} {inn rst : Sp}
theorem side_turn (hF : Fwd n to) {i : Nat} (hi : i < n) : Turn n to R (upP to R) (upR to R (i : Int) inn rst) i where
  fwd := hF
  rec_ := fun j _ => upP_eq to R j
  rec' := fun j _ hne => by
    rw [upR_eq]
    exact st6_rec (by omega)
  lt := hi
  lo := by rw [upR_eq]; unfold st6 both; simp only; omega
  hi := by rw [upR_eq]; unfold st6 both; simp only; omega
theorem side_holds (hF : Fwd n to) (hH : Holds n R (upP to R)) {i : Nat} (hi : i < n) :
    holdsR to R (i : Int) inn rst n = true ↔ okI to R (i : Int) inn rst (upR to R (i : Int) inn rst) i ∧ Ne (both (upR to R (i : Int) inn rst i) (downP to R n i)) := by
  have T := side_turn (R := R) (inn := inn) (rst := rst) hF hi
  have hA := T.all hH
  have h6 : ∀ j, Ne (st6 to R (i : Int) inn rst (upR to R (i : Int) inn rst) j) ↔ Ne (upR to R (i : Int) inn rst j) := fun j => by rw [← upR_eq]
  unfold holdsR downP
  rw [decide_eq_true_iff]
  constructor
  · intro h
    have hn : ∀ j, j < n → Ne (upR to R (i : Int) inn rst j) := fun j hj => (h6 j).1 (h j hj).2.2.2.2.2.2.2.2.2.1
    exact ⟨h i hi, (hA.1 hn).2⟩
  · rintro ⟨ho, hd⟩ j hj
    have hn := hA.2 ⟨(h6 i).1 ho.2.2.2.2.2.2.2.2.2.1, hd⟩
    by_cases e : j = i
    · subst e; exact ho
    · exact (okI_off (by omega) (fun k hk => hn k (by omega))).2 ⟨(hH j hj).1, (h6 j).2 (hn j hj)⟩
/-- At the place itself: what is asked, in few words. -/
theorem side_at (hF : Fwd n to) (hH : Holds n R (upP to R)) {i : Nat} (hi : i < n) :
    holdsR to R (i : Int) inn rst n = true ↔
      (Ne (both (plus (feed to (upP to R) i i) (R i 1)) inn) ∧ Ne (both (minus (both (plus (feed to (upP to R) i i) (R i 1)) inn) (R i 2)) rst) ∧
        Ne (both (both (minus (both (minus (both (plus (feed to (upP to R) i i) (R i 1)) inn) (R i 2)) rst) (plus (plus (R i 3) (R i 4)) (R i 5))) (R i 6)) (downP to R n i))) := by
  rw [side_holds hF hH hi]
  have T := side_turn (R := R) (inn := inn) (rst := rst) hF hi
  have hO := feed_off hF hi T
  obtain ⟨hd, -⟩ := down_meets hF (fun j _ => upP_eq to R j) hH n i hi (by omega)
  have r1 := (hH i hi).1 1 (by omega) (by omega)
  have r2 := (hH i hi).1 2 (by omega) (by omega)
  have r3 := (hH i hi).1 3 (by omega) (by omega)
  have r4 := (hH i hi).1 4 (by omega) (by omega)
  have r5 := (hH i hi).1 5 (by omega) (by omega)
  have e0 : st0 to R (i : Int) inn (upR to R (i : Int) inn rst) i = both (plus (feed to (upP to R) i i) (R i 1)) inn := by unfold st0 st1; rw [if_pos rfl, hO]
  have e2 : st2 to R (i : Int) inn rst (upR to R (i : Int) inn rst) i = both (minus (both (plus (feed to (upP to R) i i) (R i 1)) inn) (R i 2)) rst := by unfold st2; rw [if_pos rfl, e0]
  have e6 : upR to R (i : Int) inn rst i = both (minus (both (minus (both (plus (feed to (upP to R) i i) (R i 1)) inn) (R i 2)) rst) (plus (plus (R i 3) (R i 4)) (R i 5))) (R i 6) := by
    rw [upR_eq]
    unfold st6 st5 st4 st3
    rw [e2]
    simp only [both, minus, plus]
    congr 1 <;> omega
  unfold okI
  rw [← upR_eq, e6]
  unfold st5 st4 st3
  rw [e2, e0]
  unfold downP
  generalize both (plus (feed to (upP to R) i i) (R i 1)) inn = a at *
  generalize both (minus a (R i 2)) rst = b at *
  generalize downS to R (upP to R) n n i = d at *
  clear e0 e2 e6
  constructor
  · rintro ⟨⟨h0, -, h2, -⟩, h⟩
    exact ⟨h0, h2, h⟩
  · rintro ⟨h0, h2, h⟩
    refine ⟨⟨h0, r2, h2, r3, ?_, r4, ?_, r5, ?_, ?_, r1⟩, h⟩
    · unfold Ne minus at *; simp only; omega
    · unfold Ne minus at *; simp only; omega
    · unfold Ne minus at *; simp only; omega
    · unfold Ne both at *; simp only at *; omega
/-- What goes in, and all of it but its oil: what the questions tell. -/
theorem sides_law (hF : Fwd n to) (hH : Holds n R (upP to R)) (hI : InR n R 1000000) {i : Nat} (hi : i < n) (mid : Int) :
    (holdsR to R (i : Int) (0, mid) (0, 10000000) n = decide ((insideP to R n i).1 ≤ mid)) ∧ (holdsR to R (i : Int) (mid, 10000000) (0, 10000000) n = decide (mid ≤ (insideP to R n i).2)) ∧
    (holdsR to R (i : Int) (0, 10000000) (0, mid) n = decide ((othersP to R n i).1 ≤ mid)) ∧ (holdsR to R (i : Int) (0, 10000000) (mid, 10000000) n = decide (mid ≤ (othersP to R n i).2)) ∧
    ((0 ≤ (insideP to R n i).1 ∧ (insideP to R n i).1 ≤ (insideP to R n i).2 ∧ (insideP to R n i).2 ≤ 10000000) ∧ (0 ≤ (othersP to R n i).1 ∧ (othersP to R n i).1 ≤ (othersP to R n i).2 ∧ (othersP to R n i).2 ≤ 10000000)) := by
  have hO := feed_ne (to := to) (U := upP to R) i i (fun j hj => (hH j (by omega)).2)
  have r := (hH i hi).1
  have r1 := r 1 (by omega) (by omega)
  have r2 := r 2 (by omega) (by omega)
  have r3 := r 3 (by omega) (by omega)
  have r4 := r 4 (by omega) (by omega)
  have r5 := r 5 (by omega) (by omega)
  have r6 := r 6 (by omega) (by omega)
  obtain ⟨hd, hm⟩ := down_meets hF (fun j _ => upP_eq to R j) hH n i hi (by omega)
  obtain ⟨d1, d2⟩ := down_six (to := to) (R := R) (U := upP to R) (n := n) n i
  have hQ : Ne (plus (plus (R i 3) (R i 4)) (R i 5)) := by unfold Ne plus at *; simp only; omega
  have eT : restS R i = plus (R i 2) (plus (plus (R i 3) (R i 4)) (R i 5)) := by unfold restS plus; simp only; congr 1 <;> omega
  have hu : upP to R i = both (minus (plus (feed to (upP to R) i i) (R i 1)) (plus (R i 2) (plus (plus (R i 3) (R i 4)) (R i 5)))) (R i 6) := by rw [← eT]; exact upP_eq to R i
  have hne := (hH i hi).2
  have i2 := hI i hi 2
  have i3 := hI i hi 3
  have i4 := hI i hi 4
  have i5 := hI i hi 5
  have i6 := hI i hi 6
  have Q0 : 0 ≤ (plus (plus (R i 3) (R i 4)) (R i 5)).1 := by simp only [plus]; omega
  have Q1 : (plus (plus (R i 3) (R i 4)) (R i 5)).2 ≤ 3000000 := by simp only [plus]; omega
  have eI : insideP to R n i = both (plus (feed to (upP to R) i i) (R i 1)) (plus (downS to R (upP to R) n n i) (plus (R i 2) (plus (plus (R i 3) (R i 4)) (R i 5)))) := by unfold insideP intoP downP; rw [eT]
  have eX : othersP to R n i = both (plus (downS to R (upP to R) n n i) (plus (plus (R i 3) (R i 4)) (R i 5))) (minus (plus (feed to (upP to R) i i) (R i 1)) (R i 2)) := by
    unfold othersP intoP downP
    rw [eT]
    congr 2
    unfold minus1 plus; simp only; congr 1 <;> omega
  rw [eI, eX]
  refine ⟨?_, ?_, ?_, ?_, io_in hO r1 r2 hQ r6 hd d1 d2 hu hne hm i2.1 i2.2 Q0 Q1 i6.1 i6.2⟩
  · rw [Bool.eq_iff_iff, side_at hF hH hi, decide_eq_true_iff]
    exact in_lo hO r1 r2 hQ r6 hd d1 d2 hu hne hm i2.1 i2.2 Q0 Q1 i6.1 i6.2
  · rw [Bool.eq_iff_iff, side_at hF hH hi, decide_eq_true_iff]
    exact in_hi hO r1 r2 hQ r6 hd d1 d2 hu hne hm i2.1 i2.2 Q0 Q1 i6.1 i6.2
  · rw [Bool.eq_iff_iff, side_at hF hH hi, decide_eq_true_iff]
    exact ot_lo hO r1 r2 hQ r6 hd d1 d2 hu hne hm i2.1 i2.2 Q0 Q1 i6.1 i6.2
  · rw [Bool.eq_iff_iff, side_at hF hH hi, decide_eq_true_iff]
    exact ot_hi hO r1 r2 hQ r6 hd d1 d2 hu hne hm i2.1 i2.2 Q0 Q1 i6.1 i6.2
end
end Go.Proofs.YtoakeclpakjbiaaDoor
