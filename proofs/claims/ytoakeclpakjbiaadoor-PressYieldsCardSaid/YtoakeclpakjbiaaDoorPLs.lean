/-
  The walk of whether oil is less than some part: the program's.
-/
import Derived.Test.YtoakeclpakjbiaaDoorTk
import Derived.Test.YtoakeclpakjbiaaDoorOth
import Derived.Test.YtoakeclpakjbiaaDoorRAsk
namespace Go.Proofs.YtoakeclpakjbiaaDoor
open Go.RowKit
set_option linter.unusedVariables false
set_option linter.unusedSimpArgs false

def othSp (ps : List PR) (ws : List WE) (i : Nat) : Sp := othersS (toT ps) (RT ps ws) (UT ps ws) (IT ps ws) ps.length i
def yE (a0 : Sp) : Int := if noneB (both a0 (1, 20000000)) then 6 else 0
def yA (o r a0 : Sp) : Sp := if noneB (both a0 (1, 20000000)) then (0, 0) else redu (o1 o r (both a0 (1, 20000000))) (n1 o r (both a0 (1, 20000000)))
def yB (o r a0 : Sp) : Sp := if noneB (both a0 (1, 20000000)) then (0, 0) else redu (o2 o r (both a0 (1, 20000000))) (n2 o r (both a0 (1, 20000000)))
def yldE (ps : List PR) (ws : List WE) (id : Int) : Int := if askE ps ws id 2 = 0 then yE (inSp ps ws (idxP ps id).toNat) else askE ps ws id 2
def yldA (ps : List PR) (ws : List WE) (id : Int) : Sp := if askE ps ws id 2 = 0 then yA (spanSp ps ws (idxP ps id).toNat 2) (othSp ps ws (idxP ps id).toNat) (inSp ps ws (idxP ps id).toNat) else (0, 0)
def yldB (ps : List PR) (ws : List WE) (id : Int) : Sp := if askE ps ws id 2 = 0 then yB (spanSp ps ws (idxP ps id).toNat 2) (othSp ps ws (idxP ps id).toNat) (inSp ps ws (idxP ps id).toNat) else (0, 0)
theorem yld_ok {ps : List PR} {ws : List WE} {id : Int} (h : askE ps ws id 2 = 0) {i : Nat} (hi : idxP ps id = i) :
    yldE ps ws id = yE (inSp ps ws i) ∧ yldA ps ws id = yA (spanSp ps ws i 2) (othSp ps ws i) (inSp ps ws i) ∧ yldB ps ws id = yB (spanSp ps ws i 2) (othSp ps ws i) (inSp ps ws i) := by
  unfold yldE yldA yldB
  rw [if_pos h, if_pos h, if_pos h, hi]
  exact ⟨rfl, rfl, rfl⟩
theorem y_none {o r a0 a : Sp} (ha : a = both a0 (1, 20000000)) (h : noneB a = true) : yE a0 = 6 ∧ yA o r a0 = (0, 0) ∧ yB o r a0 = (0, 0) := by
  subst ha
  unfold yE yA yB
  rw [h]
  exact ⟨rfl, rfl, rfl⟩
theorem y_some {o r a0 a : Sp} (ha : a = both a0 (1, 20000000)) (h : noneB a = false) : yE a0 = 0 ∧ yA o r a0 = redu (o1 o r a) (n1 o r a) ∧ yB o r a0 = redu (o2 o r a) (n2 o r a) := by
  subst ha
  unfold yE yA yB
  rw [h]
  exact ⟨rfl, rfl, rfl⟩
theorem othSp_P (ps : List PR) (ws : List WE) (i : Nat) : othSp ps ws i = othersP (toT ps) (rowsT ps ws) ps.length i := rfl
theorem inSp_P' (ps : List PR) (ws : List WE) (i : Nat) : inSp ps ws i = insideP (toT ps) (rowsT ps ws) ps.length i := rfl
/-- How large they are: oil, all else, all that goes in. -/
theorem oia_bounds {ps : List PR} {ws : List WE} (hVF : ValidF ps ws) (ht : hasT ps ws = true) {i : Nat} (hi : i < ps.length) :
    0 ≤ (spanSp ps ws i 2).1 ∧ (spanSp ps ws i 2).1 ≤ (spanSp ps ws i 2).2 ∧ (spanSp ps ws i 2).2 ≤ 1000000 ∧
    0 ≤ (othSp ps ws i).1 ∧ (othSp ps ws i).1 ≤ (othSp ps ws i).2 ∧ (othSp ps ws i).2 ≤ 10000000 ∧
    0 ≤ (inSp ps ws i).1 ∧ (inSp ps ws i).1 ≤ (inSp ps ws i).2 ∧ (inSp ps ws i).2 ≤ 10000000 ∧
    (spanSp ps ws i 2).1 + (othSp ps ws i).1 ≤ (inSp ps ws i).1 ∧ (inSp ps ws i).2 ≤ (spanSp ps ws i 2).2 + (othSp ps ws i).2 := by
  have hFw := hVF.fwd
  have hHo := has_Holds hVF ht
  have hIn := rows_InR hVF ps.length
  have h1 := span_in hFw hHo hIn (i := i) (k := 2) hi (by omega) (by omega)
  have h2 := (sides_law hFw hHo hIn hi 0).2.2.2.2
  have h3 := spans_meet hFw hHo hi
  rw [spanSp_P, othSp_P, inSp_P']
  omega
theorem yld_nums {o r a : Sp} (ho : 0 ≤ o.1 ∧ o.1 ≤ o.2 ∧ o.2 ≤ 1000000) (hr : 0 ≤ r.1 ∧ r.1 ≤ r.2 ∧ r.2 ≤ 10000000) (h1 : 0 ≤ a.1) (h2 : a.1 ≤ a.2) (h3 : a.2 ≤ 10000000) (h4 : o.1 + r.1 ≤ a.2) (h5 : a.1 ≤ o.2 + r.2) :
    (a.1 ≤ n1 o r a ∧ n1 o r a ≤ 10000000) ∧ (0 ≤ o1 o r a ∧ o1 o r a ≤ 1000000) ∧ (a.1 ≤ n2 o r a ∧ n2 o r a ≤ 10000000) ∧ (0 ≤ o2 o r a ∧ o2 o r a ≤ 1000000) := by
  unfold o1 n1 o2 n2
  omega
theorem four_set {y : World} {b b' : Nat} {t t' : TypeId} {c0 c1 d0 d1 : Value} (h : y.heap[b]? = some (.cells #[c0, c1] t (0, 0))) (h' : y.heap[b']? = some (.cells #[d0, d1] t' (0, 0))) (ne : b' ≠ b) (u0 u1 v0 v1 : Value) :
    ((((y.setCell ⟨b, 0, none⟩ u0).setCell ⟨b, 1, none⟩ u1).setCell ⟨b', 0, none⟩ v0).setCell ⟨b', 1, none⟩ v1).cell? ⟨b, 0, none⟩ = some u0 ∧
    ((((y.setCell ⟨b, 0, none⟩ u0).setCell ⟨b, 1, none⟩ u1).setCell ⟨b', 0, none⟩ v0).setCell ⟨b', 1, none⟩ v1).cell? ⟨b, 1, none⟩ = some u1 ∧
    ((((y.setCell ⟨b, 0, none⟩ u0).setCell ⟨b, 1, none⟩ u1).setCell ⟨b', 0, none⟩ v0).setCell ⟨b', 1, none⟩ v1).cell? ⟨b', 0, none⟩ = some v0 ∧
    ((((y.setCell ⟨b, 0, none⟩ u0).setCell ⟨b, 1, none⟩ u1).setCell ⟨b', 0, none⟩ v0).setCell ⟨b', 1, none⟩ v1).cell? ⟨b', 1, none⟩ = some v1 := by
  have h1 := set_two y b t u0 u1 c0 c1 h
  have h2 := (heap_sets2 y b b' u0 u1 ne).trans h'
  have h3 := (heap_sets2 ((y.setCell ⟨b, 0, none⟩ u0).setCell ⟨b, 1, none⟩ u1) b' b v0 v1 (fun e => ne e.symm)).trans h1
  have h4 := set_two ((y.setCell ⟨b, 0, none⟩ u0).setCell ⟨b, 1, none⟩ u1) b' t' v0 v1 d0 d1 h2
  obtain ⟨a1, a2, -, -⟩ := two_facts h3
  obtain ⟨a3, a4, -, -⟩ := two_facts h4
  exact ⟨a1, a2, a3, a4⟩
theorem mx_if' (a b : Int) : (if a < b then b else a) = max a b := by omega

/-- The copy of a press, and two parts. -/
structure PF (w : World) (A A' : Option Addr) (n c n' c' : Nat) (ps : List PR) (ws : List WE) (z : World) : Prop extends PX w A A' n c n' c' ps ws z where
  b1 : z.heap[w.heap.size + 1]? = some (.cells #[.int .i64 0, .int .i64 0] 61 (0, 0))
  b2 : z.heap[w.heap.size + 2]? = some (.cells #[.int .i64 0, .int .i64 0] 61 (0, 0))
section
variable {w z y : World} {A A' : Option Addr} {n c n' c' : Nat} {ps : List PR} {ws : List WE}
theorem PF.below (h : PF w A A' n c n' c' ps ws z) (hb : Below z.heap.size z y) : PF w A A' n c n' c' ps ws y := ⟨h.toPX.below hb, keepO hb h.b1, keepO hb h.b2⟩
theorem PF.start (hR : Reads w w.heap.size 4 A n (pgs ps)) (hW : Reads w w.heap.size 5 A' n' (wgs ws)) (hL : Laid w) : PF w A A' n c n' c' ps ws (((w.alloc (.cells #[.slice A n c, .slice A' n' c'] 25)).alloc (.cells #[.int .i64 0, .int .i64 0] 61)).alloc (.cells #[.int .i64 0, .int .i64 0] 61)) := by
  have h1 := heap_alloc_new (w.alloc (.cells #[.slice A n c, .slice A' n' c'] 25)) (.cells #[.int .i64 0, .int .i64 0] 61)
  have h2 := heap_alloc_new ((w.alloc (.cells #[.slice A n c, .slice A' n' c'] 25)).alloc (.cells #[.int .i64 0, .int .i64 0] 61)) (.cells #[.int .i64 0, .int .i64 0] 61)
  simp only [World.size_alloc] at h1 h2
  refine ⟨((PX.start hR hW hL).below ((Below.refl _ _).alloc (Nat.le_refl _) _)).below ((Below.refl _ _).alloc (Nat.le_refl _) _), ?_, h2⟩
  rw [heap_lt_alloc' _ _ _ (by simp <;> omega)]; exact h1
theorem PF.size (h : PF w A A' n c n' c' ps ws z) : w.heap.size + 3 ≤ z.heap.size := (Array.getElem?_eq_some_iff.1 h.b2).1
end

set_option maxRecDepth 100000 in
set_option maxHeartbeats 8000000 in
theorem pYield_any (A A' : Option Addr) (n c n' c' : Nat) (ps : List PR) (ws : List WE) (id : Int) (w : World) (hnm : n ≤ maxLen) (hR : Reads w w.heap.size 4 A n (pgs ps)) (hW : Reads w w.heap.size 5 A' n' (wgs ws)) (hL : Laid w) :
    Calls Tryd.prog 28 #[.agg #[.slice A n c, .slice A' n' c'], .int .i64 id] w fun e w' => e = .returned (.tuple #[.agg #[.int .i64 (yldA ps ws id).1, .int .i64 (yldA ps ws id).2], .agg #[.int .i64 (yldB ps ws id).1, .int .i64 (yldB ps ws id).2], .int .i64 (yldE ps ws id)]) ∧ Below w.heap.size w w' := by
  have hl := hR.pg_len
  have HP0 := Lib.hid (PF.start (c := c) (c' := c') hR hW hL)
  have HA := Lib.hid (fun z (hz : PF w A A' n c n' c' ps ws z) => asked_any A A' n c n' c' ps ws id 2 z hnm hz.rp hz.rw_ hz.laid)
  clear hR hW hL
  go_enter Tryd.func28, Tryd.ntmps28
  go_wp2_with fail
  refine (HA.out _ HP0.out).mono ?_
  rintro e z1 ⟨hb1, hbad, hok⟩
  have HPz1 := Lib.hid (HP0.out.below hb1)
  clear hb1
  by_cases h0 : askE ps ws id 2 = 0
  · skip
    obtain ⟨mb, At, Ar, Au, Ai, ct, cr, cu, ci, rfl, hM⟩ := hok h0
    obtain ⟨hv, hi0, -, -, ht⟩ := askE_ok h0
    have hn : n ≤ 10 := by
      have h := (valid_facts hv).n10
      omega
    obtain ⟨i, hi⟩ : ∃ i : Nat, idxP ps id = i := ⟨(idxP ps id).toNat, by omega⟩
    have hin : i < n := by have := (idxP_bound ps id).2; omega
    have hVF := valid_facts hv
    have hSm := hVF.smr ws.length
    rw [List.take_length, hl] at hSm
    have hFw := hVF.fwd
    rw [hl] at hFw
    have HSp := Lib.hid (fun z (hz : MR z mb n (toT ps) (rowsT ps ws) (upP (toT ps) (rowsT ps ws)) (intoP (toT ps) (rowsT ps ws)) At Ar Au Ai ct cr cu ci) => span_any mb n (toT ps) (rowsT ps ws) _ _ At Ar Au Ai ct cr cu ci hFw hSm (up_smu hSm hn) (into_smu hSm hn) hn i 2 hin (by omega) (by omega) z hz)
    have HOt := Lib.hid (fun z (hz : MR z mb n (toT ps) (rowsT ps ws) (upP (toT ps) (rowsT ps ws)) (intoP (toT ps) (rowsT ps ws)) At Ar Au Ai ct cr cu ci) => others_any mb n (toT ps) (rowsT ps ws) _ _ At Ar Au Ai ct cr cu ci hFw hSm (up_smu hSm hn) (into_smu hSm hn) hn i hin z hz)
    have HIn := Lib.hid (fun z (hz : MR z mb n (toT ps) (rowsT ps ws) (upP (toT ps) (rowsT ps ws)) (intoP (toT ps) (rowsT ps ws)) At Ar Au Ai ct cr cu ci) => inM_any mb n (toT ps) (rowsT ps ws) _ _ At Ar Au Ai ct cr cu ci hFw hSm (up_smu hSm hn) (into_smu hSm hn) hn i hin z hz)
    have hso : spanSp ps ws i 2 = spanS (toT ps) (rowsT ps ws) (upP (toT ps) (rowsT ps ws)) (intoP (toT ps) (rowsT ps ws)) n i 2 := by unfold spanSp; rw [hl]
    have hsr : othSp ps ws i = othersS (toT ps) (rowsT ps ws) (upP (toT ps) (rowsT ps ws)) (intoP (toT ps) (rowsT ps ws)) n i := by unfold othSp; rw [hl]
    have hsa : inSp ps ws i = inS (toT ps) (rowsT ps ws) (upP (toT ps) (rowsT ps ws)) (intoP (toT ps) (rowsT ps ws)) n i := by unfold inSp; rw [hl]
    have hBd := oia_bounds hVF ht (i := i) (by omega)
    rw [hso, hsr, hsa] at hBd
    have hE := yld_ok h0 hi
    rw [hso, hsr, hsa] at hE
    have hEh := Lib.hid hE
    have h0h := Lib.hid h0
    rw [hi]
    have HMz1 := Lib.hid hM
    clear hE hso hsr hsa hVF hSm hFw hM hok hbad hv hi0 ht hi h0 hin hl
    generalize spanS (toT ps) (rowsT ps ws) (upP (toT ps) (rowsT ps ws)) (intoP (toT ps) (rowsT ps ws)) n i 2 = o at *
    generalize othersS (toT ps) (rowsT ps ws) (upP (toT ps) (rowsT ps ws)) (intoP (toT ps) (rowsT ps ws)) n i = r at *
    generalize inS (toT ps) (rowsT ps ws) (upP (toT ps) (rowsT ps ws)) (intoP (toT ps) (rowsT ps ws)) n i = a0 at *
    obtain ⟨b1, b2, b3, b4, b5, b6, b7, b8, b9, b10, b11⟩ := hBd
    go_wp2_with fail
    refine (HSp.out _ HMz1.out).mono ?_
    rintro e z2 ⟨rfl, hb⟩
    have HPz2 := Lib.hid (HPz1.out.below hb)
    have HMz2 := Lib.hid (HMz1.out.below hb)
    clear hb
    go_wp2_with fail
    refine (HOt.out _ HMz2.out).mono ?_
    rintro e z3 ⟨rfl, hb⟩
    have HPz3 := Lib.hid (HPz2.out.below hb)
    have HMz3 := Lib.hid (HMz2.out.below hb)
    clear hb
    go_wp2_with fail
    refine (HIn.out _ HMz3.out).mono ?_
    rintro e z4 ⟨rfl, hb⟩
    have HPz4 := Lib.hid (HPz3.out.below hb)
    have HMz4 := Lib.hid (HMz3.out.below hb)
    clear hb
    go_wp2_with fail
    refine (both_any a0 (1, 20000000) z4).mono ?_
    rintro e z5 ⟨rfl, hb⟩
    have HPz5 := Lib.hid (HPz4.out.below hb)
    have HMz5 := Lib.hid (HMz4.out.below hb)
    clear hb
    generalize ha_ : both a0 (1, 20000000) = a
    have ha := Lib.hid ha_.symm
    clear ha_
    obtain ⟨zs, hzs⟩ : ∃ zs, zs = ((z5.alloc (.cells #[.int .i64 o.1, .int .i64 o.2] 44)).alloc (.cells #[.int .i64 r.1, .int .i64 r.2] 44)).alloc (.cells #[.int .i64 a.1, .int .i64 a.2] 44) := ⟨_, rfl⟩
    have hbs : Below z5.heap.size z5 zs := by rw [hzs]; exact (((Below.refl _ _).alloc (Nat.le_refl _) _).alloc (by simp) _).alloc (by simp <;> omega) _
    have HPs := Lib.hid (HPz5.out.below hbs)
    have HOo : Hid (zs.heap[z5.heap.size]? = some (.cells #[.int .i64 o.1, .int .i64 o.2] 44 (0, 0))) := by
      show _ = _; rw [hzs, heap_lt_alloc' _ _ _ (by simp <;> omega), heap_lt_alloc' _ _ _ (by simp)]; exact heap_alloc_new z5 _
    have HOr : Hid (zs.heap[z5.heap.size + 1]? = some (.cells #[.int .i64 r.1, .int .i64 r.2] 44 (0, 0))) := by
      show _ = _; rw [hzs, heap_lt_alloc' _ _ _ (by simp <;> omega)]; have := heap_alloc_new (z5.alloc (.cells #[.int .i64 o.1, .int .i64 o.2] 44)) (.cells #[.int .i64 r.1, .int .i64 r.2] 44); simpa using this
    have HOa : Hid (zs.heap[z5.heap.size + 1 + 1]? = some (.cells #[.int .i64 a.1, .int .i64 a.2] 44 (0, 0))) := by
      show _ = _; rw [hzs]; have := heap_alloc_new ((z5.alloc (.cells #[.int .i64 o.1, .int .i64 o.2] 44)).alloc (.cells #[.int .i64 r.1, .int .i64 r.2] 44)) (.cells #[.int .i64 a.1, .int .i64 a.2] 44); simpa using this
    obtain ⟨g0, g1, -, -⟩ := two_facts HOa.out
    have hzsh := Lib.hid hzs
    rw [hzs] at g0 g1
    clear hzs hbs
    go_wp2_with fail
    rw [← hzsh.out]
    clear g0 g1 hzsh
    have hsb : w.heap.size + 3 ≤ z5.heap.size := HPz5.out.size
    generalize z5.heap.size = sb at *
    refine (none_any a zs).mono ?_
    rintro e z6 ⟨rfl, hb⟩
    have HP6 := Lib.hid (HPs.out.below hb)
    have HOo6 := Lib.hid (keepO hb HOo.out)
    have HOr6 := Lib.hid (keepO hb HOr.out)
    have HOa6 := Lib.hid (keepO hb HOa.out)
    clear hb HPs HOo HOr HOa HMz1 HMz2 HMz3 HMz4 HMz5 HPz2 HPz3 HPz4 HPz5 HSp HOt HIn
    cases hnb : noneB a
    · obtain ⟨y1, y2, y3⟩ := y_some (o := o) (r := r) ha.out hnb
      have hEh := Lib.hid (show yldE ps ws id = 0 ∧ yldA ps ws id = redu (o1 o r a) (n1 o r a) ∧ yldB ps ws id = redu (o2 o r a) (n2 o r a) from ⟨hEh.out.1.trans y1, hEh.out.2.1.trans y2, hEh.out.2.2.trans y3⟩)
      clear y1 y2 y3
      have hna : a.1 ≤ a.2 := by unfold noneB at hnb; simpa using hnb
      obtain ⟨c1, c2⟩ : 1 ≤ a.1 ∧ a.2 ≤ 10000000 := by rw [ha.out]; unfold both; simp only; omega
      have c3 : o.1 + r.1 ≤ a.2 := by have : a.2 = min a0.2 20000000 := (by rw [ha.out]; rfl); omega
      have c4 : a.1 ≤ o.2 + r.2 := by have : a.1 = max a0.1 1 := (by rw [ha.out]; rfl); have : a.2 = min a0.2 20000000 := (by rw [ha.out]; rfl); omega
      have HN := Lib.hid (yld_nums (o := o) (r := r) (a := a) ⟨b1, b2, b3⟩ ⟨b4, b5, b6⟩ (by omega) hna c2 c3 c4)
      have hm1 : (if a.1 < o.1 + r.2 then o.1 + r.2 else a.1) = max a.1 (o.1 + r.2) := mx_if _ _
      have hm2 : (if max a.1 (o.1 + r.2) < a.2 then max a.1 (o.1 + r.2) else a.2) = n1 o r a := mn_if _ _
      have hm3 : (if o.1 < n1 o r a - r.2 then n1 o r a - r.2 else o.1) = o1 o r a := mx_if _ _
      have hm4 : (if a.1 < o.2 + r.1 then o.2 + r.1 else a.1) = max a.1 (o.2 + r.1) := mx_if _ _
      have hm5 : (if max a.1 (o.2 + r.1) < a.2 then max a.1 (o.2 + r.1) else a.2) = n2 o r a := mn_if _ _
      have hm6 : (if n2 o r a - r.1 < o.2 then n2 o r a - r.1 else o.2) = o2 o r a := mn_if _ _
      obtain ⟨N1, hN1⟩ : ∃ x, x = n1 o r a := ⟨_, rfl⟩
      obtain ⟨O1, hO1⟩ : ∃ x, x = o1 o r a := ⟨_, rfl⟩
      obtain ⟨N2, hN2⟩ : ∃ x, x = n2 o r a := ⟨_, rfl⟩
      obtain ⟨O2, hO2⟩ : ∃ x, x = o2 o r a := ⟨_, rfl⟩
      rw [← hN1, ← hO1, ← hN2, ← hO2] at HN
      rw [← hN1, ← hO1, ← hN2, ← hO2] at hEh
      rw [← hN1] at hm2 hm3
      rw [← hO1] at hm3
      rw [← hN2] at hm5 hm6
      rw [← hO2] at hm6
      obtain ⟨v1, hv1⟩ : ∃ x, x = max a.1 (o.1 + r.2) := ⟨_, rfl⟩
      obtain ⟨v2, hv2⟩ : ∃ x, x = max a.1 (o.2 + r.1) := ⟨_, rfl⟩
      rw [← hv1] at hm1 hm2
      rw [← hv2] at hm4 hm5
      obtain ⟨k1, k2, k3, k4⟩ := HN.out
      have hm6h := Lib.hid (show (if IntKind.i64.wrap (N2 - r.1) < o.2 then IntKind.i64.wrap (N2 - r.1) else o.2) = O2 by rw [IntWalk.i64_in _ (by omega)]; exact hm6)
      clear hN1 hO1 hN2 hO2 hv1 hv2 hnb ha
      obtain ⟨g0, g1, -, -⟩ := two_facts HOa6.out
      obtain ⟨u0, u1, -, -⟩ := two_facts HOo6.out
      obtain ⟨x0, x1, -, -⟩ := two_facts HOr6.out
      go_wp2_with fail
      refine (lowest_any O1 N1 k2.1 (by omega) (by omega) (by omega) z6).mono ?_
      rintro e z7 ⟨rfl, hb⟩
      have hX1 := keepO hb HP6.out.b1
      have hX2 := keepO hb HP6.out.b2
      have hB7 := below_via HP6.out.bel (Nat.le_trans (by omega) HP6.out.size) hb
      have hOo7 := keepO hb HOo6.out
      have hOr7 := keepO hb HOr6.out
      have hOa7 := keepO hb HOa6.out
      clear hb HP6 HOo6 HOr6 HOa6 g0 g1 u0 u1 x0 x1
      generalize hL : redu O1 N1 = L at *
      have hLh := Lib.hid hL
      clear hL
      obtain ⟨zt, hzt⟩ : ∃ zt, zt = (z7.setCell ⟨w.heap.size + 1, 0, none⟩ (.int .i64 L.1)).setCell ⟨w.heap.size + 1, 1, none⟩ (.int .i64 L.2) := ⟨_, rfl⟩
      obtain ⟨e0, e1, f0, f1⟩ := two_facts hX1
      have hY1 := set_two z7 (w.heap.size + 1) _ (.int .i64 L.1) (.int .i64 L.2) _ _ hX1
      have hY2 := (heap_sets2 z7 (w.heap.size + 1) _ (.int .i64 L.1) (.int .i64 L.2) (by omega)).trans hX2
      have hYo := (heap_sets2 z7 (w.heap.size + 1) sb (.int .i64 L.1) (.int .i64 L.2) (by omega)).trans hOo7
      have hYr := (heap_sets2 z7 (w.heap.size + 1) (sb + 1) (.int .i64 L.1) (.int .i64 L.2) (by omega)).trans hOr7
      have hYa := (heap_sets2 z7 (w.heap.size + 1) (sb + 1 + 1) (.int .i64 L.1) (.int .i64 L.2) (by omega)).trans hOa7
      have hBt := below_two hB7 (b := w.heap.size + 1) (by omega) (.int .i64 L.1) (.int .i64 L.2)
      obtain ⟨g0, g1, -, -⟩ := two_facts hYa
      obtain ⟨u0, u1, -, -⟩ := two_facts hYo
      obtain ⟨x0, x1, -, -⟩ := two_facts hYr
      rw [← hzt] at hY1 hY2 hYo hYr hYa hBt
      have hzth := Lib.hid hzt
      clear hzt hX1 hX2 hB7 hOo7 hOr7 hOa7
      have hKeep := Lib.hid (And.intro hY1 (And.intro hY2 (And.intro hYo (And.intro hYr hBt))))
      clear hY1 hY2 hYo hYr hYa hBt
      go_wp2_with fail
      rw [← hzth.out]
      clear g0 g1 u0 u1 x0 x1 e0 e1 f0 f1 hzth
      obtain ⟨hX1, hX2, hYo, hYr, hBt⟩ := hKeep.out
      clear hKeep
      generalize zt = wq at *
      have hlq : sb + 1 < wq.heap.size := (Array.getElem?_eq_some_iff.1 hYr).1
      obtain ⟨u0, u1, -, -⟩ := two_facts hYo
      obtain ⟨x0, x1, -, -⟩ := two_facts hYr
      have HQ := Lib.hid (fun z (hz : Hid (Kp wq.heap.size [w.heap.size + 1, w.heap.size + 2] wq z)) => (⟨(hz.out.cell (by simp only; omega) (by simp; try omega)).trans u1, (hz.out.cell (by simp only; omega) (by simp; try omega)).trans x0⟩ : z.cell? ⟨sb, 1, none⟩ = some (.int .i64 o.2) ∧ z.cell? ⟨sb + 1, 0, none⟩ = some (.int .i64 r.1)))
      obtain ⟨S, hSd⟩ : ∃ S : World → Prop, S = fun z => (z.cell? ⟨sb, 1, none⟩ = some (.int .i64 o.2) ∧ z.cell? ⟨sb + 1, 0, none⟩ = some (.int .i64 r.1)) ∧ Hid (z.heap[w.heap.size + 1]? = some (.cells #[.int .i64 L.1, .int .i64 L.2] 61 (0, 0))) := ⟨_, rfl⟩
      have HS := Lib.hid (fun z (hz : Hid (Kp wq.heap.size [w.heap.size + 1, w.heap.size + 2] wq z)) (hx : Hid (z.heap[w.heap.size + 1]? = some (.cells #[.int .i64 L.1, .int .i64 L.2] 61 (0, 0)))) => (by rw [hSd]; exact ⟨HQ.out z hz, hx⟩ : S z))
      clear u0 u1 x0 x1 hYo hYr
    
      refine wp_region_held_drew (S := S) (by kernel_rfl) ?_ (fun hHeld => ?_)
      · exact HS.out _ (Lib.hid (Kp.refl _ _ _).drew) (Lib.hid hX1)
      have hKyd : Hid (Kp wq.heap.size [w.heap.size + 1, w.heap.size + 2] wq wq.drew) := Lib.hid (Kp.refl _ _ _).drew
      have hSyd : wq.heap.size ≤ wq.drew.heap.size := Nat.le_refl _
      have hX1 := keepO (Below.refl wq.heap.size wq).drew hX1
      have hX2 := keepO (Below.refl wq.heap.size wq).drew hX2
      generalize wq.drew = yd at *
      refine tY (v := ?_) 0 71 ?_ ?_
      rotate_left
      · intro w hSw; rw [hSd] at hSw; obtain ⟨⟨s0, s1⟩, s2⟩ := hSw; obtain ⟨t0, t1, -, -⟩ := two_facts s2.out; go_simp; (try with_reducible rfl)
      try simp only [N0]
      refine tY (v := ?_) 1 72 ?_ ?_
      rotate_left
      · intro w hSw; rw [hSd] at hSw; obtain ⟨⟨s0, s1⟩, s2⟩ := hSw; obtain ⟨t0, t1, -, -⟩ := two_facts s2.out; go_simp; (try with_reducible rfl)
      try simp only [N0]
      refine tY (v := ?_) 2 73 ?_ ?_
      rotate_left
      · intro w hSw; rw [hSd] at hSw; obtain ⟨⟨s0, s1⟩, s2⟩ := hSw; obtain ⟨t0, t1, -, -⟩ := two_facts s2.out; go_simp; (try with_reducible rfl)
      try simp only [N0]
      refine tY (v := ?_) 3 74 ?_ ?_
      rotate_left
      · intro w hSw; rw [hSd] at hSw; obtain ⟨⟨s0, s1⟩, s2⟩ := hSw; obtain ⟨t0, t1, -, -⟩ := two_facts s2.out; go_simp; (try with_reducible rfl)
      try simp only [N0]
      refine tY (v := ?_) 4 75 ?_ ?_
      rotate_left
      · intro w hSw; rw [hSd] at hSw; obtain ⟨⟨s0, s1⟩, s2⟩ := hSw; obtain ⟨t0, t1, -, -⟩ := two_facts s2.out; go_simp; (try with_reducible rfl)
      try simp only [N0]
      refine tY (v := ?_) 5 76 ?_ ?_
      rotate_left
      · intro w hSw; rw [hSd] at hSw; obtain ⟨⟨s0, s1⟩, s2⟩ := hSw; obtain ⟨t0, t1, -, -⟩ := two_facts s2.out; go_simp; (try with_reducible rfl)
      try simp only [N0]
      refine tY (v := ?_) 6 77 ?_ ?_
      rotate_left
      · intro w hSw; rw [hSd] at hSw; obtain ⟨⟨s0, s1⟩, s2⟩ := hSw; obtain ⟨t0, t1, -, -⟩ := two_facts s2.out; go_simp; (try with_reducible rfl)
      try simp only [N0]
      refine tY (v := ?_) 7 78 ?_ ?_
      rotate_left
      · intro w hSw; rw [hSd] at hSw; obtain ⟨⟨s0, s1⟩, s2⟩ := hSw; obtain ⟨t0, t1, -, -⟩ := two_facts s2.out; go_simp; (try with_reducible rfl)
      try simp only [N0]
      refine tY (v := ?_) 8 79 ?_ ?_
      rotate_left
      · intro w hSw; rw [hSd] at hSw; obtain ⟨⟨s0, s1⟩, s2⟩ := hSw; obtain ⟨t0, t1, -, -⟩ := two_facts s2.out; go_simp; (try with_reducible rfl)
      try simp only [N0]
      refine wpAnyH_ready (rs := [9]) (by kernel_rfl) (by simp) ?_
      refine AllReadyH.cons (o := _) rfl (fun Kq hK => ?_) AllReadyH.nil
      go_simp
      rw [hm6h.out]
      refine (lowest_any O2 N2 k4.1 (by omega) (by omega) (by omega) yd).mono ?_
      rintro e c9yd ⟨rfl, hb⟩
      have hKc9yd := Lib.hid (hKyd.out.call hSyd hb)
      have hX1 := keepO hb hX1
      have hX2 := keepO hb hX2
      have hSc9yd := Nat.le_trans hSyd hb.size
      generalize hM : redu O2 N2 = M at *
      have hMh := Lib.hid hM
      clear hM
      clear hb
      try go_simp
      refine hK.out _ _ ?_ (fun hHeld => ?_)
      · exact HS.out _ hKc9yd (Lib.hid hX1)
      clear hK Kq
      try simp only [N0]
      refine wpAnyH_ready (rs := [10]) (by kernel_rfl) (by simp) ?_
      refine AllReadyH.cons (o := _) rfl (fun Kq hK => ?_) AllReadyH.nil
      obtain ⟨e0, e1, g0, g1⟩ := two_facts hX1
      go_simp
      clear e0  e1  g0  g1
      obtain ⟨s10c9yd, hz_⟩ : ∃ z, z = ((c9yd.setCell ⟨(w.heap.size + 1), 0, none⟩ (.int .i64 L.1)).setCell ⟨(w.heap.size + 1), 1, none⟩ (.int .i64 L.2)) := ⟨_, rfl⟩
      rw [← hz_]
      have hN0 := (heap_sets2 c9yd (w.heap.size + 1) _ (.int .i64 L.1) (.int .i64 L.2) (by omega)).trans hX2
      rw [← hz_] at hN0
      have hX1 := set_two c9yd (w.heap.size + 1) _ (.int .i64 L.1) (.int .i64 L.2) _ _ hX1
      rw [← hz_] at hX1
      have hX2 := hN0
      clear hN0
      have hKs10c9yd := Lib.hid ((hKc9yd.out.set (p := ⟨(w.heap.size + 1), 0, none⟩) (Or.inl (by simp)) (.int .i64 L.1)).set (p := ⟨(w.heap.size + 1), 1, none⟩) (Or.inl (by simp)) (.int .i64 L.2))
      rw [← hz_] at hKs10c9yd
      have hSs10c9yd := Nat.le_trans hSc9yd (show c9yd.heap.size ≤ s10c9yd.heap.size by rw [hz_]; simp)
      clear hz_
      refine hK.out _ _ ?_ (fun hHeld => ?_)
      · exact HS.out _ hKs10c9yd (Lib.hid hX1)
      clear hK Kq
      try simp only [N0]
      refine wpAnyH_ready (rs := [11]) (by kernel_rfl) (by simp) ?_
      refine AllReadyH.cons (o := _) rfl (fun Kq hK => ?_) AllReadyH.nil
      obtain ⟨e0, e1, g0, g1⟩ := two_facts hX2
      go_simp
      clear e0  e1  g0  g1
      obtain ⟨s11s10c9yd, hz_⟩ : ∃ z, z = ((s10c9yd.setCell ⟨(w.heap.size + 2), 0, none⟩ (.int .i64 M.1)).setCell ⟨(w.heap.size + 2), 1, none⟩ (.int .i64 M.2)) := ⟨_, rfl⟩
      rw [← hz_]
      have hN0 := (heap_sets2 s10c9yd (w.heap.size + 2) _ (.int .i64 M.1) (.int .i64 M.2) (by omega)).trans hX1
      rw [← hz_] at hN0
      have hX2 := set_two s10c9yd (w.heap.size + 2) _ (.int .i64 M.1) (.int .i64 M.2) _ _ hX2
      rw [← hz_] at hX2
      have hX1 := hN0
      clear hN0
      have hKs11s10c9yd := Lib.hid ((hKs10c9yd.out.set (p := ⟨(w.heap.size + 2), 0, none⟩) (Or.inl (by simp)) (.int .i64 M.1)).set (p := ⟨(w.heap.size + 2), 1, none⟩) (Or.inl (by simp)) (.int .i64 M.2))
      rw [← hz_] at hKs11s10c9yd
      have hSs11s10c9yd := Nat.le_trans hSs10c9yd (show s10c9yd.heap.size ≤ s11s10c9yd.heap.size by rw [hz_]; simp)
      clear hz_
      refine hK.out _ _ ?_ (fun hHeld => ?_)
      · exact HS.out _ hKs11s10c9yd (Lib.hid hX1)
      clear hK Kq
      try simp only [N0]
      refine wpAnyH_ready (rs := [12]) (by kernel_rfl) (by simp) ?_
      refine AllReadyH.cons (o := _) rfl (fun Kq hK => ?_) AllReadyH.nil
      go_simp
      refine hK.out _ _ ?_ (fun hHeld => ?_)
      · exact HS.out _ hKs11s10c9yd (Lib.hid hX1)
      clear hK Kq
      try simp only [N0]
      refine wpAnyH_done (by kernel_rfl) ?_ _
      clear HS HQ hSd
      obtain ⟨e0, e1, -, -⟩ := two_facts hX1
      obtain ⟨e2, e3, -, -⟩ := two_facts hX2
      have hBe := hBt.trans (hKs11s10c9yd.out.below (B' := w.heap.size) (by omega) (by simp <;> omega))
      clear hX1 hX2 hBt
      go_wp2
      exact bodyPost_ret (v := .tuple #[.agg #[.int .i64 L.1, .int .i64 L.2], .agg #[.int .i64 M.1, .int .i64 M.2], .int .i64 0]) (by simp [results, Tryd.results28, go_sem, e0, e1, e2, e3]) rfl ⟨by rw [hEh.out.1, hEh.out.2.1, hEh.out.2.2], hBe⟩
    · obtain ⟨y1, y2, y3⟩ := y_none (o := o) (r := r) ha.out hnb
      have hEh := Lib.hid (show yldE ps ws id = 6 ∧ yldA ps ws id = (0, 0) ∧ yldB ps ws id = (0, 0) from ⟨hEh.out.1.trans y1, hEh.out.2.1.trans y2, hEh.out.2.2.trans y3⟩)
      clear y1 y2 y3 hnb
      have HPQ := HP6
      clear HP6
      obtain ⟨e0, e1, f0, f1⟩ := two_facts HPQ.out.b1
      obtain ⟨e2, e3, f2, f3⟩ := two_facts HPQ.out.b2
      have hE4 := Lib.hid (four_set HPQ.out.b1 HPQ.out.b2 (by omega) (.int .i64 0) (.int .i64 0) (.int .i64 0) (.int .i64 0))
      have hBe := Lib.hid (below_two (below_two HPQ.out.bel (b := w.heap.size + 1) (by omega) (.int .i64 0) (.int .i64 0)) (b := w.heap.size + 2) (by omega) (.int .i64 0) (.int .i64 0))
      clear HPQ
      go_wp2
      obtain ⟨x0, x1, x2, x3⟩ := hE4.out
      exact bodyPost_ret (v := .tuple #[.agg #[.int .i64 0, .int .i64 0], .agg #[.int .i64 0, .int .i64 0], .int .i64 6]) (by simp [results, Tryd.results28, go_sem, x0, x1, x2, x3]) rfl ⟨by rw [hEh.out.1, hEh.out.2.1, hEh.out.2.2], hBe.out⟩
  · skip
    obtain rfl := hbad h0
    have hEh : Hid (yldE ps ws id = askE ps ws id 2 ∧ yldA ps ws id = (0, 0) ∧ yldB ps ws id = (0, 0)) := by show _ ∧ _ ∧ _; unfold yldE yldA yldB; rw [if_neg h0, if_neg h0, if_neg h0]; exact ⟨rfl, rfl, rfl⟩
    have h0b : (askE ps ws id 2 == 0) = false := by simpa using h0
    have HPQ := HPz1
    clear hok hbad hl HPz1
    obtain ⟨er, her⟩ : ∃ er, er = askE ps ws id 2 := ⟨_, rfl⟩
    rw [← her] at h0 h0b hEh ⊢
    clear her
    obtain ⟨e0, e1, f0, f1⟩ := two_facts HPQ.out.b1
    obtain ⟨e2, e3, f2, f3⟩ := two_facts HPQ.out.b2
    have hE4 := Lib.hid (four_set HPQ.out.b1 HPQ.out.b2 (by omega) (.int .i64 0) (.int .i64 0) (.int .i64 0) (.int .i64 0))
    have hBe := Lib.hid (below_two (below_two HPQ.out.bel (b := w.heap.size + 1) (by omega) (.int .i64 0) (.int .i64 0)) (b := w.heap.size + 2) (by omega) (.int .i64 0) (.int .i64 0))
    clear HPQ
    go_wp2
    obtain ⟨x0, x1, x2, x3⟩ := hE4.out
    exact bodyPost_ret (v := .tuple #[.agg #[.int .i64 0, .int .i64 0], .agg #[.int .i64 0, .int .i64 0], .int .i64 er]) (by simp [results, Tryd.results28, go_sem, x0, x1, x2, x3]) rfl ⟨by rw [hEh.out.1, hEh.out.2.1, hEh.out.2.2], hBe.out⟩
end Go.Proofs.YtoakeclpakjbiaaDoor
namespace Go.Proofs.YtoakeclpakjbiaaDoor
open Go.RowKit
set_option linter.unusedVariables false
set_option linter.unusedSimpArgs false

def lesE (ps : List PR) (ws : List WE) (id N D : Int) : Int := if validP ps ws then if idxP ps id < 0 then 6 else if (rng 1 1000 D && rng 0 D N) then if hasT ps ws then 0 else 8 else 2 else 20
def lesV (p1 p2 : Int) : Int := if p2 < 0 then 2 else if 0 ≤ p1 then 0 else 1
def lesQ (o r a : Sp) (N D : Int) : Int := lesV (o1 o r a * D - n1 o r a * N) (o2 o r a * D - n2 o r a * N)
def lesK (ps : List PR) (ws : List WE) (id N D : Int) : Int := if lesE ps ws id N D = 0 then lesQ (spanSp ps ws (idxP ps id).toNat 2) (othSp ps ws (idxP ps id).toNat) (inSp ps ws (idxP ps id).toNat) N D else 0
theorem lesV_cases {p1 p2 x : Int} (h : x = lesV p1 p2) : (p2 < 0 → x = 2) ∧ (¬ p2 < 0 → 0 ≤ p1 → x = 0) ∧ (¬ p2 < 0 → ¬ 0 ≤ p1 → x = 1) := by
  subst h
  unfold lesV
  refine ⟨fun h => if_pos h, fun h h' => ?_, fun h h' => ?_⟩
  · rw [if_neg h, if_pos h']
  · rw [if_neg h, if_neg h']
theorem less_ok {ps : List PR} {ws : List WE} {id N D : Int} (h : lesE ps ws id N D = 0) {i : Nat} (hi : idxP ps id = i) :
    lesE ps ws id N D = 0 ∧ ((o2 (spanSp ps ws i 2) (othSp ps ws i) (inSp ps ws i) * D - n2 (spanSp ps ws i 2) (othSp ps ws i) (inSp ps ws i) * N < 0 → lesK ps ws id N D = 2) ∧
      (¬ o2 (spanSp ps ws i 2) (othSp ps ws i) (inSp ps ws i) * D - n2 (spanSp ps ws i 2) (othSp ps ws i) (inSp ps ws i) * N < 0 → 0 ≤ o1 (spanSp ps ws i 2) (othSp ps ws i) (inSp ps ws i) * D - n1 (spanSp ps ws i 2) (othSp ps ws i) (inSp ps ws i) * N → lesK ps ws id N D = 0) ∧
      (¬ o2 (spanSp ps ws i 2) (othSp ps ws i) (inSp ps ws i) * D - n2 (spanSp ps ws i 2) (othSp ps ws i) (inSp ps ws i) * N < 0 → ¬ 0 ≤ o1 (spanSp ps ws i 2) (othSp ps ws i) (inSp ps ws i) * D - n1 (spanSp ps ws i 2) (othSp ps ws i) (inSp ps ws i) * N → lesK ps ws id N D = 1)) := by
  refine ⟨h, lesV_cases ?_⟩
  unfold lesK
  rw [if_pos h, hi]
  rfl

theorem over_any (o n N D : Int) (b : Nat) (w : World) (ho : 0 ≤ o ∧ o ≤ 10000000 ∧ 0 ≤ n ∧ n ≤ 10000000) (hN : 0 ≤ N ∧ N ≤ 1000 ∧ 0 ≤ D ∧ D ≤ 1000) (hb : w.heap[b]? = some (.cells #[.int .i64 N, .int .i64 D] 61 (0, 0))) :
    Calls Tryd.prog 73 #[.int .i64 o, .int .i64 n, .pointer (some ⟨b, 0, none⟩)] w fun e w' => e = .returned (.int .i64 (o * D - n * N)) ∧ w' = w := by
  obtain ⟨c0, c1, -, -⟩ := two_facts hb
  have h1 : 0 ≤ o * D := Int.mul_nonneg (by omega) (by omega)
  have h2 : o * D ≤ 10000000 * 1000 := Int.mul_le_mul (by omega) (by omega) (by omega) (by omega)
  have h3 : 0 ≤ n * N := Int.mul_nonneg (by omega) (by omega)
  have h4 : n * N ≤ 10000000 * 1000 := Int.mul_le_mul (by omega) (by omega) (by omega) (by omega)
  have e1 : IntKind.i64.wrap (o * D) = o * D := IntWalk.i64_in _ (by omega)
  have e2 : IntKind.i64.wrap (n * N) = n * N := IntWalk.i64_in _ (by omega)
  have e3 : IntKind.i64.wrap (o * D - n * N) = o * D - n * N := IntWalk.i64_in _ (by omega)
  clear h1 h2 h3 h4 hb
  go_enter Tryd.func73, Tryd.ntmps73
  go_wp2
  go_ret
  exact ⟨rfl, rfl⟩

/-- The copies of a press and of a part. -/
structure PG (w : World) (A A' : Option Addr) (n c n' c' : Nat) (ps : List PR) (ws : List WE) (N D : Int) (z : World) : Prop extends PX w A A' n c n' c' ps ws z where
  b1 : z.heap[w.heap.size + 1]? = some (.cells #[.int .i64 N, .int .i64 D] 61 (0, 0))
section
variable {w z y : World} {A A' : Option Addr} {n c n' c' : Nat} {ps : List PR} {ws : List WE} {N D : Int}
theorem PG.below (h : PG w A A' n c n' c' ps ws N D z) (hb : Below z.heap.size z y) : PG w A A' n c n' c' ps ws N D y := ⟨h.toPX.below hb, keepO hb h.b1⟩
theorem PG.start (hR : Reads w w.heap.size 4 A n (pgs ps)) (hW : Reads w w.heap.size 5 A' n' (wgs ws)) (hL : Laid w) : PG w A A' n c n' c' ps ws N D ((w.alloc (.cells #[.slice A n c, .slice A' n' c'] 25)).alloc (.cells #[.int .i64 N, .int .i64 D] 61)) := by
  have h1 := heap_alloc_new (w.alloc (.cells #[.slice A n c, .slice A' n' c'] 25)) (.cells #[.int .i64 N, .int .i64 D] 61)
  simp only [World.size_alloc] at h1
  exact ⟨(PX.start hR hW hL).below ((Below.refl _ _).alloc (Nat.le_refl _) _), h1⟩
end

set_option maxRecDepth 100000 in
set_option maxHeartbeats 4000000 in
theorem pLess_any (A A' : Option Addr) (n c n' c' : Nat) (ps : List PR) (ws : List WE) (id N D : Int) (w : World) (hnm : n ≤ maxLen) (hR : Reads w w.heap.size 4 A n (pgs ps)) (hW : Reads w w.heap.size 5 A' n' (wgs ws)) (hL : Laid w) :
    Calls Tryd.prog 30 #[.agg #[.slice A n c, .slice A' n' c'], .int .i64 id, .agg #[.int .i64 N, .int .i64 D]] w fun e w' => e = .returned (.tuple #[.int .u8 (lesK ps ws id N D), .int .i64 (lesE ps ws id N D)]) ∧ Below w.heap.size w w' := by
  have hl := hR.pg_len
  have HP0 := Lib.hid (PG.start (c := c) (c' := c') (N := N) (D := D) hR hW hL)
  have HCk := Lib.hid (fun z (hz : PG w A A' n c n' c' ps ws N D z) => Check_any A A' n c n' c' ps ws z hz.rp hz.rw_ hz.laid)
  have HIx := Lib.hid (fun z (hz : PG w A A' n c n' c' ps ws N D z) => index_any A A' n c n' c' ps id z hnm hz.rp)
  have HAs := Lib.hid (fun z (hz : PG w A A' n c n' c' ps ws N D z) => asked_any A A' n c n' c' ps ws id 2 z hnm hz.rp hz.rw_ hz.laid)
  have HK0 : Hid (lesE ps ws id N D ≠ 0 → lesK ps ws id N D = 0) := fun h => by unfold lesK; rw [if_neg h]
  clear hR hW hL
  go_enter Tryd.func30, Tryd.ntmps30
  go_wp2_with fail
  refine (HCk.out _ HP0.out).mono ?_
  rintro e za ⟨rfl, hb⟩
  have HPza := Lib.hid (HP0.out.below hb)
  clear hb
  cases hv : validP ps ws
  · have hs : Hid (lesE ps ws id N D = 20) := by show _ = _; unfold lesE; rw [hv]; rfl
    rw [show checkS ps ws = 20 by unfold checkS; rw [hv]; rfl]
    clear hv hl
    go_wp2
    exact bodyPost_ret (v := .tuple #[.int .u8 0, .int .i64 20]) (by simp [results, Tryd.results30, go_sem]) rfl ⟨by rw [HK0.out (by rw [hs.out]; decide), hs.out], HPza.out.bel⟩
  rw [show checkS ps ws = 0 by unfold checkS; rw [hv]; rfl]
  have hn : n ≤ 10 := by
    have h := (valid_facts hv).n10
    omega
  have hvh := Lib.hid hv
  obtain ⟨p0, p1⟩ := HPza.out.cells
  have HA : Hid (lesE ps ws id N D = if idxP ps id < 0 then 6 else if (rng 1 1000 D && rng 0 D N) then if hasT ps ws then 0 else 8 else 2) := by show _ = _; unfold lesE; rw [hv, if_pos rfl]
  have HAk : Hid (askE ps ws id 2 = if idxP ps id < 0 then 6 else if hasT ps ws then 0 else 8) := by show _ = _; unfold askE; rw [hv, if_pos rfl]; rfl
  clear hv
  go_wp2_with fail
  refine (HIx.out _ HPza.out).mono ?_
  rintro e zb ⟨rfl, hb⟩
  have HPzb := Lib.hid (HPza.out.below hb)
  clear hb p0 p1
  have hj0 := (idxP_bound ps id).1
  have hj1 := (idxP_bound ps id).2
  by_cases hj : idxP ps id < 0
  · have hs : Hid (lesE ps ws id N D = 6) := by show _ = _; rw [HA.out, if_pos hj]
    generalize idxP ps id = jx at *
    clear hl hj0 hj1
    go_wp2
    exact bodyPost_ret (v := .tuple #[.int .u8 0, .int .i64 6]) (by simp [results, Tryd.results30, go_sem]) rfl ⟨by rw [HK0.out (by rw [hs.out]; decide), hs.out], HPzb.out.bel⟩
  rw [if_neg hj] at HA HAk
  obtain ⟨i, hi⟩ : ∃ i : Nat, idxP ps id = i := ⟨(idxP ps id).toNat, by omega⟩
  have hin : i < n := by omega
  have hih := Lib.hid hi
  rw [hi] at hj ⊢
  clear hi hj0 hj1
  have hjn : ¬ (i : Int) < 0 := hj
  obtain ⟨d0, d1, -, -⟩ := two_facts HPzb.out.b1
  obtain ⟨za1, hza1⟩ : ∃ z, z = zb.alloc (.cells #[.int .i64 D] 3) := ⟨_, rfl⟩
  have hb3 : Below zb.heap.size zb za1 := by rw [hza1]; exact (Below.refl _ _).alloc (Nat.le_refl _) _
  have HIn1 := Lib.hid (in_any 1 1000 (some ⟨zb.heap.size, 0, none⟩) 1 1 [D] za1 (by unfold maxLen; omega) (rd_one (by rw [hza1]; exact heap_alloc_new zb _)))
  have HPa1 := Lib.hid (HPzb.out.below hb3)
  clear hb3
  have hr1 : Hid (inB 1 1000 [D] = rng 1 1000 D) := by show _ = _; simp [inB, rng]
  go_wp2_with fail
  rw [← hza1]
  clear hza1 d0 d1
  refine HIn1.out.mono ?_
  rintro e zc ⟨rfl, hb⟩
  rw [hr1.out]
  have HPzc := Lib.hid (HPa1.out.below hb)
  clear hb hr1
  cases hk : rng 1 1000 D
  · have hs : Hid (lesE ps ws id N D = 2) := by show _ = _; rw [HA.out, hk]; rfl
    clear hk hl
    go_wp2
    exact bodyPost_ret (v := .tuple #[.int .u8 0, .int .i64 2]) (by simp [results, Tryd.results30, go_sem]) rfl ⟨by rw [HK0.out (by rw [hs.out]; decide), hs.out], HPzc.out.bel⟩
  have hD := rng_iff hk
  obtain ⟨d0, d1, -, -⟩ := two_facts HPzc.out.b1
  obtain ⟨za2, hza2⟩ : ∃ z, z = zc.alloc (.cells #[.int .i64 N] 3) := ⟨_, rfl⟩
  have hb3 : Below zc.heap.size zc za2 := by rw [hza2]; exact (Below.refl _ _).alloc (Nat.le_refl _) _
  have HIn2 := Lib.hid (in_any 0 D (some ⟨zc.heap.size, 0, none⟩) 1 1 [N] za2 (by unfold maxLen; omega) (rd_one (by rw [hza2]; exact heap_alloc_new zc _)))
  have HPa2 := Lib.hid (HPzc.out.below hb3)
  clear hb3
  have hr2 : Hid (inB 0 D [N] = rng 0 D N) := by show _ = _; simp [inB, rng]
  have hkh := Lib.hid hk
  clear hk
  go_wp2_with fail
  rw [← hza2]
  clear hza2 d0 d1
  refine HIn2.out.mono ?_
  rintro e zd ⟨rfl, hb⟩
  rw [hr2.out]
  have HPzd := Lib.hid (HPa2.out.below hb)
  clear hb hr2
  cases hk : rng 0 D N
  · have hs : Hid (lesE ps ws id N D = 2) := by show _ = _; rw [HA.out, hkh.out, hk]; rfl
    clear hk hl
    go_wp2
    exact bodyPost_ret (v := .tuple #[.int .u8 0, .int .i64 2]) (by simp [results, Tryd.results30, go_sem]) rfl ⟨by rw [HK0.out (by rw [hs.out]; decide), hs.out], HPzd.out.bel⟩
  have hN := rng_iff hk
  have HA4 : Hid (lesE ps ws id N D = askE ps ws id 2) := by show _ = _; rw [HA.out, hkh.out, hk, HAk.out]; rfl
  clear hk
  obtain ⟨p0, p1⟩ := HPzd.out.cells
  go_wp2_with fail
  refine (HAs.out _ HPzd.out).mono ?_
  rintro e z1 ⟨hb1, hbad, hok⟩
  have HPz1 := Lib.hid (HPzd.out.below hb1)
  clear hb1 p0 p1 HPza HPzb HPzc HPa1 HPa2 HIn1 HIn2 HCk HIx HA HAk
  by_cases h0 : askE ps ws id 2 = 0
  · have hask := Lib.hid h0
    have hi := hih.out
    obtain ⟨mb, At, Ar, Au, Ai, ct, cr, cu, ci, rfl, hM⟩ := hok h0
    obtain ⟨hv, hi0, -, -, ht⟩ := askE_ok h0
    have hVF := valid_facts hv
    have hSm := hVF.smr ws.length
    rw [List.take_length, hl] at hSm
    have hFw := hVF.fwd
    rw [hl] at hFw
    have HSp := Lib.hid (fun z (hz : MR z mb n (toT ps) (rowsT ps ws) (upP (toT ps) (rowsT ps ws)) (intoP (toT ps) (rowsT ps ws)) At Ar Au Ai ct cr cu ci) => span_any mb n (toT ps) (rowsT ps ws) _ _ At Ar Au Ai ct cr cu ci hFw hSm (up_smu hSm hn) (into_smu hSm hn) hn i 2 hin (by omega) (by omega) z hz)
    have HOt := Lib.hid (fun z (hz : MR z mb n (toT ps) (rowsT ps ws) (upP (toT ps) (rowsT ps ws)) (intoP (toT ps) (rowsT ps ws)) At Ar Au Ai ct cr cu ci) => others_any mb n (toT ps) (rowsT ps ws) _ _ At Ar Au Ai ct cr cu ci hFw hSm (up_smu hSm hn) (into_smu hSm hn) hn i hin z hz)
    have HIn := Lib.hid (fun z (hz : MR z mb n (toT ps) (rowsT ps ws) (upP (toT ps) (rowsT ps ws)) (intoP (toT ps) (rowsT ps ws)) At Ar Au Ai ct cr cu ci) => inM_any mb n (toT ps) (rowsT ps ws) _ _ At Ar Au Ai ct cr cu ci hFw hSm (up_smu hSm hn) (into_smu hSm hn) hn i hin z hz)
    have hso : spanSp ps ws i 2 = spanS (toT ps) (rowsT ps ws) (upP (toT ps) (rowsT ps ws)) (intoP (toT ps) (rowsT ps ws)) n i 2 := by unfold spanSp; rw [hl]
    have hsr : othSp ps ws i = othersS (toT ps) (rowsT ps ws) (upP (toT ps) (rowsT ps ws)) (intoP (toT ps) (rowsT ps ws)) n i := by unfold othSp; rw [hl]
    have hsa : inSp ps ws i = inS (toT ps) (rowsT ps ws) (upP (toT ps) (rowsT ps ws)) (intoP (toT ps) (rowsT ps ws)) n i := by unfold inSp; rw [hl]
    have hBd := oia_bounds hVF ht (i := i) (by omega)
    rw [hso, hsr, hsa] at hBd
    have hE := less_ok (D := D) (N := N) (HA4.out.trans hask.out) hi
    rw [hso, hsr, hsa] at hE
    have hEh := Lib.hid hE
    have h0h := Lib.hid h0
    rw [hi]
    have HMz1 := Lib.hid hM
    clear hE hso hsr hsa hVF hSm hFw hM hok hbad hv hi0 ht hi h0 hin hl
    generalize spanS (toT ps) (rowsT ps ws) (upP (toT ps) (rowsT ps ws)) (intoP (toT ps) (rowsT ps ws)) n i 2 = o at *
    generalize othersS (toT ps) (rowsT ps ws) (upP (toT ps) (rowsT ps ws)) (intoP (toT ps) (rowsT ps ws)) n i = r at *
    generalize inS (toT ps) (rowsT ps ws) (upP (toT ps) (rowsT ps ws)) (intoP (toT ps) (rowsT ps ws)) n i = a at *
    obtain ⟨b1, b2, b3, b4, b5, b6, b7, b8, b9, b10, b11⟩ := hBd
    go_wp2_with fail
    refine (HSp.out _ HMz1.out).mono ?_
    rintro e z2 ⟨rfl, hb⟩
    have HPz2 := Lib.hid (HPz1.out.below hb)
    have HMz2 := Lib.hid (HMz1.out.below hb)
    clear hb
    go_wp2_with fail
    refine (HOt.out _ HMz2.out).mono ?_
    rintro e z3 ⟨rfl, hb⟩
    have HPz3 := Lib.hid (HPz2.out.below hb)
    have HMz3 := Lib.hid (HMz2.out.below hb)
    clear hb
    go_wp2_with fail
    refine (HIn.out _ HMz3.out).mono ?_
    rintro e z5 ⟨rfl, hb⟩
    have HPz5 := Lib.hid (HPz3.out.below hb)
    have HMz5 := Lib.hid (HMz3.out.below hb)
    clear hb
    obtain ⟨zs, hzs⟩ : ∃ zs, zs = ((z5.alloc (.cells #[.int .i64 o.1, .int .i64 o.2] 44)).alloc (.cells #[.int .i64 r.1, .int .i64 r.2] 44)).alloc (.cells #[.int .i64 a.1, .int .i64 a.2] 44) := ⟨_, rfl⟩
    have hbs : Below z5.heap.size z5 zs := by rw [hzs]; exact (((Below.refl _ _).alloc (Nat.le_refl _) _).alloc (by simp) _).alloc (by simp <;> omega) _
    have HPs := Lib.hid (HPz5.out.below hbs)
    have HOo : Hid (zs.heap[z5.heap.size]? = some (.cells #[.int .i64 o.1, .int .i64 o.2] 44 (0, 0))) := by
      show _ = _; rw [hzs, heap_lt_alloc' _ _ _ (by simp <;> omega), heap_lt_alloc' _ _ _ (by simp)]; exact heap_alloc_new z5 _
    have HOr : Hid (zs.heap[z5.heap.size + 1]? = some (.cells #[.int .i64 r.1, .int .i64 r.2] 44 (0, 0))) := by
      show _ = _; rw [hzs, heap_lt_alloc' _ _ _ (by simp <;> omega)]; have := heap_alloc_new (z5.alloc (.cells #[.int .i64 o.1, .int .i64 o.2] 44)) (.cells #[.int .i64 r.1, .int .i64 r.2] 44); simpa using this
    have HOa : Hid (zs.heap[z5.heap.size + 1 + 1]? = some (.cells #[.int .i64 a.1, .int .i64 a.2] 44 (0, 0))) := by
      show _ = _; rw [hzs]; have := heap_alloc_new ((z5.alloc (.cells #[.int .i64 o.1, .int .i64 o.2] 44)).alloc (.cells #[.int .i64 r.1, .int .i64 r.2] 44)) (.cells #[.int .i64 a.1, .int .i64 a.2] 44); simpa using this
    have HN := Lib.hid (yld_nums (o := o) (r := r) (a := a) ⟨b1, b2, b3⟩ ⟨b4, b5, b6⟩ b7 b8 b9 (by omega) (by omega))
    have hm1 : (if a.1 < o.1 + r.2 then o.1 + r.2 else a.1) = max a.1 (o.1 + r.2) := mx_if _ _
    have hm2 : (if max a.1 (o.1 + r.2) < a.2 then max a.1 (o.1 + r.2) else a.2) = n1 o r a := mn_if _ _
    have hm3 : (if o.1 < n1 o r a - r.2 then n1 o r a - r.2 else o.1) = o1 o r a := mx_if _ _
    have hm4 : (if a.1 < o.2 + r.1 then o.2 + r.1 else a.1) = max a.1 (o.2 + r.1) := mx_if _ _
    have hm5 : (if max a.1 (o.2 + r.1) < a.2 then max a.1 (o.2 + r.1) else a.2) = n2 o r a := mn_if _ _
    have hm6 : (if n2 o r a - r.1 < o.2 then n2 o r a - r.1 else o.2) = o2 o r a := mn_if _ _
    generalize n1 o r a = N1 at *
    generalize o1 o r a = O1 at *
    generalize n2 o r a = N2 at *
    generalize o2 o r a = O2 at *
    generalize max a.1 (o.1 + r.2) = v1 at *
    generalize max a.1 (o.2 + r.1) = v2 at *
    obtain ⟨k1, k2, k3, k4⟩ := HN.out
    obtain ⟨g0, g1, -, -⟩ := two_facts HOa.out
    obtain ⟨u0, u1, -, -⟩ := two_facts HOo.out
    obtain ⟨x0, x1, -, -⟩ := two_facts HOr.out
    have hzsh := Lib.hid hzs
    rw [hzs] at g0 g1 u0 u1 x0 x1
    clear hzs hbs
    go_wp2_with fail
    rw [← hzsh.out]
    clear g0 g1 u0 u1 x0 x1 hzsh
    refine (over_any O1 N1 N D _ zs (by omega) (by omega) HPs.out.b1).mono ?_
    rintro e z6 ⟨rfl, rfl⟩
    obtain ⟨g0, g1, -, -⟩ := two_facts HOa.out
    obtain ⟨u0, u1, -, -⟩ := two_facts HOo.out
    obtain ⟨x0, x1, -, -⟩ := two_facts HOr.out
    go_wp2_with fail
    refine (over_any O2 N2 N D _ z6 (by omega) (by omega) HPs.out.b1).mono ?_
    rintro e z7 ⟨rfl, rfl⟩
    clear g0 g1 u0 u1 x0 x1 hm1 hm2 hm3 hm4 hm5 hm6 HOo HOr HOa
    have HBz := Lib.hid HPs.out.bel
    clear HPs HP0 HMz1 HMz2 HMz3 HMz5 HPz1 HPz2 HPz3 HPz5
    obtain ⟨p1, hp1⟩ : ∃ x, x = O1 * D - N1 * N := ⟨_, rfl⟩
    obtain ⟨p2, hp2⟩ : ∃ x, x = O2 * D - N2 * N := ⟨_, rfl⟩
    rw [← hp1, ← hp2] at hEh
    rw [← hp1, ← hp2]
    clear hp1 hp2
    by_cases q2 : p2 < 0
    · have hk := Lib.hid (hEh.out.2.1 q2)
      go_wp2
      exact bodyPost_ret (v := .tuple #[.int .u8 2, .int .i64 0]) (by simp [results, Tryd.results30, go_sem]) rfl ⟨by rw [hEh.out.1, hk.out], HBz.out⟩
    · by_cases q1 : 0 ≤ p1
      · have hk := Lib.hid (hEh.out.2.2.1 (by omega) (by omega))
        have q1' : p1 ≥ 0 := q1
        go_wp2
        exact bodyPost_ret (v := .tuple #[.int .u8 0, .int .i64 0]) (by simp [results, Tryd.results30, go_sem]) rfl ⟨by rw [hEh.out.1, hk.out], HBz.out⟩
      · have hk := Lib.hid (hEh.out.2.2.2 (by omega) (by omega))
        have q1' : ¬ p1 ≥ 0 := q1
        go_wp2
        exact bodyPost_ret (v := .tuple #[.int .u8 1, .int .i64 0]) (by simp [results, Tryd.results30, go_sem]) rfl ⟨by rw [hEh.out.1, hk.out], HBz.out⟩
  · obtain rfl := hbad h0
    have hs : Hid (lesE ps ws id N D = askE ps ws id 2) := HA4
    have hne : lesE ps ws id N D ≠ 0 := by rw [hs.out]; exact h0
    have hk := Lib.hid (HK0.out hne)
    have h0b : (askE ps ws id 2 == 0) = false := by simpa using h0
    clear hok hbad hl hne HA4 HK0
    obtain ⟨er, her⟩ : ∃ er, er = askE ps ws id 2 := ⟨_, rfl⟩
    rw [← her] at h0 h0b hs ⊢
    clear her
    go_wp2
    exact bodyPost_ret (v := .tuple #[.int .u8 0, .int .i64 er]) (by simp [results, Tryd.results30, go_sem]) rfl ⟨by rw [hk.out, hs.out], HPz1.out.bel⟩
end Go.Proofs.YtoakeclpakjbiaaDoor
