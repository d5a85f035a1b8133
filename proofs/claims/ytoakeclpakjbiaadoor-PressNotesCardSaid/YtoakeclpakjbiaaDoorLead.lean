/-
  The walk of a press in which parings go elsewhere.
-/
import Derived.Test.YtoakeclpakjbiaaDoorWo
import Derived.Test.YtoakeclpakjbiaaDoorPPress
namespace Go.Proofs.YtoakeclpakjbiaaDoor
open Go.RowKit
set_option linter.unusedVariables false
set_option linter.unusedSimpArgs false

/-- A press of the call's own, and an error, are returned. -/
def Res (base : Nat) (R : (List PR × List WE) × Int) (e : Ending) (w' : World) : Prop := ∃ A1 n1 c1 A2 n2 c2, e = .returned (.tuple #[.agg #[.slice A1 n1 c1, .slice A2 n2 c2], .int .i64 R.2]) ∧
  w'.ownsRow base 87 4 (.slice A1 n1 c1) n1 (pgs R.1.1) ∧ w'.ownsRow base 76 5 (.slice A2 n2 c2) n2 (wgs R.1.2)
theorem Res.nil {base : Nat} {e : Int} {w' : World} {R : (List PR × List WE) × Int} (h : R = (([], []), e)) : Res base R (.returned (.tuple #[.agg #[.slice none 0 0, .slice none 0 0], .int .i64 e])) w' := by
  subst h
  exact ⟨none, 0, 0, none, 0, 0, rfl, World.ownsRow_nil _ _ _ _, World.ownsRow_nil _ _ _ _⟩

def setTo (ps : List PR) (i : Nat) (to : Int) : List PR := ps.modify i fun x => (x.1, x.2.1, x.2.2.1, to)
def leadS (ps : List PR) (ws : List WE) (id to : Int) : (List PR × List WE) × Int :=
  if validP ps ws then if idxP ps id < 0 then (([], []), 6) else if validP (setTo ps (idxP ps id).toNat to) ws then ((setTo ps (idxP ps id).toNat to, ws), 0) else (([], []), 22) else (([], []), 20)
theorem lessW_nil (ws : List WE) : lessW ws [] = ws := by
  unfold lessW hasI
  rw [List.filter_eq_self]
  intro x _
  rfl

/-- What stands in each world behind the copies of the arguments. -/
structure PB (w wb : World) (A A' : Option Addr) (n c n' c' : Nat) (ps : List PR) (ws : List WE) (z : World) : Prop where
  b0 : z.heap[w.heap.size]? = some (.cells #[.slice A n c, .slice A' n' c'] 25 (0, 0))
  b1 : z.heap[w.heap.size + 1]? = some (.cells #[.slice none 0 0, .slice none 0 0] 25 (0, 0))
  bel : Below w.heap.size w z
  size : w.heap.size + 2 ≤ z.heap.size
  rp : Reads z z.heap.size 4 A n (pgs ps)
  rw_ : Reads z z.heap.size 5 A' n' (wgs ws)
  laid : Laid z
section
variable {w wb z y : World} {A A' : Option Addr} {n c n' c' : Nat} {ps : List PR} {ws : List WE}
theorem PB.below (h : PB w wb A A' n c n' c' ps ws z) (hb : Below z.heap.size z y) : PB w wb A A' n c n' c' ps ws y := by
  have hs := h.size
  have hs2 := hb.size
  exact ⟨keepO hb h.b0, keepO hb h.b1, below_via h.bel (by omega) hb, by omega, (h.rp.below hb).more hs2, (h.rw_.below hb).more hs2, h.laid.below hb h.laid.2.2.2⟩
theorem PB.start (hwb : wb = (w.alloc (.cells #[.slice A n c, .slice A' n' c'] 25)).alloc (.cells #[.slice none 0 0, .slice none 0 0] 25))
    (hR : Reads w w.heap.size 4 A n (pgs ps)) (hW : Reads w w.heap.size 5 A' n' (wgs ws)) (hL : Laid w) : PB w wb A A' n c n' c' ps ws wb := by
  have hb : Below w.heap.size w wb := by rw [hwb]; exact ((Below.refl _ _).alloc (Nat.le_refl _) _).alloc (by simp) _
  refine ⟨?_, ?_, hb, by rw [hwb]; simp, (hR.below hb).more hb.size, (hW.below hb).more hb.size, hL.below hb hL.2.2.2⟩
  · rw [hwb, heap_lt_alloc' _ _ _ (by simp)]; exact heap_alloc_new w _
  · rw [hwb]
    have := heap_alloc_new (w.alloc (.cells #[.slice A n c, .slice A' n' c'] 25)) (.cells #[.slice none 0 0, .slice none 0 0] 25)
    simpa using this
end
/-- A row of the call's own is kept where its block is. -/
theorem own_block {w w' : World} {base : Nat} {e : TypeId} {size n : Nat} {v : Value} {xs : List Value} (h : w.ownsRow base e size v n xs) (hb : ∀ k, v.ownBlock = some k → w'.heap[k]? = w.heap[k]?) : w'.ownsRow base e size v n xs := by
  refine ⟨h.1, ?_⟩
  rcases h.2 with h0 | ⟨g1, cap', cur, h1, h2, h3, h4⟩
  · exact .inl h0
  · exact .inr ⟨g1, cap', cur, h1, h2, (hb g1 (by rw [h1]; rfl)).trans h3, h4⟩
theorem own_apart {w : World} {base base' g n c : Nat} {xs ys : List Value} {v : Value} {m k : Nat} (h : w.ownsRow base 87 4 (.slice (some ⟨g, 0, none⟩) n c) n xs) (h' : w.ownsRow base' 76 5 v m ys) (hk : v.ownBlock = some k) : k ≠ g := by
  rintro rfl
  rcases h.2 with ⟨h0, -⟩ | ⟨g1, cap1, cur1, h1, -, h3, -⟩
  · cases h0
  · simp only [Value.slice.injEq, Option.some.injEq, Addr.mk.injEq, and_true, true_and] at h1
    obtain ⟨rfl, rfl⟩ := h1
    rcases h'.2 with ⟨h0, -⟩ | ⟨g2, cap2, cur2, h1', -, h3', -⟩
    · rw [h0] at hk; cases hk
    · rw [h1'] at hk
      simp only [Value.ownBlock, Option.some.injEq] at hk
      subst hk
      rw [h3] at h3'
      injection h3' with h3'
      injection h3' with _ ht
      cases ht
theorem set_back {y : World} {b : Nat} {t : TypeId} {v0 v1 : Value} (h : y.heap[b]? = some (.cells #[v0, v1] t (0, 0))) (u0 u1 : Value) :
    ((y.setCell ⟨b, 0, none⟩ u0).setCell ⟨b, 1, none⟩ u1).cell? ⟨b, 0, none⟩ = some u0 ∧ ((y.setCell ⟨b, 0, none⟩ u0).setCell ⟨b, 1, none⟩ u1).cell? ⟨b, 1, none⟩ = some u1 := by
  obtain ⟨h0, h1, -, -⟩ := two_facts (set_two y b t u0 u1 _ _ h)
  exact ⟨h0, h1⟩
theorem below_two {B : Nat} {a y : World} (h : Below B a y) {b : Nat} (hb : B ≤ b) (u0 u1 : Value) : Below B a ((y.setCell ⟨b, 0, none⟩ u0).setCell ⟨b, 1, none⟩ u1) := (h.setCell hb u0).setCell hb u1

section
variable {w : World} {gb cap n : Nat} {ty : TypeId} {F : Nat → PR}
theorem row4 (h : RowOf w gb ty 4 cap pgc n F) (hn : n ≤ cap) {k : Nat} (hk : k < n) :
    w.cell? ⟨gb, k * 4, none⟩ = some (.int .i64 (F k).1) ∧ w.cell? ⟨gb, k * 4 + 1, none⟩ = some (.int .i64 (F k).2.1) ∧ w.cell? ⟨gb, k * 4 + 2, none⟩ = some (.int .i64 (F k).2.2.1) ∧
    w.cell? ⟨gb, k * 4 + 3, none⟩ = some (.int .i64 (F k).2.2.2) :=
  ⟨h.cell (fun _ => rfl) hn (t := 0) hk rfl, h.cell (fun _ => rfl) hn (t := 1) hk rfl, h.cell (fun _ => rfl) hn (t := 2) hk rfl, h.cell (fun _ => rfl) hn (t := 3) hk rfl⟩
end
/-- The cell To of a pressing is stored. -/
theorem own_to {w : World} {base gb n c i : Nat} {ps : List PR} {to : Int} (h : w.ownsRow base 87 4 (.slice (some ⟨gb, 0, none⟩) n c) n (pgs ps)) (hi : i < n) :
    (w.setCell ⟨gb, i * 4 + 3, none⟩ (.int .i64 to)).ownsRow base 87 4 (.slice (some ⟨gb, 0, none⟩) n c) n (pgs (setTo ps i to)) ∧
    (∃ u, w.cell? ⟨gb, i * 4 + 3, none⟩ = some u) ∧ w.frozen? ⟨gb, i * 4 + 3, none⟩ = false := by
  obtain ⟨hl, hnc, hcm, hbg, hrow⟩ := RowOf.from (f := pgc) (fun _ => rfl) (by omega) h
  obtain ⟨c0, c1, c2, c3⟩ := row4 hrow hnc hi
  refine ⟨?_, ⟨_, c3⟩, hrow.frozen _⟩
  obtain ⟨f, h1, h2⟩ := hrow
  have hr : RowOf (w.setCell ⟨gb, i * 4 + 3, none⟩ (.int .i64 to)) gb 87 4 c pgc n (fun k => if k = i then ((ps.getD k default).1, (ps.getD k default).2.1, (ps.getD k default).2.2.1, to) else ps.getD k default) := by
    refine ⟨_, h1.set _ _, fun k hk t u hu => ?_⟩
    by_cases hki : k = i
    · subst hki
      simp only [if_true] at hu
      match t, hu with
      | 0, hu => rw [if_neg (by omega)]; exact h2 k hk 0 u (by simpa [pgc] using hu)
      | 1, hu => rw [if_neg (by omega)]; exact h2 k hk 1 u (by simpa [pgc] using hu)
      | 2, hu => rw [if_neg (by omega)]; exact h2 k hk 2 u (by simpa [pgc] using hu)
      | 3, hu => rw [if_pos (by omega)]; simpa [pgc] using hu
      | t + 4, hu => simp [pgc] at hu
    · simp only [hki, if_false] at hu
      have ht : t < 4 := (List.getElem?_eq_some_iff.1 hu).1
      rw [if_neg (by omega)]
      exact h2 k hk t u hu
  have hl' : (setTo ps i to).length = n := by simp [setTo, hl]
  have := hr.own (fun _ => rfl) (base := base) (l := setTo ps i to) (by omega) (by omega) hcm hbg (fun k x hx => by
    unfold setTo at hx
    rw [List.getElem?_modify] at hx
    obtain ⟨y, hy, rfl⟩ := Option.map_eq_some_iff.1 hx
    have hyd : ps.getD k default = y := by simp [hy]
    rw [hyd]
    by_cases hki : k = i
    · subst hki; simp
    · have : ¬ i = k := fun e => hki e.symm
      simp [hki, this])
  rw [hl'] at this
  exact this

set_option maxRecDepth 100000 in
set_option maxHeartbeats 2000000 in
theorem lead_any (A A' : Option Addr) (n c n' c' : Nat) (ps : List PR) (ws : List WE) (id to : Int) (w : World) (hnm : n ≤ maxLen) (hnm' : n' ≤ maxLen) (hR : Reads w w.heap.size 4 A n (pgs ps)) (hW : Reads w w.heap.size 5 A' n' (wgs ws)) (hL : Laid w) :
    Calls Tryd.prog 40 #[.agg #[.slice A n c, .slice A' n' c'], .int .i64 id, .int .i64 to] w fun e w' => Res w.heap.size (leadS ps ws id to) e w' ∧ Below w.heap.size w w' := by
  have hl := hR.pg_len
  have hl' := hW.wg_len
  obtain ⟨wb, hwb⟩ : ∃ wb, wb = (w.alloc (.cells #[.slice A n c, .slice A' n' c'] 25)).alloc (.cells #[.slice none 0 0, .slice none 0 0] 25) := ⟨_, rfl⟩
  have HP0 := Lib.hid (PB.start hwb hR hW hL)
  have HG0 := Lib.hid hL.2.2.2
  have HCk := Lib.hid (fun z (hz : PB w wb A A' n c n' c' ps ws z) => Check_any A A' n c n' c' ps ws z hz.rp hz.rw_ hz.laid)
  clear hR hW hL
  cases hv : validP ps ws
  · have hc : Hid (checkS ps ws = 20) := by show _ = _; unfold checkS; rw [hv]; rfl
    have hs : Hid (leadS ps ws id to = (([], []), 20)) := by show _ = _; unfold leadS; rw [hv]; rfl
    rw [hc.out] at HCk
    clear hv hl hl'
    go_enter Tryd.func40, Tryd.ntmps40
    go_wp2_with fail
    rw [← hwb]
    clear hwb
    refine (HCk.out _ HP0.out).mono ?_
    rintro e z1 ⟨rfl, hb1⟩
    have HP1 := Lib.hid (HP0.out.below hb1)
    clear hb1
    obtain ⟨g0, g1, f0, f1⟩ := two_facts HP1.out.b1
    go_wp2
    obtain ⟨e0, e1⟩ := set_back HP1.out.b1 (.slice none 0 0) (.slice none 0 0)
    exact bodyPost_ret (v := .tuple #[.agg #[.slice none 0 0, .slice none 0 0], .int .i64 20]) (by simp [results, Tryd.results40, go_sem, e0, e1]) rfl ⟨Res.nil hs.out, below_two HP1.out.bel (by omega) _ _⟩
  · have hc : Hid (checkS ps ws = 0) := by show _ = _; unfold checkS; rw [hv]; rfl
    rw [hc.out] at HCk
    have hn : n ≤ 10 := by
      have h := hv
      simp only [validP, Bool.and_eq_true, decide_eq_true_eq] at h
      omega
    have hn' : n' ≤ 30 := by
      have h := hv
      simp only [validP, Bool.and_eq_true, decide_eq_true_eq] at h
      omega
    have HIx := Lib.hid (fun z (hz : PB w wb A A' n c n' c' ps ws z) => index_any A A' n c n' c' ps id z hnm hz.rp)
    obtain ⟨j0, j1⟩ := idxP_bound ps id
    by_cases hj : idxP ps id < 0
    · have hs : Hid (leadS ps ws id to = (([], []), 6)) := by show _ = _; unfold leadS; rw [hv, if_pos rfl, if_pos hj]
      generalize idxP ps id = jx at *
      clear hv hl hl'
      go_enter Tryd.func40, Tryd.ntmps40
      go_wp2_with fail
      rw [← hwb]
      clear hwb
      refine (HCk.out _ HP0.out).mono ?_
      rintro e z1 ⟨rfl, hb1⟩
      have HP1 := Lib.hid (HP0.out.below hb1)
      clear hb1
      obtain ⟨p0, p1, -, -⟩ := two_facts HP1.out.b0
      go_wp2_with fail
      refine (HIx.out _ HP1.out).mono ?_
      rintro e z2 ⟨rfl, hb2⟩
      have HP2 := Lib.hid (HP1.out.below hb2)
      clear hb2
      obtain ⟨g0, g1, f0, f1⟩ := two_facts HP2.out.b1
      go_wp2
      obtain ⟨e0, e1⟩ := set_back HP2.out.b1 (.slice none 0 0) (.slice none 0 0)
      exact bodyPost_ret (v := .tuple #[.agg #[.slice none 0 0, .slice none 0 0], .int .i64 6]) (by simp [results, Tryd.results40, go_sem, e0, e1]) rfl ⟨Res.nil hs.out, below_two HP2.out.bel (by omega) _ _⟩
    · have HS : Hid (leadS ps ws id to = if validP (setTo ps (idxP ps id).toNat to) ws then ((setTo ps (idxP ps id).toNat to, ws), 0) else (([], []), 22)) := by
        show _ = _; unfold leadS; rw [hv, if_pos rfl, if_neg hj]
      obtain ⟨i, hi⟩ : ∃ i : Nat, idxP ps id = i := ⟨(idxP ps id).toNat, by omega⟩
      rw [hi] at HIx HS j1
      have hin : i < n := by omega
      simp only [Int.toNat_natCast] at HS
      have HWo := Lib.hid (fun z (hz : PB w wb A A' n c n' c' ps ws z) => without_any A A' n c n' c' ps ws none 0 0 [] z (by omega) (by omega) (by unfold maxLen; omega) hz.rp hz.rw_ Reads.none_)
      rw [lessW_nil] at HWo
      have hiI : (i : Int) < (n : Int) := by omega
      clear hv hj j0 j1 hi hl hl'
      go_enter Tryd.func40, Tryd.ntmps40
      go_wp2_with fail
      rw [← hwb]
      clear hwb
      refine (HCk.out _ HP0.out).mono ?_
      rintro e z1 ⟨rfl, hb1⟩
      have HP1 := Lib.hid (HP0.out.below hb1)
      clear hb1
      obtain ⟨p0, p1, -, -⟩ := two_facts HP1.out.b0
      go_wp2_with fail
      refine (HIx.out _ HP1.out).mono ?_
      rintro e z2 ⟨rfl, hb2⟩
      have HP2 := Lib.hid (HP1.out.below hb2)
      clear hb2 p0 p1
      obtain ⟨p0, p1, -, -⟩ := two_facts HP2.out.b0
      go_wp2_with fail
      refine (HWo.out _ HP2.out).mono ?_
      rintro e z3 ⟨A1, c1, A2, m2, c2, rfl, ho1, ho2, hb3⟩
      obtain ⟨g, cap, hv1, hbg, hgl⟩ := ho1.form (by omega)
      simp only [Value.slice.injEq, true_and] at hv1
      obtain ⟨rfl, rfl⟩ := hv1
      have hz2 := HP2.out.size
      have hgw : ¬ g = w.heap.size := by omega
      have hgw' : ¬ w.heap.size = g := by omega
      have HP3 := HP2.out.below hb3
      obtain ⟨y2, hy2⟩ : ∃ y2, y2 = (z3.setCell ⟨w.heap.size, 0, none⟩ (.slice (some ⟨g, 0, none⟩) n c1)).setCell ⟨w.heap.size, 1, none⟩ (.slice A2 m2 c2) := ⟨_, rfl⟩
      have ho1' : y2.ownsRow z2.heap.size 87 4 (.slice (some ⟨g, 0, none⟩) n c1) n (pgs ps) := by
        rw [hy2]; exact own_far (p := ⟨w.heap.size, 1, none⟩) (own_far (p := ⟨w.heap.size, 0, none⟩) ho1 (by simp only; omega) _) (by simp only; omega) _
      have ho2' : y2.ownsRow z2.heap.size 76 5 (.slice A2 m2 c2) m2 (wgs ws) := by
        rw [hy2]; exact own_far (p := ⟨w.heap.size, 1, none⟩) (own_far (p := ⟨w.heap.size, 0, none⟩) ho2 (by simp only; omega) _) (by simp only; omega) _
      obtain ⟨ho3, ⟨u3, hu3⟩, hf3⟩ := own_to (to := to) ho1' hin
      have ho4 := own_block ho2' (w' := y2.setCell ⟨g, i * 4 + 3, none⟩ (.int .i64 to)) (fun k hk => Below.heap_setCell _ _ _ _ (own_apart ho1' ho2' hk))
      obtain ⟨y3, hy3⟩ : ∃ y3, y3 = y2.setCell ⟨g, i * 4 + 3, none⟩ (.int .i64 to) := ⟨_, rfl⟩
      rw [← hy3] at ho3 ho4
      have HB3 : Hid (Below w.heap.size w y3) := by
        show Below _ _ _
        rw [hy3, hy2]
        exact ((HP3.bel.setCell (by simp) _).setCell (by simp) _).setCell (by simp only; omega) _
      have hy3s : y3.heap.size = z3.heap.size := by rw [hy3, hy2]; simp
      have hLd : Laid y3 := by
        have h0 := HP3.laid
        have hc := HP0.out.laid.2.2.2
        have hg0 : 0 < w.heap.size := HG0.out
        have hb : Below w.heap.size z3 y3 := by
          rw [hy3, hy2]
          exact (((Below.refl _ _).setCell (by simp) _).setCell (by simp) _).setCell (by simp only; omega) _
        exact h0.below hb hg0
      have hRb : y3.heap[w.heap.size + 1]? = some (.cells #[.slice none 0 0, .slice none 0 0] 25 (0, 0)) := by
        rw [hy3, Below.heap_setCell _ _ _ _ (by simp only; omega), hy2, Below.heap_setCell _ _ _ _ (by simp), Below.heap_setCell _ _ _ _ (by simp)]
        exact HP3.b1
      have hPb : y3.heap[w.heap.size]? = some (.cells #[.slice (some ⟨g, 0, none⟩) n c1, .slice A2 m2 c2] 25 (0, 0)) := by
        rw [hy3, Below.heap_setCell _ _ _ _ (by simp only; omega), hy2]
        exact set_two _ _ _ _ _ _ _ HP3.b0
      have HCk3 := Lib.hid (Check_any (some ⟨g, 0, none⟩) A2 n c1 m2 c2 (setTo ps i to) ws y3 (Reads.of_own ho3) (Reads.of_own ho4) hLd)
      have HO3 := Lib.hid ho3
      have HO4 := Lib.hid ho4
      have HRB := Lib.hid hRb
      have HPB := Lib.hid hPb
      obtain ⟨p0, p1, q0, q1⟩ := two_facts HP3.b0
      obtain ⟨x0, x1, -, -⟩ := two_facts hPb
      rw [hy2] at hu3 hf3
      have Hy3 : Hid (((z3.setCell ⟨w.heap.size, 0, none⟩ (.slice (some ⟨g, 0, none⟩) n c1)).setCell ⟨w.heap.size, 1, none⟩ (.slice A2 m2 c2)).setCell ⟨g, i * 4 + 3, none⟩ (.int .i64 to) = y3) := by show _ = _; rw [hy3, hy2]
      have hz0 := HB3.out.size
      have hyz := Lib.hid hy3s
      have hbz := Lib.hid hbg
      clear hy3 hy2 ho1 ho2 ho1' ho2' ho3 ho4 hRb hPb hLd hb3 hy3s HP3 hbg hgl hz2 hz0
      go_wp2_with fail
      rw [Hy3.out]
      clear p0 p1 q0 q1 hu3 hf3 x0 x1
      refine HCk3.out.mono ?_
      rintro e z4 ⟨rfl, hb4⟩
      have hR4 := keepO hb4 HRB.out
      have hP4 := keepO hb4 HPB.out
      obtain ⟨g0, g1, f0, f1⟩ := two_facts hR4
      obtain ⟨x0, x1, -, -⟩ := two_facts hP4
      have HR4 := Lib.hid hR4
      have hO1 := Lib.hid (own_below HO3.out hb4)
      have hO2 := Lib.hid (own_below HO4.out hb4)
      have hy3 := HB3.out.size
      have HB4 := Lib.hid (below_via HB3.out hy3 hb4)
      have hz2 := HP2.out.size
      clear hb4 hR4 hP4
      cases hv2 : validP (setTo ps i to) ws
      · have hs : Hid (leadS ps ws id to = (([], []), 22)) := by show _ = _; rw [HS.out, hv2]; rfl
        have hc2 : checkS (setTo ps i to) ws = 20 := by unfold checkS; rw [hv2]; rfl
        rw [hc2]
        clear hv2 hc2
        go_wp2
        obtain ⟨e0, e1⟩ := set_back HR4.out (.slice none 0 0) (.slice none 0 0)
        exact bodyPost_ret (v := .tuple #[.agg #[.slice none 0 0, .slice none 0 0], .int .i64 22]) (by simp [results, Tryd.results40, go_sem, e0, e1]) rfl ⟨Res.nil hs.out, below_two HB4.out (by omega) _ _⟩
      · have hs : Hid (leadS ps ws id to = ((setTo ps i to, ws), 0)) := by show _ = _; rw [HS.out, hv2]; rfl
        have hc2 : checkS (setTo ps i to) ws = 0 := by unfold checkS; rw [hv2]; rfl
        rw [hc2]
        clear hv2 hc2
        go_wp2
        obtain ⟨e0, e1⟩ := set_back HR4.out (.slice (some ⟨g, 0, none⟩) n c1) (.slice A2 m2 c2)
        refine bodyPost_ret (v := .tuple #[.agg #[.slice (some ⟨g, 0, none⟩) n c1, .slice A2 m2 c2], .int .i64 0]) (by simp [results, Tryd.results40, go_sem, e0, e1]) rfl ⟨?_, below_two HB4.out (by omega) _ _⟩
        rw [hs.out]
        exact ⟨_, _, _, _, _, _, rfl, own_mono (own_far (p := ⟨w.heap.size + 1, 1, none⟩) (own_far (p := ⟨w.heap.size + 1, 0, none⟩) hO1.out (by simp only; omega) _) (by simp only; omega) _) (by omega),
          own_mono (own_far (p := ⟨w.heap.size + 1, 1, none⟩) (own_far (p := ⟨w.heap.size + 1, 0, none⟩) hO2.out (by simp only; omega) _) (by simp only; omega) _) (by omega)⟩
end Go.Proofs.YtoakeclpakjbiaaDoor
