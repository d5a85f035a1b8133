/-
  The walk of whether oil is less than some part: the reference's.
-/
import Derived.Test.YtoakeclpakjbiaaDoorTk
import Derived.Test.YtoakeclpakjbiaaDoorRCor
import Derived.Test.YtoakeclpakjbiaaDoorPLs
namespace Go.Proofs.YtoakeclpakjbiaaDoor
open Go.RowKit
set_option linter.unusedVariables false
set_option linter.unusedSimpArgs false

/-- Behind stores into two blocks. -/
structure FY9 (w : World) (b b' : Nat) (z : World) : Prop where
  os : z.os = w.os
  tape : z.tape = w.tape
  output : z.output = w.output
  size : w.heap.size ≤ z.heap.size
  block_ : ∀ k, k < w.heap.size → k ≠ b → k ≠ b' → z.heap[k]? = w.heap[k]?
theorem FY9.refl (w : World) (b b' : Nat) : FY9 w b b' w := ⟨rfl, rfl, rfl, Nat.le_refl _, fun _ _ _ _ => rfl⟩
theorem FY9.block {w z : World} {b b' : Nat} (h : FY9 w b b' z) (k : Nat) (h0 : k < w.heap.size) (h1 : k ≠ b) (h2 : k ≠ b') : z.heap[k]? = w.heap[k]? := h.block_ k h0 h1 h2
theorem FY9.below {w z : World} {b b' B : Nat} (h : FY9 w b b' z) (h1 : B ≤ b) (h2 : B ≤ b') (h3 : B ≤ w.heap.size) : Below B w z :=
  ⟨h.os, h.tape, h.output, h.size, fun k hk => h.block_ k (by omega) (by omega) (by omega)⟩
theorem FY9.kp {w z : World} {b b' : Nat} (h : FY9 w b b' z) : Kp w.heap.size [b, b'] w z :=
  ⟨h.os, h.tape, h.output, h.size, fun k hk hn => h.block_ k hk (by simp at hn; omega) (by simp at hn; omega)⟩
theorem FY9.of_kp {w z : World} {b b' : Nat} (h : Kp w.heap.size [b, b'] w z) : FY9 w b b' z :=
  ⟨h.os, h.tape, h.output, h.size, fun k hk h1 h2 => h.block k hk (by simp; omega)⟩
theorem FY9.two {w z : World} {b b' b1 : Nat} (h : FY9 w b b' z) (h1 : b1 = b ∨ b1 = b') (u v : Value) : FY9 w b b' ((z.setCell ⟨b1, 0, none⟩ u).setCell ⟨b1, 1, none⟩ v) :=
  FY9.of_kp ((h.kp.set (p := ⟨b1, 0, none⟩) (Or.inl (by simpa using h1)) u).set (p := ⟨b1, 1, none⟩) (Or.inl (by simpa using h1)) v)
theorem FY9.then_ {w z y : World} {b b' : Nat} (h : FY9 w b b' z) (hb : Below z.heap.size z y) : FY9 w b b' y :=
  ⟨hb.os.trans h.os, hb.tape.trans h.tape, hb.output.trans h.output, Nat.le_trans h.size hb.size, fun k hk h1 h2 => (hb.block k (Nat.lt_of_lt_of_le hk h.size)).trans (h.block_ k hk h1 h2)⟩
theorem askE_12 (ps : List PR) (ws : List WE) (id : Int) : askE ps ws id 1 = askE ps ws id 2 := rfl
theorem Reads.keep9 {w z : World} {B size n b b' : Nat} {A : Option Addr} {xs : List Value} (h : Reads w B size A n xs) (hz : FY9 w b b' z) (h1 : B ≤ b) (h2 : B ≤ b') (h3 : B ≤ w.heap.size := by omega) : Reads z B size A n xs :=
  h.below (hz.below h1 h2 h3)
theorem foldA_step (y : Sp) {l : List Sp} {j : Nat} {x : Sp} (h : l[j]? = some x) : foldA (l.take (j + 1)) y = stepA (foldA (l.take j) y) x := by
  unfold foldA; rw [List.take_add_one, h, List.foldl_append]; rfl
theorem foldB_step (y : Sp) {l : List Sp} {j : Nat} {x : Sp} (h : l[j]? = some x) : foldB (l.take (j + 1)) y = stepB (foldB (l.take j) y) x := by
  unfold foldB; rw [List.take_add_one, h, List.foldl_append]; rfl
theorem fold_mem (f : Sp → Sp → Sp) (hf : ∀ a x, f a x = a ∨ f a x = x) : ∀ (l : List Sp) (y : Sp), l.foldl f y = y ∨ l.foldl f y ∈ l
  | [], y => .inl rfl
  | x :: l, y => by
    rcases fold_mem f hf l (f y x) with h | h
    · rw [List.foldl_cons, h]
      rcases hf y x with e | e
      · exact .inl e
      · right; rw [e]; simp
    · right; rw [List.foldl_cons]; exact List.mem_cons_of_mem _ h
theorem foldA_mem {l : List Sp} {y : Sp} (hy : y ∈ l) (j : Nat) : foldA (l.take j) y ∈ l := by
  rcases fold_mem stepA (fun a x => by unfold stepA; split <;> simp) (l.take j) y with h | h
  · unfold foldA; rw [h]; exact hy
  · exact List.mem_of_mem_take h
theorem foldB_mem {l : List Sp} {y : Sp} (hy : y ∈ l) (j : Nat) : foldB (l.take j) y ∈ l := by
  rcases fold_mem stepB (fun a x => by unfold stepB; split <;> simp) (l.take j) y with h | h
  · unfold foldB; rw [h]; exact hy
  · exact List.mem_of_mem_take h
theorem wrap_mul {a b : Int} (h1 : 0 ≤ a) (h2 : a ≤ 1000000) (h3 : 0 ≤ b) (h4 : b ≤ 10000000) : IntKind.i64.wrap (a * b) = a * b := by
  have g1 : 0 ≤ a * b := Int.mul_nonneg h1 h3
  have g2 : a * b ≤ 1000000 * 10000000 := Int.mul_le_mul h2 h4 h3 (by omega)
  exact IntWalk.i64_in _ (by omega)
/-- What the corners tell, and the program's two points. -/
theorem yc_none {o r a0 : Sp} (h3 : a0.2 ≤ 10000000) (hb : 0 ≤ o.1 ∧ o.1 ≤ o.2 ∧ o.2 ≤ 1000000 ∧ 0 ≤ r.1 ∧ r.1 ≤ r.2 ∧ r.2 ≤ 10000000 ∧ 0 ≤ a0.1 ∧ a0.1 ≤ a0.2 ∧ a0.2 ≤ 10000000 ∧ o.1 + r.1 ≤ a0.1 ∧ a0.2 ≤ o.2 + r.2)
    (h : corn o r (max a0.1 1, a0.2) = []) : noneB (both a0 (1, 20000000)) = true := by
  unfold noneB both
  rw [decide_eq_true_eq]
  simp only
  by_cases hlt : a0.2 < max a0.1 1
  · omega
  · have hM : Meets o r (max a0.1 1, a0.2) := ⟨by omega, by omega, by simp only; omega, by simp only; omega, by simp only; omega⟩
    obtain ⟨y, l, hy⟩ := corn_some hM
    rw [h] at hy; cases hy
theorem yc_some {o r a0 y : Sp} {l : List Sp} (hb : 0 ≤ o.1 ∧ o.1 ≤ o.2 ∧ o.2 ≤ 1000000 ∧ 0 ≤ r.1 ∧ r.1 ≤ r.2 ∧ r.2 ≤ 10000000 ∧ 0 ≤ a0.1 ∧ a0.1 ≤ a0.2 ∧ a0.2 ≤ 10000000 ∧ o.1 + r.1 ≤ a0.1 ∧ a0.2 ≤ o.2 + r.2)
    (h : corn o r (max a0.1 1, a0.2) = y :: l) : yE a0 = 0 ∧ yA o r a0 = redu (foldA (y :: l) y).1 (foldA (y :: l) y).2 ∧ yB o r a0 = redu (foldB (y :: l) y).1 (foldB (y :: l) y).2 := by
  have hge : max a0.1 1 ≤ a0.2 := by
    have hy : y ∈ corn o r (max a0.1 1, a0.2) := by rw [h]; simp
    have := okC_iff.1 (corn_ok hy)
    simp only at this
    omega
  have hM : Meets o r (max a0.1 1, a0.2) := ⟨by omega, by omega, hge, by simp only; omega, by simp only; omega⟩
  have hL := yield_law hM (by simp only; omega) (by omega) (by omega) h
  have ha : (max a0.1 1, a0.2) = both a0 (1, 20000000) := by
    have : min a0.2 20000000 = a0.2 := by omega
    unfold both; rw [this]
  have hn : noneB (both a0 (1, 20000000)) = false := by rw [← ha]; unfold noneB; rw [decide_eq_false_iff_not]; show ¬ a0.2 < max a0.1 1; omega
  obtain ⟨e1, e2, e3⟩ := y_some (o := o) (r := r) (a0 := a0) rfl hn
  rw [e2, e3, ← ha, ← hL.1, ← hL.2.1, h]
  exact ⟨e1, rfl, rfl⟩
theorem corn_bnd {o r a0 : Sp} (hb : 0 ≤ o.1 ∧ o.1 ≤ o.2 ∧ o.2 ≤ 1000000 ∧ 0 ≤ r.1 ∧ r.1 ≤ r.2 ∧ r.2 ≤ 10000000 ∧ 0 ≤ a0.1 ∧ a0.1 ≤ a0.2 ∧ a0.2 ≤ 10000000 ∧ o.1 + r.1 ≤ a0.1 ∧ a0.2 ≤ o.2 + r.2) (fr : Int) :
    ∀ x ∈ corn o r (max a0.1 fr, a0.2), 0 ≤ x.1 ∧ x.1 ≤ 1000000 ∧ max a0.1 fr ≤ x.2 ∧ x.2 ≤ 10000000 := fun x hx => by
  have := okC_iff.1 (corn_ok hx)
  simp only at this
  omega

/-- The copy of a press, and two parts: the reference's. -/
structure PH (w : World) (A A' : Option Addr) (n c n' c' : Nat) (z : World) : Prop where
  b0 : z.heap[w.heap.size]? = some (.cells #[.slice A n c, .slice A' n' c'] 25 (0, 0))
  b1 : z.heap[w.heap.size + 1]? = some (.cells #[.int .i64 0, .int .i64 0] 61 (0, 0))
  b2 : z.heap[w.heap.size + 2]? = some (.cells #[.int .i64 0, .int .i64 0] 61 (0, 0))
  bel : Below w.heap.size w z
section
variable {w z y : World} {A A' : Option Addr} {n c n' c' : Nat}
theorem PH.below (h : PH w A A' n c n' c' z) (hb : Below z.heap.size z y) : PH w A A' n c n' c' y := ⟨keepO hb h.b0, keepO hb h.b1, keepO hb h.b2, below_via h.bel h.bel.size hb⟩
theorem PH.start (w : World) (A A' : Option Addr) (n c n' c' : Nat) : PH w A A' n c n' c' (((w.alloc (.cells #[.slice A n c, .slice A' n' c'] 25)).alloc (.cells #[.int .i64 0, .int .i64 0] 61)).alloc (.cells #[.int .i64 0, .int .i64 0] 61)) := by
  have h1 := heap_alloc_new (w.alloc (.cells #[.slice A n c, .slice A' n' c'] 25)) (.cells #[.int .i64 0, .int .i64 0] 61)
  have h2 := heap_alloc_new ((w.alloc (.cells #[.slice A n c, .slice A' n' c'] 25)).alloc (.cells #[.int .i64 0, .int .i64 0] 61)) (.cells #[.int .i64 0, .int .i64 0] 61)
  simp only [World.size_alloc] at h1 h2
  refine ⟨?_, ?_, h2, (((Below.refl _ _).alloc (Nat.le_refl _) _).alloc (by simp) _).alloc (by simp <;> omega) _⟩
  · rw [heap_lt_alloc' _ _ _ (by simp <;> omega), heap_lt_alloc' _ _ _ (by simp)]; exact heap_alloc_new w _
  · rw [heap_lt_alloc' _ _ _ (by simp <;> omega)]; exact h1
theorem PH.cells (h : PH w A A' n c n' c' z) : z.cell? ⟨w.heap.size, 0, none⟩ = some (.slice A n c) ∧ z.cell? ⟨w.heap.size, 1, none⟩ = some (.slice A' n' c') := by
  obtain ⟨a, b, -, -⟩ := two_facts h.b0
  exact ⟨a, b⟩
end

set_option maxRecDepth 100000 in
set_option maxHeartbeats 4000000 in
theorem rYield_any (A A' : Option Addr) (n c n' c' : Nat) (ps : List PR) (ws : List WE) (id : Int) (w : World) (hnm : n ≤ maxLen) (hnm' : n' ≤ maxLen) (hR : Reads w w.heap.size 4 A n (pgs ps)) (hW : Reads w w.heap.size 5 A' n' (wgs ws)) :
    Calls Tryd.prog 29 #[.agg #[.slice A n c, .slice A' n' c'], .int .i64 id] w fun e w' => e = .returned (.tuple #[.agg #[.int .i64 (yldA ps ws id).1, .int .i64 (yldA ps ws id).2], .agg #[.int .i64 (yldB ps ws id).1, .int .i64 (yldB ps ws id).2], .int .i64 (yldE ps ws id)]) ∧ Below w.heap.size w w' := by
  have hl : ps.length = n := hR.pg_len
  have HRd := Lib.hid (fun z (hz : Below w.heap.size w z) => (hR.below hz).more hz.size)
  have HWd := Lib.hid (fun z (hz : Below w.heap.size w z) => (hW.below hz).more hz.size)
  have hP0 := Lib.hid (PH.start w A A' n c n' c')
  clear hR hW
  go_enter Tryd.func29, Tryd.ntmps29
  go_wp2_with fail
  refine (rasked_any A A' n c n' c' ps ws id 1 _ hnm hnm' (HRd.out _ hP0.out.bel) (HWd.out _ hP0.out.bel)).mono ?_
  rintro e wq ⟨rfl, hb1⟩
  have hP := hP0.out.below hb1
  clear hb1 hP0
  by_cases h0 : askE ps ws id 2 = 0
  · obtain ⟨i, hi⟩ : ∃ i : Nat, idxP ps id = i := ⟨(idxP ps id).toNat, by have := (askE_ok h0).2.1; omega⟩
    obtain ⟨hE1, hE2, hE3⟩ := yld_ok h0 hi
    obtain ⟨hv, hi0, -, -, ht⟩ := askE_ok h0
    have hVF := valid_facts hv
    have hin : i < n := by have := (idxP_bound ps id).2; omega
    have hBd := oia_bounds hVF ht (i := i) (by omega)
    have hvh := Lib.hid hv
    have hth := Lib.hid ht
    have hih := Lib.hid hi
    rw [← askE_12] at h0
    have h0h := Lib.hid h0
    rw [h0]
    clear hv ht hVF hi0 h0 hi
    have HB := Lib.hid hBd
    have HE := Lib.hid (And.intro hE1 (And.intro hE2 hE3))
    clear hBd hE1 hE2 hE3
    obtain ⟨p0, p1⟩ := hP.cells
    have hBq := hP.bel
    have hX1 := hP.b1
    have hX2 := hP.b2
    have hwz : w.heap.size + 2 < wq.heap.size := (Array.getElem?_eq_some_iff.1 hP.b2).1
    go_wp2_with fail
    have HQ := Lib.hid (fun w' (hz : Hid (Kp wq.heap.size [] wq w')) => (⟨(hz.out.cell (by simp only; omega) (by simp; try omega)).trans p0, (hz.out.cell (by simp only; omega) (by simp; try omega)).trans p1⟩ : w'.cell? ⟨w.heap.size, 0, none⟩ = some (.slice A n c) ∧ w'.cell? ⟨w.heap.size, 1, none⟩ = some (.slice A' n' c')))
    obtain ⟨S, hSd⟩ : ∃ S : World → Prop, S = fun w' => (w'.cell? ⟨w.heap.size, 0, none⟩ = some (.slice A n c) ∧ w'.cell? ⟨w.heap.size, 1, none⟩ = some (.slice A' n' c')) ∧ Hid (Kp wq.heap.size [] wq w') := ⟨_, rfl⟩
    have HS := Lib.hid (fun w' (hz : Hid (Kp wq.heap.size [] wq w')) => (by rw [hSd]; exact ⟨HQ.out w' hz, hz⟩ : S w'))
    clear p0 p1 hP
    refine wp_region_held_drew (S := S) (by kernel_rfl) ?_ (fun hHeld => ?_)
    · exact HS.out _ (Lib.hid (Kp.refl _ _ _).drew)
    have hKyd : Hid (Kp wq.heap.size [] wq wq.drew) := Lib.hid (Kp.refl _ _ _).drew
    have hSyd : wq.heap.size ≤ wq.drew.heap.size := Nat.le_refl _
    generalize wq.drew = yd at *
    refine tY (v := ?_) 0 21 ?_ ?_
    rotate_left
    · intro w hSw; rw [hSd] at hSw; obtain ⟨⟨q0, q1⟩, -⟩ := hSw; go_simp; (try with_reducible rfl)
    try simp only [N0]
    refine tY (v := ?_) 1 22 ?_ ?_
    rotate_left
    · intro w hSw; rw [hSd] at hSw; obtain ⟨⟨q0, q1⟩, -⟩ := hSw; go_simp; (try with_reducible rfl)
    try simp only [N0]
    refine tY (v := ?_) 2 23 ?_ ?_
    rotate_left
    · intro w hSw; rw [hSd] at hSw; obtain ⟨⟨q0, q1⟩, -⟩ := hSw; go_simp; (try with_reducible rfl)
    try simp only [N0]
    refine wpAnyH_ready (rs := [3]) (by kernel_rfl) (by simp) ?_
    refine AllReadyH.cons (o := _) rfl (fun Kq hK => ?_) AllReadyH.nil
    go_simp
    refine (Pressing_any A A' n c n' c' ps id yd hnm (HRd.out _ (hBq.trans (hKyd.out.below hBq.size (by simp))))).mono ?_
    rintro e c3yd ⟨rfl, hb⟩
    have hKc3yd := Lib.hid (hKyd.out.call hSyd hb)
    have hSc3yd := Nat.le_trans hSyd hb.size
    rw [hih.out]
    clear hb
    try go_simp
    refine hK.out _ _ ?_ (fun hHeld => ?_)
    · exact HS.out _ hKc3yd
    clear hK Kq
    try simp only [N0]
    refine wpAnyH_ready (rs := [4]) (by kernel_rfl) (by simp) ?_
    refine AllReadyH.cons (o := _) rfl (fun Kq hK => ?_) AllReadyH.nil
    go_simp
    refine (corners_any A A' n c n' c' ps ws i 1 c3yd ((HRd.out _ (hBq.trans (hKc3yd.out.below hBq.size (by simp))))) ((HWd.out _ (hBq.trans (hKc3yd.out.below hBq.size (by simp))))) hvh.out hth.out hin (by omega)).mono ?_
    rintro e c4c3yd ⟨⟨Al, m, cl, rfl, hol⟩, hb⟩
    have hKc4c3yd := Lib.hid (hKc3yd.out.call hSc3yd hb)
    have hSc4c3yd := Nat.le_trans hSc3yd hb.size
    have HOl := Lib.hid hol
    have hBl := Lib.hid (hBq.trans (hKc4c3yd.out.below hBq.size (by simp)))
    have hX1 := (hKc4c3yd.out.block _ (by omega) (by simp)).trans hX1
    have hX2 := (hKc4c3yd.out.block _ (by omega) (by simp)).trans hX2
    clear hb
    try go_simp
    refine hK.out _ _ ?_ (fun hHeld => ?_)
    · exact HS.out _ hKc4c3yd
    clear hK Kq
    try simp only [N0]
    refine wpAnyH_ready (rs := [5]) (by kernel_rfl) (by simp) ?_
    refine AllReadyH.cons (o := _) rfl (fun Kq hK => ?_) AllReadyH.nil
    go_simp
    refine hK.out _ _ ?_ (fun hHeld => ?_)
    · exact HS.out _ hKc4c3yd
    clear hK Kq
    try simp only [N0]
    refine wpAnyH_done (by kernel_rfl) ?_ _
    clear HS HQ hSd hBq hwz
    obtain ⟨wd, hwd⟩ : ∃ z, z = c4c3yd := ⟨_, rfl⟩
    rw [← hwd] at HOl hBl hX1 hX2 ⊢
    clear hwd hKc4c3yd hSc4c3yd
    have HO1 := Lib.hid hX1
    have HO2 := Lib.hid hX2
    clear hX1 hX2
    generalize hlx : corn (spanSp ps ws i 2) (othSp ps ws i) (max (inSp ps ws i).1 1, (inSp ps ws i).2) = lx at *
    have hlen := (Reads.of_own HOl.out).pr_len
    have hB11 := HB.out
    cases lx with
    | nil =>
      obtain rfl : m = 0 := by simpa using hlen.symm
      have hnb := yc_none hB11.2.2.2.2.2.2.2.2.1 hB11 hlx
      obtain ⟨y1, y2, y3⟩ := y_none (o := spanSp ps ws i 2) (r := othSp ps ws i) (a0 := inSp ps ws i) rfl hnb
      have hEh := Lib.hid (show yldE ps ws id = 6 ∧ yldA ps ws id = (0, 0) ∧ yldB ps ws id = (0, 0) from ⟨HE.out.1.trans y1, HE.out.2.1.trans y2, HE.out.2.2.trans y3⟩)
      have hX1 := HO1.out
      have hX2 := HO2.out
      clear y1 y2 y3 hnb hlx hlen hB11
      obtain ⟨e0, e1, f0, f1⟩ := two_facts hX1
      obtain ⟨e2, e3, f2, f3⟩ := two_facts hX2
      have hE4 := Lib.hid (four_set hX1 hX2 (by omega) (.int .i64 0) (.int .i64 0) (.int .i64 0) (.int .i64 0))
      have hBe := Lib.hid (below_two (below_two hBl.out (b := w.heap.size + 1) (by omega) (.int .i64 0) (.int .i64 0)) (b := w.heap.size + 2) (by omega) (.int .i64 0) (.int .i64 0))
      clear hX1 hX2
      go_wp2
      obtain ⟨x0, x1, x2, x3⟩ := hE4.out
      exact bodyPost_ret (v := .tuple #[.agg #[.int .i64 0, .int .i64 0], .agg #[.int .i64 0, .int .i64 0], .int .i64 6]) (by simp [results, Tryd.results29, go_sem, x0, x1, x2, x3]) rfl ⟨by rw [hEh.out.1, hEh.out.2.1, hEh.out.2.2], hBe.out⟩
    | cons y l0 =>
      have hY0 := yc_some hB11 hlx
      have hall := Lib.hid (corn_bnd hB11 1)
      rw [hlx] at hall
      have hm0 : 0 < m := by rw [← hlen]; simp
      have hm20 : Hid (m ≤ 20) := by
        show _ ≤ _
        rw [← hlen, ← hlx]
        exact Nat.le_trans (List.length_filter_le _ _) (by simp [cornN, cornK])
      have hY := Lib.hid (show yldE ps ws id = 0 ∧ yldA ps ws id = _ ∧ yldB ps ws id = _ from ⟨HE.out.1.trans hY0.1, HE.out.2.1.trans hY0.2.1, HE.out.2.2.trans hY0.2.2⟩)
      clear hY0 hlx hB11 HE HB
      have hm20 := hm20.out
      have hm0i : ¬ (m : Int) = 0 := by omega
      have hm0b : ((m : Int) == 0) = false := by simpa using hm0i
      have hm0i' : (0 : Int) < (m : Int) := by omega
      have HRL := Lib.hid (Reads.of_own HOl.out)
      obtain ⟨bA, oA, y', hAl, hbA, hy', u0, u1⟩ := HRL.out.pr hm0
      obtain rfl : y = y' := by simpa using hy'
      subst hAl
      simp only [Nat.zero_mul, Nat.add_zero] at u0 u1
      have hy0 : Hid (y ∈ y :: l0) := by show y ∈ y :: l0; simp
      clear hy' HOl hlen
      generalize hll : y :: l0 = l at *
      clear hll l0
      have hw2 : w.heap.size + 2 < wd.heap.size := (Array.getElem?_eq_some_iff.1 HO2.out).1
      go_wp2_with fail
      obtain ⟨wq, hwq⟩ : ∃ z, z = wd := ⟨_, rfl⟩
      rw [← hwq] at u0 u1 hBl HO1 HO2 HRL hbA hw2 ⊢
      clear hwq
      have HQ := Lib.hid (fun w' (hz : Hid (Kp wq.heap.size [] wq w')) => (⟨(hz.out.cell (by simp only; omega) (by simp; try omega)).trans u0, (hz.out.cell (by simp only; omega) (by simp; try omega)).trans u1⟩ : w'.cell? ⟨bA, oA, none⟩ = some (.int .i64 y.1) ∧ w'.cell? ⟨bA, oA + 1, none⟩ = some (.int .i64 y.2)))
      obtain ⟨S, hSd⟩ : ∃ S : World → Prop, S = fun w' => (w'.cell? ⟨bA, oA, none⟩ = some (.int .i64 y.1) ∧ w'.cell? ⟨bA, oA + 1, none⟩ = some (.int .i64 y.2)) ∧ Hid (Kp wq.heap.size [] wq w') := ⟨_, rfl⟩
      have HS := Lib.hid (fun w' (hz : Hid (Kp wq.heap.size [] wq w')) => (by rw [hSd]; exact ⟨HQ.out w' hz, hz⟩ : S w'))
      go_cut [9, 10] (fun s9 s10 wx => ∃ wl, wl = wx ∧ ∃ b9 b10, s9 = .pointer (some ⟨b9, 0, none⟩) ∧ s10 = .pointer (some ⟨b10, 0, none⟩) ∧ wx.heap[b9]? = some (.cells #[.int .i64 y.1, .int .i64 y.2] 131 (0, 0)) ∧ wx.heap[b10]? = some (.cells #[.int .i64 y.1, .int .i64 y.2] 131 (0, 0)) ∧ Kp wq.heap.size [] wq wx ∧ wq.heap.size ≤ b9 ∧ wq.heap.size ≤ b10 ∧ b9 ≠ b10)
      case first =>
        refine wp_region_held_drew (S := S) (by kernel_rfl) ?_ (fun hHeld => ?_)
        · exact HS.out _ (Lib.hid (Kp.refl _ _ _).drew)
        have hKyd : Hid (Kp wq.heap.size [] wq wq.drew) := Lib.hid (Kp.refl _ _ _).drew
        have hSyd : wq.heap.size ≤ wq.drew.heap.size := Nat.le_refl _
        generalize wq.drew = yd at *
        refine tY (v := ?_) 0 31 ?_ ?_
        rotate_left
        · intro w hSw; rw [hSd] at hSw; obtain ⟨⟨q0, q1⟩, -⟩ := hSw; go_simp; (try with_reducible rfl)
        try simp only [N0]
        refine tY (v := ?_) 1 32 ?_ ?_
        rotate_left
        · intro w hSw; rw [hSd] at hSw; obtain ⟨⟨q0, q1⟩, -⟩ := hSw; go_simp; (try with_reducible rfl)
        try simp only [N0]
        refine tY (v := ?_) 2 33 ?_ ?_
        rotate_left
        · intro w hSw; rw [hSd] at hSw; obtain ⟨⟨q0, q1⟩, -⟩ := hSw; go_simp; (try with_reducible rfl)
        try simp only [N0]
        refine tY (v := ?_) 3 34 ?_ ?_
        rotate_left
        · intro w hSw; rw [hSd] at hSw; obtain ⟨⟨q0, q1⟩, -⟩ := hSw; go_simp; (try with_reducible rfl)
        try simp only [N0]
        refine tY (v := ?_) 4 35 ?_ ?_
        rotate_left
        · intro w hSw; rw [hSd] at hSw; obtain ⟨⟨q0, q1⟩, -⟩ := hSw; go_simp; (try with_reducible rfl)
        try simp only [N0]
        refine tY (v := ?_) 5 36 ?_ ?_
        rotate_left
        · intro w hSw; rw [hSd] at hSw; obtain ⟨⟨q0, q1⟩, -⟩ := hSw; go_simp; (try with_reducible rfl)
        try simp only [N0]
        refine wpAnyH_ready (rs := [6, 7]) (by kernel_rfl) (by simp) ?_
        refine AllReadyH.cons (o := _) rfl (fun Kq hK => ?_) ?_
        · go_simp
          have hOp := heap_alloc_new yd (.cells #[.int .i64 0, .int .i64 0] 131)
          have hobp := hSyd
          have hKz6yd := Lib.hid (hKyd.out.alloc hSyd (.cells #[.int .i64 0, .int .i64 0] 131))
          have hSz6yd := Nat.le_trans hSyd ((Below.refl yd.heap.size yd).alloc (Nat.le_refl _) (.cells #[.int .i64 0, .int .i64 0] 131)).size
          generalize (yd.alloc (.cells #[.int .i64 0, .int .i64 0] 131)) = z6yd at *
          refine hK.out _ _ ?_ (fun hHeld => ?_)
          · exact HS.out _ hKz6yd
          clear hK Kq
          try simp only [N0]
          refine wpAnyH_ready (rs := [7]) (by kernel_rfl) (by simp) ?_
          refine AllReadyH.cons (o := _) rfl (fun Kq hK => ?_) AllReadyH.nil
          have hNE := (Array.getElem?_eq_some_iff.1 hOp).1
          go_simp
          have hOq := heap_alloc_new z6yd (.cells #[.int .i64 0, .int .i64 0] 131)
          have hobq := hSz6yd
          have hOp := keepO ((Below.refl z6yd.heap.size z6yd).alloc (Nat.le_refl _) (.cells #[.int .i64 0, .int .i64 0] 131)) hOp
          have hKz7z6yd := Lib.hid (hKz6yd.out.alloc hSz6yd (.cells #[.int .i64 0, .int .i64 0] 131))
          have hSz7z6yd := Nat.le_trans hSz6yd ((Below.refl z6yd.heap.size z6yd).alloc (Nat.le_refl _) (.cells #[.int .i64 0, .int .i64 0] 131)).size
          generalize (z6yd.alloc (.cells #[.int .i64 0, .int .i64 0] 131)) = z7z6yd at *
          refine hK.out _ _ ?_ (fun hHeld => ?_)
          · exact HS.out _ hKz7z6yd
          clear hK Kq
          try simp only [N0]
          refine wpAnyH_ready (rs := [8]) (by kernel_rfl) (by simp) ?_
          refine AllReadyH.cons (o := _) rfl (fun Kq hK => ?_) AllReadyH.nil
          obtain ⟨e0, e1, g0, g1⟩ := two_facts hOp
          go_simp
          clear e0  e1  g0  g1
          obtain ⟨s8z7z6yd, hz_⟩ : ∃ z, z = ((z7z6yd.setCell ⟨yd.heap.size, 0, none⟩ (.int .i64 y.1)).setCell ⟨yd.heap.size, 1, none⟩ (.int .i64 y.2)) := ⟨_, rfl⟩
          rw [← hz_]
          have hN0 := (heap_sets2 z7z6yd yd.heap.size _ (.int .i64 y.1) (.int .i64 y.2) (by have := hNE; omega)).trans hOq
          rw [← hz_] at hN0
          have hOp := set_two z7z6yd yd.heap.size _ (.int .i64 y.1) (.int .i64 y.2) _ _ hOp
          rw [← hz_] at hOp
          have hOq := hN0
          clear hN0
          have hKs8z7z6yd := Lib.hid ((hKz7z6yd.out.set (p := ⟨yd.heap.size, 0, none⟩) (Or.inr hobp) (.int .i64 y.1)).set (p := ⟨yd.heap.size, 1, none⟩) (Or.inr hobp) (.int .i64 y.2))
          rw [← hz_] at hKs8z7z6yd
          have hSs8z7z6yd := Nat.le_trans hSz7z6yd (show z7z6yd.heap.size ≤ s8z7z6yd.heap.size by rw [hz_]; simp)
          clear hz_
          refine hK.out _ _ ?_ (fun hHeld => ?_)
          · exact HS.out _ hKs8z7z6yd
          clear hK Kq
          try simp only [N0]
          refine wpAnyH_ready (rs := [9]) (by kernel_rfl) (by simp) ?_
          refine AllReadyH.cons (o := _) rfl (fun Kq hK => ?_) AllReadyH.nil
          obtain ⟨e0, e1, g0, g1⟩ := two_facts hOq
          go_simp
          clear e0  e1  g0  g1
          obtain ⟨s9s8z7z6yd, hz_⟩ : ∃ z, z = ((s8z7z6yd.setCell ⟨z6yd.heap.size, 0, none⟩ (.int .i64 y.1)).setCell ⟨z6yd.heap.size, 1, none⟩ (.int .i64 y.2)) := ⟨_, rfl⟩
          rw [← hz_]
          have hN0 := (heap_sets2 s8z7z6yd z6yd.heap.size _ (.int .i64 y.1) (.int .i64 y.2) (by have := hNE; omega)).trans hOp
          rw [← hz_] at hN0
          have hOq := set_two s8z7z6yd z6yd.heap.size _ (.int .i64 y.1) (.int .i64 y.2) _ _ hOq
          rw [← hz_] at hOq
          have hOp := hN0
          clear hN0
          have hKs9s8z7z6yd := Lib.hid ((hKs8z7z6yd.out.set (p := ⟨z6yd.heap.size, 0, none⟩) (Or.inr hobq) (.int .i64 y.1)).set (p := ⟨z6yd.heap.size, 1, none⟩) (Or.inr hobq) (.int .i64 y.2))
          rw [← hz_] at hKs9s8z7z6yd
          have hSs9s8z7z6yd := Nat.le_trans hSs8z7z6yd (show s8z7z6yd.heap.size ≤ s9s8z7z6yd.heap.size by rw [hz_]; simp)
          clear hz_
          refine hK.out _ _ ?_ (fun hHeld => ?_)
          · exact HS.out _ hKs9s8z7z6yd
          clear hK Kq
          try simp only [N0]
          refine wpAnyH_done (by kernel_rfl) ?_ _
          go_wp2_with fail
          go_meet
          exact ⟨_, rfl, _, _, rfl, rfl, hOp, hOq, hKs9s8z7z6yd.out, hobp, hobq, by have := hNE; omega⟩
        refine AllReadyH.cons (o := _) rfl (fun Kq hK => ?_) AllReadyH.nil
        go_simp
        have hOq := heap_alloc_new yd (.cells #[.int .i64 0, .int .i64 0] 131)
        have hobq := hSyd
        have hKz7yd := Lib.hid (hKyd.out.alloc hSyd (.cells #[.int .i64 0, .int .i64 0] 131))
        have hSz7yd := Nat.le_trans hSyd ((Below.refl yd.heap.size yd).alloc (Nat.le_refl _) (.cells #[.int .i64 0, .int .i64 0] 131)).size
        generalize (yd.alloc (.cells #[.int .i64 0, .int .i64 0] 131)) = z7yd at *
        refine hK.out _ _ ?_ (fun hHeld => ?_)
        · exact HS.out _ hKz7yd
        clear hK Kq
        try simp only [N0]
        refine wpAnyH_ready (rs := [6]) (by kernel_rfl) (by simp) ?_
        refine AllReadyH.cons (o := _) rfl (fun Kq hK => ?_) AllReadyH.nil
        have hNE := (Array.getElem?_eq_some_iff.1 hOq).1
        go_simp
        have hOp := heap_alloc_new z7yd (.cells #[.int .i64 0, .int .i64 0] 131)
        have hobp := hSz7yd
        have hOq := keepO ((Below.refl z7yd.heap.size z7yd).alloc (Nat.le_refl _) (.cells #[.int .i64 0, .int .i64 0] 131)) hOq
        have hKz6z7yd := Lib.hid (hKz7yd.out.alloc hSz7yd (.cells #[.int .i64 0, .int .i64 0] 131))
        have hSz6z7yd := Nat.le_trans hSz7yd ((Below.refl z7yd.heap.size z7yd).alloc (Nat.le_refl _) (.cells #[.int .i64 0, .int .i64 0] 131)).size
        generalize (z7yd.alloc (.cells #[.int .i64 0, .int .i64 0] 131)) = z6z7yd at *
        refine hK.out _ _ ?_ (fun hHeld => ?_)
        · exact HS.out _ hKz6z7yd
        clear hK Kq
        try simp only [N0]
        refine wpAnyH_ready (rs := [8]) (by kernel_rfl) (by simp) ?_
        refine AllReadyH.cons (o := _) rfl (fun Kq hK => ?_) AllReadyH.nil
        obtain ⟨e0, e1, g0, g1⟩ := two_facts hOp
        go_simp
        clear e0  e1  g0  g1
        obtain ⟨s8z6z7yd, hz_⟩ : ∃ z, z = ((z6z7yd.setCell ⟨z7yd.heap.size, 0, none⟩ (.int .i64 y.1)).setCell ⟨z7yd.heap.size, 1, none⟩ (.int .i64 y.2)) := ⟨_, rfl⟩
        rw [← hz_]
        have hN0 := (heap_sets2 z6z7yd z7yd.heap.size _ (.int .i64 y.1) (.int .i64 y.2) (by have := hNE; omega)).trans hOq
        rw [← hz_] at hN0
        have hOp := set_two z6z7yd z7yd.heap.size _ (.int .i64 y.1) (.int .i64 y.2) _ _ hOp
        rw [← hz_] at hOp
        have hOq := hN0
        clear hN0
        have hKs8z6z7yd := Lib.hid ((hKz6z7yd.out.set (p := ⟨z7yd.heap.size, 0, none⟩) (Or.inr hobp) (.int .i64 y.1)).set (p := ⟨z7yd.heap.size, 1, none⟩) (Or.inr hobp) (.int .i64 y.2))
        rw [← hz_] at hKs8z6z7yd
        have hSs8z6z7yd := Nat.le_trans hSz6z7yd (show z6z7yd.heap.size ≤ s8z6z7yd.heap.size by rw [hz_]; simp)
        clear hz_
        refine hK.out _ _ ?_ (fun hHeld => ?_)
        · exact HS.out _ hKs8z6z7yd
        clear hK Kq
        try simp only [N0]
        refine wpAnyH_ready (rs := [9]) (by kernel_rfl) (by simp) ?_
        refine AllReadyH.cons (o := _) rfl (fun Kq hK => ?_) AllReadyH.nil
        obtain ⟨e0, e1, g0, g1⟩ := two_facts hOq
        go_simp
        clear e0  e1  g0  g1
        obtain ⟨s9s8z6z7yd, hz_⟩ : ∃ z, z = ((s8z6z7yd.setCell ⟨yd.heap.size, 0, none⟩ (.int .i64 y.1)).setCell ⟨yd.heap.size, 1, none⟩ (.int .i64 y.2)) := ⟨_, rfl⟩
        rw [← hz_]
        have hN0 := (heap_sets2 s8z6z7yd yd.heap.size _ (.int .i64 y.1) (.int .i64 y.2) (by have := hNE; omega)).trans hOp
        rw [← hz_] at hN0
        have hOq := set_two s8z6z7yd yd.heap.size _ (.int .i64 y.1) (.int .i64 y.2) _ _ hOq
        rw [← hz_] at hOq
        have hOp := hN0
        clear hN0
        have hKs9s8z6z7yd := Lib.hid ((hKs8z6z7yd.out.set (p := ⟨yd.heap.size, 0, none⟩) (Or.inr hobq) (.int .i64 y.1)).set (p := ⟨yd.heap.size, 1, none⟩) (Or.inr hobq) (.int .i64 y.2))
        rw [← hz_] at hKs9s8z6z7yd
        have hSs9s8z6z7yd := Nat.le_trans hSs8z6z7yd (show s8z6z7yd.heap.size ≤ s9s8z6z7yd.heap.size by rw [hz_]; simp)
        clear hz_
        refine hK.out _ _ ?_ (fun hHeld => ?_)
        · exact HS.out _ hKs9s8z6z7yd
        clear hK Kq
        try simp only [N0]
        refine wpAnyH_done (by kernel_rfl) ?_ _
        go_wp2_with fail
        go_meet
        exact ⟨_, rfl, _, _, rfl, rfl, hOp, hOq, hKs9s8z6z7yd.out, hobp, hobq, by have := hNE; omega⟩
      case rest =>
        clear S hSd HS HQ u0 u1
        obtain ⟨wr, rfl, b9, b10, rfl, rfl, h9, h10, hKr, hl9, hl10, hne⟩ := ‹∃ wl, wl = _ ∧ _›
        have HBr := Lib.hid (hBl.out.trans (hKr.below hBl.out.size (by simp)))
        have hX1 := Lib.hid ((hKr.block _ (by omega) (by simp)).trans HO1.out)
        have hX2 := Lib.hid ((hKr.block _ (by omega) (by simp)).trans HO2.out)
        have HRL := Lib.hid (HRL.out.below (hKr.below (Nat.le_refl _) (by simp)))
        have hA0 : Hid (wr.heap[b9]? = some (.cells #[.int .i64 (foldA (l.take 0) y).1, .int .i64 (foldA (l.take 0) y).2] 131 (0, 0))) := Lib.hid h9
        have hB0 : Hid (wr.heap[b10]? = some (.cells #[.int .i64 (foldB (l.take 0) y).1, .int .i64 (foldB (l.take 0) y).2] 131 (0, 0))) := Lib.hid h10
        have hwr : wq.heap.size ≤ wr.heap.size := hKr.size
        have hx9 : b9 < wr.heap.size := (Array.getElem?_eq_some_iff.1 h9).1
        have hx10 : b10 < wr.heap.size := (Array.getElem?_eq_some_iff.1 h10).1
        have hne' : b10 ≠ b9 := fun e => hne e.symm
        clear h9 h10 hKr hBl HO1 HO2
        go_wp2_with fail
        go_loopw [39] (fun vj wz => ∃ wl, wl = wz ∧ ∃ j : Nat, j ≤ m ∧ vj = .int .i64 j ∧ Hid (wl.heap[b9]? = some (.cells #[.int .i64 (foldA (l.take j) y).1, .int .i64 (foldA (l.take j) y).2] 131 (0, 0))) ∧ Hid (wl.heap[b10]? = some (.cells #[.int .i64 (foldB (l.take j) y).1, .int .i64 (foldB (l.take j) y).2] 131 (0, 0))) ∧ Hid (FY9 wr b9 b10 wl)) (fun vj _ => m - (intOf vj).toNat)
        case atStart => exact ⟨_, rfl, 0, by omega, rfl, hA0, hB0, Lib.hid (FY9.refl _ _ _)⟩
        case round =>
          clear hA0 hB0
          obtain ⟨wz, rfl, j, hj20, rfl, hA9, hB10, HBz⟩ := hrel
          by_cases hj : j < m
          · have hji : (j : Int) < (m : Int) := by omega
            have j0 : (0 : Int) ≤ (j : Int) := by omega
            obtain ⟨bA2, oA2, x, hAe, hbA2, hx, y0, y1⟩ := (HRL.out.keep9 HBz.out (by omega) (by omega)).pr hj
            simp only [Option.some.injEq, Addr.mk.injEq, and_true] at hAe
            obtain ⟨rfl, rfl⟩ := hAe
            have hsA := Lib.hid (foldA_step y hx)
            have hsB := Lib.hid (foldB_step y hx)
            obtain ⟨x1b, x2b, x3b, x4b⟩ := hall.out x (List.mem_of_getElem? hx)
            obtain ⟨a1b, a2b, a3b, a4b⟩ := hall.out _ (foldA_mem hy0.out j)
            obtain ⟨b1b, b2b, b3b, b4b⟩ := hall.out _ (foldB_mem hy0.out j)
            clear hx
            generalize foldA (l.take j) y = p at *
            generalize foldB (l.take j) y = q at *
            obtain ⟨zx, hzx⟩ : ∃ z, z = wz.alloc (.cells #[.int .i64 x.1, .int .i64 x.2] 131) := ⟨_, rfl⟩
            have hbx : Below wz.heap.size wz zx := by rw [hzx]; exact (Below.refl _ _).alloc (Nat.le_refl _) _
            have hBx := HBz.out.then_ hbx
            have hZx : zx.heap[wz.heap.size]? = some (.cells #[.int .i64 x.1, .int .i64 x.2] 131 (0, 0)) := by rw [hzx]; exact heap_alloc_new wz _
            have h9 := keepO hbx hA9.out
            have h10 := keepO hbx hB10.out
            have hbz9 : b9 < wz.heap.size := (Array.getElem?_eq_some_iff.1 hA9.out).1
            have hbz10 : b10 < wz.heap.size := (Array.getElem?_eq_some_iff.1 hB10.out).1
            obtain ⟨p0, p1, fp0, fp1⟩ := two_facts h9
            obtain ⟨q0, q1, fq0, fq1⟩ := two_facts h10
            rw [hzx] at p0 p1 fp0 fp1 q0 q1 fq0 fq1
            have e1 : IntKind.i64.wrap (x.1 * p.2) = x.1 * p.2 := wrap_mul x1b x2b (by omega) a4b
            have e2 : IntKind.i64.wrap (p.1 * x.2) = p.1 * x.2 := wrap_mul a1b a2b (by omega) x4b
            have e3 : IntKind.i64.wrap (x.1 * q.2) = x.1 * q.2 := wrap_mul x1b x2b (by omega) b4b
            have e4 : IntKind.i64.wrap (q.1 * x.2) = q.1 * x.2 := wrap_mul b1b b2b (by omega) x4b
            have hzxh := Lib.hid hzx
            clear hzx
            go_upto_if 53 with (fail)
            rw [← hzxh.out]
            clear p0 p1 fp0 fp1 q0 q1 fq0 fq1 hzxh
            obtain ⟨p0, p1, fp0, fp1⟩ := two_facts h9
            obtain ⟨q0, q1, fq0, fq1⟩ := two_facts h10
            obtain ⟨x0, x1, -, -⟩ := two_facts hZx
            go_cut [] from 40 to 67 (fun wx => ∃ wl, wl = wx ∧ Hid (wl.heap[b9]? = some (.cells #[.int .i64 (stepA p x).1, .int .i64 (stepA p x).2] 131 (0, 0))) ∧ Hid (wl.heap[b10]? = some (.cells #[.int .i64 q.1, .int .i64 q.2] 131 (0, 0))) ∧ Hid (wl.heap[wz.heap.size]? = some (.cells #[.int .i64 x.1, .int .i64 x.2] 131 (0, 0))) ∧ Hid (FY9 wr b9 b10 wl))
            case first =>
              by_cases hc : x.1 * p.2 < p.1 * x.2
              · have kA := Lib.hid (show stepA p x = x by unfold stepA; rw [if_pos hc])
                have r1 := Lib.hid (set_two _ b9 _ (.int .i64 x.1) (.int .i64 x.2) _ _ h9)
                have r2 := Lib.hid ((heap_sets2 _ b9 b10 (.int .i64 x.1) (.int .i64 x.2) (by omega)).trans h10)
                have r3 := Lib.hid ((heap_sets2 _ b9 wz.heap.size (.int .i64 x.1) (.int .i64 x.2) (by omega)).trans hZx)
                have r4 := Lib.hid (hBx.two (Or.inl rfl) (.int .i64 x.1) (.int .i64 x.2))
                clear h9 h10 hZx hBx q0 q1 fq0 fq1 hA9 hB10 HBz hbx
                go_wp2_with fail
                go_meet
                exact ⟨_, rfl, by rw [kA.out]; exact r1, r2, r3, r4⟩
              · have kA := Lib.hid (show stepA p x = p by unfold stepA; rw [if_neg hc])
                have r1 := Lib.hid h9
                have r2 := Lib.hid h10
                have r3 := Lib.hid hZx
                have r4 := Lib.hid hBx
                clear h9 h10 hZx hBx q0 q1 fq0 fq1 hA9 hB10 HBz hbx
                go_wp2_with fail
                go_meet
                exact ⟨_, rfl, by rw [kA.out]; exact r1, r2, r3, r4⟩
            case rest =>
              obtain ⟨wy, rfl, r1, r2, r3, r4⟩ := ‹∃ wl, wl = _ ∧ _›
              clear p0 p1 fp0 fp1 q0 q1 fq0 fq1 x0 x1 h9 h10 hZx hBx hA9 hB10 HBz hbx
              generalize wz.heap.size = sx at *
              obtain ⟨q0, q1, fq0, fq1⟩ := two_facts r2.out
              obtain ⟨x0, x1, -, -⟩ := two_facts r3.out
              by_cases hd : x.1 * q.2 > q.1 * x.2
              · have kB := Lib.hid (show stepB q x = x by unfold stepB; rw [if_pos hd])
                have HA : Hid (((wy.setCell ⟨b10, 0, none⟩ (.int .i64 x.1)).setCell ⟨b10, 1, none⟩ (.int .i64 x.2)).heap[b9]? = some (.cells #[.int .i64 (foldA (l.take (j + 1)) y).1, .int .i64 (foldA (l.take (j + 1)) y).2] 131 (0, 0))) := by show _ = _; rw [hsA.out]; exact (heap_sets2 wy b10 b9 (.int .i64 x.1) (.int .i64 x.2) (by omega)).trans r1.out
                have HB_ : Hid (((wy.setCell ⟨b10, 0, none⟩ (.int .i64 x.1)).setCell ⟨b10, 1, none⟩ (.int .i64 x.2)).heap[b10]? = some (.cells #[.int .i64 (foldB (l.take (j + 1)) y).1, .int .i64 (foldB (l.take (j + 1)) y).2] 131 (0, 0))) := by show _ = _; rw [hsB.out, kB.out]; exact set_two wy b10 _ (.int .i64 x.1) (.int .i64 x.2) _ _ r2.out
                have HL_ := Lib.hid (r4.out.two (Or.inr rfl) (.int .i64 x.1) (.int .i64 x.2))
                clear hsA hsB kB r1 r2 r3 r4
                go_wp2
                go_roundw
                case rel => exact ⟨_, rfl, j + 1, by omega, by go_num, HA, HB_, HL_⟩
                case measure => simp [intOf]; omega
              · have kB := Lib.hid (show stepB q x = q by unfold stepB; rw [if_neg hd])
                have HA : Hid (wy.heap[b9]? = some (.cells #[.int .i64 (foldA (l.take (j + 1)) y).1, .int .i64 (foldA (l.take (j + 1)) y).2] 131 (0, 0))) := by show _ = _; rw [hsA.out]; exact r1.out
                have HB_ : Hid (wy.heap[b10]? = some (.cells #[.int .i64 (foldB (l.take (j + 1)) y).1, .int .i64 (foldB (l.take (j + 1)) y).2] 131 (0, 0))) := by show _ = _; rw [hsB.out, kB.out]; exact r2.out
                clear hsA hsB kB r1 r2 r3
                go_wp2
                go_roundw
                case rel => exact ⟨_, rfl, j + 1, by omega, by go_num, HA, HB_, r4⟩
                case measure => simp [intOf]; omega
          · obtain rfl : j = m := by omega
            have hji : ¬ (j : Int) < (j : Int) := by omega
            have hful : Hid (l.take j = l) := by show _ = _; rw [List.take_of_length_le (by rw [HRL.out.pr_len]; omega)]
            rw [hful.out] at hA9 hB10
            obtain ⟨a1b, a2b, a3b, a4b⟩ := hall.out _ (by have := foldA_mem hy0.out j; rwa [hful.out] at this)
            obtain ⟨b1b, b2b, b3b, b4b⟩ := hall.out _ (by have := foldB_mem hy0.out j; rwa [hful.out] at this)
            generalize foldA l y = p at *
            generalize foldB l y = q at *
            have hX1 := (HBz.out.block (w.heap.size + 1) (by omega) (by omega) (by omega)).trans hX1.out
            have hX2 := (HBz.out.block (w.heap.size + 2) (by omega) (by omega) (by omega)).trans hX2.out
            have hBt := HBr.out.trans (HBz.out.below (by omega) (by omega) HBr.out.size)
            have h9 := hA9.out
            have h10 := hB10.out
            clear hA9 hB10 HBz HBr HRL
            go_wp2_with fail
            obtain ⟨wq, hwq⟩ : ∃ z, z = wz := ⟨_, rfl⟩
            rw [← hwq] at h9 h10 hX1 hX2 hBt ⊢
            clear hwq
            have hx9' : b9 < wq.heap.size := (Array.getElem?_eq_some_iff.1 h9).1
            have hx10' : b10 < wq.heap.size := (Array.getElem?_eq_some_iff.1 h10).1
            obtain ⟨q0, q1, -, -⟩ := two_facts h9
            obtain ⟨q2, q3, -, -⟩ := two_facts h10
            have HQ := Lib.hid (fun w' (hz : Hid (Kp wq.heap.size [w.heap.size + 1, w.heap.size + 2] wq w')) => (⟨(hz.out.cell (by simp only; omega) (by simp; try omega)).trans q0, (hz.out.cell (by simp only; omega) (by simp; try omega)).trans q1, (hz.out.cell (by simp only; omega) (by simp; try omega)).trans q2, (hz.out.cell (by simp only; omega) (by simp; try omega)).trans q3⟩ : w'.cell? ⟨b9, 0, none⟩ = some (.int .i64 p.1) ∧ w'.cell? ⟨b9, 1, none⟩ = some (.int .i64 p.2) ∧ w'.cell? ⟨b10, 0, none⟩ = some (.int .i64 q.1) ∧ w'.cell? ⟨b10, 1, none⟩ = some (.int .i64 q.2)))
            obtain ⟨S, hSd⟩ : ∃ S : World → Prop, S = fun w' => (w'.cell? ⟨b9, 0, none⟩ = some (.int .i64 p.1) ∧ w'.cell? ⟨b9, 1, none⟩ = some (.int .i64 p.2) ∧ w'.cell? ⟨b10, 0, none⟩ = some (.int .i64 q.1) ∧ w'.cell? ⟨b10, 1, none⟩ = some (.int .i64 q.2)) ∧ Hid (Kp wq.heap.size [w.heap.size + 1, w.heap.size + 2] wq w') := ⟨_, rfl⟩
            have HS := Lib.hid (fun w' (hz : Hid (Kp wq.heap.size [w.heap.size + 1, w.heap.size + 2] wq w')) => (by rw [hSd]; exact ⟨HQ.out w' hz, hz⟩ : S w'))
            clear q0 q1 q2 q3 h9 h10
            refine wp_region_held_drew (S := S) (by kernel_rfl) ?_ (fun hHeld => ?_)
            · exact HS.out _ (Lib.hid (Kp.refl _ _ _).drew)
            have hKyd : Hid (Kp wq.heap.size [w.heap.size + 1, w.heap.size + 2] wq wq.drew) := Lib.hid (Kp.refl _ _ _).drew
            have hSyd : wq.heap.size ≤ wq.drew.heap.size := Nat.le_refl _
            have hX1 := keepO (Below.refl wq.heap.size wq).drew hX1
            have hX2 := keepO (Below.refl wq.heap.size wq).drew hX2
            generalize wq.drew = yd at *
            refine tY (v := ?_) 0 68 ?_ ?_
            rotate_left
            · intro w hSw; rw [hSd] at hSw; obtain ⟨⟨q0, q1, q2, q3⟩, -⟩ := hSw; go_simp; (try with_reducible rfl)
            try simp only [N0]
            refine tY (v := ?_) 1 69 ?_ ?_
            rotate_left
            · intro w hSw; rw [hSd] at hSw; obtain ⟨⟨q0, q1, q2, q3⟩, -⟩ := hSw; go_simp; (try with_reducible rfl)
            try simp only [N0]
            refine tY (v := ?_) 2 70 ?_ ?_
            rotate_left
            · intro w hSw; rw [hSd] at hSw; obtain ⟨⟨q0, q1, q2, q3⟩, -⟩ := hSw; go_simp; (try with_reducible rfl)
            try simp only [N0]
            refine tY (v := ?_) 3 71 ?_ ?_
            rotate_left
            · intro w hSw; rw [hSd] at hSw; obtain ⟨⟨q0, q1, q2, q3⟩, -⟩ := hSw; go_simp; (try with_reducible rfl)
            try simp only [N0]
            refine tY (v := ?_) 5 73 ?_ ?_
            rotate_left
            · intro w hSw; rw [hSd] at hSw; obtain ⟨⟨q0, q1, q2, q3⟩, -⟩ := hSw; go_simp; (try with_reducible rfl)
            try simp only [N0]
            refine tY (v := ?_) 6 74 ?_ ?_
            rotate_left
            · intro w hSw; rw [hSd] at hSw; obtain ⟨⟨q0, q1, q2, q3⟩, -⟩ := hSw; go_simp; (try with_reducible rfl)
            try simp only [N0]
            refine tY (v := ?_) 7 75 ?_ ?_
            rotate_left
            · intro w hSw; rw [hSd] at hSw; obtain ⟨⟨q0, q1, q2, q3⟩, -⟩ := hSw; go_simp; (try with_reducible rfl)
            try simp only [N0]
            refine tY (v := ?_) 8 76 ?_ ?_
            rotate_left
            · intro w hSw; rw [hSd] at hSw; obtain ⟨⟨q0, q1, q2, q3⟩, -⟩ := hSw; go_simp; (try with_reducible rfl)
            try simp only [N0]
            refine wpAnyH_ready (rs := [4]) (by kernel_rfl) (by simp) ?_
            refine AllReadyH.cons (o := _) rfl (fun Kq hK => ?_) AllReadyH.nil
            go_simp
            refine (rLowest_any p.1 p.2 (by omega) (by omega) (by omega) (by omega) yd).mono ?_
            rintro e c4yd ⟨rfl, hb⟩
            have hKc4yd := Lib.hid (hKyd.out.call hSyd hb)
            have hX1 := keepO hb hX1
            have hX2 := keepO hb hX2
            have hSc4yd := Nat.le_trans hSyd hb.size
            generalize hL : redu p.1 p.2 = L at *
            have hLh := Lib.hid hL
            clear hL
            clear hb
            try go_simp
            refine hK.out _ _ ?_ (fun hHeld => ?_)
            · exact HS.out _ hKc4yd
            clear hK Kq
            try simp only [N0]
            refine wpAnyH_ready (rs := [9]) (by kernel_rfl) (by simp) ?_
            refine AllReadyH.cons (o := _) rfl (fun Kq hK => ?_) AllReadyH.nil
            go_simp
            refine (rLowest_any q.1 q.2 (by omega) (by omega) (by omega) (by omega) c4yd).mono ?_
            rintro e c9c4yd ⟨rfl, hb⟩
            have hKc9c4yd := Lib.hid (hKc4yd.out.call hSc4yd hb)
            have hX1 := keepO hb hX1
            have hX2 := keepO hb hX2
            have hSc9c4yd := Nat.le_trans hSc4yd hb.size
            generalize hM : redu q.1 q.2 = M at *
            have hMh := Lib.hid hM
            clear hM
            clear hb
            try go_simp
            refine hK.out _ _ ?_ (fun hHeld => ?_)
            · exact HS.out _ hKc9c4yd
            clear hK Kq
            try simp only [N0]
            refine wpAnyH_ready (rs := [10]) (by kernel_rfl) (by simp) ?_
            refine AllReadyH.cons (o := _) rfl (fun Kq hK => ?_) AllReadyH.nil
            obtain ⟨e0, e1, g0, g1⟩ := two_facts hX1
            go_simp
            clear e0  e1  g0  g1
            obtain ⟨s10c9c4yd, hz_⟩ : ∃ z, z = ((c9c4yd.setCell ⟨(w.heap.size + 1), 0, none⟩ (.int .i64 L.1)).setCell ⟨(w.heap.size + 1), 1, none⟩ (.int .i64 L.2)) := ⟨_, rfl⟩
            rw [← hz_]
            have hN0 := (heap_sets2 c9c4yd (w.heap.size + 1) _ (.int .i64 L.1) (.int .i64 L.2) (by omega)).trans hX2
            rw [← hz_] at hN0
            have hX1 := set_two c9c4yd (w.heap.size + 1) _ (.int .i64 L.1) (.int .i64 L.2) _ _ hX1
            rw [← hz_] at hX1
            have hX2 := hN0
            clear hN0
            have hKs10c9c4yd := Lib.hid ((hKc9c4yd.out.set (p := ⟨(w.heap.size + 1), 0, none⟩) (Or.inl (by simp)) (.int .i64 L.1)).set (p := ⟨(w.heap.size + 1), 1, none⟩) (Or.inl (by simp)) (.int .i64 L.2))
            rw [← hz_] at hKs10c9c4yd
            have hSs10c9c4yd := Nat.le_trans hSc9c4yd (show c9c4yd.heap.size ≤ s10c9c4yd.heap.size by rw [hz_]; simp)
            clear hz_
            refine hK.out _ _ ?_ (fun hHeld => ?_)
            · exact HS.out _ hKs10c9c4yd
            clear hK Kq
            try simp only [N0]
            refine wpAnyH_ready (rs := [11]) (by kernel_rfl) (by simp) ?_
            refine AllReadyH.cons (o := _) rfl (fun Kq hK => ?_) AllReadyH.nil
            obtain ⟨e0, e1, g0, g1⟩ := two_facts hX2
            go_simp
            clear e0  e1  g0  g1
            obtain ⟨s11s10c9c4yd, hz_⟩ : ∃ z, z = ((s10c9c4yd.setCell ⟨(w.heap.size + 2), 0, none⟩ (.int .i64 M.1)).setCell ⟨(w.heap.size + 2), 1, none⟩ (.int .i64 M.2)) := ⟨_, rfl⟩
            rw [← hz_]
            have hN0 := (heap_sets2 s10c9c4yd (w.heap.size + 2) _ (.int .i64 M.1) (.int .i64 M.2) (by omega)).trans hX1
            rw [← hz_] at hN0
            have hX2 := set_two s10c9c4yd (w.heap.size + 2) _ (.int .i64 M.1) (.int .i64 M.2) _ _ hX2
            rw [← hz_] at hX2
            have hX1 := hN0
            clear hN0
            have hKs11s10c9c4yd := Lib.hid ((hKs10c9c4yd.out.set (p := ⟨(w.heap.size + 2), 0, none⟩) (Or.inl (by simp)) (.int .i64 M.1)).set (p := ⟨(w.heap.size + 2), 1, none⟩) (Or.inl (by simp)) (.int .i64 M.2))
            rw [← hz_] at hKs11s10c9c4yd
            have hSs11s10c9c4yd := Nat.le_trans hSs10c9c4yd (show s10c9c4yd.heap.size ≤ s11s10c9c4yd.heap.size by rw [hz_]; simp)
            clear hz_
            refine hK.out _ _ ?_ (fun hHeld => ?_)
            · exact HS.out _ hKs11s10c9c4yd
            clear hK Kq
            try simp only [N0]
            refine wpAnyH_ready (rs := [12]) (by kernel_rfl) (by simp) ?_
            refine AllReadyH.cons (o := _) rfl (fun Kq hK => ?_) AllReadyH.nil
            go_simp
            refine hK.out _ _ ?_ (fun hHeld => ?_)
            · exact HS.out _ hKs11s10c9c4yd
            clear hK Kq
            try simp only [N0]
            refine wpAnyH_done (by kernel_rfl) ?_ _
            clear HS HQ hSd
            obtain ⟨e0, e1, -, -⟩ := two_facts hX1
            obtain ⟨e2, e3, -, -⟩ := two_facts hX2
            have hBe := hBt.trans (hKs11s10c9c4yd.out.below (B' := w.heap.size) (by omega) (by simp <;> omega))
            clear hX1 hX2 hBt
            go_wp2
            exact bodyPost_ret (v := .tuple #[.agg #[.int .i64 L.1, .int .i64 L.2], .agg #[.int .i64 M.1, .int .i64 M.2], .int .i64 0]) (by simp [results, Tryd.results29, go_sem, e0, e1, e2, e3]) rfl ⟨by rw [hY.out.1, hY.out.2.1, hY.out.2.2], hBe⟩
  · have hEh : Hid (yldE ps ws id = askE ps ws id 1 ∧ yldA ps ws id = (0, 0) ∧ yldB ps ws id = (0, 0)) := by show _ ∧ _ ∧ _; rw [askE_12]; unfold yldE yldA yldB; rw [if_neg h0, if_neg h0, if_neg h0]; exact ⟨rfl, rfl, rfl⟩
    rw [← askE_12] at h0
    have hX1 := hP.b1
    have hX2 := hP.b2
    have hBl := Lib.hid hP.bel
    clear hP hl
    obtain ⟨er, her⟩ : ∃ er, er = askE ps ws id 1 := ⟨_, rfl⟩
    rw [← her] at h0 hEh ⊢
    have h0b : (er == 0) = false := by simpa using h0
    clear her
    obtain ⟨e0, e1, f0, f1⟩ := two_facts hX1
    obtain ⟨e2, e3, f2, f3⟩ := two_facts hX2
    have hE4 := Lib.hid (four_set hX1 hX2 (by omega) (.int .i64 0) (.int .i64 0) (.int .i64 0) (.int .i64 0))
    have hBe := Lib.hid (below_two (below_two hBl.out (b := w.heap.size + 1) (by omega) (.int .i64 0) (.int .i64 0)) (b := w.heap.size + 2) (by omega) (.int .i64 0) (.int .i64 0))
    clear hX1 hX2
    go_wp2
    obtain ⟨x0, x1, x2, x3⟩ := hE4.out
    exact bodyPost_ret (v := .tuple #[.agg #[.int .i64 0, .int .i64 0], .agg #[.int .i64 0, .int .i64 0], .int .i64 er]) (by simp [results, Tryd.results29, go_sem, x0, x1, x2, x3]) rfl ⟨by rw [hEh.out.1, hEh.out.2.1, hEh.out.2.2], hBe.out⟩
end Go.Proofs.YtoakeclpakjbiaaDoor
namespace Go.Proofs.YtoakeclpakjbiaaDoor
open Go.RowKit
set_option linter.unusedVariables false
set_option linter.unusedSimpArgs false

theorem own_maxL {w : World} {base n size : Nat} {t : TypeId} {v : Value} {xs : List Value} (h : w.ownsRow base t size v n xs) : n ≤ maxLen := by
  rcases h.2 with ⟨-, h0⟩ | ⟨g1, cap', cur, h1, h2, h3, h4, h5, -⟩
  · rw [h0]; unfold maxLen; omega
  · omega
theorem alw_step {N D : Int} {l : List Sp} {j : Nat} {x : Sp} (h : l[j]? = some x) : alw (l.take (j + 1)) N D = (alw (l.take j) N D && decide (x.1 * D < x.2 * N)) := by
  unfold alw; rw [List.take_add_one, h, List.all_append]; simp
theorem nev_step {N D : Int} {l : List Sp} {j : Nat} {x : Sp} (h : l[j]? = some x) : nev (l.take (j + 1)) N D = (nev (l.take j) N D && !decide (x.1 * D < x.2 * N)) := by
  unfold nev; rw [List.take_add_one, h, List.all_append]; simp
theorem wrap_mul2 {a b : Int} (h1 : 0 ≤ a) (h2 : a ≤ 10000000) (h3 : 0 ≤ b) (h4 : b ≤ 1000) : IntKind.i64.wrap (a * b) = a * b := by
  have g1 : 0 ≤ a * b := Int.mul_nonneg h1 h3
  have g2 : a * b ≤ 10000000 * 1000 := Int.mul_le_mul h2 h4 h3 (by omega)
  exact IntWalk.i64_in _ (by omega)
theorem lesQ_law {o r a0 : Sp} {N D : Int} (h0 : 0 ≤ N) (hD : N ≤ D) (hb : 0 ≤ o.1 ∧ o.1 ≤ o.2 ∧ o.2 ≤ 1000000 ∧ 0 ≤ r.1 ∧ r.1 ≤ r.2 ∧ r.2 ≤ 10000000 ∧ 0 ≤ a0.1 ∧ a0.1 ≤ a0.2 ∧ a0.2 ≤ 10000000 ∧ o.1 + r.1 ≤ a0.1 ∧ a0.2 ≤ o.2 + r.2) :
    (alw (corn o r (max a0.1 0, a0.2)) N D = true → lesQ o r a0 N D = 2) ∧ (alw (corn o r (max a0.1 0, a0.2)) N D = false → nev (corn o r (max a0.1 0, a0.2)) N D = true → lesQ o r a0 N D = 0) ∧
      (alw (corn o r (max a0.1 0, a0.2)) N D = false → nev (corn o r (max a0.1 0, a0.2)) N D = false → lesQ o r a0 N D = 1) := by
  have e : (max a0.1 0, a0.2) = a0 := by
    have : max a0.1 0 = a0.1 := by omega
    rw [this]
  rw [e]
  have hM : Meets o r a0 := ⟨by omega, by omega, by omega, by omega, by omega⟩
  obtain ⟨e1, e2⟩ := less_law hM h0 hD
  rw [e1, e2]
  have hc := lesV_cases (p1 := o1 o r a0 * D - n1 o r a0 * N) (p2 := o2 o r a0 * D - n2 o r a0 * N) (x := lesQ o r a0 N D) rfl
  simp only [decide_eq_true_eq, decide_eq_false_iff_not]
  exact hc

/-- The copies of a press and of a part: the reference's. -/
structure PJ (w : World) (A A' : Option Addr) (n c n' c' : Nat) (N D : Int) (z : World) : Prop where
  b0 : z.heap[w.heap.size]? = some (.cells #[.slice A n c, .slice A' n' c'] 25 (0, 0))
  b1 : z.heap[w.heap.size + 1]? = some (.cells #[.int .i64 N, .int .i64 D] 61 (0, 0))
  bel : Below w.heap.size w z
section
variable {w z y : World} {A A' : Option Addr} {n c n' c' : Nat} {N D : Int}
theorem PJ.below (h : PJ w A A' n c n' c' N D z) (hb : Below z.heap.size z y) : PJ w A A' n c n' c' N D y := ⟨keepO hb h.b0, keepO hb h.b1, below_via h.bel h.bel.size hb⟩
theorem PJ.start (w : World) (A A' : Option Addr) (n c n' c' : Nat) (N D : Int) : PJ w A A' n c n' c' N D ((w.alloc (.cells #[.slice A n c, .slice A' n' c'] 25)).alloc (.cells #[.int .i64 N, .int .i64 D] 61)) := by
  have h1 := heap_alloc_new (w.alloc (.cells #[.slice A n c, .slice A' n' c'] 25)) (.cells #[.int .i64 N, .int .i64 D] 61)
  simp only [World.size_alloc] at h1
  refine ⟨?_, h1, ((Below.refl _ _).alloc (Nat.le_refl _) _).alloc (by simp) _⟩
  rw [heap_lt_alloc' _ _ _ (by simp)]; exact heap_alloc_new w _
theorem PJ.cells (h : PJ w A A' n c n' c' N D z) : z.cell? ⟨w.heap.size, 0, none⟩ = some (.slice A n c) ∧ z.cell? ⟨w.heap.size, 1, none⟩ = some (.slice A' n' c') := by
  obtain ⟨a, b, -, -⟩ := two_facts h.b0
  exact ⟨a, b⟩
end

set_option maxRecDepth 100000 in
set_option maxHeartbeats 4000000 in
theorem rLess_any (A A' : Option Addr) (n c n' c' : Nat) (ps : List PR) (ws : List WE) (id N D : Int) (w : World) (hnm : n ≤ maxLen) (hnm' : n' ≤ maxLen) (hR : Reads w w.heap.size 4 A n (pgs ps)) (hW : Reads w w.heap.size 5 A' n' (wgs ws)) :
    Calls Tryd.prog 31 #[.agg #[.slice A n c, .slice A' n' c'], .int .i64 id, .agg #[.int .i64 N, .int .i64 D]] w fun e w' => e = .returned (.tuple #[.int .u8 (lesK ps ws id N D), .int .i64 (lesE ps ws id N D)]) ∧ Below w.heap.size w w' := by
  have hl : ps.length = n := hR.pg_len
  have HRd := Lib.hid (fun z (hz : Below w.heap.size w z) => (hR.below hz).more hz.size)
  have HWd := Lib.hid (fun z (hz : Below w.heap.size w z) => (hW.below hz).more hz.size)
  have HP0 := Lib.hid (PJ.start w A A' n c n' c' N D)
  have HK0 : Hid (lesE ps ws id N D ≠ 0 → lesK ps ws id N D = 0) := fun h => by unfold lesK; rw [if_neg h]
  clear hR hW
  go_enter Tryd.func31, Tryd.ntmps31
  go_wp2_with fail
  refine (Press_any A A' n c n' c' ps ws _ hnm hnm' (HRd.out _ HP0.out.bel) (HWd.out _ HP0.out.bel)).mono ?_
  rintro e za ⟨rfl, hb⟩
  have HPza := Lib.hid (HP0.out.below hb)
  clear hb HP0
  cases hv : validP ps ws
  · have hs : Hid (lesE ps ws id N D = 20) := by show _ = _; unfold lesE; rw [hv]; rfl
    clear hv hl
    go_wp2
    exact bodyPost_ret (v := .tuple #[.int .u8 0, .int .i64 20]) (by simp [results, Tryd.results31, go_sem]) rfl ⟨by rw [HK0.out (by rw [hs.out]; decide), hs.out], HPza.out.bel⟩
  have hvh := Lib.hid hv
  obtain ⟨p0, p1⟩ := HPza.out.cells
  have HA : Hid (lesE ps ws id N D = if idxP ps id < 0 then 6 else if (rng 1 1000 D && rng 0 D N) then if hasT ps ws then 0 else 8 else 2) := by show _ = _; unfold lesE; rw [hv, if_pos rfl]
  clear hv
  go_wp2_with fail
  refine (Pressing_any A A' n c n' c' ps id _ hnm (HRd.out _ HPza.out.bel)).mono ?_
  rintro e zb ⟨rfl, hb⟩
  have HPzb := Lib.hid (HPza.out.below hb)
  clear hb p0 p1
  have hj0 := (idxP_bound ps id).1
  have hj1 := (idxP_bound ps id).2
  by_cases hj : idxP ps id < 0
  · have hs : Hid (lesE ps ws id N D = 6) := by show _ = _; rw [HA.out, if_pos hj]
    generalize idxP ps id = jx at *
    clear hl hj0 hj1
    go_wp2
    exact bodyPost_ret (v := .tuple #[.int .u8 0, .int .i64 6]) (by simp [results, Tryd.results31, go_sem]) rfl ⟨by rw [HK0.out (by rw [hs.out]; decide), hs.out], HPzb.out.bel⟩
  rw [if_neg hj] at HA
  obtain ⟨i, hi⟩ : ∃ i : Nat, idxP ps id = i := ⟨(idxP ps id).toNat, by omega⟩
  have hin : i < n := by omega
  have hih := Lib.hid hi
  rw [hi] at hj ⊢
  clear hi hj0 hj1
  have hjn : ¬ (i : Int) < 0 := hj
  obtain ⟨d0, d1, -, -⟩ := two_facts HPzb.out.b1
  go_wp2_with fail
  refine (withinR D 1 1000 zb).mono ?_
  rintro e zc ⟨rfl, rfl⟩
  cases hk : rng 1 1000 D
  · have hs : Hid (lesE ps ws id N D = 2) := by show _ = _; rw [HA.out, hk]; rfl
    clear hk hl d0 d1
    go_wp2
    exact bodyPost_ret (v := .tuple #[.int .u8 0, .int .i64 2]) (by simp [results, Tryd.results31, go_sem]) rfl ⟨by rw [HK0.out (by rw [hs.out]; decide), hs.out], HPzb.out.bel⟩
  have hD := rng_iff hk
  have hkh := Lib.hid hk
  clear hk
  go_wp2_with fail
  refine (withinR N 0 D zc).mono ?_
  rintro e zd ⟨rfl, rfl⟩
  cases hk : rng 0 D N
  · have hs : Hid (lesE ps ws id N D = 2) := by show _ = _; rw [HA.out, hkh.out, hk]; rfl
    clear hk hl d0 d1
    go_wp2
    exact bodyPost_ret (v := .tuple #[.int .u8 0, .int .i64 2]) (by simp [results, Tryd.results31, go_sem]) rfl ⟨by rw [HK0.out (by rw [hs.out]; decide), hs.out], HPzb.out.bel⟩
  have hN := rng_iff hk
  have HA4 : Hid (lesE ps ws id N D = if hasT ps ws then 0 else 8) := by show _ = _; rw [HA.out, hkh.out, hk]; rfl
  clear hk d0 d1 HA hkh
  obtain ⟨p0, p1⟩ := HPzb.out.cells
  go_wp2_with fail
  refine (RTrue_any A A' n c n' c' ps ws zd (HRd.out _ HPzb.out.bel) (HWd.out _ HPzb.out.bel) hvh.out).mono ?_
  rintro e wq ⟨rfl, hb⟩
  have hP := HPzb.out.below hb
  clear hb p0 p1 HPza HPzb
  cases ht : hasT ps ws
  · have hs : Hid (lesE ps ws id N D = 8) := by show _ = _; rw [HA4.out, ht]; rfl
    have hBz := Lib.hid hP.bel
    clear ht hl hP
    go_wp2
    exact bodyPost_ret (v := .tuple #[.int .u8 0, .int .i64 8]) (by simp [results, Tryd.results31, go_sem]) rfl ⟨by rw [HK0.out (by rw [hs.out]; decide), hs.out], hBz.out⟩
  have hs : Hid (lesE ps ws id N D = 0) := by show _ = _; rw [HA4.out, ht]; rfl
  have hBd := Lib.hid (oia_bounds (valid_facts hvh.out) ht (i := i) (by omega))
  have hKs := Lib.hid (show lesK ps ws id N D = lesQ (spanSp ps ws i 2) (othSp ps ws i) (inSp ps ws i) N D by unfold lesK; rw [if_pos hs.out, hih.out]; rfl)
  have hlq := Lib.hid (lesQ_law hN.1 hN.2 hBd.out)
  have hcb := Lib.hid (corn_bnd hBd.out 0)
  have hth := Lib.hid ht
  clear ht hl HA4 HK0
  obtain ⟨p0, p1⟩ := hP.cells
  have hBq := hP.bel
  have hX1 := hP.b1
  have hwz : w.heap.size + 1 < wq.heap.size := (Array.getElem?_eq_some_iff.1 hP.b1).1
  go_wp2_with fail
  have HQ := Lib.hid (fun w' (hz : Hid (Kp wq.heap.size [] wq w')) => (⟨(hz.out.cell (by simp only; omega) (by simp; try omega)).trans p0, (hz.out.cell (by simp only; omega) (by simp; try omega)).trans p1⟩ : w'.cell? ⟨w.heap.size, 0, none⟩ = some (.slice A n c) ∧ w'.cell? ⟨w.heap.size, 1, none⟩ = some (.slice A' n' c')))
  obtain ⟨S, hSd⟩ : ∃ S : World → Prop, S = fun w' => (w'.cell? ⟨w.heap.size, 0, none⟩ = some (.slice A n c) ∧ w'.cell? ⟨w.heap.size, 1, none⟩ = some (.slice A' n' c')) ∧ Hid (Kp wq.heap.size [] wq w') := ⟨_, rfl⟩
  have HS := Lib.hid (fun w' (hz : Hid (Kp wq.heap.size [] wq w')) => (by rw [hSd]; exact ⟨HQ.out w' hz, hz⟩ : S w'))
  clear p0 p1 hP
  refine wp_region_held_drew (S := S) (by kernel_rfl) ?_ (fun hHeld => ?_)
  · exact HS.out _ (Lib.hid (Kp.refl _ _ _).drew)
  have hKyd : Hid (Kp wq.heap.size [] wq wq.drew) := Lib.hid (Kp.refl _ _ _).drew
  have hSyd : wq.heap.size ≤ wq.drew.heap.size := Nat.le_refl _
  generalize wq.drew = yd at *
  refine tkY (v := ?_) 0 34 rfl rfl (by kernel_rfl) (by kernel_rfl) (by kernel_rfl) (fun _ _ _ h => h) (by kernel_rfl) ?_ (by assumption) ?_
  rotate_left
  · intro w hSw; rw [hSd] at hSw; obtain ⟨⟨q0, q1⟩, -⟩ := hSw; go_simp; (try with_reducible rfl)
  try simp only [Act.put, List.setIfInBounds_toArray, List.set_cons_zero, List.set_cons_succ]
  refine tkY (v := ?_) 1 35 rfl rfl (by kernel_rfl) (by kernel_rfl) (by kernel_rfl) (fun _ _ _ h => h) (by kernel_rfl) ?_ (by assumption) ?_
  rotate_left
  · intro w hSw; rw [hSd] at hSw; obtain ⟨⟨q0, q1⟩, -⟩ := hSw; go_simp; (try with_reducible rfl)
  try simp only [Act.put, List.setIfInBounds_toArray, List.set_cons_zero, List.set_cons_succ]
  refine tkY (v := ?_) 2 36 rfl rfl (by kernel_rfl) (by kernel_rfl) (by kernel_rfl) (fun _ _ _ h => h) (by kernel_rfl) ?_ (by assumption) ?_
  rotate_left
  · intro w hSw; rw [hSd] at hSw; obtain ⟨⟨q0, q1⟩, -⟩ := hSw; go_simp; (try with_reducible rfl)
  try simp only [Act.put, List.setIfInBounds_toArray, List.set_cons_zero, List.set_cons_succ]
  refine tkY (v := ?_) 6 40 rfl rfl (by kernel_rfl) (by kernel_rfl) (by kernel_rfl) (fun _ _ _ h => h) (by kernel_rfl) ?_ (by assumption) ?_
  rotate_left
  · intro w hSw; rw [hSd] at hSw; obtain ⟨⟨q0, q1⟩, -⟩ := hSw; go_simp; (try with_reducible rfl)
  try simp only [Act.put, List.setIfInBounds_toArray, List.set_cons_zero, List.set_cons_succ]
  refine wpAnyH_ready (rs := [3]) (by kernel_rfl) (by simp) ?_
  refine AllReadyH.cons (o := _) rfl (fun Kq hK => ?_) AllReadyH.nil
  go_simp
  refine (Pressing_any A A' n c n' c' ps id yd hnm (HRd.out _ (hBq.trans (hKyd.out.below hBq.size (by simp))))).mono ?_
  rintro e c3yd ⟨rfl, hb⟩
  have hKc3yd := Lib.hid (hKyd.out.call hSyd hb)
  have hSc3yd := Nat.le_trans hSyd hb.size
  rw [hih.out]
  clear hb
  try go_simp
  refine hK.out _ _ ?_ (fun hHeld => ?_)
  · exact HS.out _ hKc3yd
  clear hK Kq
  try simp only [Act.put, List.setIfInBounds_toArray, List.set_cons_zero, List.set_cons_succ]
  refine wpAnyH_ready (rs := [4]) (by kernel_rfl) (by simp) ?_
  refine AllReadyH.cons (o := _) rfl (fun Kq hK => ?_) AllReadyH.nil
  go_simp
  refine (corners_any A A' n c n' c' ps ws i 0 c3yd ((HRd.out _ (hBq.trans (hKc3yd.out.below hBq.size (by simp))))) ((HWd.out _ (hBq.trans (hKc3yd.out.below hBq.size (by simp))))) hvh.out hth.out hin (by omega)).mono ?_
  rintro e c4c3yd ⟨⟨Al, m, cl, rfl, hol⟩, hb⟩
  have hKc4c3yd := Lib.hid (hKc3yd.out.call hSc3yd hb)
  have hSc4c3yd := Nat.le_trans hSc3yd hb.size
  have HOl := Lib.hid hol
  have hBl := Lib.hid (hBq.trans (hKc4c3yd.out.below hBq.size (by simp)))
  have hX1 := (hKc4c3yd.out.block _ (by omega) (by simp)).trans hX1
  clear hb
  try go_simp
  refine hK.out _ _ ?_ (fun hHeld => ?_)
  · exact HS.out _ hKc4c3yd
  clear hK Kq
  try simp only [Act.put, List.setIfInBounds_toArray, List.set_cons_zero, List.set_cons_succ]
  refine wpAnyH_ready (rs := [5]) (by kernel_rfl) (by simp) ?_
  refine AllReadyH.cons (o := _) rfl (fun Kq hK => ?_) AllReadyH.nil
  go_simp
  refine hK.out _ _ ?_ (fun hHeld => ?_)
  · exact HS.out _ hKc4c3yd
  clear hK Kq
  try simp only [Act.put, List.setIfInBounds_toArray, List.set_cons_zero, List.set_cons_succ]
  refine wpAnyH_done (by kernel_rfl) ?_ _
  clear HS HQ hSd hBq hwz
  obtain ⟨wr, hwr⟩ : ∃ z, z = c4c3yd := ⟨_, rfl⟩
  rw [← hwr] at HOl hBl hX1 ⊢
  clear hwr hKc4c3yd hSc4c3yd
  generalize corn (spanSp ps ws i 2) (othSp ps ws i) (max (inSp ps ws i).1 0, (inSp ps ws i).2) = l at *
  have HRL := Lib.hid (Reads.of_own HOl.out)
  have hlen := HRL.out.pr_len
  have hm20 : Hid (m ≤ maxLen) := own_maxL HOl.out
  have HX1 := Lib.hid hX1
  clear HOl hX1
  have hm20 := hm20.out
  unfold maxLen at hm20
  go_wp2_with fail
  go_loopw [8, 9, 40] (fun va vn vj wz => ∃ wl, wl = wz ∧ ∃ j : Nat, j ≤ m ∧ va = .bool (alw (l.take j) N D) ∧ vn = .bool (nev (l.take j) N D) ∧ vj = .int .i64 j ∧ Hid (Below wr.heap.size wr wl)) (fun _ _ vj _ => m - (intOf vj).toNat)
  case atStart => exact ⟨_, rfl, 0, by omega, rfl, rfl, rfl, Lib.hid (Below.refl _ _)⟩
  case round =>
    obtain ⟨wz, rfl, j, hj20, rfl, rfl, rfl, HBz⟩ := hrel
    by_cases hj : j < m
    · have hji : (j : Int) < (m : Int) := by omega
      have j0 : (0 : Int) ≤ (j : Int) := by omega
      obtain ⟨bA, oA, x, rfl, hbA, hx, y0, y1⟩ := (HRL.out.below HBz.out).pr hj
      have hsA := Lib.hid (alw_step (N := N) (D := D) hx)
      have hsB := Lib.hid (nev_step (N := N) (D := D) hx)
      obtain ⟨x1b, x2b, x3b, x4b⟩ := hcb.out x (List.mem_of_getElem? hx)
      clear hx
      obtain ⟨zx, hzx⟩ : ∃ z, z = wz.alloc (.cells #[.int .i64 x.1, .int .i64 x.2] 131) := ⟨_, rfl⟩
      have hbx : Below wz.heap.size wz zx := by rw [hzx]; exact (Below.refl _ _).alloc (Nat.le_refl _) _
      have hBx := Lib.hid (below_via HBz.out HBz.out.size hbx)
      have h1 := keepO hBx.out HX1.out
      obtain ⟨d0, d1, -, -⟩ := two_facts h1
      rw [hzx] at d0 d1 hBx
      have e1 : IntKind.i64.wrap (x.1 * D) = x.1 * D := wrap_mul2 x1b (by omega) (by omega) (by omega)
      have e2 : IntKind.i64.wrap (x.2 * N) = x.2 * N := wrap_mul2 (by omega) x4b (by omega) (by omega)
      clear hzx hbx h1
      generalize alw (l.take j) N D = fa at *
      generalize nev (l.take j) N D = fn at *
      by_cases hc : x.1 * D < x.2 * N
      · have kA : Hid (alw (l.take (j + 1)) N D = fa) := by show _ = _; rw [hsA.out, decide_eq_true hc, Bool.and_true]
        have kB : Hid (nev (l.take (j + 1)) N D = false) := by show _ = _; rw [hsB.out, decide_eq_true hc]; simp
        clear hsA hsB HBz
        go_wp2
        go_roundw
        case rel => exact ⟨_, rfl, j + 1, by omega, by rw [kA.out], by rw [kB.out], by go_num, hBx⟩
        case measure => simp [intOf]; omega
      · have kA : Hid (alw (l.take (j + 1)) N D = false) := by show _ = _; rw [hsA.out, decide_eq_false hc, Bool.and_false]
        have kB : Hid (nev (l.take (j + 1)) N D = fn) := by show _ = _; rw [hsB.out, decide_eq_false hc]; simp
        clear hsA hsB HBz
        go_wp2
        go_roundw
        case rel => exact ⟨_, rfl, j + 1, by omega, by rw [kA.out], by rw [kB.out], by go_num, hBx⟩
        case measure => simp [intOf]; omega
    · obtain rfl : j = m := by omega
      have hji : ¬ (j : Int) < (j : Int) := by omega
      have hful : Hid (l.take j = l) := by show _ = _; rw [List.take_of_length_le (by omega)]
      rw [hful.out]
      have hBt := Lib.hid (below_via hBl.out hBl.out.size HBz.out)
      clear HBz hBl HRL HX1 hlen
      cases ha : alw l N D
      · cases hn : nev l N D
        · have hk := Lib.hid (hKs.out.trans (hlq.out.2.2 ha hn))
          clear ha hn
          go_wp2
          exact bodyPost_ret (v := .tuple #[.int .u8 1, .int .i64 0]) (by simp [results, Tryd.results31, go_sem]) rfl ⟨by rw [hk.out, hs.out], hBt.out⟩
        · have hk := Lib.hid (hKs.out.trans (hlq.out.2.1 ha hn))
          clear ha hn
          go_wp2
          exact bodyPost_ret (v := .tuple #[.int .u8 0, .int .i64 0]) (by simp [results, Tryd.results31, go_sem]) rfl ⟨by rw [hk.out, hs.out], hBt.out⟩
      · have hk := Lib.hid (hKs.out.trans (hlq.out.1 ha))
        clear ha
        go_wp2
        exact bodyPost_ret (v := .tuple #[.int .u8 2, .int .i64 0]) (by simp [results, Tryd.results31, go_sem]) rfl ⟨by rw [hk.out, hs.out], hBt.out⟩
end Go.Proofs.YtoakeclpakjbiaaDoor
