/-
  The walk of the program's shaft with one stamper more.
-/
import Derived.Test.YtlmmjaolmmcklaaDoorAddR
import Derived.Deep.DeepCutAuto
namespace Go.Proofs.YtlmmjaolmmcklaaDoor
open Go.RowKit
set_option linter.unusedVariables false
set_option linter.unusedSimpArgs false

/-- Between two operations: the three boxes of the call, and all that was there before. -/
structure GF (w : World) (M : Int) (A : Option Addr) (n c : Nat) (C U P : Int) (x : World) : Prop where
  b0 : x.heap[w.heap.size]? = some (.cells #[.int .i64 M, .slice A n c] 24 (0, 0))
  b1 : x.heap[w.heap.size + 1]? = some (.cells #[.int .i64 C, .int .i64 U, .int .i64 P] 27 (0, 0))
  b2 : x.heap[w.heap.size + 2]? = some (.cells #[.int .i64 0, .slice none 0 0] 24 (0, 0))
  bel : Below w.heap.size w x
  size : w.heap.size + 3 ≤ x.heap.size

theorem below_undrew {B : Nat} {a b : World} (h : Below B a.drew b) : Below B a b := ⟨h.os, h.tape, h.output, h.size, h.block⟩
section
variable {w x y : World} {M : Int} {A : Option Addr} {n c : Nat} {C U P : Int}
theorem GF.alloc (h : GF w M A n c C U P x) (o : Obj) : GF w M A n c C U P (x.alloc o) :=
  have hz := h.size
  ⟨(heap_lt_alloc _ _ _ (by omega)).trans h.b0, (heap_lt_alloc _ _ _ (by omega)).trans h.b1, (heap_lt_alloc _ _ _ (by omega)).trans h.b2, h.bel.alloc (by omega) _, by simp; omega⟩
theorem GF.below (h : GF w M A n c C U P x) (hb : Below x.heap.size x y) : GF w M A n c C U P y :=
  have hz := h.size
  ⟨(hb.block _ (by omega)).trans h.b0, (hb.block _ (by omega)).trans h.b1, (hb.block _ (by omega)).trans h.b2, below_via h.bel (by omega) hb, Nat.le_trans hz hb.size⟩
theorem GF.grown {row : Option Nat} (h : GF w M A n c C U P x) (hg : x.grownBy y row) (hr : ∀ k, row = some k → w.heap.size + 3 ≤ k) : GF w M A n c C U P y :=
  have hz := h.size
  ⟨(hg.block _ (by omega) (fun e => by have := hr _ e.symm; omega)).trans h.b0, (hg.block _ (by omega) (fun e => by have := hr _ e.symm; omega)).trans h.b1, (hg.block _ (by omega) (fun e => by have := hr _ e.symm; omega)).trans h.b2,
    h.bel.grown hg (by omega) (fun k hk => by have := hr k hk; omega), Nat.le_trans hz hg.size⟩
theorem GF.c00 (h : GF w M A n c C U P x) : x.cell? ⟨w.heap.size, 0, none⟩ = some (.int .i64 M) := by simp [World.cell?, h.b0]
theorem GF.c01 (h : GF w M A n c C U P x) : x.cell? ⟨w.heap.size, 1, none⟩ = some (.slice A n c) := by simp [World.cell?, h.b0]
theorem GF.f01 (h : GF w M A n c C U P x) : x.frozen? ⟨w.heap.size, 1, none⟩ = false := by simp [World.frozen?, h.b0]
theorem GF.c20 (h : GF w M A n c C U P x) : x.cell? ⟨w.heap.size + 2, 0, none⟩ = some (.int .i64 0) := by simp [World.cell?, h.b2]
theorem GF.c21 (h : GF w M A n c C U P x) : x.cell? ⟨w.heap.size + 2, 1, none⟩ = some (.slice none 0 0) := by simp [World.cell?, h.b2]
theorem GF.f20 (h : GF w M A n c C U P x) : x.frozen? ⟨w.heap.size + 2, 0, none⟩ = false := by simp [World.frozen?, h.b2]
theorem GF.f21 (h : GF w M A n c C U P x) : x.frozen? ⟨w.heap.size + 2, 1, none⟩ = false := by simp [World.frozen?, h.b2]
theorem GF.reads {l : List (Int × Int × Int)} (h : GF w M A n c C U P x) (hR : Reads w w.heap.size 3 A n (sts l)) : Reads x x.heap.size 3 A n (sts l) :=
  (hR.below h.bel).more (by have := h.size; omega)
theorem GF.weak (h : GF w M A n c C U P x) : x.heap[w.heap.size + 1]? = some (.cells #[.int .i64 C, .int .i64 U, .int .i64 P] 27 (0, 0)) := h.b1
theorem GF.store (h : GF w M A n c C U P x) (u : Value) : (x.setCell ⟨w.heap.size, 1, none⟩ u).heap[w.heap.size + 1]? = some (.cells #[.int .i64 C, .int .i64 U, .int .i64 P] 27 (0, 0)) :=
  (Below.heap_setCell x _ u _ (by simp)).trans h.b1
theorem GF.after {A' : Option Addr} {m c' : Nat} {xs : List Value} (h : GF w M A n c C U P x) (ho : x.ownsRow (w.heap.size + 3) 27 3 (.slice A' m c') m xs) :
    GF w M A' m c' C U P (x.setCell ⟨w.heap.size, 1, none⟩ (.slice A' m c')) ∧ (x.setCell ⟨w.heap.size, 1, none⟩ (.slice A' m c')).ownsRow (w.heap.size + 3) 27 3 (.slice A' m c') m xs := by
  refine ⟨⟨?_, (Below.heap_setCell x _ _ _ (by simp)).trans h.b1, (Below.heap_setCell x _ _ _ (by simp)).trans h.b2, h.bel.setCell (by simp) _, by have := h.size; simpa [World.setCell] using this⟩, own_far ho (by simp) _⟩
  simp [World.setCell, Array.getElem?_modify, h.b0]
end
theorem reads_blk {W : World} {b B n size : Nat} {cs : Array Value} {t : TypeId} (h : W.heap[b]? = some (.cells cs t (0, 0))) (hs : cs.size = n * size) (hB : b < B) : Reads W B size (some ⟨b, 0, none⟩) n cs.toList :=
  ⟨by simpa using hs, fun _ => ⟨b, 0, rfl, hB, fun j u hu => by
    rw [show W.cell? ⟨b, 0 + j, none⟩ = cs[0 + j]? from by simp [World.cell?, h]]; simpa using hu⟩⟩
theorem stc_one (x : Int × Int × Int) : ∀ u ∈ stc x, u.oneCell' = true := by
  intro u hu; simp [stc] at hu; rcases hu with rfl | rfl | rfl <;> rfl

set_option maxHeartbeats 4000000 in
theorem add_any (M : Int) (A : Option Addr) (n c : Nat) (l : List (Int × Int × Int)) (C U P : Int) (w : World) (hn : n ≤ 4096) (hR : Reads w w.heap.size 3 A n (sts l)) (hL : Laid w) :
    Calls Tryd.prog 11 #[.agg #[.int .i64 M, .slice A n c], .agg #[.int .i64 C, .int .i64 U, .int .i64 P]] w fun e w' =>
      ∃ v, e = .returned (.tuple #[.agg #[.int .i64 (addS M l (C, U, P)).1.1, v], .int .i64 (addS M l (C, U, P)).2]) ∧
        w'.ownsRow w.heap.size 27 3 v (addS M l (C, U, P)).1.2.length (sts (addS M l (C, U, P)).1.2) ∧ Below w.heap.size w w' := by
  have hl := hR.st_len
  obtain ⟨wb, hwb⟩ : ∃ wb : World, wb = ((w.alloc (.cells #[.int .i64 M, .slice A n c] 24)).alloc (.cells #[.int .i64 C, .int .i64 U, .int .i64 P] 27)).alloc (.cells #[.int .i64 0, .slice none 0 0] 24) := ⟨_, rfl⟩
  have Gb : Hid (GF w M A n c C U P wb) := by
    refine ⟨?_, ?_, ?_, ?_, ?_⟩
    · rw [hwb, heap_lt_alloc _ _ _ (by simp; omega), heap_lt_alloc _ _ _ (by simp)]; exact heap_alloc_new w _
    · rw [hwb, heap_lt_alloc _ _ _ (by simp)]; have := heap_alloc_new (w.alloc (.cells #[.int .i64 M, .slice A n c] 24)) (.cells #[.int .i64 C, .int .i64 U, .int .i64 P] 27); simpa using this
    · rw [hwb]; have := heap_alloc_new ((w.alloc (.cells #[.int .i64 M, .slice A n c] 24)).alloc (.cells #[.int .i64 C, .int .i64 U, .int .i64 P] 27)) (.cells #[.int .i64 0, .slice none 0 0] 24); simpa using this
    · rw [hwb]; exact (((Below.refl _ _).alloc (Nat.le_refl _) _).alloc (by simp) _).alloc (by simp; omega) _
    · rw [hwb]; simp
  have hR0 := Lib.hid hR
  have HL0 := Lib.hid hL
  have H1 := Lib.hid (Sound_any M A n c l wb (by unfold maxLen; omega) (Gb.out.reads hR) (hL.below Gb.out.bel hL.2.2))
  clear hR hL
  cases h1 : shaftB M l
  · have hf : Hid (addS M l (C, U, P) = ((0, []), 102)) := by show addS M l (C, U, P) = _; unfold addS; rw [h1]; rfl
    have e1 : soundS M l = 102 := by unfold soundS; rw [h1]; rfl
    rw [e1] at H1
    rw [hf.out]
    clear h1 e1
    go_enter Tryd.func11, Tryd.ntmps11
    go_wp2_with fail
    rw [← hwb]
    refine H1.out.mono ?_
    rintro e w1 ⟨rfl, hb1⟩
    have G1 := Lib.hid (Gb.out.below hb1)
    have m2 := G1.out.c20
    have m3 := G1.out.c21
    have f2 := G1.out.f20
    have f3 := G1.out.f21
    clear hb1 hwb
    go_wp2
    exact bodyPost_ret (v := .tuple #[.agg #[.int .i64 0, .slice none 0 0], .int .i64 102]) (by simp [results, Tryd.results11, go_sem, m2, m3]) rfl
      ⟨_, rfl, World.ownsRow_nil _ _ _ _, (G1.out.bel.setCell (by simp; omega) _).setCell (by simp; omega) _⟩
  · have hv : Hid (shaftB M l = true) := h1
    have e1 : soundS M l = 0 := by unfold soundS; rw [h1]; rfl
    rw [e1] at H1
    obtain ⟨hM1, hM2, hn4⟩ := shaft_bounds h1
    clear e1
    by_cases h4 : n = 4
    · have hf : Hid (addS M l (C, U, P) = ((0, []), 9)) := by show addS M l (C, U, P) = _; unfold addS; rw [h1, hl, if_pos rfl, if_pos h4]
      have h4' : ((n : Int) == 4) = true := by simp; omega
      rw [hf.out]
      clear h1 h4
      go_enter Tryd.func11, Tryd.ntmps11
      go_wp2_with fail
      rw [← hwb]
      refine H1.out.mono ?_
      rintro e w1 ⟨rfl, hb1⟩
      have G1 := Lib.hid (Gb.out.below hb1)
      have m1 := G1.out.c01
      have m2 := G1.out.c20
      have m3 := G1.out.c21
      have f2 := G1.out.f20
      have f3 := G1.out.f21
      clear hb1 hwb
      go_wp2
      exact bodyPost_ret (v := .tuple #[.agg #[.int .i64 0, .slice none 0 0], .int .i64 9]) (by simp [results, Tryd.results11, go_sem, m2, m3]) rfl
        ⟨_, rfl, World.ownsRow_nil _ _ _ _, (G1.out.bel.setCell (by simp; omega) _).setCell (by simp; omega) _⟩
    have h4' : ((n : Int) == 4) = false := by simp; omega
    have hn3 : n ≤ 3 := by omega
    have hadd : Hid (addS M l (C, U, P) = if shaftB M (l ++ [(C, U, P)]) then ((M, l ++ [(C, U, P)]), 0) else ((0, []), 2)) := by show addS M l (C, U, P) = _; unfold addS; rw [h1, hl, if_pos rfl, if_neg h4]
    obtain ⟨i0, gi, gz0, gz1, gz2⟩ := info_parts info_st
    have HS : Hid (∀ x : World, x.heap[w.heap.size + 1]? = some (.cells #[.int .i64 C, .int .i64 U, .int .i64 P] 27 (0, 0)) →
        x.cell? ⟨w.heap.size + 1, 0, none⟩ = some (.int .i64 C) ∧ x.cell? ⟨w.heap.size + 1, 1, none⟩ = some (.int .i64 U) ∧ x.cell? ⟨w.heap.size + 1, 2, none⟩ = some (.int .i64 P)) :=
      fun x h => ⟨by simp [World.cell?, h], by simp [World.cell?, h], by simp [World.cell?, h]⟩
    clear h1 h4
    go_enter Tryd.func11, Tryd.ntmps11
    go_wp2_with fail
    rw [← hwb]
    refine H1.out.mono ?_
    rintro e w1 ⟨rfl, hb1⟩
    have G0 := Lib.hid (Gb.out.below hb1)
    have m1 := G0.out.c01
    clear hb1 hwb
    go_upto_region 6 with (fail)
    clear m1
    go_cut [] (fun wx => ∃ A3 c3, GF w M A3 (n + 1) c3 C U P wx ∧ wx.ownsRow (w.heap.size + 3) 27 3 (.slice A3 (n + 1) c3) (n + 1) (sts (l ++ [(C, U, P)])))
    case first =>
      refine wp_region_held_drew (S := fun w' => w'.cell? ⟨w.heap.size + 1, 0, none⟩ = some (.int .i64 C) ∧ w'.cell? ⟨w.heap.size + 1, 1, none⟩ = some (.int .i64 U) ∧ w'.cell? ⟨w.heap.size + 1, 2, none⟩ = some (.int .i64 P)) (by kernel_rfl) ?_ (fun hHeld => ?_)
      · exact HS.out _ G0.out.weak
      refine tkY (v := ?_) 0 18 rfl rfl (by kernel_rfl) (by kernel_rfl) (by kernel_rfl) (fun _ _ _ h => h) (by kernel_rfl) ?_ (by assumption) ?_
      rotate_left
      · intro w hSw; (try dsimp only at hSw); go_simp; (try with_reducible rfl)
      try simp only [Act.put, List.setIfInBounds_toArray, List.set_cons_zero, List.set_cons_succ]
      refine tkY (v := ?_) 3 21 rfl rfl (by kernel_rfl) (by kernel_rfl) (by kernel_rfl) (fun _ _ _ h => h) (by kernel_rfl) ?_ (by assumption) ?_
      rotate_left
      · intro w hSw; (try dsimp only at hSw); go_simp; (try with_reducible rfl)
      try simp only [Act.put, List.setIfInBounds_toArray, List.set_cons_zero, List.set_cons_succ]
      refine wpAnyH_ready (rs := [1, 4]) (by kernel_rfl) (by simp) ?_
      refine AllReadyH.cons (o := _) rfl (fun K hK => ?_) (AllReadyH.cons (o := _) rfl (fun K hK => ?_) AllReadyH.nil)
      · -- the load
        have m1 := G0.out.c01
        go_simp
        refine hK.out _ _ ?_ (fun hHeld => ?_)
        · exact HS.out _ (G0.out).weak
        clear hK K
        try simp only [Act.put, List.setIfInBounds_toArray, List.set_cons_zero, List.set_cons_succ]
        clear m1
        refine wpAnyH_ready (rs := [2, 4]) (by kernel_rfl) (by simp) ?_
        refine AllReadyH.cons (o := _) rfl (fun K hK => ?_) (AllReadyH.cons (o := _) rfl (fun K hK => ?_) AllReadyH.nil)
        · -- the copy
          go_simp
          refine (cloneSts_any A n c l _ hn (by exact G0.out.reads hR0.out)).mono ?_
          rintro e w2 ⟨v, rfl, hown, hb⟩
          try go_simp
          have G1 := Lib.hid (G0.out.below (below_undrew hb))
          refine hK.out _ _ ?_ (fun hHeld => ?_)
          · exact HS.out _ (G1.out).weak
          clear hK K
          try simp only [Act.put, List.setIfInBounds_toArray, List.set_cons_zero, List.set_cons_succ]
          obtain ⟨A2, c2, rfl, -⟩ := own_slice hown
          have O1 := Lib.hid (own_mono hown (base' := w.heap.size + 3) G0.out.size)
          clear hb hown
          -- the new block
          refine wpAnyH_ready (rs := [4]) (by kernel_rfl) (by simp) ?_
          refine AllReadyH.cons (o := _) rfl (fun K hK => ?_) AllReadyH.nil
          go_simp
          refine hK.out _ _ ?_ (fun hHeld => ?_)
          · exact HS.out _ (G1.out.alloc _).weak
          clear hK K
          try simp only [Act.put, List.setIfInBounds_toArray, List.set_cons_zero, List.set_cons_succ]
          have G2 := Lib.hid (G1.out.alloc (.cells #[.int .i64 C, .int .i64 U, .int .i64 P] 27))
          have N2 : Hid ((w2.alloc (.cells #[.int .i64 C, .int .i64 U, .int .i64 P] 27)).heap[w2.heap.size]? = some (.cells #[.int .i64 C, .int .i64 U, .int .i64 P] 27 (0, 0))) := heap_alloc_new w2 _
          have Z2 : Hid (w2.heap.size < (w2.alloc (.cells #[.int .i64 C, .int .i64 U, .int .i64 P] 27)).heap.size) := by show _ < _; simp
          have O2 := Lib.hid (O1.out.alloc (.cells #[.int .i64 C, .int .i64 U, .int .i64 P] 27))
          -- the append
          refine wpAnyH_ready (rs := [5]) (by kernel_rfl) (by simp) ?_
          refine AllReadyH.cons (o := _) rfl (fun K hK => ?_) AllReadyH.nil
          refine step_app _ rfl _ _ 22 rfl (w.heap.size + 3) 27 i0 _ 3 24 Tryd.underlying22 gi gz0 gz1 gz2 rfl (by decide) (.slice A2 n c2) n (sts l) rfl O2.out _ (some ⟨w2.heap.size, 0, none⟩) 1 1 (stc (C, U, P)) rfl (reads_blk N2.out rfl Z2.out) (stc_one _) (by unfold maxLen; omega) (by omega) G2.out.size ?_
          intro v3 w3 hown3 hgr3 _
          have GA := Lib.hid (G2.out.grown hgr3 (fun k hk => (O2.out.lt k hk).1))
          refine hK.out _ _ ?_ (fun hHeld => ?_)
          · exact HS.out _ (GA.out).weak
          clear hK K
          try simp only [Act.put, List.setIfInBounds_toArray, List.set_cons_zero, List.set_cons_succ]
          rw [sts_snoc] at hown3
          obtain ⟨A3, c3, rfl, -⟩ := own_slice hown3
          have OA := Lib.hid hown3
          have m1 := GA.out.c01
          have f1 := GA.out.f01
          clear hgr3 hown3
          refine tkY (v := ?_) 6 24 rfl rfl (by kernel_rfl) (by kernel_rfl) (by kernel_rfl) (fun _ _ _ h => h) (by kernel_rfl) ?_ (by assumption) ?_
          rotate_left
          · intro w hSw; (try dsimp only at hSw); go_simp; (try with_reducible rfl)
          try simp only [Act.put, List.setIfInBounds_toArray, List.set_cons_zero, List.set_cons_succ]
          -- the store
          refine wpAnyH_ready (rs := [7]) (by kernel_rfl) (by simp) ?_
          refine AllReadyH.cons (o := _) rfl (fun K hK => ?_) AllReadyH.nil
          go_simp
          refine hK.out _ _ ?_ (fun hHeld => ?_)
          · exact HS.out _ (GA.out.store _)
          clear hK K
          try simp only [Act.put, List.setIfInBounds_toArray, List.set_cons_zero, List.set_cons_succ]
          refine wpAnyH_done (by kernel_rfl) ?_ _
          go_wp2_with fail
          go_meet
          exact ⟨A3, c3, GA.out.after OA.out⟩
        · -- the new block
          go_simp
          refine hK.out _ _ ?_ (fun hHeld => ?_)
          · exact HS.out _ (G0.out.alloc _).weak
          clear hK K
          try simp only [Act.put, List.setIfInBounds_toArray, List.set_cons_zero, List.set_cons_succ]
          have G1 := Lib.hid (G0.out.alloc (.cells #[.int .i64 C, .int .i64 U, .int .i64 P] 27))
          have N1 : Hid ((w1.alloc (.cells #[.int .i64 C, .int .i64 U, .int .i64 P] 27)).heap[w1.heap.size]? = some (.cells #[.int .i64 C, .int .i64 U, .int .i64 P] 27 (0, 0))) := heap_alloc_new w1 _
          have Z1 : Hid (w1.heap.size < (w1.alloc (.cells #[.int .i64 C, .int .i64 U, .int .i64 P] 27)).heap.size) := by show _ < _; simp
          -- the copy
          refine wpAnyH_ready (rs := [2]) (by kernel_rfl) (by simp) ?_
          refine AllReadyH.cons (o := _) rfl (fun K hK => ?_) AllReadyH.nil
          go_simp
          refine (cloneSts_any A n c l _ hn (by exact G1.out.reads hR0.out)).mono ?_
          rintro e w2 ⟨v, rfl, hown, hb⟩
          try go_simp
          have G2 := Lib.hid (G1.out.below (below_undrew hb))
          refine hK.out _ _ ?_ (fun hHeld => ?_)
          · exact HS.out _ (G2.out).weak
          clear hK K
          try simp only [Act.put, List.setIfInBounds_toArray, List.set_cons_zero, List.set_cons_succ]
          obtain ⟨A2, c2, rfl, -⟩ := own_slice hown
          have O2 := Lib.hid (own_mono hown (base' := w.heap.size + 3) G1.out.size)
          have N2 := Lib.hid ((hb.block _ Z1.out).trans N1.out)
          have Z2 := Lib.hid (Nat.lt_of_lt_of_le Z1.out hb.size)
          clear hb hown
          -- the append
          refine wpAnyH_ready (rs := [5]) (by kernel_rfl) (by simp) ?_
          refine AllReadyH.cons (o := _) rfl (fun K hK => ?_) AllReadyH.nil
          refine step_app _ rfl _ _ 22 rfl (w.heap.size + 3) 27 i0 _ 3 24 Tryd.underlying22 gi gz0 gz1 gz2 rfl (by decide) (.slice A2 n c2) n (sts l) rfl O2.out _ (some ⟨w1.heap.size, 0, none⟩) 1 1 (stc (C, U, P)) rfl (reads_blk N2.out rfl Z2.out) (stc_one _) (by unfold maxLen; omega) (by omega) G2.out.size ?_
          intro v3 w3 hown3 hgr3 _
          have GA := Lib.hid (G2.out.grown hgr3 (fun k hk => (O2.out.lt k hk).1))
          refine hK.out _ _ ?_ (fun hHeld => ?_)
          · exact HS.out _ (GA.out).weak
          clear hK K
          try simp only [Act.put, List.setIfInBounds_toArray, List.set_cons_zero, List.set_cons_succ]
          rw [sts_snoc] at hown3
          obtain ⟨A3, c3, rfl, -⟩ := own_slice hown3
          have OA := Lib.hid hown3
          have m1 := GA.out.c01
          have f1 := GA.out.f01
          clear hgr3 hown3
          refine tkY (v := ?_) 6 24 rfl rfl (by kernel_rfl) (by kernel_rfl) (by kernel_rfl) (fun _ _ _ h => h) (by kernel_rfl) ?_ (by assumption) ?_
          rotate_left
          · intro w hSw; (try dsimp only at hSw); go_simp; (try with_reducible rfl)
          try simp only [Act.put, List.setIfInBounds_toArray, List.set_cons_zero, List.set_cons_succ]
          -- the store
          refine wpAnyH_ready (rs := [7]) (by kernel_rfl) (by simp) ?_
          refine AllReadyH.cons (o := _) rfl (fun K hK => ?_) AllReadyH.nil
          go_simp
          refine hK.out _ _ ?_ (fun hHeld => ?_)
          · exact HS.out _ (GA.out.store _)
          clear hK K
          try simp only [Act.put, List.setIfInBounds_toArray, List.set_cons_zero, List.set_cons_succ]
          refine wpAnyH_done (by kernel_rfl) ?_ _
          go_wp2_with fail
          go_meet
          exact ⟨A3, c3, GA.out.after OA.out⟩
      · -- the new block
        go_simp
        refine hK.out _ _ ?_ (fun hHeld => ?_)
        · exact HS.out _ (G0.out.alloc _).weak
        clear hK K
        try simp only [Act.put, List.setIfInBounds_toArray, List.set_cons_zero, List.set_cons_succ]
        have G1 := Lib.hid (G0.out.alloc (.cells #[.int .i64 C, .int .i64 U, .int .i64 P] 27))
        have N1 : Hid ((w1.alloc (.cells #[.int .i64 C, .int .i64 U, .int .i64 P] 27)).heap[w1.heap.size]? = some (.cells #[.int .i64 C, .int .i64 U, .int .i64 P] 27 (0, 0))) := heap_alloc_new w1 _
        have Z1 : Hid (w1.heap.size < (w1.alloc (.cells #[.int .i64 C, .int .i64 U, .int .i64 P] 27)).heap.size) := by show _ < _; simp
        -- the load
        refine wpAnyH_ready (rs := [1]) (by kernel_rfl) (by simp) ?_
        refine AllReadyH.cons (o := _) rfl (fun K hK => ?_) AllReadyH.nil
        have m1 := G1.out.c01
        go_simp
        refine hK.out _ _ ?_ (fun hHeld => ?_)
        · exact HS.out _ (G1.out).weak
        clear hK K
        try simp only [Act.put, List.setIfInBounds_toArray, List.set_cons_zero, List.set_cons_succ]
        clear m1
        -- the copy
        refine wpAnyH_ready (rs := [2]) (by kernel_rfl) (by simp) ?_
        refine AllReadyH.cons (o := _) rfl (fun K hK => ?_) AllReadyH.nil
        go_simp
        refine (cloneSts_any A n c l _ hn (by exact G1.out.reads hR0.out)).mono ?_
        rintro e w2 ⟨v, rfl, hown, hb⟩
        try go_simp
        have G2 := Lib.hid (G1.out.below (below_undrew hb))
        refine hK.out _ _ ?_ (fun hHeld => ?_)
        · exact HS.out _ (G2.out).weak
        clear hK K
        try simp only [Act.put, List.setIfInBounds_toArray, List.set_cons_zero, List.set_cons_succ]
        obtain ⟨A2, c2, rfl, -⟩ := own_slice hown
        have O2 := Lib.hid (own_mono hown (base' := w.heap.size + 3) G1.out.size)
        have N2 := Lib.hid ((hb.block _ Z1.out).trans N1.out)
        have Z2 := Lib.hid (Nat.lt_of_lt_of_le Z1.out hb.size)
        clear hb hown
        -- the append
        refine wpAnyH_ready (rs := [5]) (by kernel_rfl) (by simp) ?_
        refine AllReadyH.cons (o := _) rfl (fun K hK => ?_) AllReadyH.nil
        refine step_app _ rfl _ _ 22 rfl (w.heap.size + 3) 27 i0 _ 3 24 Tryd.underlying22 gi gz0 gz1 gz2 rfl (by decide) (.slice A2 n c2) n (sts l) rfl O2.out _ (some ⟨w1.heap.size, 0, none⟩) 1 1 (stc (C, U, P)) rfl (reads_blk N2.out rfl Z2.out) (stc_one _) (by unfold maxLen; omega) (by omega) G2.out.size ?_
        intro v3 w3 hown3 hgr3 _
        have GA := Lib.hid (G2.out.grown hgr3 (fun k hk => (O2.out.lt k hk).1))
        refine hK.out _ _ ?_ (fun hHeld => ?_)
        · exact HS.out _ (GA.out).weak
        clear hK K
        try simp only [Act.put, List.setIfInBounds_toArray, List.set_cons_zero, List.set_cons_succ]
        rw [sts_snoc] at hown3
        obtain ⟨A3, c3, rfl, -⟩ := own_slice hown3
        have OA := Lib.hid hown3
        have m1 := GA.out.c01
        have f1 := GA.out.f01
        clear hgr3 hown3
        refine tkY (v := ?_) 6 24 rfl rfl (by kernel_rfl) (by kernel_rfl) (by kernel_rfl) (fun _ _ _ h => h) (by kernel_rfl) ?_ (by assumption) ?_
        rotate_left
        · intro w hSw; (try dsimp only at hSw); go_simp; (try with_reducible rfl)
        try simp only [Act.put, List.setIfInBounds_toArray, List.set_cons_zero, List.set_cons_succ]
        -- the store
        refine wpAnyH_ready (rs := [7]) (by kernel_rfl) (by simp) ?_
        refine AllReadyH.cons (o := _) rfl (fun K hK => ?_) AllReadyH.nil
        go_simp
        refine hK.out _ _ ?_ (fun hHeld => ?_)
        · exact HS.out _ (GA.out.store _)
        clear hK K
        try simp only [Act.put, List.setIfInBounds_toArray, List.set_cons_zero, List.set_cons_succ]
        refine wpAnyH_done (by kernel_rfl) ?_ _
        go_wp2_with fail
        go_meet
        exact ⟨A3, c3, GA.out.after OA.out⟩
    case rest =>
      obtain ⟨A3, c3, hG, hO⟩ := ‹∃ A3 c3, GF w M A3 (n + 1) c3 C U P _ ∧ _›
      have G1 := Lib.hid hG
      have m0 := G1.out.c00
      have m1 := G1.out.c01
      have O1 := Lib.hid hO
      have HR := Lib.hid ((Reads.of_own hO).more (Nat.le_refl _))
      have H5 := Lib.hid (Sound_any M A3 (n + 1) c3 (l ++ [(C, U, P)]) _ (by unfold maxLen; omega) HR.out (HL0.out.below hG.bel HL0.out.2.2))
      clear hG hO
      cases h5 : shaftB M (l ++ [(C, U, P)])
      · have hf : Hid (addS M l (C, U, P) = ((0, []), 2)) := by show addS M l (C, U, P) = _; rw [hadd.out, h5]; rfl
        have e5 : soundS M (l ++ [(C, U, P)]) = 102 := by unfold soundS; rw [h5]; rfl
        rw [e5] at H5
        clear e5 h5 hadd
        go_wp2_with fail
        refine H5.out.mono ?_
        rintro e w5 ⟨rfl, hb5⟩
        have G5 := Lib.hid (G1.out.below hb5)
        have m2 := G5.out.c20
        have m3 := G5.out.c21
        have f2 := G5.out.f20
        have f3 := G5.out.f21
        clear hb5 m0 m1
        go_wp2
        refine bodyPost_ret (v := .tuple #[.agg #[.int .i64 0, .slice none 0 0], .int .i64 2]) (by simp [results, Tryd.results11, go_sem, m2, m3]) rfl ?_
        rw [hf.out]
        exact ⟨_, rfl, World.ownsRow_nil _ _ _ _, (G5.out.bel.setCell (by simp; omega) _).setCell (by simp; omega) _⟩
      · have hf : Hid (addS M l (C, U, P) = ((M, l ++ [(C, U, P)]), 0)) := by show addS M l (C, U, P) = _; rw [hadd.out, h5]; rfl
        have e5 : soundS M (l ++ [(C, U, P)]) = 0 := by unfold soundS; rw [h5]; rfl
        rw [e5] at H5
        clear e5 h5 hadd
        go_wp2_with fail
        refine H5.out.mono ?_
        rintro e w5 ⟨rfl, hb5⟩
        have G5 := Lib.hid (G1.out.below hb5)
        have O5 := Lib.hid (own_below O1.out hb5)
        have m2 := G5.out.c20
        have m3 := G5.out.c21
        have f2 := G5.out.f20
        have f3 := G5.out.f21
        have k0 := G5.out.c00
        have k1 := G5.out.c01
        clear hb5 m0 m1
        go_wp2
        refine bodyPost_ret (v := .tuple #[.agg #[.int .i64 M, .slice A3 (n + 1) c3], .int .i64 0]) (by simp [results, Tryd.results11, go_sem, m2, m3]) rfl ?_
        rw [hf.out]
        refine ⟨_, rfl, ?_, (G5.out.bel.setCell (by simp; omega) _).setCell (by simp; omega) _⟩
        have e : (l ++ [(C, U, P)]).length = n + 1 := by simp; omega
        rw [e]
        exact own_mono (own_far (own_far O5.out (by simp) _) (by simp) _) (by omega)
end Go.Proofs.YtlmmjaolmmcklaaDoor
