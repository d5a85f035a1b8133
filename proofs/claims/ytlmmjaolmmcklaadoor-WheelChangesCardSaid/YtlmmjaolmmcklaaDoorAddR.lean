/-
  The walk of the reference's shaft with one stamper more.
-/
import Derived.Test.YtlmmjaolmmcklaaDoorTurned
import Derived.Test.YtlmmjaolmmcklaaDoorTwin
namespace Go.Proofs.YtlmmjaolmmcklaaDoor
open Go.RowKit
set_option linter.unusedVariables false
set_option linter.unusedSimpArgs false

/-- A shaft with one stamper more: its marks, its stampers, the error. -/
def addS (M : Int) (l : List (Int × Int × Int)) (x : Int × Int × Int) : (Int × List (Int × Int × Int)) × Int :=
  if shaftB M l then if l.length = 4 then ((0, []), 9) else if shaftB M (l ++ [x]) then ((M, l ++ [x]), 0) else ((0, []), 2) else ((0, []), 102)

theorem sts_snoc (l : List (Int × Int × Int)) (x : Int × Int × Int) : sts l ++ stc x = sts (l ++ [x]) := by simp [sts]
theorem own_ne {w : World} {base : Nat} {e : TypeId} {size n : Nat} {v : Value} {xs : List Value} (h : w.ownsRow base e size v n xs) {p : Addr} (hp : v.ownBlock ≠ some p.block) (u : Value) : (w.setCell p u).ownsRow base e size v n xs := by
  refine ⟨h.1, ?_⟩
  rcases h.2 with h0 | ⟨g, cap, cur, h1, h2, h3, h4⟩
  · exact .inl h0
  · subst h1
    exact .inr ⟨g, cap, cur, rfl, h2, (Below.heap_setCell w p u g (fun e => hp (by rw [← e]; rfl))).trans h3, h4⟩
theorem heap_lt_alloc (w : World) (o : Obj) (b : Nat) (h : b < w.heap.size) : (w.alloc o).heap[b]? = w.heap[b]? := Below.heap_alloc w o b h

set_option maxHeartbeats 1000000 in
theorem Add_any (M : Int) (A : Option Addr) (n c : Nat) (l : List (Int × Int × Int)) (C U P : Int) (w : World) (hn : n ≤ 4096) (hR : Reads w w.heap.size 3 A n (sts l)) :
    Calls Tryd.prog 12 #[.agg #[.int .i64 M, .slice A n c], .agg #[.int .i64 C, .int .i64 U, .int .i64 P]] w fun e w' =>
      ∃ v, e = .returned (.tuple #[.agg #[.int .i64 (addS M l (C, U, P)).1.1, v], .int .i64 (addS M l (C, U, P)).2]) ∧
        w'.ownsRow w.heap.size 27 3 v (addS M l (C, U, P)).1.2.length (sts (addS M l (C, U, P)).1.2) ∧ Below w.heap.size w w' := by
  have hl := hR.st_len
  obtain ⟨wb, hwb⟩ : ∃ wb : World, wb = ((w.alloc (.cells #[.int .i64 M, .slice A n c] 24)).alloc (.cells #[.int .i64 C, .int .i64 U, .int .i64 P] 27)).alloc (.cells #[.int .i64 0, .slice none 0 0] 24) := ⟨_, rfl⟩
  have hB0 : Hid (Below w.heap.size w wb) := by show Below w.heap.size w wb; rw [hwb]; exact (((Below.refl _ _).alloc (Nat.le_refl _) _).alloc (by simp) _).alloc (by simp; omega) _
  have hB0s : Hid (wb.heap.size = w.heap.size + 3) := by show _ = _; rw [hwb]; simp
  have hR1 : Hid (Reads wb w.heap.size 3 A n (sts l)) := hR.below hB0.out
  have hk0 : Hid (wb.heap[w.heap.size]? = some (.cells #[.int .i64 M, .slice A n c] 24 (0, 0))) := by
    show _ = _; rw [hwb, heap_lt_alloc _ _ _ (by simp; omega), heap_lt_alloc _ _ _ (by simp)]; exact heap_alloc_new w _
  have hk1 : Hid (wb.heap[w.heap.size + 1]? = some (.cells #[.int .i64 C, .int .i64 U, .int .i64 P] 27 (0, 0))) := by
    show _ = _; rw [hwb, heap_lt_alloc _ _ _ (by simp)]; have := heap_alloc_new (w.alloc (.cells #[.int .i64 M, .slice A n c] 24)) (.cells #[.int .i64 C, .int .i64 U, .int .i64 P] 27); simpa using this
  have hk2 : Hid (wb.heap[w.heap.size + 2]? = some (.cells #[.int .i64 0, .slice none 0 0] 24 (0, 0))) := by
    show _ = _; rw [hwb]; have := heap_alloc_new ((w.alloc (.cells #[.int .i64 M, .slice A n c] 24)).alloc (.cells #[.int .i64 C, .int .i64 U, .int .i64 P] 27)) (.cells #[.int .i64 0, .slice none 0 0] 24); simpa using this
  have H2 : Hid (∀ w1, Below (w.heap.size + 3) wb w1 → (w1.cell? ⟨w.heap.size, 0, none⟩ = some (.int .i64 M) ∧ w1.cell? ⟨w.heap.size, 1, none⟩ = some (.slice A n c) ∧
      (w1.cell? ⟨w.heap.size + 1, 0, none⟩ = some (.int .i64 C) ∧ w1.cell? ⟨w.heap.size + 1, 1, none⟩ = some (.int .i64 U) ∧ w1.cell? ⟨w.heap.size + 1, 2, none⟩ = some (.int .i64 P)) ∧
      (w1.cell? ⟨w.heap.size + 2, 0, none⟩ = some (.int .i64 0) ∧ w1.cell? ⟨w.heap.size + 2, 1, none⟩ = some (.slice none 0 0) ∧ w1.frozen? ⟨w.heap.size + 2, 0, none⟩ = false ∧ w1.frozen? ⟨w.heap.size + 2, 1, none⟩ = false) ∧
      w.heap.size + 3 ≤ w1.heap.size ∧ Reads w1 w1.heap.size 3 A n (sts l))) := by
    intro w1 hb1
    have hz : w.heap.size + 3 ≤ w1.heap.size := by have := hb1.size; rw [hB0s.out] at this; exact this
    have b0 := (hb1.block w.heap.size (by omega)).trans hk0.out
    have b1 := (hb1.block (w.heap.size + 1) (by omega)).trans hk1.out
    have b2 := (hb1.block (w.heap.size + 2) (by omega)).trans hk2.out
    exact ⟨by simp [World.cell?, b0], by simp [World.cell?, b0], ⟨by simp [World.cell?, b1], by simp [World.cell?, b1], by simp [World.cell?, b1]⟩,
      ⟨by simp [World.cell?, b2], by simp [World.cell?, b2], by simp [World.frozen?, b2], by simp [World.frozen?, b2]⟩, hz, (hR1.out.below (hb1.mono (by omega))).more (by omega)⟩
  have H1 := Lib.hid (Shaft_any M A n c l wb (by unfold maxLen; omega) (hR1.out.more (by rw [hB0s.out]; omega)))
  clear hR hk0 hk1 hk2
  cases h1 : shaftB M l
  · have hf : Hid (addS M l (C, U, P) = ((0, []), 102)) := by show addS M l (C, U, P) = _; unfold addS; rw [h1]; rfl
    rw [h1] at H1
    rw [hf.out]
    clear h1
    go_enter Tryd.func12, Tryd.ntmps12
    go_wp2_with fail
    rw [← hwb]
    refine H1.out.mono ?_
    rintro e w1 ⟨rfl, hb1⟩
    rw [hB0s.out] at hb1
    obtain ⟨m0, m1, -, ⟨m2, m3, f2, f3⟩, hz, -⟩ := H2.out w1 hb1
    have HX1 := Lib.hid hb1
    clear hb1 hwb
    go_wp2
    exact bodyPost_ret (v := .tuple #[.agg #[.int .i64 0, .slice none 0 0], .int .i64 102]) (by simp [results, Tryd.results12, go_sem, m2, m3]) rfl
      ⟨_, rfl, World.ownsRow_nil _ _ _ _, ((hB0.out.trans (HX1.out.mono (by omega))).setCell (by simp; omega) _).setCell (by simp; omega) _⟩
  · have hv : Hid (shaftB M l = true) := h1
    rw [h1] at H1
    obtain ⟨hM1, hM2, hn4⟩ := shaft_bounds h1
    by_cases h4 : n = 4
    · have hf : Hid (addS M l (C, U, P) = ((0, []), 9)) := by show addS M l (C, U, P) = _; unfold addS; rw [h1, hl, if_pos rfl, if_pos h4]
      have h4' : ((n : Int) == 4) = true := by simp; omega
      rw [hf.out]
      clear h1 h4
      go_enter Tryd.func12, Tryd.ntmps12
      go_wp2_with fail
      rw [← hwb]
      refine H1.out.mono ?_
      rintro e w1 ⟨rfl, hb1⟩
      rw [hB0s.out] at hb1
      obtain ⟨m0, m1, -, ⟨m2, m3, f2, f3⟩, hz, -⟩ := H2.out w1 hb1
      have HX1 := Lib.hid hb1
      clear hb1 hwb
      go_wp2
      exact bodyPost_ret (v := .tuple #[.agg #[.int .i64 0, .slice none 0 0], .int .i64 9]) (by simp [results, Tryd.results12, go_sem, m2, m3]) rfl
        ⟨_, rfl, World.ownsRow_nil _ _ _ _, ((hB0.out.trans (HX1.out.mono (by omega))).setCell (by simp; omega) _).setCell (by simp; omega) _⟩
    · have h4' : ((n : Int) == 4) = false := by simp; omega
      have hn3 : n ≤ 3 := by omega
      have hadd : Hid (addS M l (C, U, P) = if shaftB M (l ++ [(C, U, P)]) then ((M, l ++ [(C, U, P)]), 0) else ((0, []), 2)) := by show addS M l (C, U, P) = _; unfold addS; rw [h1, hl, if_pos rfl, if_neg h4]
      obtain ⟨i0, gi, gz0, gz1, gz2⟩ := info_parts info_st
      clear h1 h4
      have key : ∀ b : Bool, shaftB M (l ++ [(C, U, P)]) = b → Calls Tryd.prog 12 #[.agg #[.int .i64 M, .slice A n c], .agg #[.int .i64 C, .int .i64 U, .int .i64 P]] w fun e w' =>
          ∃ v, e = .returned (.tuple #[.agg #[.int .i64 (addS M l (C, U, P)).1.1, v], .int .i64 (addS M l (C, U, P)).2]) ∧
            w'.ownsRow w.heap.size 27 3 v (addS M l (C, U, P)).1.2.length (sts (addS M l (C, U, P)).1.2) ∧ Below w.heap.size w w' := by
        intro b hb
        have hb' := Lib.hid hb
        clear hb
        go_enter Tryd.func12, Tryd.ntmps12
        go_wp2_with fail
        rw [← hwb]
        refine H1.out.mono ?_
        rintro e w1 ⟨rfl, hb1⟩
        rw [hB0s.out] at hb1
        obtain ⟨m0, m1, -, -, hz, hRw⟩ := H2.out w1 hb1
        have HX1 := Lib.hid hb1
        have HT := Lib.hid (Twin_any M A n c l w1 hn hRw)
        clear hb1 hwb hRw
        go_wp2_with fail
        refine HT.out.mono ?_
        rintro e w2 ⟨v, rfl, hown, hb2⟩
        have hz2 := hb2.size
        have HX2 := Lib.hid (below_via HX1.out (by omega) hb2)
        obtain ⟨A2, c2, rfl, -⟩ := own_slice hown
        have HO2 := Lib.hid hown
        clear hb2 hown m0 m1
        obtain ⟨-, -, ⟨d0, d1, d2⟩, -, -, -⟩ := H2.out (w2.alloc (.cells #[.int .i64 M, .slice A2 n c2] 24)) (HX2.out.alloc (by omega) _)
        trace "A"
        go_wp2_with (first
          | (at_builtin; refine wpList_app _ rfl _ _ 22 rfl w1.heap.size 27 i0 _ 3 24 Tryd.underlying22 gi gz0 gz1 gz2 rfl (by decide) (.slice A2 n c2) n (sts l) rfl ?o (w2.heap.size + 2) _ 1 1 (stc (C, U, P)) rfl ?r ?one ?c3 ?c4 ?c5 ?_))
        case o => exact (HO2.out.alloc _).alloc _
        case r =>
          have hrd := Reads.new (w2.alloc (.cells #[.int .i64 M, .slice A2 n c2] 24)) #[.int .i64 C, .int .i64 U, .int .i64 P] 27 1 3 rfl
          have hB : ((w2.alloc (.cells #[.int .i64 M, .slice A2 n c2] 24)).alloc (.cells #[.int .i64 C, .int .i64 U, .int .i64 P] 27)).heap.size = w2.heap.size + 2 := by simp
          rw [hB] at hrd
          simp at hrd
          exact hrd
        case one => intro u hu; simp [stc] at hu; rcases hu with rfl | rfl | rfl <;> rfl
        case c3 => unfold maxLen; omega
        case c4 => omega
        case c5 => first | omega | (simp; omega)
        intro v3 w3 hown3 hgr3 hat
        have hlt2 := HO2.out.lt
        have hne : v3.ownBlock ≠ some w2.heap.size := by
          intro e
          rcases hat with h | h
          · rw [h] at e; have := (hlt2 _ e).2; omega
          · rw [h] at e; injection e with e; omega
        have hbk : w3.heap[w2.heap.size]? = some (.cells #[.int .i64 M, .slice A2 n c2] 24 (0, 0)) := by
          rw [hgr3.block w2.heap.size (by simp; omega) (fun e => by have := (hlt2 _ e.symm).2; omega), heap_lt_alloc _ _ _ (by simp)]
          exact heap_alloc_new w2 _
        have o0 : w3.cell? ⟨w2.heap.size, 0, none⟩ = some (.int .i64 M) := by simp [World.cell?, hbk]
        have o1 : w3.cell? ⟨w2.heap.size, 1, none⟩ = some (.slice A2 n c2) := by simp [World.cell?, hbk]
        have of : w3.frozen? ⟨w2.heap.size, 1, none⟩ = false := by simp [World.frozen?, hbk]
        have hz3 : w2.heap.size + 2 ≤ w3.heap.size := by have := hgr3.size; simp at this; omega
        have HX3 := Lib.hid (((HX2.out.alloc (o := .cells #[.int .i64 M, .slice A2 n c2] 24) (by omega)).alloc (o := .cells #[.int .i64 C, .int .i64 U, .int .i64 P] 27) (by simp; omega)).grown hgr3 (by simp; omega) (fun k hk => by have := (hlt2 k hk).1; omega))
        obtain ⟨A3, c3, rfl, -⟩ := own_slice hown3
        rw [sts_snoc] at hown3
        have HO4 := Lib.hid (own_ne (p := ⟨w2.heap.size, 1, none⟩) hown3 hne (.slice A3 (n + 1) c3))
        have HR4 := Lib.hid (Reads.of_own HO4.out)
        have HX4 := Lib.hid (HX3.out.setCell (p := ⟨w2.heap.size, 1, none⟩) (by simp; omega) (.slice A3 (n + 1) c3))
        have H5 := Shaft_any M A3 (n + 1) c3 (l ++ [(C, U, P)]) _ (by unfold maxLen; omega) HR4.out
        rw [hb'.out] at H5
        have H5' := Lib.hid H5
        clear H5 hat hgr3 hown3 hbk hlt2 d0 d1 d2
        go_wp2_with fail
        refine H5'.out.mono ?_
        rintro e w5 ⟨rfl, hb5⟩
        have hz5 : w3.heap.size ≤ w5.heap.size := by have := hb5.size; simpa using this
        have p0 : w5.cell? ⟨w2.heap.size, 0, none⟩ = some (.int .i64 M) := (hb5.cell (p := ⟨w2.heap.size, 0, none⟩) (by simp; omega)).trans (by rw [World.cell?_setCell_other _ _ _ _ (by simp)]; exact o0)
        have p1 : w5.cell? ⟨w2.heap.size, 1, none⟩ = some (.slice A3 (n + 1) c3) := (hb5.cell (p := ⟨w2.heap.size, 1, none⟩) (by simp; omega)).trans (by rw [World.cell?_setCell_same' _ _ _ (by rw [o1]; rfl)])
        have HX5 := Lib.hid (below_via HX4.out (by simp; omega) hb5)
        have HO5 := Lib.hid (own_below HO4.out hb5)
        obtain ⟨-, -, -, ⟨m2, m3, f2, f3⟩, -, -⟩ := H2.out w5 HX5.out
        clear hb5 o0 o1 of
        cases b
        · have hf : Hid (addS M l (C, U, P) = ((0, []), 2)) := by show addS M l (C, U, P) = _; rw [hadd.out, hb'.out]; rfl
          clear hadd
          go_wp2
          refine bodyPost_ret (v := .tuple #[.agg #[.int .i64 0, .slice none 0 0], .int .i64 2]) (by simp [results, Tryd.results12, go_sem, m2, m3]) rfl ?_
          rw [hf.out]
          exact ⟨_, rfl, World.ownsRow_nil _ _ _ _, ((hB0.out.trans (HX5.out.mono (by omega))).setCell (by simp; omega) _).setCell (by simp; omega) _⟩
        · have hf : Hid (addS M l (C, U, P) = ((M, l ++ [(C, U, P)]), 0)) := by show addS M l (C, U, P) = _; rw [hadd.out, hb'.out]; rfl
          clear hadd
          go_wp2
          refine bodyPost_ret (v := .tuple #[.agg #[.int .i64 M, .slice A3 (n + 1) c3], .int .i64 0]) (by simp [results, Tryd.results12, go_sem, m2, m3]) rfl ?_
          rw [hf.out]
          refine ⟨_, rfl, ?_, ((hB0.out.trans (HX5.out.mono (by omega))).setCell (by simp; omega) _).setCell (by simp; omega) _⟩
          have e : (l ++ [(C, U, P)]).length = n + 1 := by simp; omega
          rw [e]
          exact own_mono (own_far (own_far HO5.out (by simp; omega) _) (by simp; omega) _) (by omega)
      exact key _ rfl
end Go.Proofs.YtlmmjaolmmcklaaDoor
