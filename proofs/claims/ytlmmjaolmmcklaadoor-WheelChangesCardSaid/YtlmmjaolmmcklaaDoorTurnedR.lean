/-
  The walk of the reference's settings that are turned on.
-/
import Derived.Test.YtlmmjaolmmcklaaDoorTurned
namespace Go.Proofs.YtlmmjaolmmcklaaDoor
open Go.RowKit
set_option linter.unusedVariables false
set_option linter.unusedSimpArgs false

set_option maxHeartbeats 1000000 in
theorem Turned_any (M : Int) (A A' : Option Addr) (n c n' c' : Nat) (l : List (Int × Int × Int)) (s : List Int) (t : Int) (w : World) (hn : n ≤ 4096) (hn' : n' ≤ 4096) (hR : Reads w w.heap.size 3 A n (sts l))
    (hS : Reads w w.heap.size 1 A' n' (ints s)) :
    Calls Tryd.prog 10 #[.agg #[.int .i64 M, .slice A n c], .slice A' n' c', .int .i64 t] w fun e w' =>
      ∃ v, e = .returned (.tuple #[v, .int .i64 (turnS M l s t).2]) ∧ w'.ownsRow w.heap.size 3 1 v (turnS M l s t).1.length (ints (turnS M l s t).1) ∧ Below w.heap.size w w' := by
  have hl := hR.st_len
  have hs : s.length = n' := by simpa using hS.len
  have hB0 : Hid (Below w.heap.size w (w.alloc (.cells #[.int .i64 M, .slice A n c] 24))) := (Below.refl _ _).alloc (Nat.le_refl _) _
  have hB0s : Hid ((w.alloc (.cells #[.int .i64 M, .slice A n c] 24)).heap.size = w.heap.size + 1) := by show _ = _; simp
  have hR1 := Lib.hid ((hR.alloc (Nat.le_refl _) (.cells #[.int .i64 M, .slice A n c] 24)))
  have hS1 := Lib.hid ((hS.alloc (Nat.le_refl _) (.cells #[.int .i64 M, .slice A n c] 24)))
  have HM0 : Hid ((w.alloc (.cells #[.int .i64 M, .slice A n c] 24)).cell? ⟨w.heap.size, 0, none⟩ = some (.int .i64 M)) := by show _ = _; rw [World.cell?_alloc_at _ _ _ _ rfl]; rfl
  have HM1 : Hid ((w.alloc (.cells #[.int .i64 M, .slice A n c] 24)).cell? ⟨w.heap.size, 1, none⟩ = some (.slice A n c)) := by show _ = _; rw [World.cell?_alloc_at _ _ _ _ rfl]; rfl
  have H1 := Lib.hid (Shaft_any M A n c l _ (by unfold maxLen; omega) (hR1.out.more (B' := (w.alloc (.cells #[.int .i64 M, .slice A n c] 24)).heap.size) (by simp)))
  clear hR hS
  cases h1 : shaftB M l
  · have hf : Hid (turnS M l s t = ([], 102)) := by show turnS M l s t = _; unfold turnS; rw [h1]; rfl
    rw [h1] at H1
    rw [hf.out]
    clear h1
    go_enter Tryd.func10, Tryd.ntmps10
    go_wp2_with fail
    refine H1.out.mono ?_
    rintro e w1 ⟨rfl, hb1⟩
    have HB1 := Lib.hid hb1
    clear hb1
    go_wp2
    go_ret2
    exact ⟨_, rfl, World.ownsRow_nil _ _ _ _, below_via hB0.out (by rw [hB0s.out]; omega) HB1.out⟩
  · have hv : Hid (shaftB M l = true) := h1
    rw [h1] at H1
    obtain ⟨hM1, hM2, hn4⟩ := shaft_bounds h1
    have H2 : Hid (∀ w1, Below (w.heap.size + 1) (w.alloc (.cells #[.int .i64 M, .slice A n c] 24)) w1 →
        (w1.cell? ⟨w.heap.size, 0, none⟩ = some (.int .i64 M) ∧ w1.cell? ⟨w.heap.size, 1, none⟩ = some (.slice A n c) ∧ w.heap.size + 1 ≤ w1.heap.size ∧ Reads w1 w1.heap.size 3 A n (sts l) ∧ Reads w1 w1.heap.size 1 A' n' (ints s))) := by
      intro w1 hb1
      have hz : w.heap.size + 1 ≤ w1.heap.size := by have := hb1.size; rw [hB0s.out] at this; exact this
      exact ⟨(hb1.cell (p := ⟨w.heap.size, 0, none⟩) (by simp)).trans HM0.out, (hb1.cell (p := ⟨w.heap.size, 1, none⟩) (by simp)).trans HM1.out, hz,
        (hR1.out.below (hb1.mono (by omega))).more (by omega), (hS1.out.below (hb1.mono (by omega))).more (by omega)⟩
    clear hR1 hS1 HM0 HM1
    cases h2 : setB M l s
    · have hf : Hid (turnS M l s t = ([], 103)) := by show turnS M l s t = _; unfold turnS; rw [h1, h2]; rfl
      rw [hf.out]
      have h2' := Lib.hid h2
      clear h1 h2
      go_enter Tryd.func10, Tryd.ntmps10
      go_wp2_with fail
      refine H1.out.mono ?_
      rintro e w1 ⟨rfl, hb1⟩
      rw [hB0s.out] at hb1
      obtain ⟨m0, m1, hz, hRw, hSw⟩ := H2.out w1 hb1
      have H3 := Set_any M A A' n c n' c' l s w1 (by unfold maxLen; omega) hRw hSw hv
      rw [h2'.out] at H3
      have H3' := Lib.hid H3
      have HB1 := Lib.hid (hB0.out.trans (hb1.mono (by omega)))
      clear hb1 H3 hRw hSw
      go_wp2_with fail
      refine H3'.out.mono ?_
      rintro e w2 ⟨rfl, hb2⟩
      have HB2 := Lib.hid hb2
      clear hb2
      go_wp2
      go_ret2
      exact ⟨_, rfl, World.ownsRow_nil _ _ _ _, below_via HB1.out (by omega) HB2.out⟩
    · cases h3 : inB (-12) 12 [t]
      · have hf : Hid (turnS M l s t = ([], 2)) := by show turnS M l s t = _; unfold turnS; rw [h1, h2, h3]; rfl
        rw [hf.out]
        have h2' := Lib.hid h2
        have h3' : Hid ((decide (-12 ≤ t) && decide (t ≤ 12)) = false) := by simpa [inB, Hid] using h3
        clear h1 h2 h3
        go_enter Tryd.func10, Tryd.ntmps10
        go_wp2_with fail
        refine H1.out.mono ?_
        rintro e w1 ⟨rfl, hb1⟩
        rw [hB0s.out] at hb1
        obtain ⟨m0, m1, hz, hRw, hSw⟩ := H2.out w1 hb1
        have H3 := Set_any M A A' n c n' c' l s w1 (by unfold maxLen; omega) hRw hSw hv
        rw [h2'.out] at H3
        have H3' := Lib.hid H3
        have HB1 := Lib.hid (hB0.out.trans (hb1.mono (by omega)))
        clear hb1 H3 hRw hSw
        go_wp2_with fail
        refine H3'.out.mono ?_
        rintro e w2 ⟨rfl, hb2⟩
        have HB2 := Lib.hid (below_via HB1.out (by omega) hb2)
        clear hb2
        go_wp2_with fail
        refine (within_any t (-12) 12 _).mono ?_
        rw [h3'.out]
        rintro e w3 ⟨rfl, rfl⟩
        go_wp2
        go_ret2
        exact ⟨_, rfl, World.ownsRow_nil _ _ _ _, HB2.out⟩
      · have hf : Hid (turnS M l s t = ((l.zip s).map (turnNo M t), 0)) := by show turnS M l s t = _; unfold turnS; rw [h1, h2, h3]; rfl
        have hll : s.length = l.length := by unfold setB at h2; simp at h2; exact h2.1
        have hno : Hid (∀ (k : Nat) (x : Int × Int × Int) (y : Int), l[k]? = some x → s[k]? = some y → okNo M (x, y) = true) := by
          intro k x y hx hy
          unfold setB at h2
          simp only [Bool.and_eq_true, List.all_eq_true] at h2
          exact h2.2 _ (List.mem_of_getElem? (zip_at hx hy))
        rw [hf.out]
        have h2' := Lib.hid h2
        have h3' : Hid ((decide (-12 ≤ t) && decide (t ≤ 12)) = true) := by simpa [inB, Hid] using h3
        have ht1 : -12 ≤ t := by have := h3'.out; simp at this; omega
        have ht2 : t ≤ 12 := by have := h3'.out; simp at this; omega
        clear h1 h2 h3
        obtain ⟨i0, hi, hz0, hz1, hz2⟩ := info_parts info_int
        go_enter Tryd.func10, Tryd.ntmps10
        go_wp2_with fail
        refine H1.out.mono ?_
        rintro e w1 ⟨rfl, hb1⟩
        rw [hB0s.out] at hb1
        obtain ⟨m0, m1, hz, hRw, hSw⟩ := H2.out w1 hb1
        have H3 := Set_any M A A' n c n' c' l s w1 (by unfold maxLen; omega) hRw hSw hv
        rw [h2'.out] at H3
        have H3' := Lib.hid H3
        have HX1 := Lib.hid hb1
        clear hb1 H3 hRw hSw
        go_wp2_with fail
        refine H3'.out.mono ?_
        rintro e w2 ⟨rfl, hb2⟩
        have HX2 := Lib.hid (below_via HX1.out (by omega) hb2)
        clear hb2 m0 m1
        go_wp2_with fail
        refine (within_any t (-12) 12 _).mono ?_
        rw [h3'.out]
        rintro e w3 ⟨rfl, rfl⟩
        go_wp2
        generalize w.alloc (.cells #[.int .i64 M, .slice A n c] 24) = wb at *
        go_loopw [8, 9] (fun v x wr => ∃ k : Nat, k ≤ n' ∧ x = .int .i64 k ∧ wr.ownsRow (w.heap.size + 1) 3 1 v k (ints (((l.zip s).take k).map (turnNo M t))) ∧ Hid (Below (w.heap.size + 1) wb wr)) (fun _ x _ => n' - (intOf x).toNat)
        case atStart => exact ⟨0, by omega, rfl, World.ownsRow_nil _ _ _ _, HX2⟩
        case round =>
          clear HX2
          obtain ⟨k, hk, rfl, hown, hX⟩ := hrel
          obtain ⟨m0, m1, hz4, hRw, hSw⟩ := H2.out wr hX.out
          by_cases hlt : k < n'
          · obtain ⟨b, o, C, U, P, rfl, hb, hx, c0, -, -⟩ := hRw.st (k := k) (by omega)
            obtain ⟨b', o', rfl, hb', c0'⟩ := hSw.int hlt
            obtain ⟨hC1, hC2, -, hU1, hU2, -, -⟩ := shaft_st hv.out hx
            have hy := get_of_lt (l := s) (k := k) (by omega)
            have hok := hno.out k _ _ hx hy
            have HT : Hid (((l.zip s).take (k + 1)).map (turnNo M t) = ((l.zip s).take k).map (turnNo M t) ++ [turnNo M t ((C, U, P), s[k]?.getD 0)]) := by
              show ((l.zip s).take (k + 1)).map (turnNo M t) = _
              rw [List.take_add_one, zip_at hx hy]; simp
            have hB : turnNo M t ((C, U, P), s[k]?.getD 0) = (s[k]?.getD 0 + t) % (M / C) := rfl
            rw [hB] at HT
            clear hB hx hRw hSw
            generalize s[k]?.getD 0 = y at *
            have hq0 : M / C ≤ M := Int.ediv_le_self _ (by omega)
            have hy0 : 0 ≤ y := by simp [okNo] at hok; omega
            have hy1 : y ≤ M / C - 1 := by simp [okNo] at hok; omega
            clear hok hy
            go_wp2
            go_quiet (fail)
            have hr0 : 0 ≤ (y + t) % (M / C) := Int.emod_nonneg _ (by omega)
            go_wp2_with (first
              | (at_builtin; refine wpList_append_own _ rfl _ _ 25 rfl (w.heap.size + 1) 3 i0 (.int .i64 0) 1 8 Tryd.underlying25 hi hz0 hz1 hz2 rfl (by decide) _ _ _ rfl (World.ownsRow.alloc hown _) ⟨wr.heap.size, 0, none⟩ 1 1 [.int .i64 ((y + t) % (M / C))] rfl rfl (by exact cell_one_new _ _ _) ?c2 ?c3 ?c4 ?c5 ?_))
            case c2 => simp [Value.oneCell']
            case c3 => unfold maxLen; omega
            case c4 => omega
            case c5 => first | omega | (simp; omega) | simp
            intro v' w' hown' hgr _
            have hlt' := hown.lt
            have HX' := Lib.hid (((below_drewN hX.out _).alloc (o := .cells #[.int .i64 ((y + t) % (M / C))] 3) (by first | omega | (simp; omega) | simp)).grown hgr (by first | omega | (simp; omega) | simp) (fun q hq => (hlt' q hq).1))
            go_wp2
            go_roundw
            case rel =>
              refine ⟨k + 1, by omega, by go_num, ?_, HX'⟩
              rw [HT.out]
              simpa [ints] using hown'
            case measure => simp [intOf]; omega
          · have hkn : k = n' := by omega
            subst hkn
            clear m0 m1 hRw hSw
            go_wp2
            go_ret2
            refine ⟨_, rfl, ?_, hB0.out.trans (hX.out.mono (by omega))⟩
            rw [List.take_of_length_le (by simp; omega)] at hown
            have e : ((l.zip s).map (turnNo M t)).length = k := by simp; omega
            rw [e]
            exact own_mono hown (by omega)
end Go.Proofs.YtlmmjaolmmcklaaDoor
