/-
  The walks of settings that are turned on, on both sides.
-/
import Derived.Test.YtlmmjaolmmcklaaDoorSound2
import Derived.Test.YtlmmjaolmmcklaaDoorSet
import Derived.Test.YtlmmjaolmmcklaaDoorAppend
namespace Go.Proofs.YtlmmjaolmmcklaaDoor
open Go.RowKit
set_option linter.unusedVariables false
set_option linter.unusedSimpArgs false

/-- A number that is turned on. -/
def turnNo (M t : Int) (p : (Int × Int × Int) × Int) : Int := (p.2 + t) % (M / p.1.1)
def turnS (M : Int) (l : List (Int × Int × Int)) (s : List Int) (t : Int) : List Int × Int :=
  if shaftB M l then if setB M l s then if inB (-12) 12 [t] then ((l.zip s).map (turnNo M t), 0) else ([], 2) else ([], 103) else ([], 102)

theorem tmod_turn (x d : Int) (hd : 0 < d) : x.tmod d % d = x % d ∧ -d < x.tmod d ∧ x.tmod d < d := by
  refine ⟨?_, ?_, Int.tmod_lt_of_pos _ hd⟩
  · rw [Int.tmod_def]
    have : x - d * x.tdiv d = x + d * (- x.tdiv d) := by rw [Int.mul_neg]; omega
    rw [this, Int.add_mul_emod_self_left]
  · have h1 := Int.tmod_lt_of_pos (-x) hd
    rw [Int.neg_tmod] at h1
    omega

/-- After k rounds. -/
def turnTo (M t : Int) (l : List (Int × Int × Int)) (s : List Int) (k : Nat) : List Int := ((l.zip s).take k).map (turnNo M t) ++ s.drop k

theorem turnTo_len {M t : Int} {l : List (Int × Int × Int)} {s : List Int} {k : Nat} (h : s.length = l.length) (hk : k ≤ s.length) : (turnTo M t l s k).length = s.length := by
  unfold turnTo; simp; omega
theorem turnTo_get {M t : Int} {l : List (Int × Int × Int)} {s : List Int} {k : Nat} (h : s.length = l.length) (hk : k < s.length) : (turnTo M t l s k)[k]? = s[k]? := by
  unfold turnTo
  rw [List.getElem?_append_right (by simp; omega)]
  simp
  congr 1
  omega
theorem turnTo_set {M t : Int} {l : List (Int × Int × Int)} {s : List Int} {k : Nat} {x : Int × Int × Int} {y : Int} (h : s.length = l.length) (hx : l[k]? = some x) (hy : s[k]? = some y) :
    (turnTo M t l s k).set k (turnNo M t (x, y)) = turnTo M t l s (k + 1) := by
  have hk : k < s.length := (List.getElem?_eq_some_iff.1 hy).1
  unfold turnTo
  rw [List.set_append_right _ _ (by simp; omega)]
  have h1 : k - (((l.zip s).take k).map (turnNo M t)).length = 0 := by simp; omega
  rw [h1, List.drop_eq_getElem_cons hk, List.set_cons_zero, List.take_add_one, zip_at hx hy]
  simp
theorem turnTo_end {M t : Int} {l : List (Int × Int × Int)} {s : List Int} (h : s.length = l.length) : turnTo M t l s s.length = (l.zip s).map (turnNo M t) := by
  unfold turnTo
  rw [List.take_of_length_le (by simp; omega)]
  simp

theorem own_below {w w' : World} {base : Nat} {e : TypeId} {size n : Nat} {v : Value} {xs : List Value} (h : w.ownsRow base e size v n xs) (hb : Below w.heap.size w w') : w'.ownsRow base e size v n xs := by
  have hlt := h.lt
  refine ⟨h.1, ?_⟩
  rcases h.2 with h0 | ⟨g, cap, cur, h1, h2, h3, h4⟩
  · exact .inl h0
  · subst h1
    exact .inr ⟨g, cap, cur, rfl, h2, (hb.block g (hlt g rfl).2).trans h3, h4⟩

theorem ints_set (l : List Int) (k : Nat) (y : Int) : (ints l).set k (.int .i64 y) = ints (l.set k y) := by simp [ints]

set_option maxHeartbeats 1000000 in
theorem turned_any (M : Int) (A A' : Option Addr) (n c n' c' : Nat) (l : List (Int × Int × Int)) (s : List Int) (t : Int) (w : World) (hn : n ≤ 4096) (hn' : n' ≤ 4096) (hR : Reads w w.heap.size 3 A n (sts l))
    (hS : Reads w w.heap.size 1 A' n' (ints s)) (hL : Laid w) :
    Calls Tryd.prog 9 #[.agg #[.int .i64 M, .slice A n c], .slice A' n' c', .int .i64 t] w fun e w' =>
      ∃ v, e = .returned (.tuple #[v, .int .i64 (turnS M l s t).2]) ∧ w'.ownsRow w.heap.size 3 1 v (turnS M l s t).1.length (ints (turnS M l s t).1) ∧ Below w.heap.size w w' := by
  have hl := hR.st_len
  have hs : s.length = n' := by simpa using hS.len
  have hB0 : Hid (Below w.heap.size w (w.alloc (.cells #[.int .i64 M, .slice A n c] 24))) := (Below.refl _ _).alloc (Nat.le_refl _) _
  have hB0s : Hid ((w.alloc (.cells #[.int .i64 M, .slice A n c] 24)).heap.size = w.heap.size + 1) := by show _ = _; simp
  have hR1 := Lib.hid ((hR.alloc (Nat.le_refl _) (.cells #[.int .i64 M, .slice A n c] 24)))
  have hS1 := Lib.hid ((hS.alloc (Nat.le_refl _) (.cells #[.int .i64 M, .slice A n c] 24)))
  have HM0 : Hid ((w.alloc (.cells #[.int .i64 M, .slice A n c] 24)).cell? ⟨w.heap.size, 0, none⟩ = some (.int .i64 M)) := by show _ = _; rw [World.cell?_alloc_at _ _ _ _ rfl]; rfl
  have HM1 : Hid ((w.alloc (.cells #[.int .i64 M, .slice A n c] 24)).cell? ⟨w.heap.size, 1, none⟩ = some (.slice A n c)) := by show _ = _; rw [World.cell?_alloc_at _ _ _ _ rfl]; rfl
  have H1 := Lib.hid (Sound_any M A n c l _ (by unfold maxLen; omega) (hR1.out.more (B' := (w.alloc (.cells #[.int .i64 M, .slice A n c] 24)).heap.size) (by simp)) (hL.below hB0.out hL.2.2))
  clear hR hS
  cases h1 : shaftB M l
  · have hf : Hid (turnS M l s t = ([], 102)) := by show turnS M l s t = _; unfold turnS; rw [h1]; rfl
    have e1 : soundS M l = 102 := by unfold soundS; rw [h1]; rfl
    rw [e1] at H1
    rw [hf.out]
    clear h1 e1
    go_enter Tryd.func9, Tryd.ntmps9
    go_wp2_with fail
    refine H1.out.mono ?_
    rintro e w1 ⟨rfl, hb1⟩
    have HB1 := Lib.hid hb1
    clear hb1
    go_wp2
    go_ret2
    exact ⟨_, rfl, World.ownsRow_nil _ _ _ _, below_via hB0.out (by rw [hB0s.out]; omega) HB1.out⟩
  · have hv : Hid (shaftB M l = true) := h1
    have e1 : soundS M l = 0 := by unfold soundS; rw [h1]; rfl
    rw [e1] at H1
    obtain ⟨hM1, hM2, hn4⟩ := shaft_bounds h1
    -- behind the first question
    have H2 : Hid (∀ w1, Below (w.heap.size + 1) (w.alloc (.cells #[.int .i64 M, .slice A n c] 24)) w1 →
        (w1.cell? ⟨w.heap.size, 0, none⟩ = some (.int .i64 M) ∧ w1.cell? ⟨w.heap.size, 1, none⟩ = some (.slice A n c) ∧ w.heap.size + 1 ≤ w1.heap.size ∧ Reads w1 w1.heap.size 3 A n (sts l) ∧ Reads w1 w1.heap.size 1 A' n' (ints s))) := by
      intro w1 hb1
      have hz : w.heap.size + 1 ≤ w1.heap.size := by have := hb1.size; rw [hB0s.out] at this; exact this
      exact ⟨(hb1.cell (p := ⟨w.heap.size, 0, none⟩) (by simp)).trans HM0.out, (hb1.cell (p := ⟨w.heap.size, 1, none⟩) (by simp)).trans HM1.out, hz,
        (hR1.out.below (hb1.mono (by omega))).more (by omega), (hS1.out.below (hb1.mono (by omega))).more (by omega)⟩
    clear e1 hR1 hS1 HM0 HM1
    cases h2 : setB M l s
    · have hf : Hid (turnS M l s t = ([], 103)) := by show turnS M l s t = _; unfold turnS; rw [h1, h2]; rfl
      rw [hf.out]
      have h2' := Lib.hid h2
      clear h1 h2
      go_enter Tryd.func9, Tryd.ntmps9
      go_wp2_with fail
      refine H1.out.mono ?_
      rintro e w1 ⟨rfl, hb1⟩
      rw [hB0s.out] at hb1
      obtain ⟨m0, m1, hz, hRw, hSw⟩ := H2.out w1 hb1
      have H3 := fits_any M A A' n c n' c' l s w1 (by unfold maxLen; omega) hRw hSw hv
      rw [h2'.out] at H3
      have H3' := Lib.hid H3
      have HB1 := Lib.hid (hB0.out.trans (hb1.mono (by omega)))
      clear hb1 H3 hRw hSw
      go_wp2_with fail
      refine H3'.out.mono ?_
      rintro e w2 ⟨rfl, hb2⟩
      have HB2 := Lib.hid hb2
      clear hb2
      go_wp2
      go_ret2
      exact ⟨_, rfl, World.ownsRow_nil _ _ _ _, below_via HB1.out (by omega) HB2.out⟩
    · cases h3 : inB (-12) 12 [t]
      · have hf : Hid (turnS M l s t = ([], 2)) := by show turnS M l s t = _; unfold turnS; rw [h1, h2, h3]; rfl
        rw [hf.out]
        have h2' := Lib.hid h2
        have h3' : Hid ((decide (-12 ≤ t) && decide (t ≤ 12)) = false) := by simpa [inB, Hid] using h3
        clear h1 h2 h3
        go_enter Tryd.func9, Tryd.ntmps9
        go_wp2_with fail
        refine H1.out.mono ?_
        rintro e w1 ⟨rfl, hb1⟩
        rw [hB0s.out] at hb1
        obtain ⟨m0, m1, hz, hRw, hSw⟩ := H2.out w1 hb1
        have H3 := fits_any M A A' n c n' c' l s w1 (by unfold maxLen; omega) hRw hSw hv
        rw [h2'.out] at H3
        have H3' := Lib.hid H3
        have HB1 := Lib.hid (hB0.out.trans (hb1.mono (by omega)))
        clear hb1 H3 hRw hSw
        go_wp2_with fail
        refine H3'.out.mono ?_
        rintro e w2 ⟨rfl, hb2⟩
        have hz2 := hb2.size
        have HB2 := Lib.hid (below_via HB1.out (by omega) hb2)
        clear hb2
        go_wp2_with fail
        refine (in1 (-12) 12 t _ _ (cellN _ _ _) (by simp)).mono ?_
        rw [h3'.out]
        rintro e w3 ⟨rfl, hb3⟩
        have HB3 := Lib.hid (below_in HB2.out (by omega) hb3)
        clear hb3
        go_wp2
        go_ret2
        exact ⟨_, rfl, World.ownsRow_nil _ _ _ _, HB3.out⟩
      · have hf : Hid (turnS M l s t = ((l.zip s).map (turnNo M t), 0)) := by show turnS M l s t = _; unfold turnS; rw [h1, h2, h3]; rfl
        have hll : s.length = l.length := by unfold setB at h2; simp at h2; exact h2.1
        have hno : Hid (∀ (k : Nat) (x : Int × Int × Int) (y : Int), l[k]? = some x → s[k]? = some y → okNo M (x, y) = true) := by
          intro k x y hx hy
          unfold setB at h2
          simp only [Bool.and_eq_true, List.all_eq_true] at h2
          exact h2.2 _ (List.mem_of_getElem? (zip_at hx hy))
        rw [hf.out]
        have h2' := Lib.hid h2
        have h3' : Hid ((decide (-12 ≤ t) && decide (t ≤ 12)) = true) := by simpa [inB, Hid] using h3
        have ht1 : -12 ≤ t := by have := h3'.out; simp at this; omega
        have ht2 : t ≤ 12 := by have := h3'.out; simp at this; omega
        clear h1 h2 h3
        go_enter Tryd.func9, Tryd.ntmps9
        go_wp2_with fail
        refine H1.out.mono ?_
        rintro e w1 ⟨rfl, hb1⟩
        rw [hB0s.out] at hb1
        obtain ⟨m0, m1, hz, hRw, hSw⟩ := H2.out w1 hb1
        have H3 := fits_any M A A' n c n' c' l s w1 (by unfold maxLen; omega) hRw hSw hv
        rw [h2'.out] at H3
        have H3' := Lib.hid H3
        have HX1 := Lib.hid hb1
        clear hb1 H3 hRw hSw
        go_wp2_with fail
        refine H3'.out.mono ?_
        rintro e w2 ⟨rfl, hb2⟩
        have hz2 := hb2.size
        have HX2 := Lib.hid (below_via HX1.out (by omega) hb2)
        clear hb2
        go_wp2_with fail
        refine (in1 (-12) 12 t _ _ (cellN _ _ _) (by simp)).mono ?_
        rw [h3'.out]
        rintro e w3 ⟨rfl, hb3⟩
        have HX3 := Lib.hid (below_in HX2.out (by omega) hb3)
        clear hb3 m0 m1
        obtain ⟨-, -, hz3, -, hSw⟩ := H2.out w3 HX3.out
        have H4 := Lib.hid (cloneInts_any A' n' c' s w3 hn' hSw)
        clear hSw
        go_wp2_with fail
        refine H4.out.mono ?_
        rintro e w4 ⟨v, rfl, hown, hb4⟩
        have HX4 := Lib.hid (below_via HX3.out (by omega) hb4)
        have HO4 : Hid (w4.ownsRow w3.heap.size 3 1 v n' (ints (turnTo M t l s 0))) := by
          have : turnTo M t l s 0 = s := by simp [turnTo]
          rw [this]; exact hown
        clear hb4
        obtain ⟨A1, c1, rfl, -⟩ := own_slice hown
        clear hown
        go_wp2
        generalize w.alloc (.cells #[.int .i64 M, .slice A n c] 24) = wb at *
        go_loopw [28] (fun x wr => ∃ k : Nat, k ≤ n' ∧ x = .int .i64 k ∧ Hid (wr.ownsRow w3.heap.size 3 1 (.slice A1 n' c1) n' (ints (turnTo M t l s k))) ∧ Hid (Below (w.heap.size + 1) wb wr)) (fun x _ => n' - (intOf x).toNat)
        case atStart => exact ⟨0, by omega, rfl, HO4, HX4⟩
        case round =>
          clear HO4 HX4
          obtain ⟨k, hk, rfl, hown, hX⟩ := hrel
          obtain ⟨m0, m1, hz4, hRw, -⟩ := H2.out wr hX.out
          by_cases hlt : k < n'
          · obtain ⟨g, cap, hvv, -, hgl⟩ := hown.out.form (by omega)
            simp only [Value.slice.injEq] at hvv
            obtain ⟨rfl, -, rfl⟩ := hvv
            obtain ⟨b, o, C, U, P, -, -, hx, -, -, -⟩ := hRw.st (k := k) (by omega)
            obtain ⟨hC1, hC2, -, hU1, hU2, -, -⟩ := shaft_st hv.out hx
            have hy := get_of_lt (l := s) (k := k) (by omega)
            have hok := hno.out k _ _ hx hy
            have HA := apart_any M A n c k l wr (by omega) (by omega) (by omega) hRw C ⟨U, P, hx⟩ hC1
            have HT := Lib.hid (turnTo_set (M := M) (t := t) hll hx hy)
            have HG : Hid ((turnTo M t l s k)[k]? = s[k]?) := turnTo_get hll (by omega)
            rw [hy] at HG
            have HTL : Hid ((turnTo M t l s k).length = n') := by show _ = _; rw [turnTo_len hll (by omega), hs]
            have hB : turnNo M t ((C, U, P), s[k]?.getD 0) = (s[k]?.getD 0 + t) % (M / C) := rfl
            rw [hB] at HT
            clear hB hx hRw
            generalize s[k]?.getD 0 = y at *
            have hq0 : M / C ≤ M := Int.ediv_le_self _ (by omega)
            have hy0 : 0 ≤ y := by simp [okNo] at hok; omega
            have hy1 : y ≤ M / C - 1 := by simp [okNo] at hok; omega
            clear hok hy
            generalize M / C = d at *
            obtain ⟨q1, q2, q3⟩ := tmod_turn (y + t) d (by omega)
            have HQ := Lib.hid q1
            clear q1
            have HA' := Lib.hid HA
            clear HA
            go_wp2_with fail
            refine HA'.out.mono ?_
            rintro e w5 ⟨rfl, hb5⟩
            have HO5 := Lib.hid (own_below hown.out hb5)
            have hz5 := hb5.size
            have HX5 := Lib.hid (below_via hX.out (by omega) hb5)
            have hc : w5.cell? ⟨g, k, none⟩ = some (.int .i64 y) := by
              rw [HO5.out.cellAt k (by omega), ints_get, HG.out]; rfl
            have hfz := HO5.out.frozenAt k
            clear hb5 m0 m1
            go_wp2
            go_roundw
            case rel =>
              refine ⟨k + 1, by omega, by go_num, ?_, ?_⟩
              · have := (HO5.out.stored k (.int .i64 ((y + t).tmod d % d))).1
                rw [HQ.out, ints_set, HT.out] at this
                rw [HQ.out]
                exact this
              · have := (HO5.out.lt g rfl).1
                exact HX5.out.setCell (by simp; omega) _
            case measure => simp [intOf]; omega
          · have hkn : k = n' := by omega
            subst hkn
            clear m0 m1 hRw
            go_wp2
            go_ret2
            refine ⟨_, rfl, ?_, hB0.out.trans (hX.out.mono (by omega))⟩
            have := hown.out
            rw [← hs, turnTo_end hll] at this
            have e : ((l.zip s).map (turnNo M t)).length = s.length := by simp; omega
            rw [e]
            rw [hs] at this ⊢
            exact own_mono this (by omega)
end Go.Proofs.YtlmmjaolmmcklaaDoor
