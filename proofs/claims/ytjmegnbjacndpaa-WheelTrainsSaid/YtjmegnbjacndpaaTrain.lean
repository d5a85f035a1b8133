/-
  The reference's valid trains.
-/
import Derived.Test.YtjmegnbjacndpaaRefW
namespace Go.Proofs.Ytjmegnbjacndpaa
open Go.RowKit Go.Maps
/-- The blocks of a call of Train: the wheels, and which of them are used. -/
structure UF (w : World) (A : Option Addr) (n c : Nat) (U : Int → Bool) (x : World) : Prop where
  b0 : x.cell? ⟨w.heap.size, 0, none⟩ = some (.slice A n c)
  b1 : ∀ j : Nat, j ≤ 8 → x.cell? ⟨w.heap.size + 1, j, none⟩ = some (.bool (U j))
  fz : ∀ j : Nat, x.frozen? ⟨w.heap.size + 1, j, none⟩ = false
  bel : Below w.heap.size w x
  size : w.heap.size + 2 ≤ x.heap.size
section
variable {w x y : World} {A : Option Addr} {n c : Nat} {U : Int → Bool}
theorem UF.alloc (h : UF w A n c U x) (cs : Array Value) (t : TypeId) : UF w A n c U (x.alloc (.cells cs t)) :=
  have hz := h.size
  ⟨(World.cell?_alloc_lt _ _ _ (by simp; omega)).trans h.b0, fun j hj => (World.cell?_alloc_lt _ _ _ (by simp; omega)).trans (h.b1 j hj), fun j => (frozen?_alloc_cells _ _ _ _).trans (h.fz j), h.bel.alloc (by omega) _, by simp; omega⟩
theorem UF.use (h : UF w A n c U x) (d : Nat) (hd : d ≤ 8) : UF w A n c (fun j => decide (j = d) || U j) (x.setCell ⟨w.heap.size + 1, d, none⟩ (.bool true)) := by
  have hz := h.size
  refine ⟨(World.cell?_setCell_other _ _ _ _ (fun q => by have := congrArg Addr.block q; simp at this)).trans h.b0, fun j hj => ?_, fun j => ?_, h.bel.setCell (by simp) _, by simpa using hz⟩
  · by_cases e : j = d
    · subst e; simpa using World.cell?_setCell_same _ _ (.bool true) (h.b1 j hj)
    · rw [World.cell?_setCell_other _ _ _ _ (fun q => e (by simpa using (congrArg Addr.off q).symm)), h.b1 j hj]
      have : ¬ ((j : Int) = (d : Int)) := by omega
      simp [this]
  · simpa using h.fz j
end
set_option maxRecDepth 100000 in
theorem Train_any (A A' : Option Addr) (n c m c' : Nat) (hn : n ≤ 8) (hm : m ≤ 20) (l : List (Int × Int)) (w : World) (hR : Reads w w.heap.size 2 A' m (prs l)) :
    Calls Try.prog 45 #[.agg #[.slice A n c], .slice A' m c'] w fun e w' => e = .returned (.bool (validB n l)) ∧ Below w.heap.size w w' := by
  have hl : l.length = m := hR.pr_len
  have H1 := Lib.hid (within_any (m : Int) 1 3 (w.alloc (.cells #[.slice A n c] 24)))
  have hB := Lib.hid ((Below.refl w.heap.size w).alloc (Nat.le_refl _) (.cells #[.slice A n c] 24))
  by_cases hin : 1 ≤ m ∧ m ≤ 3
  · have hi : (decide (1 ≤ (m : Int)) && decide ((m : Int) ≤ 3)) = true := by simp; omega
    rw [hi] at H1
    go_enter Try.func45, Try.ntmps45
    go_wp2_with fail
    refine H1.out.mono ?_
    rintro e w1 ⟨rfl, rfl⟩
    go_wp2
    have h0 : UF w A n c (fun _ => false) ((w.alloc (.cells #[.slice A n c] 24)).alloc (.cells #[.bool false, .bool false, .bool false, .bool false, .bool false, .bool false, .bool false, .bool false, .bool false] 92)) := by
      refine ⟨by rw [World.cell?_alloc_past _ _ _ (by simp)]; exact cellN _ _ _, fun j hj => ?_, fun j => fz_new' _ _ _ _ _ (by simp), hB.out.alloc hB.out.size _, by simp⟩
      rw [World.cell?_alloc_at _ _ _ _ (by simp)]
      obtain rfl | rfl | rfl | rfl | rfl | rfl | rfl | rfl | rfl : j = 0 ∨ j = 1 ∨ j = 2 ∨ j = 3 ∨ j = 4 ∨ j = 5 ∨ j = 6 ∨ j = 7 ∨ j = 8 := by omega
      all_goals rfl
    have h0' := Lib.hid h0
    have hp0 : Hid (pick (freeB n) l = pick (fun j => freeB n j && !((fun _ => false) j : Bool)) (l.drop 0)) := Lib.hid (by simp)
    clear h0 H1 hB
    go_loopw [16] (fun i wr => ∃ k : Nat, k ≤ m ∧ i = .int .i64 k ∧ ∃ U, Hid (UF w A n c U wr) ∧ Hid (pick (freeB n) l = pick (fun j => freeB n j && !U j) (l.drop k))) (fun i _ => m - (intOf i).toNat)
    case atStart => exact ⟨0, Nat.zero_le _, rfl, _, h0', hp0⟩
    case round =>
      obtain ⟨k, hk, rfl, U, hG, hpc⟩ := hrel
      clear h0' hp0
      by_cases hlt : k < m
      · obtain ⟨p, o, D, V, rfl, hp, hx, hcD, hcV⟩ := hR.pr hlt
        have hcD' := (hG.out.bel.cell hp).trans hcD
        have hcV' := (hG.out.bel.cell (p := ⟨p, o + k * 2 + 1, none⟩) hp).trans hcV
        have hps := Lib.hid (hpc.out.trans (pick_step _ l k D V hx))
        have hvb := Lib.hid (show validB n l = (decide (1 ≤ l.length) && decide (l.length ≤ 3) && pick (freeB n) l) from rfl)
        have hG2 := Lib.hid ((hG.out.alloc #[.int .i64 D, .int .i64 V] 72).alloc #[.int .i64 D, .int .i64 V] 3)
        have s0 : ((wr.alloc (.cells #[.int .i64 D, .int .i64 V] 72)).alloc (.cells #[.int .i64 D, .int .i64 V] 3)).cell? ⟨wr.heap.size + 1, 0, none⟩ = some (.int .i64 D) := by
          rw [World.cell?_alloc_at _ _ _ _ (by simp)]; rfl
        have s1 : ((wr.alloc (.cells #[.int .i64 D, .int .i64 V] 72)).alloc (.cells #[.int .i64 D, .int .i64 V] 3)).cell? ⟨wr.heap.size + 1, 1, none⟩ = some (.int .i64 V) := by
          rw [World.cell?_alloc_at _ _ _ _ (by simp)]; rfl
        have hzr := hG.out.size
        clear hR hcD hcV hx hpc hG
        go_wp2_with fail
        generalize ((wr.alloc (.cells #[.int .i64 D, .int .i64 V] 72)).alloc (.cells #[.int .i64 D, .int .i64 V] 3)) = wx at *
        have c0 := hG2.out.b0
        have HD := Lib.hid (within_any D 1 n wx)
        have hfD : (decide (1 ≤ D) && decide (D ≤ (n : Int))) = freeB n D := rfl
        rw [hfD] at HD
        clear hcD' hcV' hfD
        refine wp_loop_rounds 3 ?_
        rw [rounds_succ]
        cases h1 : freeB n D
        · have hres : Hid (false = validB n l) := Lib.hid (by rw [hvb.out, hps.out, h1]; simp)
          rw [h1] at HD
          clear hvb hps h1
          go_wp2_with fail
          refine HD.out.mono ?_
          rintro e w' ⟨rfl, rfl⟩
          go_wp2
          go_ret
          exact ⟨ret_bool hres.out, hG2.out.bel⟩
        · rw [h1] at HD
          have hDr : 1 ≤ D ∧ D ≤ n := by unfold freeB at h1; simpa using h1
          obtain ⟨d, rfl⟩ : ∃ d : Nat, D = (d : Int) := ⟨D.toNat, by omega⟩
          have hd8 : d ≤ 8 := by omega
          have ud := hG2.out.b1 d hd8
          cases h2 : U (d : Int)
          · rw [h2] at ud
            have fd := hG2.out.fz d
            have hG3 := Lib.hid (hG2.out.use d hd8)
            have s1' : (wx.setCell ⟨w.heap.size + 1, d, none⟩ (.bool true)).cell? ⟨wr.heap.size + 1, 1, none⟩ = some (.int .i64 V) :=
              (World.cell?_setCell_other _ _ _ _ (fun q => by have := congrArg Addr.block q; simp at this; omega)).trans s1
            have c0' := hG3.out.b0
            have HV := Lib.hid (within_any V 1 n (wx.setCell ⟨w.heap.size + 1, d, none⟩ (.bool true)))
            have hfV : (decide (1 ≤ V) && decide (V ≤ (n : Int))) = freeB n V := rfl
            rw [hfV] at HV
            clear hfV
            cases h3 : freeB n V
            · have hres : Hid (false = validB n l) := Lib.hid (by rw [hvb.out, hps.out, h3]; simp)
              rw [h3] at HV
              clear hvb hps h1 h2 h3
              go_wp2_with fail
              refine HD.out.mono ?_
              rintro e w' ⟨rfl, rfl⟩
              go_wp2_with fail
              rw [rounds_succ]
              go_wp2_with fail
              refine HV.out.mono ?_
              rintro e w' ⟨rfl, rfl⟩
              go_wp2
              go_ret
              exact ⟨ret_bool hres.out, hG3.out.bel⟩
            · rw [h3] at HV
              have hVr : 1 ≤ V ∧ V ≤ n := by unfold freeB at h3; simpa using h3
              obtain ⟨v, rfl⟩ : ∃ v : Nat, V = (v : Int) := ⟨V.toNat, by omega⟩
              have hv8 : v ≤ 8 := by omega
              have uv := hG3.out.b1 v hv8
              have fv := hG3.out.fz v
              cases h4 : (decide ((v : Int) = (d : Int)) || U (v : Int))
              · have hps' : Hid (pick (freeB n) l = pick (fun j => freeB n j && !(decide (j = (v : Int)) || (decide (j = (d : Int)) || U j))) (l.drop (k + 1))) := Lib.hid (by
                  rw [hps.out, h1, h2, h3]
                  have h4' := h4
                  rw [Bool.or_eq_false_iff] at h4'
                  rw [h4'.1, h4'.2]
                  simp only [Bool.not_false, Bool.and_self, Bool.true_and]
                  congr 1
                  funext j
                  cases freeB n j <;> cases decide (j = (v : Int)) <;> cases decide (j = (d : Int)) <;> cases U j <;> rfl)
                rw [h4] at uv
                have hG4 := Lib.hid (hG3.out.use v hv8)
                clear hvb hps h1 h2 h3 h4
                go_wp2_with fail
                refine HD.out.mono ?_
                rintro e w' ⟨rfl, rfl⟩
                go_wp2_with fail
                rw [rounds_succ]
                go_wp2_with fail
                refine HV.out.mono ?_
                rintro e w' ⟨rfl, rfl⟩
                go_wp2_with fail
                rw [rounds_succ]
                go_wp2
                go_roundw
                case rel => exact ⟨k + 1, by omega, by go_num, _, hG4, hps'⟩
                case measure => simp [intOf]; omega
              · have hres : Hid (false = validB n l) := Lib.hid (by
                  rw [hvb.out, hps.out, h3]
                  have h4' := h4
                  rw [Bool.or_eq_true] at h4'
                  rcases h4' with h | h
                  · rw [h]; simp
                  · rw [h]; simp)
                rw [h4] at uv
                clear hvb hps h1 h2 h3 h4
                go_wp2_with fail
                refine HD.out.mono ?_
                rintro e w' ⟨rfl, rfl⟩
                go_wp2_with fail
                rw [rounds_succ]
                go_wp2_with fail
                refine HV.out.mono ?_
                rintro e w' ⟨rfl, rfl⟩
                go_wp2
                go_ret
                exact ⟨ret_bool hres.out, hG3.out.bel⟩
          · have hres : Hid (false = validB n l) := Lib.hid (by rw [hvb.out, hps.out, h2]; simp)
            rw [h2] at ud
            clear hvb hps h1 h2
            go_wp2_with fail
            refine HD.out.mono ?_
            rintro e w' ⟨rfl, rfl⟩
            go_wp2
            go_ret
            exact ⟨ret_bool hres.out, hG2.out.bel⟩
      · have hres : Hid (true = validB n l) := Lib.hid (by
          unfold validB
          rw [hpc.out, List.drop_eq_nil_of_le (by omega), hl]
          simp [pick, hin])
        have hbl := Lib.hid hG.out.bel
        clear hpc hG
        go_wp2
        go_ret
        exact ⟨ret_bool hres.out, hbl.out⟩
  · have hi : (decide (1 ≤ (m : Int)) && decide ((m : Int) ≤ 3)) = false := by simp; omega
    rw [hi] at H1
    go_enter Try.func45, Try.ntmps45
    go_wp2_with fail
    refine H1.out.mono ?_
    rintro e w1 ⟨rfl, rfl⟩
    go_wp2
    go_ret
    refine ⟨ret_bool ?_, hB.out⟩
    unfold validB
    rw [hl]
    simp; omega
end Go.Proofs.Ytjmegnbjacndpaa
