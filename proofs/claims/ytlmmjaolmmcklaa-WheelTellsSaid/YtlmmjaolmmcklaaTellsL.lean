/-
  The law's walk: wheels that are told.
-/
import Derived.Test.YtlmmjaolmmcklaaTellsA
namespace Go.Proofs.Ytlmmjaolmmcklaa
open Go.RowKit Go.Maps

theorem prs_one (l : List (Int × Int)) : ∀ u ∈ prs l, u.oneCell' = true := by
  intro u hu
  simp only [prs, List.mem_flatMap] at hu
  obtain ⟨a, _, h⟩ := hu
  simp [prc] at h
  rcases h with rfl | rfl <;> rfl

theorem eq_part (C U : Int) (w : World) :
    (Op.equalIn 10000 40 (.agg #[.int .i64 C, .int .i64 U]) (.agg #[.int .i64 C, .int .i64 U])).run Try.prog w = .ok true w := by
  have z3 := Try.sizeOf3
  have a3 := Try.isAgg3
  have u3 := Try.underlying3
  have hS : Try.prog.underlying 40 = some (.struct (Try.prog.fieldsOf 40)) := by kernel_rfl
  have hp : Try.prog.stoodInHeld 40 = false := by kernel_rfl
  rw [show (10000 : Nat) = 9999 + 1 from rfl, run_equalIn_agg w 9999 40 _ _ hS hp]
  simp only [Program.fieldsOf, Try.underlying40]
  go_simp

set_option maxRecDepth 100000 in
set_option maxHeartbeats 1000000 in
theorem law_tells (A A' : Option Addr) (n c m c' : Nat) (hmc : m ≤ c') (ts : List Int) (l : List (Int × Int)) (hF : Fit2 l) (w : World) (hT : Reads w w.heap.size 1 A n (ints ts)) (hR : Reads w w.heap.size 2 A' m (prs l)) :
    Calls Try.prog 4 #[.agg #[.slice A n c], .slice A' m c'] w fun e w' => e = .returned (.bool true) ∧ Below w.heap.size w w' := by
  have H1 := Lib.hid (Great_any A n c (w.alloc (.cells #[.slice A n c] 35)))
  have hB := Lib.hid ((Below.refl w.heap.size w).alloc (Nat.le_refl _) (.cells #[.slice A n c] 35))
  by_cases hn : n ≤ 20
  · have hg : decide (20 < n) = false := by simp; omega
    rw [hg] at H1
    by_cases hm : m ≤ 10
    · have hl : l.length = m := hR.pr_len
      obtain ⟨ip, hip, hzp0, hzp1, hzp2⟩ := info_parts info_pr
      go_enter Try.func4, Try.ntmps4
      go_wp2_with fail
      refine H1.out.mono ?_
      rintro e w1 ⟨rfl, hb1⟩
      have hB1 := Lib.hid (hB.out.trans (hb1.mono (by simp)))
      have hz1 : w.heap.size + 1 ≤ w1.heap.size := by have := hb1.size; simpa using this
      have k0 : w1.heap[w.heap.size]? = some (.cells #[.slice A n c] 35 (0, 0)) := (hb1.block _ (by simp)).trans (MapKept.heap_alloc w _).1
      have c0 : w1.cell? ⟨w.heap.size, 0, none⟩ = some (.slice A n c) := by simp [World.cell?, k0]
      have H2 := Lib.hid (TwinWheels_any A n c ts w1 hn ((hT.below hB1.out).more hB1.out.size))
      clear hb1 H1 hB
      go_wp2_with fail
      refine H2.out.mono ?_
      rintro e w2 ⟨v, rfl, hv, hb2⟩
      have hB2 := Lib.hid (below_via hB1.out hB1.out.size hb2)
      have hz2 : w.heap.size + 1 ≤ w2.heap.size := Nat.le_trans hz1 hb2.size
      have k0' := (hb2.block w.heap.size (by omega)).trans k0
      obtain ⟨Ao, co, rfl, hO⟩ := own_slice hv
      have hOwn := Lib.hid (World.ownsRow_lit w2 (base := w2.heap.size) (e := 82) (size := 2) #[] 0 (Nat.le_refl _) (by unfold maxLen; omega) rfl)
      have hR2 := Lib.hid (hR.below hB2.out)
      clear hb2 H2 hv c0 k0
      go_wp2_with (first
        | (at_builtin; refine wpList_app _ rfl _ _ 36 rfl w2.heap.size 82 ip _ 2 16 Try.underlying36 hip hzp0 hzp1 hzp2 rfl (by decide) _ 0 [] rfl (by exact hOwn.out) w.heap.size A' m c' _ rfl (hR2.out.alloc hB2.out.size _) (prs_one _) ?c3 ?c4 ?c5 ?_)
        | fail)
      case c3 => unfold maxLen; omega
      case c4 => omega
      case c5 => simp
      intro v' w3 hown hgr hat
      have hz3 : w2.heap.size + 1 ≤ w3.heap.size := by have := hgr.size; simpa using this
      have hB3 := Lib.hid ((hB2.out.alloc hB2.out.size (.cells #[] 82)).grown hgr (by simp; omega) (fun k hk => by simp [Value.ownBlock] at hk; omega))
      have k0'' : w3.heap[w.heap.size]? = some (.cells #[.slice A n c] 35 (0, 0)) := (hgr.block _ (by simp; omega) (by simp [Value.ownBlock]; omega)).trans ((heap_lt_alloc _ _ _ (by omega)).trans k0')
      have hO3 : Hid (Reads w3 w3.heap.size 1 Ao n (ints ts)) := Lib.hid (((hO.alloc (Nat.le_refl _) (.cells #[] 82)).grown hgr (by simp) (fun k hk => by simp [Value.ownBlock] at hk; omega)).more (by omega))
      obtain ⟨Al, cl, rfl, hL⟩ := own_slice hown
      have hL3 : Hid (Reads w3 w3.heap.size 2 Al m (prs l)) := Lib.hid (by simpa using hL)
      have hR3 := Lib.hid (hR.below hB3.out)
      have hT3 := Lib.hid (hT.below hB3.out)
      clear hOwn hR2 hown hgr hat hO hL k0'
      have hB4 := Lib.hid (hB3.out.alloc hB3.out.size (.cells #[.slice Ao n co] 35))
      have c5 : (w3.alloc (.cells #[.slice Ao n co] 35)).cell? ⟨w3.heap.size, 0, none⟩ = some (.slice Ao n co) := cellN _ _ _
      have c0 : (w3.alloc (.cells #[.slice Ao n co] 35)).cell? ⟨w.heap.size, 0, none⟩ = some (.slice A n c) := by
        rw [World.cell?_alloc_lt w3 _ _ (by simp; omega)]; simp [World.cell?, k0'']
      obtain ⟨v, hv⟩ : ∃ v, ansV (okW n ts) (validB n l) ts l = v := ⟨_, rfl⟩
      have HP := Lib.hid (fun y hy => prog_ans Ao Al n co m cl hn (by omega) ts l hF y (((hO3.out.alloc (Nat.le_refl _) (.cells #[.slice Ao n co] 35)).below (hy : Below w3.heap.size (w3.alloc (.cells #[.slice Ao n co] 35)) y)).more (Nat.le_trans (by simp) hy.size)) (((hL3.out.alloc (Nat.le_refl _) (.cells #[.slice Ao n co] 35)).below hy).more (Nat.le_trans (by simp) hy.size)) v hv)
      have HR := Lib.hid (fun y hy => ref_ans A A' n c m c' hn (by omega) hmc ts l y ((hT.below (hy : Below w.heap.size w y)).more hy.size) ((hR.below hy).more hy.size) v hv)
      have HK := Lib.hid (fun y hy => And.intro (Check_any Ao n co ts hn y (((hO3.out.alloc (Nat.le_refl _) (.cells #[.slice Ao n co] 35)).below (hy : Below w3.heap.size (w3.alloc (.cells #[.slice Ao n co] 35)) y)).more (Nat.le_trans (by simp) hy.size)))
        (And.intro (RCheck_any A n c ts hn y ((hT.below (hB4.out.trans (hy.mono hB3.out.size))).more (hB4.out.trans (hy.mono hB3.out.size)).size))
        (And.intro (SameWheels_any Ao A n n co c ts ts y (by unfold maxLen; omega) (by unfold maxLen; omega) (((hO3.out.alloc (Nat.le_refl _) (.cells #[.slice Ao n co] 35)).below hy).more (Nat.le_trans (by simp) hy.size)) ((hT.below (hB4.out.trans (hy.mono hB3.out.size))).more (hB4.out.trans (hy.mono hB3.out.size)).size))
        (SameTrains_eq Al A' m cl c' l y (by unfold maxLen; omega) (((hL3.out.alloc (Nat.le_refl _) (.cells #[.slice Ao n co] 35)).below hy).more (Nat.le_trans (by simp) hy.size)) ((hR.below (hB4.out.trans (hy.mono hB3.out.size))).more (hB4.out.trans (hy.mono hB3.out.size)).size)))))
      have hz4 : w.heap.size + 1 ≤ w3.heap.size := by omega
      obtain ⟨r, s, h, t, er⟩ := v
      clear hv hO3 hL3 hR3 hT3 hT hR hF k0'' hl hB3 hB2 hB1
      simp only at HP HR HK
      go_wp2_with fail
      generalize hx0 : w3.alloc (.cells #[.slice Ao n co] 35) = x0 at *
      have hz0 : w3.heap.size + 1 = x0.heap.size := by rw [← hx0]; simp
      clear hx0
      refine (HP.out _ (Below.refl _ _)).1.mono ?_
      rintro e x1 ⟨rfl, hb1⟩
      have hc1 := Lib.hid ((hb1.mono (by omega : w3.heap.size ≤ x0.heap.size)).alloc (by have := hb1.size; omega) (.cells #[.int .i64 r, .int .i64 s] 40))
      have hs1 := hb1.size
      have g0 : (x1.alloc (.cells #[.int .i64 r, .int .i64 s] 40)).cell? ⟨w.heap.size, 0, none⟩ = some (.slice A n c) := by
        rw [World.cell?_alloc_lt x1 _ _ (by simp; omega), hb1.cell (by simp; omega)]; exact c0
      have g5 : (x1.alloc (.cells #[.int .i64 r, .int .i64 s] 40)).cell? ⟨w3.heap.size, 0, none⟩ = some (.slice Ao n co) := by
        rw [World.cell?_alloc_lt x1 _ _ (by simp; omega), hb1.cell (by simp; omega)]; exact c5
      clear hb1 c0 c5
      go_wp2_with fail
      have g7 : (x1.alloc (.cells #[.int .i64 r, .int .i64 s] 40)).cell? ⟨x1.heap.size, 0, none⟩ = some (.int .i64 r) := by rw [World.cell?_alloc_at _ _ _ _ rfl]; rfl
      have g8 : (x1.alloc (.cells #[.int .i64 r, .int .i64 s] 40)).cell? ⟨x1.heap.size, 1, none⟩ = some (.int .i64 s) := by rw [World.cell?_alloc_at _ _ _ _ rfl]; rfl
      have hs1' : x1.heap.size + 1 = (x1.alloc (.cells #[.int .i64 r, .int .i64 s] 40)).heap.size := by simp
      generalize (x1.alloc (.cells #[.int .i64 r, .int .i64 s] 40)) = x2 at *
      refine (HR.out _ (hB4.out.trans (hc1.out.mono (by omega)))).1.mono ?_
      rintro e x3 ⟨rfl, hb2⟩
      have hs2 := hb2.size
      have hc2 := Lib.hid ((hc1.out.trans (hb2.mono (by omega))).alloc (by omega) (.cells #[.int .i64 r, .int .i64 s] 40))
      have f0 : (x3.alloc (.cells #[.int .i64 r, .int .i64 s] 40)).cell? ⟨w.heap.size, 0, none⟩ = some (.slice A n c) := by
        rw [World.cell?_alloc_lt x3 _ _ (by simp; omega), hb2.cell (by simp; omega)]; exact g0
      have f5 : (x3.alloc (.cells #[.int .i64 r, .int .i64 s] 40)).cell? ⟨w3.heap.size, 0, none⟩ = some (.slice Ao n co) := by
        rw [World.cell?_alloc_lt x3 _ _ (by simp; omega), hb2.cell (by simp; omega)]; exact g5
      have f7 : (x3.alloc (.cells #[.int .i64 r, .int .i64 s] 40)).cell? ⟨x1.heap.size, 0, none⟩ = some (.int .i64 r) := by
        rw [World.cell?_alloc_lt x3 _ _ (by simp; omega), hb2.cell (by simp; omega)]; exact g7
      have f8 : (x3.alloc (.cells #[.int .i64 r, .int .i64 s] 40)).cell? ⟨x1.heap.size, 1, none⟩ = some (.int .i64 s) := by
        rw [World.cell?_alloc_lt x3 _ _ (by simp; omega), hb2.cell (by simp; omega)]; exact g8
      clear hb2 hc1 g0 g5 g7 g8
      go_wp2_with fail
      have f9 : (x3.alloc (.cells #[.int .i64 r, .int .i64 s] 40)).cell? ⟨x3.heap.size, 0, none⟩ = some (.int .i64 r) := by rw [World.cell?_alloc_at _ _ _ _ rfl]; rfl
      have f10 : (x3.alloc (.cells #[.int .i64 r, .int .i64 s] 40)).cell? ⟨x3.heap.size, 1, none⟩ = some (.int .i64 s) := by rw [World.cell?_alloc_at _ _ _ _ rfl]; rfl
      have hs3 : x3.heap.size + 1 = (x3.alloc (.cells #[.int .i64 r, .int .i64 s] 40)).heap.size := by simp
      generalize (x3.alloc (.cells #[.int .i64 r, .int .i64 s] 40)) = y at *
      have HP2 := Lib.hid (fun z (hz : Below y.heap.size y z) => HP.out z (hc2.out.trans (hz.mono (by omega))))
      have HR2 := Lib.hid (fun z (hz : Below y.heap.size y z) => HR.out z (hB4.out.trans ((hc2.out.trans (hz.mono (by omega))).mono (by omega))))
      have HK2 := Lib.hid (fun z (hz : Below y.heap.size y z) => HK.out z (hc2.out.trans (hz.mono (by omega))))
      have hW := Lib.hid (fun z (hz : Below y.heap.size y z) => hB4.out.trans ((hc2.out.trans (hz.mono (by omega))).mono (by omega)))
      obtain ⟨S, hS⟩ : ∃ S : World → Prop, S = fun z => (z.cell? ⟨w.heap.size, 0, none⟩ = some (.slice A n c) ∧ z.cell? ⟨w3.heap.size, 0, none⟩ = some (.slice Ao n co) ∧ z.cell? ⟨x1.heap.size, 0, none⟩ = some (.int .i64 r) ∧ z.cell? ⟨x1.heap.size, 1, none⟩ = some (.int .i64 s) ∧ z.cell? ⟨x3.heap.size, 0, none⟩ = some (.int .i64 r) ∧ z.cell? ⟨x3.heap.size, 1, none⟩ = some (.int .i64 s)) ∧ Hid (Below y.heap.size y z) := ⟨_, rfl⟩
      have HS := Lib.hid (fun z (hz : Below y.heap.size y z) => (by rw [hS]; exact ⟨⟨(hz.cell (p := ⟨w.heap.size, 0, none⟩) (by simp; omega)).trans f0, (hz.cell (p := ⟨w3.heap.size, 0, none⟩) (by simp; omega)).trans f5, (hz.cell (p := ⟨x1.heap.size, 0, none⟩) (by simp; omega)).trans f7, (hz.cell (p := ⟨x1.heap.size, 1, none⟩) (by simp; omega)).trans f8, (hz.cell (p := ⟨x3.heap.size, 0, none⟩) (by simp; omega)).trans f9, (hz.cell (p := ⟨x3.heap.size, 1, none⟩) (by simp; omega)).trans f10⟩, Lib.hid hz⟩ : S z))
      have HS1 := Lib.hid (fun z (hz : Below y.heap.size y z) => (by have := HS.out z hz; rw [hS] at this; exact this : _ ∧ Hid (Below y.heap.size y z)))
      have HB := Lib.hid (fun z (hz : S z) => (show Hid (Below y.heap.size y z) from (by rw [hS] at hz; exact hz.2)).out)
      clear HP HR HK hB4 hc2
      refine (HP2.out _ (Below.refl _ _)).2.1.mono ?_
      rintro e y1 ⟨rfl, hb1⟩
      have hd1 := Lib.hid hb1
      have e0 := (HS1.out _ hb1).1.1
      have e5 := (HS1.out _ hb1).1.2.1
      clear hb1
      go_wp2_with fail
      refine (HR2.out _ hd1.out).2.1.mono ?_
      rintro e y2 ⟨rfl, hb2⟩
      have hd2 := Lib.hid (below_via hd1.out hd1.out.size hb2)
      have e0' := (HS1.out _ hd2.out).1.1
      have e5' := (HS1.out _ hd2.out).1.2.1
      clear hb2 hd1 e0 e5
      go_wp2_with fail
      refine (HP2.out _ hd2.out).2.2.mono ?_
      rintro e y3 ⟨rfl, hb3⟩
      have hd3 := Lib.hid (below_via hd2.out hd2.out.size hb3)
      have e0 := (HS1.out _ hd3.out).1.1
      have e5 := (HS1.out _ hd3.out).1.2.1
      clear hb3 hd2 e0' e5'
      go_wp2_with fail
      refine (HR2.out _ hd3.out).2.2.mono ?_
      rintro e y4 ⟨rfl, hb4⟩
      have hd4 := Lib.hid (below_via hd3.out hd3.out.size hb4)
      clear hb4 hd3 e0 e5 HP2 HR2 f0 f5 f7 f8 f9 f10
      have C1 := Lib.hid (fun z hz => (HK2.out z hz).1)
      have C2 := Lib.hid (fun z hz => (HK2.out z hz).2.1)
      have C3 := Lib.hid (fun z hz => (HK2.out z hz).2.2.1)
      have C4 := Lib.hid (fun z hz => (HK2.out z hz).2.2.2)
      simp only [decide_true] at C3
      clear HK2
      have hEP := eq_part r s
      have gEq : Try.prog.eqGuardType Try.prog.depth 40 = false := by kernel_rfl
      go_wp2_with fail
      refine wp_region_held_drew (S := S) (by kernel_rfl) ?_ (fun hHeld => ?_)
      · exact HS.out _ hd4.out.drew
      refine tkY (v := ?_) 0 67 rfl rfl (by kernel_rfl) (by kernel_rfl) (by kernel_rfl) (fun _ _ _ h => h) (by kernel_rfl) ?_ (by assumption) ?_
      rotate_left
      · intro w hSw; rw [hS] at hSw; obtain ⟨⟨q0, q5, q7, q8, q9, q10⟩, -⟩ := hSw; go_simp; (try with_reducible rfl)
      try simp only [Act.put, List.setIfInBounds_toArray, List.set_cons_zero, List.set_cons_succ]
      refine tkY (v := ?_) 2 69 rfl rfl (by kernel_rfl) (by kernel_rfl) (by kernel_rfl) (fun _ _ _ h => h) (by kernel_rfl) ?_ (by assumption) ?_
      rotate_left
      · intro w hSw; rw [hS] at hSw; obtain ⟨⟨q0, q5, q7, q8, q9, q10⟩, -⟩ := hSw; go_simp; (try with_reducible rfl)
      try simp only [Act.put, List.setIfInBounds_toArray, List.set_cons_zero, List.set_cons_succ]
      refine wpAnyH_ready (rs := [1]) (by kernel_rfl) (by simp) ?_
      refine AllReadyH.cons (o := _) rfl (fun K hK => ?_) AllReadyH.nil
      go_simp
      refine (C1.out _ (HB.out _ (by assumption))).mono ?_
      rintro e z1 ⟨rfl, hb1⟩
      try go_simp
      have hz1 := Lib.hid (below_via (HB.out _ (by assumption)) (HB.out _ (by assumption)).size hb1)
      refine hK.out _ _ ?_ (fun hHeld => ?_)
      · exact HS.out _ hz1.out
      clear hK K hb1 hz1
      try simp only [Act.put, List.setIfInBounds_toArray, List.set_cons_zero, List.set_cons_succ]
      refine wpAnyH_ready (rs := [3]) (by kernel_rfl) (by simp) ?_
      refine AllReadyH.cons (o := _) rfl (fun K hK => ?_) AllReadyH.nil
      go_simp
      refine (C2.out _ (HB.out _ (by assumption))).mono ?_
      rintro e z3 ⟨rfl, hb3⟩
      try go_simp
      have hz3 := Lib.hid (below_via (HB.out _ (by assumption)) (HB.out _ (by assumption)).size hb3)
      refine hK.out _ _ ?_ (fun hHeld => ?_)
      · exact HS.out _ hz3.out
      clear hK K hb3 hz3
      try simp only [Act.put, List.setIfInBounds_toArray, List.set_cons_zero, List.set_cons_succ]
      refine tkY (v := ?_) 4 71 rfl rfl (by kernel_rfl) (by kernel_rfl) (by kernel_rfl) (fun _ _ _ h => h) (by kernel_rfl) ?_ (by assumption) ?_
      rotate_left
      · intro w hSw; rw [hS] at hSw; obtain ⟨⟨q0, q5, q7, q8, q9, q10⟩, -⟩ := hSw; go_simp; (try with_reducible rfl)
      try simp only [Act.put, List.setIfInBounds_toArray, List.set_cons_zero, List.set_cons_succ]
      refine tkY (v := ?_) 5 72 rfl rfl (by kernel_rfl) (by kernel_rfl) (by kernel_rfl) (fun _ _ _ h => h) (by kernel_rfl) ?_ (by assumption) ?_
      rotate_left
      · intro w hSw; rw [hS] at hSw; obtain ⟨⟨q0, q5, q7, q8, q9, q10⟩, -⟩ := hSw; go_simp; (try with_reducible rfl)
      try simp only [Act.put, List.setIfInBounds_toArray, List.set_cons_zero, List.set_cons_succ]
      refine tkY (v := ?_) 6 73 rfl rfl (by kernel_rfl) (by kernel_rfl) (by kernel_rfl) (fun _ _ _ h => h) (by kernel_rfl) ?_ (by assumption) ?_
      rotate_left
      · intro w hSw; rw [hS] at hSw; obtain ⟨⟨q0, q5, q7, q8, q9, q10⟩, -⟩ := hSw; go_simp; (try with_reducible rfl)
      try simp only [Act.put, List.setIfInBounds_toArray, List.set_cons_zero, List.set_cons_succ]
      refine tkY (v := ?_) 7 74 rfl rfl (by kernel_rfl) (by kernel_rfl) (by kernel_rfl) (fun _ _ _ h => h) (by kernel_rfl) ?_ (by assumption) ?_
      rotate_left
      · intro w hSw; rw [hS] at hSw; obtain ⟨⟨q0, q5, q7, q8, q9, q10⟩, -⟩ := hSw; go_simp; (try with_reducible rfl)
      try simp only [Act.put, List.setIfInBounds_toArray, List.set_cons_zero, List.set_cons_succ]
      refine tkY (v := ?_) 8 75 rfl rfl (by kernel_rfl) (by kernel_rfl) (by kernel_rfl) (fun _ _ _ h => h) (by kernel_rfl) ?_ (by assumption) ?_
      rotate_left
      · intro w hSw; rw [hS] at hSw; obtain ⟨⟨q0, q5, q7, q8, q9, q10⟩, -⟩ := hSw; go_simp; (try with_reducible rfl)
      try simp only [Act.put, List.setIfInBounds_toArray, List.set_cons_zero, List.set_cons_succ]
      refine tkY (v := ?_) 9 76 rfl rfl (by kernel_rfl) (by kernel_rfl) (by kernel_rfl) (fun _ _ _ h => h) (by kernel_rfl) ?_ (by assumption) ?_
      rotate_left
      · intro w hSw; rw [hS] at hSw; obtain ⟨⟨q0, q5, q7, q8, q9, q10⟩, -⟩ := hSw; go_simp; (try with_reducible rfl)
      try simp only [Act.put, List.setIfInBounds_toArray, List.set_cons_zero, List.set_cons_succ]
      refine tkY (v := ?_) 10 77 rfl rfl (by kernel_rfl) (by kernel_rfl) (by kernel_rfl) (fun _ _ _ h => h) (by kernel_rfl) ?_ (by assumption) ?_
      rotate_left
      · intro w hSw; rw [hS] at hSw; obtain ⟨⟨q0, q5, q7, q8, q9, q10⟩, -⟩ := hSw; go_simp; (try with_reducible rfl)
      try simp only [Act.put, List.setIfInBounds_toArray, List.set_cons_zero, List.set_cons_succ]
      refine tkY (v := ?_) 11 78 rfl rfl (by kernel_rfl) (by kernel_rfl) (by kernel_rfl) (fun _ _ _ h => h) (by kernel_rfl) ?_ (by assumption) ?_
      rotate_left
      · intro w hSw; rw [hS] at hSw; obtain ⟨⟨q0, q5, q7, q8, q9, q10⟩, -⟩ := hSw; go_simp; (try with_reducible rfl)
      try simp only [Act.put, List.setIfInBounds_toArray, List.set_cons_zero, List.set_cons_succ]
      refine tkY (v := ?_) 12 79 rfl rfl (by kernel_rfl) (by kernel_rfl) (by kernel_rfl) (fun _ _ _ h => h) (by kernel_rfl) ?_ (by assumption) ?_
      rotate_left
      · intro w hSw; rw [hS] at hSw; obtain ⟨⟨q0, q5, q7, q8, q9, q10⟩, -⟩ := hSw; go_simp; (try with_reducible rfl)
      try simp only [Act.put, List.setIfInBounds_toArray, List.set_cons_zero, List.set_cons_succ]
      refine tkY (v := ?_) 13 80 rfl rfl (by kernel_rfl) (by kernel_rfl) (by kernel_rfl) (fun _ _ _ h => h) (by kernel_rfl) ?_ (by assumption) ?_
      rotate_left
      · intro w hSw; rw [hS] at hSw; obtain ⟨⟨q0, q5, q7, q8, q9, q10⟩, -⟩ := hSw; go_simp; (try with_reducible rfl)
      try simp only [Act.put, List.setIfInBounds_toArray, List.set_cons_zero, List.set_cons_succ]
      refine tkY (v := ?_) 14 81 rfl rfl (by kernel_rfl) (by kernel_rfl) (by kernel_rfl) (fun _ _ _ h => h) (by kernel_rfl) ?_ (by assumption) ?_
      rotate_left
      · intro w hSw; rw [hS] at hSw; obtain ⟨⟨q0, q5, q7, q8, q9, q10⟩, -⟩ := hSw; go_simp; (try with_reducible rfl)
      try simp only [Act.put, List.setIfInBounds_toArray, List.set_cons_zero, List.set_cons_succ]
      refine tkY (v := ?_) 15 82 rfl rfl (by kernel_rfl) (by kernel_rfl) (by kernel_rfl) (fun _ _ _ h => h) (by kernel_rfl) ?_ (by assumption) ?_
      rotate_left
      · intro w hSw; rw [hS] at hSw; obtain ⟨⟨q0, q5, q7, q8, q9, q10⟩, -⟩ := hSw; go_simp; (try with_reducible rfl)
      try simp only [Act.put, List.setIfInBounds_toArray, List.set_cons_zero, List.set_cons_succ]
      refine tkY (v := ?_) 16 83 rfl rfl (by kernel_rfl) (by kernel_rfl) (by kernel_rfl) (fun _ _ _ h => h) (by kernel_rfl) ?_ (by assumption) ?_
      rotate_left
      · intro w hSw; rw [hS] at hSw; obtain ⟨⟨q0, q5, q7, q8, q9, q10⟩, -⟩ := hSw; go_simp; (try with_reducible rfl)
      try simp only [Act.put, List.setIfInBounds_toArray, List.set_cons_zero, List.set_cons_succ]
      refine tkY (v := ?_) 17 84 rfl rfl (by kernel_rfl) (by kernel_rfl) (by kernel_rfl) (fun _ _ _ h => h) (by kernel_rfl) ?_ (by assumption) ?_
      rotate_left
      · intro w hSw; rw [hS] at hSw; obtain ⟨⟨q0, q5, q7, q8, q9, q10⟩, -⟩ := hSw; go_simp; (try with_reducible rfl)
      try simp only [Act.put, List.setIfInBounds_toArray, List.set_cons_zero, List.set_cons_succ]
      refine tkY (v := ?_) 18 85 rfl rfl (by kernel_rfl) (by kernel_rfl) (by kernel_rfl) (fun _ _ _ h => h) (by kernel_rfl) ?_ (by assumption) ?_
      rotate_left
      · intro w hSw; rw [hS] at hSw; obtain ⟨⟨q0, q5, q7, q8, q9, q10⟩, -⟩ := hSw; go_simp; (try with_reducible rfl)
      try simp only [Act.put, List.setIfInBounds_toArray, List.set_cons_zero, List.set_cons_succ]
      refine tkY (v := ?_) 19 86 rfl rfl (by kernel_rfl) (by kernel_rfl) (by kernel_rfl) (fun _ _ _ h => h) (by kernel_rfl) ?_ (by assumption) ?_
      rotate_left
      · intro w hSw; rw [hS] at hSw; obtain ⟨⟨q0, q5, q7, q8, q9, q10⟩, -⟩ := hSw; go_simp; (try with_reducible rfl)
      try simp only [Act.put, List.setIfInBounds_toArray, List.set_cons_zero, List.set_cons_succ]
      refine tkY (v := ?_) 20 87 rfl rfl (by kernel_rfl) (by kernel_rfl) (by kernel_rfl) (fun _ _ _ h => h) (by kernel_rfl) ?_ (by assumption) ?_
      rotate_left
      · intro w hSw; rw [hS] at hSw; obtain ⟨⟨q0, q5, q7, q8, q9, q10⟩, -⟩ := hSw; go_simp; (try with_reducible rfl)
      try simp only [Act.put, List.setIfInBounds_toArray, List.set_cons_zero, List.set_cons_succ]
      refine tkY (v := ?_) 21 88 rfl rfl (by kernel_rfl) (by kernel_rfl) (by kernel_rfl) (fun _ _ _ h => h) (by kernel_rfl) ?_ (by assumption) ?_
      rotate_left
      · intro w hSw; rw [hS] at hSw; obtain ⟨⟨q0, q5, q7, q8, q9, q10⟩, -⟩ := hSw; go_simp; (try with_reducible rfl)
      try simp only [Act.put, List.setIfInBounds_toArray, List.set_cons_zero, List.set_cons_succ]
      refine tkY (v := ?_) 22 89 rfl rfl (by kernel_rfl) (by kernel_rfl) (by kernel_rfl) (fun _ _ _ h => h) (by kernel_rfl) ?_ (by assumption) ?_
      rotate_left
      · intro w hSw; rw [hS] at hSw; obtain ⟨⟨q0, q5, q7, q8, q9, q10⟩, -⟩ := hSw; go_simp; (try with_reducible rfl)
      try simp only [Act.put, List.setIfInBounds_toArray, List.set_cons_zero, List.set_cons_succ]
      refine tkY (v := ?_) 23 90 rfl rfl (by kernel_rfl) (by kernel_rfl) (by kernel_rfl) (fun _ _ _ h => h) (by kernel_rfl) ?_ (by assumption) ?_
      rotate_left
      · intro w hSw; rw [hS] at hSw; obtain ⟨⟨q0, q5, q7, q8, q9, q10⟩, -⟩ := hSw; go_simp; (try with_reducible rfl)
      try simp only [Act.put, List.setIfInBounds_toArray, List.set_cons_zero, List.set_cons_succ]
      refine tkY (v := ?_) 24 91 rfl rfl (by kernel_rfl) (by kernel_rfl) (by kernel_rfl) (fun _ _ _ h => h) (by kernel_rfl) ?_ (by assumption) ?_
      rotate_left
      · intro w hSw; rw [hS] at hSw; obtain ⟨⟨q0, q5, q7, q8, q9, q10⟩, -⟩ := hSw; go_simp; (try with_reducible rfl)
      try simp only [Act.put, List.setIfInBounds_toArray, List.set_cons_zero, List.set_cons_succ]
      refine tkY (v := ?_) 25 92 rfl rfl (by kernel_rfl) (by kernel_rfl) (by kernel_rfl) (fun _ _ _ h => h) (by kernel_rfl) ?_ (by assumption) ?_
      rotate_left
      · intro w hSw; rw [hS] at hSw; obtain ⟨⟨q0, q5, q7, q8, q9, q10⟩, -⟩ := hSw; go_simp; (try with_reducible rfl)
      try simp only [Act.put, List.setIfInBounds_toArray, List.set_cons_zero, List.set_cons_succ]
      refine tkY (v := ?_) 26 93 rfl rfl (by kernel_rfl) (by kernel_rfl) (by kernel_rfl) (fun _ _ _ h => h) (by kernel_rfl) ?_ (by assumption) ?_
      rotate_left
      · intro w hSw; rw [hS] at hSw; obtain ⟨⟨q0, q5, q7, q8, q9, q10⟩, -⟩ := hSw; go_simp; (try with_reducible rfl)
      try simp only [Act.put, List.setIfInBounds_toArray, List.set_cons_zero, List.set_cons_succ]
      refine tkY (v := ?_) 27 94 rfl rfl (by kernel_rfl) (by kernel_rfl) (by kernel_rfl) (fun _ _ _ h => h) (by kernel_rfl) ?_ (by assumption) ?_
      rotate_left
      · intro w hSw; rw [hS] at hSw; obtain ⟨⟨q0, q5, q7, q8, q9, q10⟩, -⟩ := hSw; go_simp; (try with_reducible rfl)
      try simp only [Act.put, List.setIfInBounds_toArray, List.set_cons_zero, List.set_cons_succ]
      refine tkY (v := ?_) 28 95 rfl rfl (by kernel_rfl) (by kernel_rfl) (by kernel_rfl) (fun _ _ _ h => h) (by kernel_rfl) ?_ (by assumption) ?_
      rotate_left
      · intro w hSw; rw [hS] at hSw; obtain ⟨⟨q0, q5, q7, q8, q9, q10⟩, -⟩ := hSw; go_simp; (try with_reducible rfl)
      try simp only [Act.put, List.setIfInBounds_toArray, List.set_cons_zero, List.set_cons_succ]
      refine tkY (v := ?_) 29 96 rfl rfl (by kernel_rfl) (by kernel_rfl) (by kernel_rfl) (fun _ _ _ h => h) (by kernel_rfl) ?_ (by assumption) ?_
      rotate_left
      · intro w hSw; rw [hS] at hSw; obtain ⟨⟨q0, q5, q7, q8, q9, q10⟩, -⟩ := hSw; go_simp; (try with_reducible rfl)
      try simp only [Act.put, List.setIfInBounds_toArray, List.set_cons_zero, List.set_cons_succ]
      refine tkY (v := ?_) 30 97 rfl rfl (by kernel_rfl) (by kernel_rfl) (by kernel_rfl) (fun _ _ _ h => h) (by kernel_rfl) ?_ (by assumption) ?_
      rotate_left
      · intro w hSw; rw [hS] at hSw; obtain ⟨⟨q0, q5, q7, q8, q9, q10⟩, -⟩ := hSw; go_simp; (try with_reducible rfl)
      try simp only [Act.put, List.setIfInBounds_toArray, List.set_cons_zero, List.set_cons_succ]
      refine tkY (v := ?_) 31 98 rfl rfl (by kernel_rfl) (by kernel_rfl) (by kernel_rfl) (fun _ _ _ h => h) (by kernel_rfl) ?_ (by assumption) ?_
      rotate_left
      · intro w hSw; rw [hS] at hSw; obtain ⟨⟨q0, q5, q7, q8, q9, q10⟩, -⟩ := hSw; go_simp; (try with_reducible rfl)
      try simp only [Act.put, List.setIfInBounds_toArray, List.set_cons_zero, List.set_cons_succ]
      refine tkY (v := ?_) 32 99 rfl rfl (by kernel_rfl) (by kernel_rfl) (by kernel_rfl) (fun _ _ _ h => h) (by kernel_rfl) ?_ (by assumption) ?_
      rotate_left
      · intro w hSw; rw [hS] at hSw; obtain ⟨⟨q0, q5, q7, q8, q9, q10⟩, -⟩ := hSw; go_simp; (try with_reducible rfl)
      try simp only [Act.put, List.setIfInBounds_toArray, List.set_cons_zero, List.set_cons_succ]
      refine tkY (v := ?_) 33 100 rfl rfl (by kernel_rfl) (by kernel_rfl) (by kernel_rfl) (fun _ _ _ h => h) (by kernel_rfl) ?_ (by assumption) ?_
      rotate_left
      · intro w hSw; rw [hS] at hSw; obtain ⟨⟨q0, q5, q7, q8, q9, q10⟩, -⟩ := hSw; go_simp; (try with_reducible rfl)
      try simp only [Act.put, List.setIfInBounds_toArray, List.set_cons_zero, List.set_cons_succ]
      refine tkY (v := ?_) 34 101 rfl rfl (by kernel_rfl) (by kernel_rfl) (by kernel_rfl) (fun _ _ _ h => h) (by kernel_rfl) ?_ (by assumption) ?_
      rotate_left
      · intro w hSw; rw [hS] at hSw; obtain ⟨⟨q0, q5, q7, q8, q9, q10⟩, -⟩ := hSw; go_simp; (try with_reducible rfl)
      try simp only [Act.put, List.setIfInBounds_toArray, List.set_cons_zero, List.set_cons_succ]
      refine tkY (v := ?_) 35 102 rfl rfl (by kernel_rfl) (by kernel_rfl) (by kernel_rfl) (fun _ _ _ h => h) (by kernel_rfl) ?_ (by assumption) ?_
      rotate_left
      · intro w hSw; rw [hS] at hSw; obtain ⟨⟨q0, q5, q7, q8, q9, q10⟩, -⟩ := hSw; go_simp; (try with_reducible rfl)
      try simp only [Act.put, List.setIfInBounds_toArray, List.set_cons_zero, List.set_cons_succ]
      refine tkY (v := ?_) 36 103 rfl rfl (by kernel_rfl) (by kernel_rfl) (by kernel_rfl) (fun _ _ _ h => h) (by kernel_rfl) ?_ (by assumption) ?_
      rotate_left
      · intro w hSw; rw [hS] at hSw; obtain ⟨⟨q0, q5, q7, q8, q9, q10⟩, -⟩ := hSw; go_simp; (try with_reducible rfl)
      try simp only [Act.put, List.setIfInBounds_toArray, List.set_cons_zero, List.set_cons_succ]
      refine tkY (v := ?_) 37 104 rfl rfl (by kernel_rfl) (by kernel_rfl) (by kernel_rfl) (fun _ _ _ h => h) (by kernel_rfl) ?_ (by assumption) ?_
      rotate_left
      · intro w hSw; rw [hS] at hSw; obtain ⟨⟨q0, q5, q7, q8, q9, q10⟩, -⟩ := hSw; go_simp; (try with_reducible rfl)
      try simp only [Act.put, List.setIfInBounds_toArray, List.set_cons_zero, List.set_cons_succ]
      refine wpAnyH_ready (rs := [38]) (by kernel_rfl) (by simp) ?_
      refine AllReadyH.cons (o := _) rfl (fun K hK => ?_) AllReadyH.nil
      go_simp
      refine (C3.out _ (HB.out _ (by assumption))).mono ?_
      rintro e z38 ⟨rfl, hb38⟩
      try go_simp
      have hz38 := Lib.hid (below_via (HB.out _ (by assumption)) (HB.out _ (by assumption)).size hb38)
      refine hK.out _ _ ?_ (fun hHeld => ?_)
      · exact HS.out _ hz38.out
      clear hK K hb38 hz38
      try simp only [Act.put, List.setIfInBounds_toArray, List.set_cons_zero, List.set_cons_succ]
      refine tkY (v := ?_) 39 106 rfl rfl (by kernel_rfl) (by kernel_rfl) (by kernel_rfl) (fun _ _ _ h => h) (by kernel_rfl) ?_ (by assumption) ?_
      rotate_left
      · intro w hSw; rw [hS] at hSw; obtain ⟨⟨q0, q5, q7, q8, q9, q10⟩, -⟩ := hSw; go_simp; (try with_reducible rfl)
      try simp only [Act.put, List.setIfInBounds_toArray, List.set_cons_zero, List.set_cons_succ]
      refine tkY (v := ?_) 40 107 rfl rfl (by kernel_rfl) (by kernel_rfl) (by kernel_rfl) (fun _ _ _ h => h) (by kernel_rfl) ?_ (by assumption) ?_
      rotate_left
      · intro w hSw; rw [hS] at hSw; obtain ⟨⟨q0, q5, q7, q8, q9, q10⟩, -⟩ := hSw; go_simp; (try with_reducible rfl)
      try simp only [Act.put, List.setIfInBounds_toArray, List.set_cons_zero, List.set_cons_succ]
      refine tkY (v := ?_) 41 108 rfl rfl (by kernel_rfl) (by kernel_rfl) (by kernel_rfl) (fun _ _ _ h => h) (by kernel_rfl) ?_ (by assumption) ?_
      rotate_left
      · intro w hSw; rw [hS] at hSw; obtain ⟨⟨q0, q5, q7, q8, q9, q10⟩, -⟩ := hSw; go_simp; (try with_reducible rfl)
      try simp only [Act.put, List.setIfInBounds_toArray, List.set_cons_zero, List.set_cons_succ]
      refine tkY (v := ?_) 42 109 rfl rfl (by kernel_rfl) (by kernel_rfl) (by kernel_rfl) (fun _ _ _ h => h) (by kernel_rfl) ?_ (by assumption) ?_
      rotate_left
      · intro w hSw; rw [hS] at hSw; obtain ⟨⟨q0, q5, q7, q8, q9, q10⟩, -⟩ := hSw; go_simp; (try with_reducible rfl)
      try simp only [Act.put, List.setIfInBounds_toArray, List.set_cons_zero, List.set_cons_succ]
      refine wpAnyH_ready (rs := [43]) (by kernel_rfl) (by simp) ?_
      refine AllReadyH.cons (o := _) rfl (fun K hK => ?_) AllReadyH.nil
      go_simp
      refine (C4.out _ (HB.out _ (by assumption))).mono ?_
      rintro e z43 ⟨rfl, hb43⟩
      try go_simp
      have hz43 := Lib.hid (below_via (HB.out _ (by assumption)) (HB.out _ (by assumption)).size hb43)
      refine hK.out _ _ ?_ (fun hHeld => ?_)
      · exact HS.out _ hz43.out
      clear hK K hb43 hz43
      try simp only [Act.put, List.setIfInBounds_toArray, List.set_cons_zero, List.set_cons_succ]
      refine tkY (v := ?_) 44 111 rfl rfl (by kernel_rfl) (by kernel_rfl) (by kernel_rfl) (fun _ _ _ h => h) (by kernel_rfl) ?_ (by assumption) ?_
      rotate_left
      · intro w hSw; rw [hS] at hSw; obtain ⟨⟨q0, q5, q7, q8, q9, q10⟩, -⟩ := hSw; go_simp; (try with_reducible rfl)
      try simp only [Act.put, List.setIfInBounds_toArray, List.set_cons_zero, List.set_cons_succ]
      refine tkY (v := ?_) 45 4 rfl rfl (by kernel_rfl) (by kernel_rfl) (by kernel_rfl) (fun _ _ _ h => h) (by kernel_rfl) ?_ (by assumption) ?_
      rotate_left
      · intro w hSw; rw [hS] at hSw; obtain ⟨⟨q0, q5, q7, q8, q9, q10⟩, -⟩ := hSw; go_simp; (try with_reducible rfl)
      try simp only [Act.put, List.setIfInBounds_toArray, List.set_cons_zero, List.set_cons_succ]
      refine wpAnyH_done (by kernel_rfl) ?_ _
      go_wp2
      go_ret
      exact ⟨rfl, hW.out _ (HB.out _ (by assumption))⟩
    · have hm' : (10 : Int) < m := by omega
      go_enter Try.func4, Try.ntmps4
      go_wp2_with fail
      refine H1.out.mono ?_
      rintro e w1 ⟨rfl, hb1⟩
      have hB1 := Lib.hid (hB.out.trans (hb1.mono (by simp)))
      clear hb1 H1 hB hg
      go_wp2
      go_ret
      exact ⟨rfl, hB1.out⟩
  · have hg : decide (20 < n) = true := by simp; omega
    rw [hg] at H1
    go_enter Try.func4, Try.ntmps4
    go_wp2_with fail
    refine H1.out.mono ?_
    rintro e w1 ⟨rfl, hb1⟩
    have hB1 := Lib.hid (hB.out.trans (hb1.mono (by simp)))
    clear hb1 H1 hB hg
    go_wp2
    go_ret
    exact ⟨rfl, hB1.out⟩
end Go.Proofs.Ytlmmjaolmmcklaa
