/-
  The reference's ratio of a train.
-/
import Derived.Test.YtjmegnbjacndpaaTk
import Derived.Test.YtjmegnbjacndpaaTrain
namespace Go.Proofs.Ytjmegnbjacndpaa
open Go.RowKit Go.Maps
set_option maxRecDepth 100000 in
theorem rratio_any (A A' : Option Addr) (n c m c' : Nat) (hn : n ≤ 20) (ts : List Int) (l : List (Int × Int)) (hO : Okay n ts l) (w : World) (hT : Reads w w.heap.size 1 A n (ints ts)) (hR : Reads w w.heap.size 2 A' m (prs l)) :
    Calls Try.prog 28 #[.agg #[.slice A n c], .slice A' m c'] w fun e w' =>
      e = .returned (.agg #[.int .i64 (redu (numT ts l) (denT ts l)).1, .int .i64 (redu (numT ts l) (denT ts l)).2]) ∧ Below w.heap.size w w' := by
  have hl : l.length = m := hR.pr_len
  have hl3 : m ≤ 3 := hl ▸ hO.len
  have hB0 := Lib.hid (((Below.refl w.heap.size w).alloc (Nat.le_refl _) (.cells #[.slice A n c] 24)).alloc (by simp) (.cells #[.int .i64 0, .int .i64 0] 26))
  have hk0 := Lib.hid (blk2 (Below.refl ((w.alloc (.cells #[.slice A n c] 24)).alloc (.cells #[.int .i64 0, .int .i64 0] 26)).heap.size ((w.alloc (.cells #[.slice A n c] 24)).alloc (.cells #[.int .i64 0, .int .i64 0] 26))))
  have hz0 : w.heap.size + 2 ≤ ((w.alloc (.cells #[.slice A n c] 24)).alloc (.cells #[.int .i64 0, .int .i64 0] 26)).heap.size := by simp
  go_enter Try.func28, Try.ntmps28
  go_wp2
  generalize (w.alloc (.cells #[.slice A n c] 24)).alloc (.cells #[.int .i64 0, .int .i64 0] 26) = w0 at *
  have hrf := Lib.hid (Below.refl w0.heap.size w0)
  go_loopw [5, 6, 11] (fun x y i wr => ∃ k : Nat, k ≤ m ∧ i = .int .i64 k ∧ x = .int .i64 (numT ts (l.take k)) ∧ y = .int .i64 (denT ts (l.take k)) ∧ Hid (Below w0.heap.size w0 wr)) (fun _ _ i _ => m - (intOf i).toNat)
  case atStart => exact ⟨0, Nat.zero_le _, rfl, by simp [numT], by simp [denT], hrf⟩
  case round =>
    obtain ⟨k, hk, rfl, rfl, rfl, hG⟩ := hrel
    clear hrf
    have hGw := Lib.hid (below_via hB0.out hB0.out.size hG.out)
    have b0 := (hG.out.block w.heap.size (by omega)).trans hk0.out.1
    have b1 := (hG.out.block (w.heap.size + 1) (by omega)).trans hk0.out.2
    by_cases hlt : k < m
    · obtain ⟨p, o, D, V, rfl, hp, hx, hcD, hcV⟩ := hR.pr hlt
      have hcD' := (hGw.out.cell hp).trans hcD
      have hcV' := (hGw.out.cell (p := ⟨p, o + k * 2 + 1, none⟩) hp).trans hcV
      obtain ⟨⟨d1, d2⟩, v1, v2⟩ := hO.one k D V hx
      obtain ⟨t1, t2⟩ := hO.teeth D d1 d2
      obtain ⟨t3, t4⟩ := hO.teeth V v1 v2
      obtain ⟨d, rfl⟩ : ∃ d : Nat, D = (d : Int) + 1 := ⟨(D - 1).toNat, by omega⟩
      obtain ⟨v, rfl⟩ : ∃ v : Nat, V = (v : Int) + 1 := ⟨(V - 1).toNat, by omega⟩
      obtain ⟨⟨n1, n2⟩, n3, n4⟩ := hO.bound k (by omega)
      have hk120 : (120 : Int) ^ k ≤ 14400 := by
        obtain rfl | rfl | rfl : k = 0 ∨ k = 1 ∨ k = 2 := by omega
        all_goals decide
      have e1 := numT_take ts l k _ _ hx
      have e2 := denT_take ts l k _ _ hx
      have hld : tAt ts ((d : Int) + 1) = ts[d]?.getD 0 := by unfold tAt; simp
      have hlv : tAt ts ((v : Int) + 1) = ts[v]?.getD 0 := by unfold tAt; simp
      have hTx := (((hT.below hGw.out).more hGw.out.size).alloc (Nat.le_refl _) (.cells #[.int .i64 ((d : Int) + 1), .int .i64 ((v : Int) + 1)] 72))
      obtain ⟨q, s, hq, -, tc⟩ := hTx.int (k := d) (by omega)
      obtain ⟨q', s', hq', -, tc'⟩ := hTx.int (k := v) (by omega)
      rw [hq] at hq'
      cases hq'
      subst hq
      rw [← hld] at tc
      rw [← hlv] at tc'
      have x1 : numT ts (l.take k) * tAt ts ((d : Int) + 1) ≤ 14400 * 120 := Int.mul_le_mul (by omega) t2 (by omega) (by omega)
      have x2 : denT ts (l.take k) * tAt ts ((v : Int) + 1) ≤ 14400 * 120 := Int.mul_le_mul (by omega) t4 (by omega) (by omega)
      have x3 : 0 ≤ numT ts (l.take k) * tAt ts ((d : Int) + 1) := Int.mul_nonneg (by omega) (by omega)
      have x4 : 0 ≤ denT ts (l.take k) * tAt ts ((v : Int) + 1) := Int.mul_nonneg (by omega) (by omega)
      generalize tAt ts ((d : Int) + 1) = u at *
      generalize tAt ts ((v : Int) + 1) = z at *
      generalize numT ts (l.take k) = N at *
      generalize denT ts (l.take k) = M at *
      have y1 : IntKind.i64.wrap (N * u) = N * u := IntWalk.i64_in _ (by omega)
      have y2 : IntKind.i64.wrap (M * z) = M * z := IntWalk.i64_in _ (by omega)
      have wd : IntKind.i64.wrap (d : Int) = d := IntWalk.i64_in _ (by omega)
      have wv : IntKind.i64.wrap (v : Int) = v := IntWalk.i64_in _ (by omega)
      have c0 : (wr.alloc (.cells #[.int .i64 ((d : Int) + 1), .int .i64 ((v : Int) + 1)] 72)).cell? ⟨w.heap.size, 0, none⟩ = some (.slice (some ⟨q, s, none⟩) n c) := by
        rw [World.cell?_alloc_lt _ _ _ (by have := hG.out.size; simp; omega)]; simp only [World.cell?, b0]; rfl
      have pa : (wr.alloc (.cells #[.int .i64 ((d : Int) + 1), .int .i64 ((v : Int) + 1)] 72)).cell? ⟨wr.heap.size, 0, none⟩ = some (.int .i64 ((d : Int) + 1)) := by rw [World.cell?_alloc_at _ _ _ _ rfl]; rfl
      have pb : (wr.alloc (.cells #[.int .i64 ((d : Int) + 1), .int .i64 ((v : Int) + 1)] 72)).cell? ⟨wr.heap.size, 1, none⟩ = some (.int .i64 ((v : Int) + 1)) := by rw [World.cell?_alloc_at _ _ _ _ rfl]; rfl
      have hG1 := Lib.hid (hG.out.alloc hG.out.size (.cells #[.int .i64 ((d : Int) + 1), .int .i64 ((v : Int) + 1)] 72))
      have e1' := Lib.hid e1
      have e2' := Lib.hid e2
      clear hO n1 n2 n3 n4 hk120 t1 t2 t3 t4 x1 x2 x3 x4 hT hR hcD hcV hG e1 e2 hld hlv b0 b1 hk0 hx
      go_wp2_with fail
      generalize wr.alloc (.cells #[.int .i64 ((d : Int) + 1), .int .i64 ((v : Int) + 1)] 72) = wq at *
      go_quiet (fail)
      have hG2 := Lib.hid (below_drewN hG1.out nq)
      go_wp2
      go_roundw
      case rel => exact ⟨k + 1, by omega, by go_num, by rw [e1'.out], by rw [e2'.out], hG2⟩
      case measure => simp [intOf]; omega
    · have hkm : k = m := by omega
      have e : l.take k = l := List.take_of_length_le (by omega)
      obtain ⟨⟨n1, n2⟩, n3, n4⟩ := hO.bound k (by omega)
      have hk120 : (120 : Int) ^ k ≤ 1728000 := by
        obtain rfl | rfl | rfl | rfl : k = 0 ∨ k = 1 ∨ k = 2 ∨ k = 3 := by omega
        all_goals decide
      rw [e] at *
      have hg : 1 ≤ ((Int.gcd (numT ts l) (denT ts l) : Nat) : Int) := by
        have : 0 < Int.gcd (numT ts l) (denT ts l) := Int.gcd_pos_of_ne_zero_left _ (by omega)
        omega
      have H3 := Lib.hid (fun w => rcommon_any (numT ts l) (denT ts l) (by omega) (by omega) w)
      have hr1 : (redu (numT ts l) (denT ts l)).1 = numT ts l / ((Int.gcd (numT ts l) (denT ts l) : Nat) : Int) := rfl
      have hr2 : (redu (numT ts l) (denT ts l)).2 = denT ts l / ((Int.gcd (numT ts l) (denT ts l) : Nat) : Int) := rfl
      generalize ((Int.gcd (numT ts l) (denT ts l) : Nat) : Int) = g at *
      generalize hN : numT ts l = N at *
      generalize hM : denT ts l = M at *
      replace hN := Lib.hid hN
      replace hM := Lib.hid hM
      replace hr1 := Lib.hid hr1
      replace hr2 := Lib.hid hr2
      have q1 : N.tdiv g = N / g := Int.tdiv_eq_ediv_of_nonneg (by omega)
      have q2 : M.tdiv g = M / g := Int.tdiv_eq_ediv_of_nonneg (by omega)
      have l1 : N / g ≤ N := Int.ediv_le_self _ (by omega)
      have l2 : M / g ≤ M := Int.ediv_le_self _ (by omega)
      have p1 : 0 ≤ N / g := Int.ediv_nonneg (by omega) (by omega)
      have p2 : 0 ≤ M / g := Int.ediv_nonneg (by omega) (by omega)
      have e1 : IntKind.i64.wrap (N / g) = N / g := IntWalk.i64_in _ (by omega)
      have e2 : IntKind.i64.wrap (M / g) = M / g := IntWalk.i64_in _ (by omega)
      have gz : ¬ g = 0 := by omega
      have gz' : (g == 0) = false := by simpa using gz
      have c3 : ∀ j, (wr.drewN j).cell? ⟨w.heap.size + 1, 0, none⟩ = some (.int .i64 0) := fun j => by
        show wr.cell? ⟨w.heap.size + 1, 0, none⟩ = _
        simp only [World.cell?, b1]; rfl
      have c4 : ∀ j, (wr.drewN j).cell? ⟨w.heap.size + 1, 1, none⟩ = some (.int .i64 0) := fun j => by
        show wr.cell? ⟨w.heap.size + 1, 1, none⟩ = _
        simp only [World.cell?, b1]; rfl
      have f3 : ∀ j, (wr.drewN j).frozen? ⟨w.heap.size + 1, 0, none⟩ = false := fun j => by
        show wr.frozen? ⟨w.heap.size + 1, 0, none⟩ = _
        simp only [World.frozen?, b1]; rfl
      have f4 : ∀ j, (wr.drewN j).frozen? ⟨w.heap.size + 1, 1, none⟩ = false := fun j => by
        show wr.frozen? ⟨w.heap.size + 1, 1, none⟩ = _
        simp only [World.frozen?, b1]; rfl
      have HS : Hid (∀ j, Hid (Below w.heap.size w (wr.drewN j))) := Lib.hid fun j => Lib.hid (below_drewN hGw.out j)
      clear l1 l2 p1 p2 b0 b1 hk0 hG hT hR n1 n2 n3 n4 hk120 hO e
      go_wp2_with fail
      refine wp_region_held_drew (S := (fun w' => Hid (Below w.heap.size w w'))) (by kernel_rfl) ?_ (fun hHeld => ?_)
      · exact HS.out 1
      refine tY (v := ?_) 0 34 ?_ ?_
      rotate_left
      · intro w hSw; (try dsimp only at hSw); go_simp; (try with_reducible rfl)
      try simp only [N0]
      refine tY (v := ?_) 1 35 ?_ ?_
      rotate_left
      · intro w hSw; (try dsimp only at hSw); go_simp; (try with_reducible rfl)
      try simp only [N0]
      refine tY (v := ?_) 2 36 ?_ ?_
      rotate_left
      · intro w hSw; (try dsimp only at hSw); go_simp; (try with_reducible rfl)
      try simp only [N0]
      refine tY (v := ?_) 5 39 ?_ ?_
      rotate_left
      · intro w hSw; (try dsimp only at hSw); go_simp; (try with_reducible rfl)
      try simp only [N0]
      refine tY (v := ?_) 6 40 ?_ ?_
      rotate_left
      · intro w hSw; (try dsimp only at hSw); go_simp; (try with_reducible rfl)
      try simp only [N0]
      refine tY (v := ?_) 7 41 ?_ ?_
      rotate_left
      · intro w hSw; (try dsimp only at hSw); go_simp; (try with_reducible rfl)
      try simp only [N0]
      refine wpAnyH_ready (rs := [3]) (by kernel_rfl) (by simp) ?_
      refine AllReadyH.cons (o := _) rfl (fun K hK => ?_) AllReadyH.nil
      go_simp
      refine (H3.out _).mono ?_
      rintro e w' ⟨rfl, ka, rfl⟩
      try go_simp
      refine hK.out _ _ ?_ (fun hHeld => ?_)
      · exact HS.out _
      clear hK K
      try simp only [N0]
      refine tY (v := ?_) 4 38 ?_ ?_
      rotate_left
      · intro w hSw; (try dsimp only at hSw); go_simp; (try with_reducible rfl)
      try simp only [N0]
      refine wpAnyH_ready (rs := [8]) (by kernel_rfl) (by simp) ?_
      refine AllReadyH.cons (o := _) rfl (fun K hK => ?_) AllReadyH.nil
      go_simp
      refine (H3.out _).mono ?_
      rintro e w' ⟨rfl, kb, rfl⟩
      try go_simp
      refine hK.out _ _ ?_ (fun hHeld => ?_)
      · exact HS.out _
      clear hK K
      try simp only [N0]
      refine tY (v := ?_) 9 43 ?_ ?_
      rotate_left
      · intro w hSw; (try dsimp only at hSw); go_simp; (try with_reducible rfl)
      try simp only [N0]
      refine tY (v := ?_) 10 44 ?_ ?_
      rotate_left
      · intro w hSw; (try dsimp only at hSw); go_simp; (try with_reducible rfl)
      try simp only [N0]
      refine wpAnyH_ready (rs := [11]) (by kernel_rfl) (by simp) ?_
      refine AllReadyH.cons (o := _) rfl (fun K hK => ?_) AllReadyH.nil
      go_simp
      refine hK.out _ _ ?_ (fun hHeld => ?_)
      · exact Lib.hid (((HS.out _).out.setCell (by simp) _).setCell (by simp) _)
      clear hK K
      try simp only [N0]
      refine wpAnyH_done (by kernel_rfl) ?_ _
      go_wp2
      obtain ⟨g0, g1⟩ := two_cells (wr.drewN (1 + ka + kb)) (w.heap.size + 1) (.int .i64 (N / g)) (.int .i64 (M / g)) _ _ (c3 _) (c4 _)
      refine bodyPost_ret (v := .agg #[.int .i64 (N / g), .int .i64 (M / g)]) (by simp [results, Try.results28, go_sem, g0, g1]) rfl ⟨by rw [hN.out, hM.out, hr1.out, hr2.out], (((HS.out _).out.setCell (by simp) _).setCell (by simp) _)⟩
end Go.Proofs.Ytjmegnbjacndpaa
