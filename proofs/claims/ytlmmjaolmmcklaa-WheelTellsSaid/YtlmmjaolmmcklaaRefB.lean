/-
  The reference: after how many turns a train stands as at first: the walk.
-/
import Derived.Test.YtlmmjaolmmcklaaRefA
namespace Go.Proofs.Ytlmmjaolmmcklaa
open Go.RowKit Go.Maps

set_option maxRecDepth 100000 in
theorem RAgain_bad (A A' : Option Addr) (n c m c' : Nat) (r s E : Int) (w : World) (hE : E = 100 ∨ E = 101) (hS : Hid (RSt w A A' n c m c' r s E)) :
    Calls Try.prog 18 #[.agg #[.slice A n c], .slice A' m c'] w fun e w' => e = .returned (.tuple #[.int .i64 0, .int .i64 E]) ∧ Below w.heap.size w w' := by
  have hB := Lib.hid ((Below.refl w.heap.size w).alloc (Nat.le_refl _) (.cells #[.slice A n c] 35))
  have H := Lib.hid (hS.out _ hB.out)
  have hE0 : ¬ E = 0 := by omega
  clear hS
  go_enter Try.func18, Try.ntmps18
  go_wp2_with fail
  refine H.out.mono ?_
  rintro e w1 ⟨rfl, hb1⟩
  have hB1 := Lib.hid (below_in (Below.refl w.heap.size w) (Nat.le_refl _) hb1)
  have hB2 := Lib.hid (hB1.out.alloc hB1.out.size (.cells #[.int .i64 r, .int .i64 s] 40))
  clear hb1 hB H hB1
  go_wp2
  go_ret2
  exact ⟨rfl, hB2.out⟩

set_option maxRecDepth 100000 in
set_option maxHeartbeats 1000000 in
theorem RAgain_good (A A' : Option Addr) (n c m c' : Nat) (hmc : m ≤ c') (r0 s0 : Int) (hn : n ≤ 20) (ts : List Int) (l : List (Int × Int)) (hO : Okay n ts l) (w : World) (hT : Reads w w.heap.size 1 A n (ints ts)) (hR : Reads w w.heap.size 2 A' m (prs l)) (hS : Hid (RSt w A A' n c m c' r0 s0 0)) :
    Calls Try.prog 18 #[.agg #[.slice A n c], .slice A' m c'] w fun e w' => e = .returned (.tuple #[.int .i64 (againT ts l l.length), .int .i64 0]) ∧ Below w.heap.size w w' := by
  have hl : l.length = m := hR.pr_len
  have hl3 : m ≤ 3 := hl ▸ hO.len
  have hB := Lib.hid ((Below.refl w.heap.size w).alloc (Nat.le_refl _) (.cells #[.slice A n c] 35))
  have H := Lib.hid (hS.out _ hB.out)
  clear hS
  rw [hl]
  go_enter Try.func18, Try.ntmps18
  go_wp2_with fail
  refine H.out.mono ?_
  rintro e w1 ⟨rfl, hb1⟩
  have hB1 := Lib.hid (below_in (Below.refl w.heap.size w) (Nat.le_refl _) hb1)
  have hB2 := Lib.hid (hB1.out.alloc hB1.out.size (.cells #[.int .i64 r0, .int .i64 s0] 40))
  have hsz : w.heap.size + 1 ≤ w1.heap.size := by have := hb1.size; simpa using this
  have c0 : (w1.alloc (.cells #[.int .i64 r0, .int .i64 s0] 40)).cell? ⟨w.heap.size, 0, none⟩ = some (.slice A n c) :=
    (World.cell?_alloc_lt _ _ _ (by simp; omega)).trans ((hb1.cell (by simp)).trans (cellN _ _ _))
  have hq : w.heap.size < (w1.alloc (.cells #[.int .i64 r0, .int .i64 s0] 40)).heap.size := by simp; omega
  have hBw := Lib.hid (Below.refl (w1.alloc (.cells #[.int .i64 r0, .int .i64 s0] 40)).heap.size (w1.alloc (.cells #[.int .i64 r0, .int .i64 s0] 40)))
  clear hb1 hB H hB1
  go_wp2
  generalize (w1.alloc (.cells #[.int .i64 r0, .int .i64 s0] 40)) = w2 at *
  go_loopw [8, 9] (fun y i wr => ∃ k : Nat, k ≤ m ∧ i = .int .i64 ((k : Int) + 1) ∧ y = .int .i64 (againT ts l k) ∧ Hid (Below w2.heap.size w2 wr)) (fun _ i _ => m + 1 - (intOf i).toNat)
  case atStart => exact ⟨0, Nat.zero_le _, rfl, rfl, hBw⟩
  case round =>
    obtain ⟨k, hk, rfl, rfl, hG⟩ := hrel
    have c0' := (hG.out.cell (p := ⟨w.heap.size, 0, none⟩) hq).trans c0
    have hGw := Lib.hid (below_via hB2.out hB2.out.size hG.out)
    by_cases hlt : k < m
    · obtain ⟨p, o, D, V, rfl, hp, hx, -, -⟩ := hR.pr hlt
      obtain ⟨⟨n1, n2⟩, n3, n4⟩ := hO.bound (k + 1) (by omega)
      have hk120 : (120 : Int) ^ (k + 1) ≤ 1728000 := by
        obtain rfl | rfl | rfl : k = 0 ∨ k = 1 ∨ k = 2 := by omega
        all_goals decide
      have htri : (120 : Int) ^ tri k ≤ 1728000 := by
        obtain rfl | rfl | rfl : k = 0 ∨ k = 1 ∨ k = 2 := by omega
        all_goals decide
      obtain ⟨a1, a2⟩ := again_bound hO k (by omega)
      obtain ⟨-, s1, s2⟩ := redu_bound _ _ n1 n3
      have H3 := Lib.hid (rratio_any A (some ⟨p, o, none⟩) n c (k + 1) c' hn ts (l.take (k + 1)) (hO.take _) wr.drew ((hT.below hGw.out.drew).more hGw.out.drew.size) (((hR.below hGw.out.drew).more hGw.out.drew.size).pr_take (by omega)))
      have hnext : againT ts l (k + 1) = againT ts l k * ((redu (numT ts (l.take (k + 1))) (denT ts (l.take (k + 1)))).2 / ((Int.gcd (againT ts l k) (redu (numT ts (l.take (k + 1))) (denT ts (l.take (k + 1)))).2 : Nat) : Int)) := rfl
      obtain ⟨g1, g2, g3⟩ := lcm_bound _ _ a1 s1
      rw [← lcm_same _ _ a1] at hnext
      have hz1 : againT ts l k * ((redu (numT ts (l.take (k + 1))) (denT ts (l.take (k + 1)))).2 / ((Int.gcd (againT ts l k) (redu (numT ts (l.take (k + 1))) (denT ts (l.take (k + 1)))).2 : Nat) : Int)) ≤ 1728000 * 1728000 := Int.mul_le_mul (by omega) (by omega) (by omega) (by omega)
      have hz2 : 0 ≤ againT ts l k * ((redu (numT ts (l.take (k + 1))) (denT ts (l.take (k + 1)))).2 / ((Int.gcd (againT ts l k) (redu (numT ts (l.take (k + 1))) (denT ts (l.take (k + 1)))).2 : Nat) : Int)) := Int.mul_nonneg (by omega) (by omega)
      rw [← lcm_same _ _ a1] at hz1 hz2
      have H4 := Lib.hid (fun w => rcommon_any (againT ts l k) (redu (numT ts (l.take (k + 1))) (denT ts (l.take (k + 1)))).2 (by omega) (by omega) w)
      generalize (redu (numT ts (l.take (k + 1))) (denT ts (l.take (k + 1)))).1 = rn at *
      generalize (redu (numT ts (l.take (k + 1))) (denT ts (l.take (k + 1)))).2 = sn at *
      generalize hat : againT ts l k = t at *
      generalize ((Int.gcd t sn : Nat) : Int) = g at *
      have q1 : t.tdiv g = t / g := Int.tdiv_eq_ediv_of_nonneg (by omega)
      have l1 : t / g ≤ t := Int.ediv_le_self _ (by omega)
      have p1 : 0 ≤ t / g := Int.ediv_nonneg (by omega) (by omega)
      have y1 : wrap64 (t / g) = t / g := w64 (by omega) (by omega)
      have y2 : wrap64 (t / g * sn) = t / g * sn := w64 (by omega) (by omega)
      have gz : ¬ g = 0 := by omega
      have gz' : (g == 0) = false := by simpa using gz
      have hkc : ((k : Int) + 1) ≤ (c' : Int) := by omega
      have hk1 : (0 : Int) ≤ (k : Int) + 1 := by omega
      have hfl : ∀ w, (Instr.field 40 (.agg #[.int .i64 rn, .int .i64 sn]) 1).run Try.prog w = .ok (.int .i64 sn) w := fun _ => by kernel_rfl
      replace hnext := Lib.hid hnext
      clear hO n1 n2 n3 n4 hk120 htri a1 a2 s1 s2 g1 g2 g3 hz1 hz2 hT hR hx l1 p1 hat
      go_wp2_with fail
      refine wp_region_held_drew (S := (fun w' => w'.cell? ⟨w.heap.size, 0, none⟩ = some (.slice A n c) ∧ Hid (Below w2.heap.size w2 w'))) (by kernel_rfl) ?_ (fun hHeld => ?_)
      · exact ⟨c0', Lib.hid hG.out.drew⟩
      refine tkY (v := ?_) 0 26 rfl rfl (by kernel_rfl) (by kernel_rfl) (by kernel_rfl) (fun _ _ _ h => h) (by kernel_rfl) ?_ (by assumption) ?_
      rotate_left
      · intro w hSw; (try dsimp only at hSw); go_simp; (try with_reducible rfl)
      try simp only [Act.put, List.setIfInBounds_toArray, List.set_cons_zero, List.set_cons_succ]
      refine tkY (v := ?_) 1 27 rfl rfl (by kernel_rfl) (by kernel_rfl) (by kernel_rfl) (fun _ _ _ h => h) (by kernel_rfl) ?_ (by assumption) ?_
      rotate_left
      · intro w hSw; (try dsimp only at hSw); go_simp; (try with_reducible rfl)
      try simp only [Act.put, List.setIfInBounds_toArray, List.set_cons_zero, List.set_cons_succ]
      refine tkY (v := ?_) 2 28 rfl rfl (by kernel_rfl) (by kernel_rfl) (by kernel_rfl) (fun _ _ _ h => h) (by kernel_rfl) ?_ (by assumption) ?_
      rotate_left
      · intro w hSw; (try dsimp only at hSw); go_simp; (try with_reducible rfl)
      try simp only [Act.put, List.setIfInBounds_toArray, List.set_cons_zero, List.set_cons_succ]
      refine tkY (v := ?_) 3 29 rfl rfl (by kernel_rfl) (by kernel_rfl) (by kernel_rfl) (fun _ _ _ h => h) (by kernel_rfl) ?_ (by assumption) ?_
      rotate_left
      · intro w hSw; (try dsimp only at hSw); go_simp; (try with_reducible rfl)
      try simp only [Act.put, List.setIfInBounds_toArray, List.set_cons_zero, List.set_cons_succ]
      refine wpAnyH_ready (rs := [4]) (by kernel_rfl) (by simp) ?_
      refine AllReadyH.cons (o := _) rfl (fun K hK => ?_) AllReadyH.nil
      go_simp
      refine H3.out.mono ?_
      rintro e w3 ⟨rfl, hb3⟩
      try go_simp
      have hG3 := Lib.hid (below_via (hG.out.drew) hG.out.drew.size hb3)
      refine hK.out _ _ ?_ (fun hHeld => ?_)
      · exact ⟨(hG3.out.cell (p := ⟨w.heap.size, 0, none⟩) hq).trans c0, hG3⟩
      clear hK K
      try simp only [Act.put, List.setIfInBounds_toArray, List.set_cons_zero, List.set_cons_succ]
      refine tkY (v := ?_) 5 31 rfl rfl (by kernel_rfl) (by kernel_rfl) (by kernel_rfl) (fun _ _ _ h => h) (by kernel_rfl) ?_ (by assumption) ?_
      rotate_left
      · intro w hSw; (try dsimp only at hSw); go_simp; (try with_reducible rfl)
      try simp only [Act.put, List.setIfInBounds_toArray, List.set_cons_zero, List.set_cons_succ]
      refine tkY (v := ?_) 6 10 rfl rfl (by kernel_rfl) (by kernel_rfl) (by kernel_rfl) (fun _ _ _ h => h) (by kernel_rfl) ?_ (by assumption) ?_
      rotate_left
      · intro w hSw; (try dsimp only at hSw); go_simp; (try with_reducible rfl)
      try simp only [Act.put, List.setIfInBounds_toArray, List.set_cons_zero, List.set_cons_succ]
      refine wpAnyH_done (by kernel_rfl) ?_ _
      go_wp2_with fail
      refine (H4.out _).mono ?_
      rintro e w4 ⟨rfl, q, rfl⟩
      have hG4 := Lib.hid (below_drewN hG3.out q)
      go_wp2
      exact ⟨⟨k + 1, by omega, by push_cast; rfl, by rw [y2, hnext.out], hG4⟩, by simp only [intOf]; omega⟩
    · have hkm : k = m := by omega
      subst hkm
      clear hG hO hT hR
      go_wp2
      go_ret2
      exact ⟨rfl, hGw.out⟩
end Go.Proofs.Ytlmmjaolmmcklaa
