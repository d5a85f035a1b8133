/-
  After how many turns a train stands as at first: the walk.
-/
import Derived.Test.YtlmmjaolmmcklaaAgain
namespace Go.Proofs.Ytlmmjaolmmcklaa
open Go.RowKit Go.Maps

set_option maxRecDepth 100000 in
theorem Again_bad (A A' : Option Addr) (n c m c' : Nat) (E : Int) (w : World) (hE : E = 100 ∨ E = 101) (hS : Hid (St w A A' n c m c' (.slice none 0 0) E)) :
    Calls Try.prog 17 #[.agg #[.slice A n c], .slice A' m c'] w fun e w' => e = .returned (.tuple #[.int .i64 0, .int .i64 E]) ∧ Below w.heap.size w w' := by
  have hB := Lib.hid ((Below.refl w.heap.size w).alloc (Nat.le_refl _) (.cells #[.slice A n c] 35))
  have H := Lib.hid (hS.out _ hB.out)
  have hE0 : ¬ E = 0 := by omega
  clear hS
  go_enter Try.func17, Try.ntmps17
  go_wp2_with fail
  refine H.out.mono ?_
  rintro e w1 ⟨rfl, hb1⟩
  have hB1 := Lib.hid (below_in (Below.refl w.heap.size w) (Nat.le_refl _) hb1)
  have hB2 := Lib.hid (hB1.out.alloc hB1.out.size (.cells #[.slice none 0 0] 76))
  clear hb1 hB H hB1
  go_wp2
  go_ret2
  exact ⟨rfl, hB2.out⟩

set_option maxRecDepth 100000 in
theorem Again_good (A A' : Option Addr) (n c m c' : Nat) (hn : n ≤ 20) (ts : List Int) (l : List (Int × Int)) (hO : Okay n ts l) (w : World) (hT : Reads w w.heap.size 1 A n (ints ts)) (hR : Reads w w.heap.size 2 A' m (prs l)) (hS : Hid (St w A A' n c m c' (.slice A n c) 0)) :
    Calls Try.prog 17 #[.agg #[.slice A n c], .slice A' m c'] w fun e w' => e = .returned (.tuple #[.int .i64 (againT ts l l.length), .int .i64 0]) ∧ Below w.heap.size w w' := by
  have hl : l.length = m := hR.pr_len
  have hl3 : m ≤ 3 := hl ▸ hO.len
  have hB := Lib.hid ((Below.refl w.heap.size w).alloc (Nat.le_refl _) (.cells #[.slice A n c] 35))
  have H := Lib.hid (hS.out _ hB.out)
  clear hS
  rw [hl]
  go_enter Try.func17, Try.ntmps17
  go_wp2_with fail
  refine H.out.mono ?_
  rintro e w1 ⟨rfl, hb1⟩
  have hB1 := Lib.hid (below_in (Below.refl w.heap.size w) (Nat.le_refl _) hb1)
  have hsz := hB1.out.size
  have h0 : AF w1 A n c 1 1 ((w1.alloc (.cells #[.slice A n c] 76)).alloc (.cells #[.int .i64 1, .int .i64 1] 40)) :=
    ⟨by rw [heap_lt_alloc _ _ _ (by simp)]; exact (MapKept.heap_alloc w1 _).1, by simpa using (MapKept.heap_alloc (w1.alloc (.cells #[.slice A n c] 76)) _).1, ((Below.refl _ _).alloc (Nat.le_refl _) _).alloc (by simp) _, by simp⟩
  have h0' := Lib.hid h0
  clear hb1 hB H h0
  go_wp2
  go_loopw [8, 25] (fun y i wr => ∃ k : Nat, k ≤ m ∧ i = .int .i64 k ∧ y = .int .i64 (againT ts l k) ∧ Hid (AF w1 A n c (redu (numT ts (l.take k)) (denT ts (l.take k))).1 (redu (numT ts (l.take k)) (denT ts (l.take k))).2 wr)) (fun _ i _ => m - (intOf i).toNat)
  case atStart =>
    have e : redu (numT ts (l.take 0)) (denT ts (l.take 0)) = (1, 1) := by rw [List.take_zero]; unfold numT denT; decide
    refine ⟨0, Nat.zero_le _, rfl, rfl, ?_⟩
    rw [e]
    exact h0'
  case round =>
    obtain ⟨k, hk, rfl, rfl, hG⟩ := hrel
    clear h0'
    have hGw := Lib.hid (below_via hB1.out hsz hG.out.bel)
    by_cases hlt : k < m
    · obtain ⟨p, o, D, V, rfl, hp, hx, hcD, hcV⟩ := hR.pr hlt
      have hcD' := (hGw.out.cell hp).trans hcD
      have hcV' := (hGw.out.cell (p := ⟨p, o + k * 2 + 1, none⟩) hp).trans hcV
      obtain ⟨⟨d1, d2⟩, v1, v2⟩ := hO.one k D V hx
      obtain ⟨t1, t2⟩ := hO.teeth D d1 d2
      obtain ⟨t3, t4⟩ := hO.teeth V v1 v2
      obtain ⟨d, rfl⟩ : ∃ d : Nat, D = (d : Int) + 1 := ⟨(D - 1).toNat, by omega⟩
      obtain ⟨v, rfl⟩ : ∃ v : Nat, V = (v : Int) + 1 := ⟨(V - 1).toNat, by omega⟩
      obtain ⟨⟨n1, n2⟩, n3, n4⟩ := hO.bound k (by omega)
      have hk120 : (120 : Int) ^ k ≤ 14400 := by
        obtain rfl | rfl | rfl : k = 0 ∨ k = 1 ∨ k = 2 := by omega
        all_goals decide
      have htri : (120 : Int) ^ tri k ≤ 1728000 := by
        obtain rfl | rfl | rfl : k = 0 ∨ k = 1 ∨ k = 2 := by omega
        all_goals decide
      obtain ⟨a1, a2⟩ := again_bound hO k (by omega)
      obtain ⟨⟨r1, r2⟩, s1, s2⟩ := redu_bound _ _ n1 n3
      have hstep := redu_step (numT ts (l.take k)) (denT ts (l.take k)) (tAt ts ((d : Int) + 1)) (tAt ts ((v : Int) + 1)) n1
      rw [← numT_take ts l k _ _ hx, ← denT_take ts l k _ _ hx] at hstep
      have hTx := (hT.below hGw.out).more hGw.out.size
      generalize hr : (redu (numT ts (l.take k)) (denT ts (l.take k))).1 = r at *
      generalize hs : (redu (numT ts (l.take k)) (denT ts (l.take k))).2 = s at *
      have x1 : r * tAt ts ((d : Int) + 1) ≤ 14400 * 120 := Int.mul_le_mul (by omega) t2 (by omega) (by omega)
      have x2 : s * tAt ts ((v : Int) + 1) ≤ 14400 * 120 := Int.mul_le_mul (by omega) t4 (by omega) (by omega)
      have x3 : 1 ≤ r * tAt ts ((d : Int) + 1) := by have := Int.mul_le_mul r1 t1 (by decide) (by omega); simpa using this
      have x4 : 1 ≤ s * tAt ts ((v : Int) + 1) := by have := Int.mul_le_mul s1 t3 (by decide) (by omega); simpa using this
      obtain ⟨-, y5, y6⟩ := redu_bound _ _ x3 x4
      rw [hstep] at y5 y6
      obtain ⟨g1, g2, g3⟩ := lcm_bound _ _ a1 y5
      have hnext : againT ts l (k + 1) = againT ts l k * ((redu (numT ts (l.take (k + 1))) (denT ts (l.take (k + 1)))).2 / ((Int.gcd (againT ts l k) (redu (numT ts (l.take (k + 1))) (denT ts (l.take (k + 1)))).2 : Nat) : Int)) := rfl
      have H1 := Lib.hid (teeth_any A n c d v hn ts (by omega) (by omega) (wr.alloc (.cells #[.int .i64 ((d : Int) + 1), .int .i64 ((v : Int) + 1)] 82)) ((hTx.alloc (Nat.le_refl _) _).more (by simp)))
      have H2 := fun w => Lib.hid (lowest_any _ _ (Int.le_trans (by decide) x3) (Int.le_trans x1 (by decide)) x4 (Int.le_trans x2 (by decide)) w)
      have H3 := Lib.hid (fun w => common_any (againT ts l k) (redu (numT ts (l.take (k + 1))) (denT ts (l.take (k + 1)))).2 (by omega) (by omega) w)
      rw [hstep] at H2
      generalize hrn : (redu (numT ts (l.take (k + 1))) (denT ts (l.take (k + 1)))).1 = rn at *
      generalize hsn : (redu (numT ts (l.take (k + 1))) (denT ts (l.take (k + 1)))).2 = sn at *
      generalize hat : againT ts l k = t at *
      have z1 : t * (sn / ((Int.gcd t sn : Nat) : Int)) ≤ 1728000 * 1728000 := Int.mul_le_mul (by omega) (by omega) (by omega) (by omega)
      have z2 : 0 ≤ t * (sn / ((Int.gcd t sn : Nat) : Int)) := Int.mul_nonneg (by omega) (by omega)
      generalize hgg : ((Int.gcd t sn : Nat) : Int) = g at *
      generalize hu : tAt ts ((d : Int) + 1) = u at *
      generalize hv : tAt ts ((v : Int) + 1) = z at *
      have y1 : wrap64 (r * u) = r * u := w64 (by omega) (by omega)
      have y2 : wrap64 (s * z) = s * z := w64 (by omega) (by omega)
      have q1 : sn.tdiv g = sn / g := Int.tdiv_eq_ediv_of_nonneg (by omega)
      have q2 : IntKind.i64.wrap (sn / g) = sn / g := IntWalk.i64_in _ (by omega)
      have q3 : IntKind.i64.wrap (t * (sn / g)) = t * (sn / g) := IntWalk.i64_in _ (by omega)
      have gz : ¬ g = 0 := by omega
      have gz' : (g == 0) = false := by simpa using gz
      have hG1 := Lib.hid (hG.out.alloc (.cells #[.int .i64 ((d : Int) + 1), .int .i64 ((v : Int) + 1)] 82))
      have hGc := hG1.out.c0
      replace hnext := Lib.hid hnext
      replace hrn := Lib.hid hrn
      replace hsn := Lib.hid hsn
      clear hO n1 n2 n3 n4 hk120 htri a1 a2 r1 r2 s1 s2 hstep hr hs hat t1 t2 t3 t4 x1 x2 x3 x4 y5 y6 g1 g2 g3 hu hv hTx hT hR hcD hcV hG z1 z2 hgg
      go_wp2_with fail
      refine H1.out.mono ?_
      rintro e w3 ⟨rfl, hb3⟩
      have hG2 := Lib.hid (hG1.out.below hb3)
      have hG3 := Lib.hid (hG2.out.alloc (.cells #[.int .i64 u, .int .i64 z] 70))
      have m1 := hG3.out.c10
      have m2 := hG3.out.c11
      clear hb3 H1 hGc hcD' hcV'
      go_wp2_with fail
      refine (H2 _).out.mono ?_
      rintro e w4 ⟨rfl, hb4⟩
      have hG4 := Lib.hid (hG3.out.below hb4)
      have hG5 := Lib.hid (hG4.out.store rn sn)
      replace m1 := hG4.out.c10
      replace m2 := hG4.out.c11
      have f1 := hG4.out.f1 0
      have f2 := hG4.out.f1 1
      clear hb4 H2 hG1 hG2 hG3 hG4
      go_wp2_with fail
      generalize (w4.setCell ⟨w1.heap.size + 1, 0, none⟩ (.int .i64 rn)).setCell ⟨w1.heap.size + 1, 1, none⟩ (.int .i64 sn) = wq at *
      have cm := hG5.out.c11
      clear f1 f2 m1 m2
      go_quiet ((first | exact Calls.quiet_of (H3.out _) | exact quiet_add_drew (H3.out _)))
      have hG6 := Lib.hid (hG5.out.drewN nq)
      have hy := vint (k := .i64) hnext.out
      go_wp2
      go_roundw
      case rel => exact ⟨k + 1, by omega, by go_num, hy.symm, by rw [hrn.out, hsn.out]; exact hG6⟩
      case measure => simp [intOf]; omega
    · have hkm : k = m := by omega
      subst hkm
      go_wp2
      go_ret2
      exact ⟨rfl, hGw.out⟩
end Go.Proofs.Ytlmmjaolmmcklaa
