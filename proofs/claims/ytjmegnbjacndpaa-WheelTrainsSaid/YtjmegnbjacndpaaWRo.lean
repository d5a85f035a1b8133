/-
  How far a ratio is from a wish, and whether a part is a wish: the reference's walks.
-/
import Derived.Test.YtjmegnbjacndpaaWFi
import Derived.Test.YtjmegnbjacndpaaRefW
namespace Go.Proofs.Ytjmegnbjacndpaa
open Go.RowKit Go.Maps
set_option linter.unusedVariables false
set_option linter.unusedSimpArgs false

theorem gcdB_any (a b : Int) (ha : 0 ≤ a) (hb : 0 ≤ b) (w : World) : Calls Try.prog 31 #[.int .i64 a, .int .i64 b] w fun e w' => e = .returned (.int .i64 (Int.gcd a b)) ∧ Below w.heap.size w w' :=
  (rcommon_any a b ha hb w).mono fun e w' h => by
    obtain ⟨h1, n, h2⟩ := h
    exact ⟨h1, by rw [h2]; exact below_drewN (Below.refl _ _) n⟩
theorem rWish_any (p q : Int) (w : World) : Calls Try.prog 24 #[.agg #[.int .i64 p, .int .i64 q]] w fun e w' => e = .returned (.bool (wishB p q)) ∧ Below w.heap.size w w' := by
  have hb := Lib.hid ((Below.refl w.heap.size w).alloc (Nat.le_refl _) (.cells #[.int .i64 p, .int .i64 q] 26))
  obtain ⟨c0, c1, -, -⟩ := two_facts (heap_alloc_new w (.cells #[.int .i64 p, .int .i64 q] 26))
  have hsp : Hid (wishB p q = (decide (1 ≤ p) && decide (p ≤ 1000) && (decide (1 ≤ q) && decide (q ≤ 1000)))) := by show _ = _; unfold wishB inB; simp [Bool.and_assoc, Bool.and_comm]
  obtain ⟨b1, hb1⟩ : ∃ b, (decide (1 ≤ p) && decide (p ≤ 1000)) = b := ⟨_, rfl⟩
  obtain ⟨b2, hb2⟩ : ∃ b, (decide (1 ≤ q) && decide (q ≤ 1000)) = b := ⟨_, rfl⟩
  have H1 : Hid (∀ z : World, Calls Try.prog 25 #[.int .i64 p, .int .i64 1, .int .i64 1000] z fun e w' => e = .returned (.bool b1) ∧ w' = z) := Lib.hid (fun z => by rw [← hb1]; exact within_any p 1 1000 z)
  have H2 : Hid (∀ z : World, Calls Try.prog 25 #[.int .i64 q, .int .i64 1, .int .i64 1000] z fun e w' => e = .returned (.bool b2) ∧ w' = z) := Lib.hid (fun z => by rw [← hb2]; exact within_any q 1 1000 z)
  rw [hb1, hb2] at hsp
  clear hb1 hb2
  go_enter Try.func24, Try.ntmps24
  go_wp2_with fail
  refine (H1.out _).mono ?_
  rintro e w1 ⟨rfl, rfl⟩
  cases b1
  · go_wp2
    go_ret
    exact ⟨by rw [hsp.out]; rfl, hb.out⟩
  · go_wp2_with fail
    refine (H2.out _).mono ?_
    rintro e w1 ⟨rfl, rfl⟩
    go_wp2
    go_ret
    exact ⟨by rw [hsp.out]; simp, hb.out⟩
set_option maxRecDepth 100000 in
set_option maxHeartbeats 2000000 in
theorem roff_any (n d p q : Int) (w : World) (hn : 0 ≤ n ∧ n ≤ 1728000) (hd : 1 ≤ d ∧ d ≤ 1728000) (hp : 1 ≤ p ∧ p ≤ 1000) (hq : 1 ≤ q ∧ q ≤ 1000) :
    Calls Try.prog 27 #[.agg #[.int .i64 n, .int .i64 d], .agg #[.int .i64 p, .int .i64 q]] w fun e w' => e = .returned (.agg #[.int .i64 (offF (n, d) (p, q)).1, .int .i64 (offF (n, d) (p, q)).2]) ∧ Below w.heap.size w w' := by
  have m1 := mul_inP hn.1 hn.2 (show 0 ≤ q by omega) hq.2
  have m2 := mul_inP (show 0 ≤ p by omega) hp.2 (show 0 ≤ d by omega) hd.2
  have m3 := mul_inP (show 0 ≤ d by omega) hd.2 (show 0 ≤ q by omega) hq.2
  have m4 : 1 ≤ d * q := by have := Int.mul_le_mul hd.1 hq.1 (by omega) (by omega); omega
  obtain ⟨x, hx⟩ : ∃ x, x = n * q - p * d := ⟨_, rfl⟩
  obtain ⟨mx, hmx_⟩ : ∃ y, y = max x (-x) := ⟨_, rfl⟩
  obtain ⟨z0, hz⟩ : ∃ z, z = d * q := ⟨_, rfl⟩
  have hmx0 : 0 ≤ mx := by omega
  have hz1 : 1 ≤ z0 := by omega
  obtain ⟨g, hg⟩ : ∃ g : Nat, g = Int.gcd z0 mx := ⟨_, rfl⟩
  have hgp : 0 < g := by rw [hg]; exact Int.gcd_pos_of_ne_zero_left _ (by omega)
  obtain ⟨q1, hq1⟩ : ∃ y, y = mx / (g : Int) := ⟨_, rfl⟩
  obtain ⟨q2, hq2⟩ : ∃ y, y = z0 / (g : Int) := ⟨_, rfl⟩
  have b1 : 0 ≤ q1 ∧ q1 ≤ mx := by rw [hq1]; exact ⟨Int.ediv_nonneg hmx0 (by omega), Int.ediv_le_self _ hmx0⟩
  have b2 : 0 ≤ q2 ∧ q2 ≤ z0 := by rw [hq2]; exact ⟨Int.ediv_nonneg (by omega) (by omega), Int.ediv_le_self _ (by omega)⟩
  have hsp : offF (n, d) (p, q) = (q1, q2) := by unfold offF redu; simp only; rw [← hx, ← hz, ← hmx_, hq1, hq2, hg, Int.gcd_comm]
  have hr1 := Lib.hid (show (offF (n, d) (p, q)).1 = q1 by rw [hsp])
  have hr2 := Lib.hid (show (offF (n, d) (p, q)).2 = q2 by rw [hsp])
  have w1 : IntKind.i64.wrap (n * q) = n * q := IntWalk.i64_in _ (by omega)
  have w2 : IntKind.i64.wrap (p * d) = p * d := IntWalk.i64_in _ (by omega)
  have w3 : IntKind.i64.wrap (n * q - p * d) = x := by rw [IntWalk.i64_in _ (by omega), hx]
  have w4 : IntKind.i64.wrap (-x) = -x := IntWalk.i64_in _ (by omega)
  have w5 : IntKind.i64.wrap (d * q) = z0 := by rw [IntWalk.i64_in _ (by omega), hz]
  have hmx : (if x < -x then -x else x) = mx := by rw [hmx_]; exact mx_ifP _ _
  have hmx2 : max x (-x) = mx := hmx_.symm
  have k0 : ¬ g = 0 := by omega
  have k1 : ¬ (g : Int) = 0 := by omega
  have k2 : ((g : Int) == 0) = false := by simpa using k1
  have k3 : IntKind.i64.wrap (mx.tdiv (g : Int)) = q1 := by rw [Int.tdiv_eq_ediv_of_nonneg hmx0, ← hq1]; exact IntWalk.i64_in _ (by omega)
  have k4 : IntKind.i64.wrap (z0.tdiv (g : Int)) = q2 := by rw [Int.tdiv_eq_ediv_of_nonneg (by omega), ← hq2]; exact IntWalk.i64_in _ (by omega)
  have HG : Hid (∀ W : World, Calls Try.prog 31 #[.int .i64 z0, .int .i64 mx] W fun e w' => e = .returned (.int .i64 (g : Int)) ∧ Below W.heap.size W w') := Lib.hid (fun W => by rw [hg]; exact gcdB_any z0 mx (by omega) hmx0 W)
  obtain ⟨wb, hwb_⟩ : ∃ y, y = ((w.alloc (.cells #[.int .i64 n, .int .i64 d] 26)).alloc (.cells #[.int .i64 p, .int .i64 q] 26)).alloc (.cells #[.int .i64 0, .int .i64 0] 26) := ⟨_, rfl⟩
  have e1 : (w.alloc (.cells #[.int .i64 n, .int .i64 d] 26)).heap.size = w.heap.size + 1 := by simp
  have e2 : ((w.alloc (.cells #[.int .i64 n, .int .i64 d] 26)).alloc (.cells #[.int .i64 p, .int .i64 q] 26)).heap.size = w.heap.size + 1 + 1 := by simp
  have hB := Lib.hid (show Below w.heap.size w wb by rw [hwb_]; exact (((Below.refl _ _).alloc (Nat.le_refl _) _).alloc (by simp) _).alloc (by simp; omega) _)
  have hO0 : wb.heap[w.heap.size]? = some (.cells #[.int .i64 n, .int .i64 d] 26 (0, 0)) := by rw [hwb_, Below.heap_alloc _ _ _ (by omega), Below.heap_alloc _ _ _ (by omega)]; exact heap_alloc_new w _
  have hO1 : wb.heap[w.heap.size + 1]? = some (.cells #[.int .i64 p, .int .i64 q] 26 (0, 0)) := by rw [hwb_, Below.heap_alloc _ _ _ (by omega)]; have := heap_alloc_new (w.alloc (.cells #[.int .i64 n, .int .i64 d] 26)) (.cells #[.int .i64 p, .int .i64 q] 26); rw [e1] at this; exact this
  have hO2 : wb.heap[w.heap.size + 1 + 1]? = some (.cells #[.int .i64 0, .int .i64 0] 26 (0, 0)) := by rw [hwb_]; have := heap_alloc_new ((w.alloc (.cells #[.int .i64 n, .int .i64 d] 26)).alloc (.cells #[.int .i64 p, .int .i64 q] 26)) (.cells #[.int .i64 0, .int .i64 0] 26); rw [e2] at this; exact this
  obtain ⟨c0, c1, -, -⟩ := two_facts hO0
  obtain ⟨c2, c3, -, -⟩ := two_facts hO1
  have HO := Lib.hid hO2
  have hwb := Lib.hid hwb_
  clear m1 m2 m3 m4 hx hmx_ hz hn hd hp hq hO0 hO1 hO2 hwb_ hg hq1 hq2 b1 b2 hsp hmx0 hz1 hgp e1 e2
  go_enter Try.func27, Try.ntmps27
  go_upto_region 1 with (fail)
  rw [← hwb.out]
  go_quiet (fail)
  go_upto_region 3 with (fail)
  obtain ⟨wz, hwz⟩ : ∃ wz, wz = wb.drewN nq := ⟨_, rfl⟩
  rw [← hwz]
  have hO : wz.heap[w.heap.size + 1 + 1]? = some (.cells #[.int .i64 0, .int .i64 0] 26 (0, 0)) := by rw [hwz]; exact HO.out
  have hBz := Lib.hid (show Below w.heap.size w wz by rw [hwz]; exact below_drewN hB.out nq)
  clear hwz HO hwb c0 c1 c2 c3 hB
  have hB := hBz
  clear hBz
  have HS := Lib.hid (fun (z : World) (hz : Hid (Kp wz.heap.size [w.heap.size + 1 + 1] wz z)) => hz)
  refine wp_region_held_drew (S := (fun z => Hid (Kp wz.heap.size [w.heap.size + 1 + 1] wz z))) (by kernel_rfl) ?_ (fun hHeld => ?_)
  · exact HS.out _ (Lib.hid (Kp.refl _ _ _).drew)
  have hKyd : Hid (Kp wz.heap.size [w.heap.size + 1 + 1] wz wz.drew) := Lib.hid (Kp.refl _ _ _).drew
  have hSyd : wz.heap.size ≤ wz.drew.heap.size := Nat.le_refl _
  have hO := keepO (Below.refl wz.heap.size wz).drew hO
  generalize wz.drew = yd at *
  refine tkY (v := ?_) 0 27 rfl rfl (by kernel_rfl) (by kernel_rfl) (by kernel_rfl) (fun _ _ _ h => h) (by kernel_rfl) ?_ (by assumption) ?_
  rotate_left
  · intro w hSw; go_simp; (try with_reducible rfl)
  try simp only [Act.put, List.setIfInBounds_toArray, List.set_cons_zero, List.set_cons_succ]
  refine tkY (v := ?_) 1 28 rfl rfl (by kernel_rfl) (by kernel_rfl) (by kernel_rfl) (fun _ _ _ h => h) (by kernel_rfl) ?_ (by assumption) ?_
  rotate_left
  · intro w hSw; go_simp; (try with_reducible rfl)
  try simp only [Act.put, List.setIfInBounds_toArray, List.set_cons_zero, List.set_cons_succ]
  refine tkY (v := ?_) 2 29 rfl rfl (by kernel_rfl) (by kernel_rfl) (by kernel_rfl) (fun _ _ _ h => h) (by kernel_rfl) ?_ (by assumption) ?_
  rotate_left
  · intro w hSw; go_simp; (try with_reducible rfl)
  try simp only [Act.put, List.setIfInBounds_toArray, List.set_cons_zero, List.set_cons_succ]
  refine tkY (v := ?_) 5 32 rfl rfl (by kernel_rfl) (by kernel_rfl) (by kernel_rfl) (fun _ _ _ h => h) (by kernel_rfl) ?_ (by assumption) ?_
  rotate_left
  · intro w hSw; go_simp; (try with_reducible rfl)
  try simp only [Act.put, List.setIfInBounds_toArray, List.set_cons_zero, List.set_cons_succ]
  refine tkY (v := ?_) 6 33 rfl rfl (by kernel_rfl) (by kernel_rfl) (by kernel_rfl) (fun _ _ _ h => h) (by kernel_rfl) ?_ (by assumption) ?_
  rotate_left
  · intro w hSw; go_simp; (try with_reducible rfl)
  try simp only [Act.put, List.setIfInBounds_toArray, List.set_cons_zero, List.set_cons_succ]
  refine tkY (v := ?_) 7 34 rfl rfl (by kernel_rfl) (by kernel_rfl) (by kernel_rfl) (fun _ _ _ h => h) (by kernel_rfl) ?_ (by assumption) ?_
  rotate_left
  · intro w hSw; go_simp; (try with_reducible rfl)
  try simp only [Act.put, List.setIfInBounds_toArray, List.set_cons_zero, List.set_cons_succ]
  refine wpAnyH_ready (rs := [3]) (by kernel_rfl) (by simp) ?_
  refine AllReadyH.cons (o := _) rfl (fun Kq hK => ?_) AllReadyH.nil
  go_simp
  refine (HG.out yd).mono ?_
  rintro e c3yd ⟨rfl, hb⟩
  have hKc3yd := Lib.hid (hKyd.out.call hSyd hb)
  have hO := keepO hb hO
  have hSc3yd := Nat.le_trans hSyd hb.size
  clear hb
  try go_simp
  refine hK.out _ _ ?_ (fun hHeld => ?_)
  · exact HS.out _ hKc3yd
  clear hK Kq
  try simp only [Act.put, List.setIfInBounds_toArray, List.set_cons_zero, List.set_cons_succ]
  refine wpAnyH_ready (rs := [4, 8]) (by kernel_rfl) (by simp) ?_
  refine AllReadyH.cons (o := _) rfl (fun Kq hK => ?_) ?_
  · go_simp
    refine hK.out _ _ ?_ (fun hHeld => ?_)
    · exact HS.out _ hKc3yd
    clear hK Kq
    try simp only [Act.put, List.setIfInBounds_toArray, List.set_cons_zero, List.set_cons_succ]
    refine wpAnyH_ready (rs := [8]) (by kernel_rfl) (by simp) ?_
    refine AllReadyH.cons (o := _) rfl (fun Kq hK => ?_) AllReadyH.nil
    go_simp
    refine (HG.out c3yd).mono ?_
    rintro e c8c3yd ⟨rfl, hb⟩
    have hKc8c3yd := Lib.hid (hKc3yd.out.call hSc3yd hb)
    have hO := keepO hb hO
    have hSc8c3yd := Nat.le_trans hSc3yd hb.size
    clear hb
    try go_simp
    refine hK.out _ _ ?_ (fun hHeld => ?_)
    · exact HS.out _ hKc8c3yd
    clear hK Kq
    try simp only [Act.put, List.setIfInBounds_toArray, List.set_cons_zero, List.set_cons_succ]
    refine wpAnyH_ready (rs := [9]) (by kernel_rfl) (by simp) ?_
    refine AllReadyH.cons (o := _) rfl (fun Kq hK => ?_) AllReadyH.nil
    go_simp
    refine hK.out _ _ ?_ (fun hHeld => ?_)
    · exact HS.out _ hKc8c3yd
    clear hK Kq
    try simp only [Act.put, List.setIfInBounds_toArray, List.set_cons_zero, List.set_cons_succ]
    refine wpAnyH_ready (rs := [10]) (by kernel_rfl) (by simp) ?_
    refine AllReadyH.cons (o := _) rfl (fun Kq hK => ?_) AllReadyH.nil
    go_simp
    refine hK.out _ _ ?_ (fun hHeld => ?_)
    · exact HS.out _ hKc8c3yd
    clear hK Kq
    try simp only [Act.put, List.setIfInBounds_toArray, List.set_cons_zero, List.set_cons_succ]
    refine wpAnyH_ready (rs := [11]) (by kernel_rfl) (by simp) ?_
    refine AllReadyH.cons (o := _) rfl (fun Kq hK => ?_) AllReadyH.nil
    obtain ⟨e0, e1, g0, g1⟩ := two_facts hO
    go_simp
    clear e0 e1 g0 g1
    obtain ⟨s11c8c3yd, hz_⟩ : ∃ z, z = (c8c3yd.setCell ⟨w.heap.size + 1 + 1, 0, none⟩ (.int .i64 q1)).setCell ⟨w.heap.size + 1 + 1, 1, none⟩ (.int .i64 q2) := ⟨_, rfl⟩
    rw [← hz_]
    have hO := set_two c8c3yd (w.heap.size + 1 + 1) _ (.int .i64 q1) (.int .i64 q2) _ _ hO
    rw [← hz_] at hO
    have hKs11c8c3yd := Lib.hid ((hKc8c3yd.out.set (p := ⟨w.heap.size + 1 + 1, 0, none⟩) (Or.inl (by simp)) (.int .i64 q1)).set (p := ⟨w.heap.size + 1 + 1, 1, none⟩) (Or.inl (by simp)) (.int .i64 q2))
    rw [← hz_] at hKs11c8c3yd
    have hSs11c8c3yd := Nat.le_trans hSc8c3yd (show c8c3yd.heap.size ≤ s11c8c3yd.heap.size by rw [hz_]; simp)
    clear hz_
    refine hK.out _ _ ?_ (fun hHeld => ?_)
    · exact HS.out _ hKs11c8c3yd
    clear hK Kq
    try simp only [Act.put, List.setIfInBounds_toArray, List.set_cons_zero, List.set_cons_succ]
    refine wpAnyH_done (by kernel_rfl) ?_ _
    have hB9 := Lib.hid (hB.out.trans (hKs11c8c3yd.out.below hB.out.size (fun d hd => by simp at hd; omega)))
    have hO9 := Lib.hid hO
    clear HS HG hKs11c8c3yd hSs11c8c3yd hO
    go_wp2
    obtain ⟨g0, g1, -, -⟩ := two_facts hO9.out
    exact bodyPost_ret (v := .agg #[.int .i64 q1, .int .i64 q2]) (by simp [results, Try.results27, go_sem, g0, g1]) rfl ⟨by rw [hr1.out, hr2.out], hB9.out⟩
  refine AllReadyH.cons (o := _) rfl (fun Kq hK => ?_) AllReadyH.nil
  go_simp
  refine (HG.out c3yd).mono ?_
  rintro e c8c3yd ⟨rfl, hb⟩
  have hKc8c3yd := Lib.hid (hKc3yd.out.call hSc3yd hb)
  have hO := keepO hb hO
  have hSc8c3yd := Nat.le_trans hSc3yd hb.size
  clear hb
  try go_simp
  refine hK.out _ _ ?_ (fun hHeld => ?_)
  · exact HS.out _ hKc8c3yd
  clear hK Kq
  try simp only [Act.put, List.setIfInBounds_toArray, List.set_cons_zero, List.set_cons_succ]
  refine wpAnyH_ready (rs := [4, 9]) (by kernel_rfl) (by simp) ?_
  refine AllReadyH.cons (o := _) rfl (fun Kq hK => ?_) ?_
  · go_simp
    refine hK.out _ _ ?_ (fun hHeld => ?_)
    · exact HS.out _ hKc8c3yd
    clear hK Kq
    try simp only [Act.put, List.setIfInBounds_toArray, List.set_cons_zero, List.set_cons_succ]
    refine wpAnyH_ready (rs := [9]) (by kernel_rfl) (by simp) ?_
    refine AllReadyH.cons (o := _) rfl (fun Kq hK => ?_) AllReadyH.nil
    go_simp
    refine hK.out _ _ ?_ (fun hHeld => ?_)
    · exact HS.out _ hKc8c3yd
    clear hK Kq
    try simp only [Act.put, List.setIfInBounds_toArray, List.set_cons_zero, List.set_cons_succ]
    refine wpAnyH_ready (rs := [10]) (by kernel_rfl) (by simp) ?_
    refine AllReadyH.cons (o := _) rfl (fun Kq hK => ?_) AllReadyH.nil
    go_simp
    refine hK.out _ _ ?_ (fun hHeld => ?_)
    · exact HS.out _ hKc8c3yd
    clear hK Kq
    try simp only [Act.put, List.setIfInBounds_toArray, List.set_cons_zero, List.set_cons_succ]
    refine wpAnyH_ready (rs := [11]) (by kernel_rfl) (by simp) ?_
    refine AllReadyH.cons (o := _) rfl (fun Kq hK => ?_) AllReadyH.nil
    obtain ⟨e0, e1, g0, g1⟩ := two_facts hO
    go_simp
    clear e0 e1 g0 g1
    obtain ⟨s11c8c3yd, hz_⟩ : ∃ z, z = (c8c3yd.setCell ⟨w.heap.size + 1 + 1, 0, none⟩ (.int .i64 q1)).setCell ⟨w.heap.size + 1 + 1, 1, none⟩ (.int .i64 q2) := ⟨_, rfl⟩
    rw [← hz_]
    have hO := set_two c8c3yd (w.heap.size + 1 + 1) _ (.int .i64 q1) (.int .i64 q2) _ _ hO
    rw [← hz_] at hO
    have hKs11c8c3yd := Lib.hid ((hKc8c3yd.out.set (p := ⟨w.heap.size + 1 + 1, 0, none⟩) (Or.inl (by simp)) (.int .i64 q1)).set (p := ⟨w.heap.size + 1 + 1, 1, none⟩) (Or.inl (by simp)) (.int .i64 q2))
    rw [← hz_] at hKs11c8c3yd
    have hSs11c8c3yd := Nat.le_trans hSc8c3yd (show c8c3yd.heap.size ≤ s11c8c3yd.heap.size by rw [hz_]; simp)
    clear hz_
    refine hK.out _ _ ?_ (fun hHeld => ?_)
    · exact HS.out _ hKs11c8c3yd
    clear hK Kq
    try simp only [Act.put, List.setIfInBounds_toArray, List.set_cons_zero, List.set_cons_succ]
    refine wpAnyH_done (by kernel_rfl) ?_ _
    have hB9 := Lib.hid (hB.out.trans (hKs11c8c3yd.out.below hB.out.size (fun d hd => by simp at hd; omega)))
    have hO9 := Lib.hid hO
    clear HS HG hKs11c8c3yd hSs11c8c3yd hO
    go_wp2
    obtain ⟨g0, g1, -, -⟩ := two_facts hO9.out
    exact bodyPost_ret (v := .agg #[.int .i64 q1, .int .i64 q2]) (by simp [results, Try.results27, go_sem, g0, g1]) rfl ⟨by rw [hr1.out, hr2.out], hB9.out⟩
  refine AllReadyH.cons (o := _) rfl (fun Kq hK => ?_) AllReadyH.nil
  go_simp
  refine hK.out _ _ ?_ (fun hHeld => ?_)
  · exact HS.out _ hKc8c3yd
  clear hK Kq
  try simp only [Act.put, List.setIfInBounds_toArray, List.set_cons_zero, List.set_cons_succ]
  refine wpAnyH_ready (rs := [4]) (by kernel_rfl) (by simp) ?_
  refine AllReadyH.cons (o := _) rfl (fun Kq hK => ?_) AllReadyH.nil
  go_simp
  refine hK.out _ _ ?_ (fun hHeld => ?_)
  · exact HS.out _ hKc8c3yd
  clear hK Kq
  try simp only [Act.put, List.setIfInBounds_toArray, List.set_cons_zero, List.set_cons_succ]
  refine wpAnyH_ready (rs := [10]) (by kernel_rfl) (by simp) ?_
  refine AllReadyH.cons (o := _) rfl (fun Kq hK => ?_) AllReadyH.nil
  go_simp
  refine hK.out _ _ ?_ (fun hHeld => ?_)
  · exact HS.out _ hKc8c3yd
  clear hK Kq
  try simp only [Act.put, List.setIfInBounds_toArray, List.set_cons_zero, List.set_cons_succ]
  refine wpAnyH_ready (rs := [11]) (by kernel_rfl) (by simp) ?_
  refine AllReadyH.cons (o := _) rfl (fun Kq hK => ?_) AllReadyH.nil
  obtain ⟨e0, e1, g0, g1⟩ := two_facts hO
  go_simp
  clear e0 e1 g0 g1
  obtain ⟨s11c8c3yd, hz_⟩ : ∃ z, z = (c8c3yd.setCell ⟨w.heap.size + 1 + 1, 0, none⟩ (.int .i64 q1)).setCell ⟨w.heap.size + 1 + 1, 1, none⟩ (.int .i64 q2) := ⟨_, rfl⟩
  rw [← hz_]
  have hO := set_two c8c3yd (w.heap.size + 1 + 1) _ (.int .i64 q1) (.int .i64 q2) _ _ hO
  rw [← hz_] at hO
  have hKs11c8c3yd := Lib.hid ((hKc8c3yd.out.set (p := ⟨w.heap.size + 1 + 1, 0, none⟩) (Or.inl (by simp)) (.int .i64 q1)).set (p := ⟨w.heap.size + 1 + 1, 1, none⟩) (Or.inl (by simp)) (.int .i64 q2))
  rw [← hz_] at hKs11c8c3yd
  have hSs11c8c3yd := Nat.le_trans hSc8c3yd (show c8c3yd.heap.size ≤ s11c8c3yd.heap.size by rw [hz_]; simp)
  clear hz_
  refine hK.out _ _ ?_ (fun hHeld => ?_)
  · exact HS.out _ hKs11c8c3yd
  clear hK Kq
  try simp only [Act.put, List.setIfInBounds_toArray, List.set_cons_zero, List.set_cons_succ]
  refine wpAnyH_done (by kernel_rfl) ?_ _
  have hB9 := Lib.hid (hB.out.trans (hKs11c8c3yd.out.below hB.out.size (fun d hd => by simp at hd; omega)))
  have hO9 := Lib.hid hO
  clear HS HG hKs11c8c3yd hSs11c8c3yd hO
  go_wp2
  obtain ⟨g0, g1, -, -⟩ := two_facts hO9.out
  exact bodyPost_ret (v := .agg #[.int .i64 q1, .int .i64 q2]) (by simp [results, Try.results27, go_sem, g0, g1]) rfl ⟨by rw [hr1.out, hr2.out], hB9.out⟩
end Go.Proofs.Ytjmegnbjacndpaa
