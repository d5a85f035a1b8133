/-
  The walks of what can go in, and of what a weight can be.
-/
import Derived.Test.YtoakeclpakjbiaaDoorTk
import Derived.Test.YtoakeclpakjbiaaDoorKs
namespace Go.Proofs.YtoakeclpakjbiaaDoor
open Go.RowKit
set_option linter.unusedVariables false
set_option linter.unusedSimpArgs false

def inS (t : Nat → Option Nat) (R : Nat → Nat → Sp) (U I : Nat → Sp) (n i : Nat) : Sp := both (I i) (plus (downS t R U n n i) (rest1 (R i) 4))
def spanS (t : Nat → Option Nat) (R : Nat → Nat → Sp) (U I : Nat → Sp) (n i k : Nat) : Sp :=
  if k = 6 then both (downS t R U n n i) (U i)
  else if k = 1 then both (R i 1) (minus (plus (both (downS t R U n n i) (U i)) (rest1 (R i) 4)) (minus1 (I i) (R i 1)))
  else both (R i k) (minus (I i) (plus (both (downS t R U n n i) (U i)) (minus1 (rest1 (R i) 4) (R i k))))
theorem row14 {x : World} {b : Nat} {f : Nat → Sp} (h : x.heap[b]? = some (.cells #[.int .i64 (f 0).1, .int .i64 (f 0).2, .int .i64 (f 1).1, .int .i64 (f 1).2, .int .i64 (f 2).1, .int .i64 (f 2).2, .int .i64 (f 3).1, .int .i64 (f 3).2, .int .i64 (f 4).1, .int .i64 (f 4).2, .int .i64 (f 5).1, .int .i64 (f 5).2, .int .i64 (f 6).1, .int .i64 (f 6).2] 104 (0, 0))) {k : Nat} (hk : k < 7) : x.cell? ⟨b, k * 2, none⟩ = some (.int .i64 (f k).1) ∧ x.cell? ⟨b, k * 2 + 1, none⟩ = some (.int .i64 (f k).2) := by
  obtain rfl | rfl | rfl | rfl | rfl | rfl | rfl : k = 0 ∨ k = 1 ∨ k = 2 ∨ k = 3 ∨ k = 4 ∨ k = 5 ∨ k = 6 := by omega
  all_goals exact ⟨by simp [World.cell?, h], by simp [World.cell?, h]⟩
theorem heap_two (w : World) (b : Nat) (v0 v1 : Value) {k : Nat} (h : k ≠ b) : ((w.setCell ⟨b, 0, none⟩ v0).setCell ⟨b, 1, none⟩ v1).heap[k]? = w.heap[k]? := heap_sets2 w b k v0 v1 h

set_option maxRecDepth 100000 in
set_option maxHeartbeats 8000000 in
theorem inM_any (mb n : Nat) (t : Nat → Option Nat) (R : Nat → Nat → Sp) (U I : Nat → Sp) (At Ar Au Ai : Option Addr) (ct cr cu ci : Nat) (hF : Fwd n t) (hR : SmR R n) (hU : SmU U n) (hI : SmU I n) (hn : n ≤ 10) (i : Nat) (hi : i < n) (x : World) (hM : MR x mb n t R U I At Ar Au Ai ct cr cu ci) :
    Calls Tryd.prog 63 #[.pointer (some ⟨mb, 0, none⟩), .int .i64 i] x fun e x' =>
      e = .returned (.agg #[.int .i64 (inS t R U I n i).1, .int .i64 (inS t R U I n i).2]) ∧ Below x.heap.size x x' := by
  have hlt := hM.lt
  obtain ⟨y, hy⟩ : ∃ y, y = x.alloc (.cells #[.int .i64 0, .int .i64 0] 44) := ⟨_, rfl⟩
  have hxy : Below x.heap.size x y := by rw [hy]; exact (Below.refl _ _).alloc (Nat.le_refl _) _
  have hyz : y.heap.size = x.heap.size + 1 := by rw [hy]; simp
  have hyb : y.heap[x.heap.size]? = some (.cells #[.int .i64 0, .int .i64 0] 44 (0, 0)) := by rw [hy]; exact heap_alloc_new x _
  have hi' : (i : Int) < (n : Int) := by omega
  have i0 : (0 : Int) ≤ (i : Int) := by omega
  have HD := down_sml hF hR hU hn n i hi
  have HRr := rest1_sml (f := R i) (fun j hj => hR i j hi hj) 4 (Nat.le_refl _)
  have HUi := hU i hi
  have HIi := hI i hi
  have hMy := hM.below hxy
  obtain ⟨bi, oi, rfl, hbi, hri⟩ := hM.rr.rw_ hi
  obtain ⟨bj, oj, rfl, hbj, j0, j1⟩ := hM.ri.sp (m := n) hi
  have HDW := Lib.hid (fun z (hz : Hid (Kp y.heap.size [x.heap.size] y z)) => down_any mb n t R U I At (some ⟨bi, oi, none⟩) Au (some ⟨bj, oj, none⟩) ct cr cu ci hF hR hU hn n i hi (by omega) hn z (hM.below (hxy.trans (hz.out.below (by omega) (by simp)))))
  have hRi : Hid (SmF (R i)) := fun j hj => hR i j hi hj
  have hs1 : Hid (Sml (downS t R U n n i)) := by show Sml _; unfold Sml; omega
  have hs2 : Hid (Sml (rest1 (R i) 4)) := by show Sml _; unfold Sml; omega
  have hcx := fun (b o : Nat) (hb : b < x.heap.size) (u : Value) (hu : x.cell? ⟨b, o, none⟩ = some u) => (hxy.cell (p := ⟨b, o, none⟩) hb).trans hu
  have HQ := Lib.hid (fun z (hz : Hid (Kp y.heap.size [x.heap.size] y z)) => (⟨(hz.out.cell (by simp only; omega) (by simp; omega)).trans hMy.c3, (hz.out.cell (by simp only; omega) (by simp; omega)).trans hMy.c5, (hz.out.cell (by simp only; omega) (by simp; omega)).trans (hcx _ _ hbi _ (hri 0 _ rfl)), (hz.out.cell (by simp only; omega) (by simp; omega)).trans (hcx _ _ hbi _ (hri 1 _ rfl)), (hz.out.cell (by simp only; omega) (by simp; omega)).trans (hcx _ _ hbi _ (hri 2 _ rfl)), (hz.out.cell (by simp only; omega) (by simp; omega)).trans (hcx _ _ hbi _ (hri 3 _ rfl)), (hz.out.cell (by simp only; omega) (by simp; omega)).trans (hcx _ _ hbi _ (hri 4 _ rfl)), (hz.out.cell (by simp only; omega) (by simp; omega)).trans (hcx _ _ hbi _ (hri 5 _ rfl)), (hz.out.cell (by simp only; omega) (by simp; omega)).trans (hcx _ _ hbi _ (hri 6 _ rfl)), (hz.out.cell (by simp only; omega) (by simp; omega)).trans (hcx _ _ hbi _ (hri 7 _ rfl)), (hz.out.cell (by simp only; omega) (by simp; omega)).trans (hcx _ _ hbi _ (hri 8 _ rfl)), (hz.out.cell (by simp only; omega) (by simp; omega)).trans (hcx _ _ hbi _ (hri 9 _ rfl)), (hz.out.cell (by simp only; omega) (by simp; omega)).trans (hcx _ _ hbi _ (hri 10 _ rfl)), (hz.out.cell (by simp only; omega) (by simp; omega)).trans (hcx _ _ hbi _ (hri 11 _ rfl)), (hz.out.cell (by simp only; omega) (by simp; omega)).trans (hcx _ _ hbi _ (hri 12 _ rfl)), (hz.out.cell (by simp only; omega) (by simp; omega)).trans (hcx _ _ hbi _ (hri 13 _ rfl)), (hz.out.cell (by simp only; omega) (by simp; omega)).trans (hcx _ _ hbj _ j0), (hz.out.cell (by simp only; omega) (by simp; omega)).trans (hcx _ _ hbj _ j1)⟩ : z.cell? ⟨mb, 3, none⟩ = some (.slice (some ⟨bi, oi, none⟩) n cr) ∧ z.cell? ⟨mb, 5, none⟩ = some (.slice (some ⟨bj, oj, none⟩) n ci) ∧ z.cell? ⟨bi, oi + i * 14, none⟩ = some (.int .i64 (R i 0).1) ∧ z.cell? ⟨bi, oi + i * 14 + 1, none⟩ = some (.int .i64 (R i 0).2) ∧ z.cell? ⟨bi, oi + i * 14 + 2, none⟩ = some (.int .i64 (R i 1).1) ∧ z.cell? ⟨bi, oi + i * 14 + 3, none⟩ = some (.int .i64 (R i 1).2) ∧ z.cell? ⟨bi, oi + i * 14 + 4, none⟩ = some (.int .i64 (R i 2).1) ∧ z.cell? ⟨bi, oi + i * 14 + 5, none⟩ = some (.int .i64 (R i 2).2) ∧ z.cell? ⟨bi, oi + i * 14 + 6, none⟩ = some (.int .i64 (R i 3).1) ∧ z.cell? ⟨bi, oi + i * 14 + 7, none⟩ = some (.int .i64 (R i 3).2) ∧ z.cell? ⟨bi, oi + i * 14 + 8, none⟩ = some (.int .i64 (R i 4).1) ∧ z.cell? ⟨bi, oi + i * 14 + 9, none⟩ = some (.int .i64 (R i 4).2) ∧ z.cell? ⟨bi, oi + i * 14 + 10, none⟩ = some (.int .i64 (R i 5).1) ∧ z.cell? ⟨bi, oi + i * 14 + 11, none⟩ = some (.int .i64 (R i 5).2) ∧ z.cell? ⟨bi, oi + i * 14 + 12, none⟩ = some (.int .i64 (R i 6).1) ∧ z.cell? ⟨bi, oi + i * 14 + 13, none⟩ = some (.int .i64 (R i 6).2) ∧ z.cell? ⟨bj, oj + i * 2, none⟩ = some (.int .i64 (I i).1) ∧ z.cell? ⟨bj, oj + i * 2 + 1, none⟩ = some (.int .i64 (I i).2)))
  obtain ⟨d, hd⟩ : ∃ d, d = downS t R U n n i := ⟨_, rfl⟩
  have hres : Hid (inS t R U I n i = both (I i) (plus d (rest1 (R i) 4))) := by show _ = _; rw [hd]; rfl
  rw [← hd] at HDW hs1
  rw [hres.out]
  clear hri HD HRr HUi HIi hM hMy j0 j1 hcx hF hR hU hI hd hres
  subst hy
  go_enter Tryd.func63, Tryd.ntmps63
  go_wp2_with fail
  generalize (x.alloc (.cells #[.int .i64 0, .int .i64 0] 44)) = y at *
  obtain ⟨S, hSd⟩ : ∃ S : World → Prop, S = fun z => (z.cell? ⟨mb, 3, none⟩ = some (.slice (some ⟨bi, oi, none⟩) n cr) ∧ z.cell? ⟨mb, 5, none⟩ = some (.slice (some ⟨bj, oj, none⟩) n ci) ∧ z.cell? ⟨bi, oi + i * 14, none⟩ = some (.int .i64 (R i 0).1) ∧ z.cell? ⟨bi, oi + i * 14 + 1, none⟩ = some (.int .i64 (R i 0).2) ∧ z.cell? ⟨bi, oi + i * 14 + 2, none⟩ = some (.int .i64 (R i 1).1) ∧ z.cell? ⟨bi, oi + i * 14 + 3, none⟩ = some (.int .i64 (R i 1).2) ∧ z.cell? ⟨bi, oi + i * 14 + 4, none⟩ = some (.int .i64 (R i 2).1) ∧ z.cell? ⟨bi, oi + i * 14 + 5, none⟩ = some (.int .i64 (R i 2).2) ∧ z.cell? ⟨bi, oi + i * 14 + 6, none⟩ = some (.int .i64 (R i 3).1) ∧ z.cell? ⟨bi, oi + i * 14 + 7, none⟩ = some (.int .i64 (R i 3).2) ∧ z.cell? ⟨bi, oi + i * 14 + 8, none⟩ = some (.int .i64 (R i 4).1) ∧ z.cell? ⟨bi, oi + i * 14 + 9, none⟩ = some (.int .i64 (R i 4).2) ∧ z.cell? ⟨bi, oi + i * 14 + 10, none⟩ = some (.int .i64 (R i 5).1) ∧ z.cell? ⟨bi, oi + i * 14 + 11, none⟩ = some (.int .i64 (R i 5).2) ∧ z.cell? ⟨bi, oi + i * 14 + 12, none⟩ = some (.int .i64 (R i 6).1) ∧ z.cell? ⟨bi, oi + i * 14 + 13, none⟩ = some (.int .i64 (R i 6).2) ∧ z.cell? ⟨bj, oj + i * 2, none⟩ = some (.int .i64 (I i).1) ∧ z.cell? ⟨bj, oj + i * 2 + 1, none⟩ = some (.int .i64 (I i).2)) ∧ Hid (Kp y.heap.size [x.heap.size] y z) := ⟨_, rfl⟩
  have HS := Lib.hid (fun z (hz : Hid (Kp y.heap.size [x.heap.size] y z)) => (by rw [hSd]; exact ⟨HQ.out z hz, hz⟩ : S z))
  refine wp_region_held_drew (S := S) (by kernel_rfl) ?_ (fun hHeld => ?_)
  · exact HS.out _ (Lib.hid (Kp.refl _ _ _).drew)
  have hKyd : Hid (Kp y.heap.size [x.heap.size] y y.drew) := Lib.hid (Kp.refl _ _ _).drew
  have hSyd : y.heap.size ≤ y.drew.heap.size := Nat.le_refl _
  have hyb := keepO (Below.refl y.heap.size y).drew hyb
  generalize y.drew = yd at *
  refine tY (v := ?_) 0 5 ?_ ?_
  rotate_left
  · intro w hSw; rw [hSd] at hSw; obtain ⟨⟨qm, qn, q0, q1, q2, q3, q4, q5, q6, q7, q8, q9, q10, q11, q12, q13, u0, u1⟩, -⟩ := hSw; go_simp; (try with_reducible rfl)
  try simp only [N0]
  refine tY (v := ?_) 1 6 ?_ ?_
  rotate_left
  · intro w hSw; rw [hSd] at hSw; obtain ⟨⟨qm, qn, q0, q1, q2, q3, q4, q5, q6, q7, q8, q9, q10, q11, q12, q13, u0, u1⟩, -⟩ := hSw; go_simp; (try with_reducible rfl)
  try simp only [N0]
  refine tY (v := ?_) 2 7 ?_ ?_
  rotate_left
  · intro w hSw; rw [hSd] at hSw; obtain ⟨⟨qm, qn, q0, q1, q2, q3, q4, q5, q6, q7, q8, q9, q10, q11, q12, q13, u0, u1⟩, -⟩ := hSw; go_simp; (try with_reducible rfl)
  try simp only [N0]
  refine tY (v := ?_) 3 8 ?_ ?_
  rotate_left
  · intro w hSw; rw [hSd] at hSw; obtain ⟨⟨qm, qn, q0, q1, q2, q3, q4, q5, q6, q7, q8, q9, q10, q11, q12, q13, u0, u1⟩, -⟩ := hSw; go_simp; (try with_reducible rfl)
  try simp only [N0]
  refine tY (v := ?_) 4 9 ?_ ?_
  rotate_left
  · intro w hSw; rw [hSd] at hSw; obtain ⟨⟨qm, qn, q0, q1, q2, q3, q4, q5, q6, q7, q8, q9, q10, q11, q12, q13, u0, u1⟩, -⟩ := hSw; go_simp; (try with_reducible rfl)
  try simp only [N0]
  refine tY (v := ?_) 5 10 ?_ ?_
  rotate_left
  · intro w hSw; rw [hSd] at hSw; obtain ⟨⟨qm, qn, q0, q1, q2, q3, q4, q5, q6, q7, q8, q9, q10, q11, q12, q13, u0, u1⟩, -⟩ := hSw; go_simp; (try with_reducible rfl)
  try simp only [N0]
  refine tY (v := ?_) 6 11 ?_ ?_
  rotate_left
  · intro w hSw; rw [hSd] at hSw; obtain ⟨⟨qm, qn, q0, q1, q2, q3, q4, q5, q6, q7, q8, q9, q10, q11, q12, q13, u0, u1⟩, -⟩ := hSw; go_simp; (try with_reducible rfl)
  try simp only [N0]
  refine tY (v := ?_) 7 12 ?_ ?_
  rotate_left
  · intro w hSw; rw [hSd] at hSw; obtain ⟨⟨qm, qn, q0, q1, q2, q3, q4, q5, q6, q7, q8, q9, q10, q11, q12, q13, u0, u1⟩, -⟩ := hSw; go_simp; (try with_reducible rfl)
  try simp only [N0]
  refine tY (v := ?_) 8 13 ?_ ?_
  rotate_left
  · intro w hSw; rw [hSd] at hSw; obtain ⟨⟨qm, qn, q0, q1, q2, q3, q4, q5, q6, q7, q8, q9, q10, q11, q12, q13, u0, u1⟩, -⟩ := hSw; go_simp; (try with_reducible rfl)
  try simp only [N0]
  refine tY (v := ?_) 10 15 ?_ ?_
  rotate_left
  · intro w hSw; rw [hSd] at hSw; obtain ⟨⟨qm, qn, q0, q1, q2, q3, q4, q5, q6, q7, q8, q9, q10, q11, q12, q13, u0, u1⟩, -⟩ := hSw; go_simp; (try with_reducible rfl)
  try simp only [N0]
  refine tY (v := ?_) 11 16 ?_ ?_
  rotate_left
  · intro w hSw; rw [hSd] at hSw; obtain ⟨⟨qm, qn, q0, q1, q2, q3, q4, q5, q6, q7, q8, q9, q10, q11, q12, q13, u0, u1⟩, -⟩ := hSw; go_simp; (try with_reducible rfl)
  try simp only [N0]
  refine tY (v := ?_) 12 17 ?_ ?_
  rotate_left
  · intro w hSw; rw [hSd] at hSw; obtain ⟨⟨qm, qn, q0, q1, q2, q3, q4, q5, q6, q7, q8, q9, q10, q11, q12, q13, u0, u1⟩, -⟩ := hSw; go_simp; (try with_reducible rfl)
  try simp only [N0]
  refine tY (v := ?_) 13 18 ?_ ?_
  rotate_left
  · intro w hSw; rw [hSd] at hSw; obtain ⟨⟨qm, qn, q0, q1, q2, q3, q4, q5, q6, q7, q8, q9, q10, q11, q12, q13, u0, u1⟩, -⟩ := hSw; go_simp; (try with_reducible rfl)
  try simp only [N0]
  refine tY (v := ?_) 14 19 ?_ ?_
  rotate_left
  · intro w hSw; rw [hSd] at hSw; obtain ⟨⟨qm, qn, q0, q1, q2, q3, q4, q5, q6, q7, q8, q9, q10, q11, q12, q13, u0, u1⟩, -⟩ := hSw; go_simp; (try with_reducible rfl)
  try simp only [N0]
  refine tY (v := ?_) 15 20 ?_ ?_
  rotate_left
  · intro w hSw; rw [hSd] at hSw; obtain ⟨⟨qm, qn, q0, q1, q2, q3, q4, q5, q6, q7, q8, q9, q10, q11, q12, q13, u0, u1⟩, -⟩ := hSw; go_simp; (try with_reducible rfl)
  try simp only [N0]
  refine tY (v := ?_) 16 21 ?_ ?_
  rotate_left
  · intro w hSw; rw [hSd] at hSw; obtain ⟨⟨qm, qn, q0, q1, q2, q3, q4, q5, q6, q7, q8, q9, q10, q11, q12, q13, u0, u1⟩, -⟩ := hSw; go_simp; (try with_reducible rfl)
  try simp only [N0]
  refine wpAnyH_ready (rs := [9]) (by kernel_rfl) (by simp) ?_
  refine AllReadyH.cons (o := _) rfl (fun Kq hK => ?_) AllReadyH.nil
  go_simp
  refine (HDW.out _ hKyd).mono ?_
  rintro e zc0 ⟨rfl, hb⟩
  have hKzc0 := Lib.hid (hKyd.out.call hSyd hb)
  have hyb := keepO hb hyb
  have hSzc0 := Nat.le_trans hSyd hb.size
  clear hb
  try go_simp
  refine hK.out _ _ ?_ (fun hHeld => ?_)
  · exact HS.out _ hKzc0
  clear hK Kq
  try simp only [N0]
  refine wpAnyH_ready (rs := [17]) (by kernel_rfl) (by simp) ?_
  refine AllReadyH.cons (o := _) rfl (fun Kq hK => ?_) AllReadyH.nil
  go_simp
  refine (rest_any (R i) hRi.out _).mono ?_
  rintro e zc1 ⟨rfl, hb⟩
  have hKzc1 := Lib.hid (hKzc0.out.call hSzc0 hb)
  have hyb := keepO hb hyb
  have hSzc1 := Nat.le_trans hSzc0 hb.size
  clear hb
  try go_simp
  refine hK.out _ _ ?_ (fun hHeld => ?_)
  · exact HS.out _ hKzc1
  clear hK Kq
  try simp only [N0]
  refine wpAnyH_ready (rs := [18]) (by kernel_rfl) (by simp) ?_
  refine AllReadyH.cons (o := _) rfl (fun Kq hK => ?_) AllReadyH.nil
  go_simp
  refine (plus_any d (rest1 (R i) 4) hs1.out hs2.out _).mono ?_
  rintro e zc2 ⟨rfl, hb⟩
  have hKzc2 := Lib.hid (hKzc1.out.call hSzc1 hb)
  have hyb := keepO hb hyb
  have hSzc2 := Nat.le_trans hSzc1 hb.size
  clear hb
  try go_simp
  refine hK.out _ _ ?_ (fun hHeld => ?_)
  · exact HS.out _ hKzc2
  clear hK Kq
  try simp only [N0]
  refine wpAnyH_ready (rs := [19]) (by kernel_rfl) (by simp) ?_
  refine AllReadyH.cons (o := _) rfl (fun Kq hK => ?_) AllReadyH.nil
  go_simp
  refine (both_any (I i) (plus d (rest1 (R i) 4)) _).mono ?_
  rintro e zc3 ⟨rfl, hb⟩
  have hKzc3 := Lib.hid (hKzc2.out.call hSzc2 hb)
  have hyb := keepO hb hyb
  have hSzc3 := Nat.le_trans hSzc2 hb.size
  clear hb
  try go_simp
  refine hK.out _ _ ?_ (fun hHeld => ?_)
  · exact HS.out _ hKzc3
  clear hK Kq
  try simp only [N0]
  refine wpAnyH_ready (rs := [20]) (by kernel_rfl) (by simp) ?_
  refine AllReadyH.cons (o := _) rfl (fun Kq hK => ?_) AllReadyH.nil
  obtain ⟨e0, e1, g0, g1⟩ := two_facts hyb
  go_simp
  clear e0  e1  g0  g1
  obtain ⟨s20zc3, hz_⟩ : ∃ z, z = ((zc3.setCell ⟨x.heap.size, 0, none⟩ (.int .i64 (both (I i) (plus d (rest1 (R i) 4))).1)).setCell ⟨x.heap.size, 1, none⟩ (.int .i64 (both (I i) (plus d (rest1 (R i) 4))).2)) := ⟨_, rfl⟩
  rw [← hz_]
  have hyb := set_two zc3 x.heap.size _ (.int .i64 (both (I i) (plus d (rest1 (R i) 4))).1) (.int .i64 (both (I i) (plus d (rest1 (R i) 4))).2) _ _ hyb
  rw [← hz_] at hyb
  have hKs20zc3 := Lib.hid ((hKzc3.out.set (p := ⟨x.heap.size, 0, none⟩) (Or.inl (by simp)) (.int .i64 (both (I i) (plus d (rest1 (R i) 4))).1)).set (p := ⟨x.heap.size, 1, none⟩) (Or.inl (by simp)) (.int .i64 (both (I i) (plus d (rest1 (R i) 4))).2))
  rw [← hz_] at hKs20zc3
  have hSs20zc3 := Nat.le_trans hSzc3 (show zc3.heap.size ≤ s20zc3.heap.size by rw [hz_]; simp)
  clear hz_
  refine hK.out _ _ ?_ (fun hHeld => ?_)
  · exact HS.out _ hKs20zc3
  clear hK Kq
  try simp only [N0]
  refine wpAnyH_done (by kernel_rfl) ?_ _
  obtain ⟨k0, k1, -, -⟩ := two_facts hyb
  have hBe := hxy.trans (hKs20zc3.out.below (B' := x.heap.size) (by omega) (by simp))
  go_wp2
  exact bodyPost_ret (v := .agg #[.int .i64 (both (I i) (plus d (rest1 (R i) 4))).1, .int .i64 (both (I i) (plus d (rest1 (R i) 4))).2]) (by simp [results, Tryd.results63, go_sem, k0, k1]) rfl ⟨rfl, hBe⟩

set_option maxRecDepth 100000 in
set_option maxHeartbeats 8000000 in
theorem span_any (mb n : Nat) (t : Nat → Option Nat) (R : Nat → Nat → Sp) (U I : Nat → Sp) (At Ar Au Ai : Option Addr) (ct cr cu ci : Nat) (hF : Fwd n t) (hR : SmR R n) (hU : SmU U n) (hI : SmU I n) (hn : n ≤ 10) (i k : Nat) (hi : i < n) (hk1 : 1 ≤ k) (hk6 : k ≤ 6) (x : World) (hM : MR x mb n t R U I At Ar Au Ai ct cr cu ci) :
    Calls Tryd.prog 51 #[.pointer (some ⟨mb, 0, none⟩), .int .i64 i, .int .i64 k] x fun e x' =>
      e = .returned (.agg #[.int .i64 (spanS t R U I n i k).1, .int .i64 (spanS t R U I n i k).2]) ∧ Below x.heap.size x x' := by
  have hlt := hM.lt
  obtain ⟨y, hy⟩ : ∃ y, y = x.alloc (.cells #[.int .i64 0, .int .i64 0] 44) := ⟨_, rfl⟩
  have hxy : Below x.heap.size x y := by rw [hy]; exact (Below.refl _ _).alloc (Nat.le_refl _) _
  have hyz : y.heap.size = x.heap.size + 1 := by rw [hy]; simp
  have hyb : y.heap[x.heap.size]? = some (.cells #[.int .i64 0, .int .i64 0] 44 (0, 0)) := by rw [hy]; exact heap_alloc_new x _
  have hi' : (i : Int) < (n : Int) := by omega
  have i0 : (0 : Int) ≤ (i : Int) := by omega
  have HD := down_sml hF hR hU hn n i hi
  have HRr := rest1_sml (f := R i) (fun j hj => hR i j hi hj) 4 (Nat.le_refl _)
  have HUi := hU i hi
  have HIi := hI i hi
  have hMy := hM.below hxy
  have HMx := Lib.hid (fun z (hz : Below x.heap.size x z) => hM.below hz)
  obtain ⟨bi, oi, rfl, hbi, hri⟩ := hM.rr.rw_ hi
  obtain ⟨bu, ou, rfl, hbu, j0, j1⟩ := hM.ru.sp (m := n) hi
  obtain ⟨bj, oj, rfl, hbj, jj0, jj1⟩ := hM.ri.sp (m := n) hi
  have JJ0 := Lib.hid jj0
  have JJ1 := Lib.hid jj1
  clear jj0 jj1
  have HDW := Lib.hid (fun z (hz : Hid (Kp y.heap.size [] y z)) => down_any mb n t R U I At (some ⟨bi, oi, none⟩) (some ⟨bu, ou, none⟩) (some ⟨bj, oj, none⟩) ct cr cu ci hF hR hU hn n i hi (by omega) hn z (hM.below (hxy.trans (hz.out.below (by omega) (by simp)))))
  have hRi : Hid (SmF (R i)) := fun j hj => hR i j hi hj
  have hs2 : Hid (Sml (rest1 (R i) 4)) := by show Sml _; unfold Sml; omega
  have hcx := fun (b o : Nat) (hb : b < x.heap.size) (u : Value) (hu : x.cell? ⟨b, o, none⟩ = some u) => (hxy.cell (p := ⟨b, o, none⟩) hb).trans hu
  have HQ := Lib.hid (fun z (hz : Hid (Kp y.heap.size [] y z)) => (⟨(hz.out.cell (by simp only; omega) (by simp)).trans hMy.c3, (hz.out.cell (by simp only; omega) (by simp)).trans hMy.c4, (hz.out.cell (by simp only; omega) (by simp)).trans (hcx _ _ hbi _ (hri 0 _ rfl)), (hz.out.cell (by simp only; omega) (by simp)).trans (hcx _ _ hbi _ (hri 1 _ rfl)), (hz.out.cell (by simp only; omega) (by simp)).trans (hcx _ _ hbi _ (hri 2 _ rfl)), (hz.out.cell (by simp only; omega) (by simp)).trans (hcx _ _ hbi _ (hri 3 _ rfl)), (hz.out.cell (by simp only; omega) (by simp)).trans (hcx _ _ hbi _ (hri 4 _ rfl)), (hz.out.cell (by simp only; omega) (by simp)).trans (hcx _ _ hbi _ (hri 5 _ rfl)), (hz.out.cell (by simp only; omega) (by simp)).trans (hcx _ _ hbi _ (hri 6 _ rfl)), (hz.out.cell (by simp only; omega) (by simp)).trans (hcx _ _ hbi _ (hri 7 _ rfl)), (hz.out.cell (by simp only; omega) (by simp)).trans (hcx _ _ hbi _ (hri 8 _ rfl)), (hz.out.cell (by simp only; omega) (by simp)).trans (hcx _ _ hbi _ (hri 9 _ rfl)), (hz.out.cell (by simp only; omega) (by simp)).trans (hcx _ _ hbi _ (hri 10 _ rfl)), (hz.out.cell (by simp only; omega) (by simp)).trans (hcx _ _ hbi _ (hri 11 _ rfl)), (hz.out.cell (by simp only; omega) (by simp)).trans (hcx _ _ hbi _ (hri 12 _ rfl)), (hz.out.cell (by simp only; omega) (by simp)).trans (hcx _ _ hbi _ (hri 13 _ rfl)), (hz.out.cell (by simp only; omega) (by simp)).trans (hcx _ _ hbu _ j0), (hz.out.cell (by simp only; omega) (by simp)).trans (hcx _ _ hbu _ j1)⟩ : z.cell? ⟨mb, 3, none⟩ = some (.slice (some ⟨bi, oi, none⟩) n cr) ∧ z.cell? ⟨mb, 4, none⟩ = some (.slice (some ⟨bu, ou, none⟩) n cu) ∧ z.cell? ⟨bi, oi + i * 14, none⟩ = some (.int .i64 (R i 0).1) ∧ z.cell? ⟨bi, oi + i * 14 + 1, none⟩ = some (.int .i64 (R i 0).2) ∧ z.cell? ⟨bi, oi + i * 14 + 2, none⟩ = some (.int .i64 (R i 1).1) ∧ z.cell? ⟨bi, oi + i * 14 + 3, none⟩ = some (.int .i64 (R i 1).2) ∧ z.cell? ⟨bi, oi + i * 14 + 4, none⟩ = some (.int .i64 (R i 2).1) ∧ z.cell? ⟨bi, oi + i * 14 + 5, none⟩ = some (.int .i64 (R i 2).2) ∧ z.cell? ⟨bi, oi + i * 14 + 6, none⟩ = some (.int .i64 (R i 3).1) ∧ z.cell? ⟨bi, oi + i * 14 + 7, none⟩ = some (.int .i64 (R i 3).2) ∧ z.cell? ⟨bi, oi + i * 14 + 8, none⟩ = some (.int .i64 (R i 4).1) ∧ z.cell? ⟨bi, oi + i * 14 + 9, none⟩ = some (.int .i64 (R i 4).2) ∧ z.cell? ⟨bi, oi + i * 14 + 10, none⟩ = some (.int .i64 (R i 5).1) ∧ z.cell? ⟨bi, oi + i * 14 + 11, none⟩ = some (.int .i64 (R i 5).2) ∧ z.cell? ⟨bi, oi + i * 14 + 12, none⟩ = some (.int .i64 (R i 6).1) ∧ z.cell? ⟨bi, oi + i * 14 + 13, none⟩ = some (.int .i64 (R i 6).2) ∧ z.cell? ⟨bu, ou + i * 2, none⟩ = some (.int .i64 (U i).1) ∧ z.cell? ⟨bu, ou + i * 2 + 1, none⟩ = some (.int .i64 (U i).2)))
  obtain ⟨d, hd⟩ : ∃ d, d = downS t R U n n i := ⟨_, rfl⟩
  have hs3 : Hid (Sml (both d (U i))) := by show Sml _; unfold Sml; rw [hd]; simp only [both]; omega
  have hs4 : Hid (Sml (I i)) := by show Sml _; unfold Sml; omega
  have hsk : Hid (∀ k, k < 7 → Sml (R i k)) := by intro k hk; have := hR i k hi hk; unfold Sml; omega
  have hres : Hid (spanS t R U I n i k = (if k = 6 then (both d (U i)) else if k = 1 then both (R i 1) (minus (plus (both d (U i)) (rest1 (R i) 4)) (minus1 (I i) (R i 1))) else both (R i k) (minus (I i) (plus (both d (U i)) (minus1 (rest1 (R i) 4) (R i k)))))) := by show _ = _; rw [hd]; rfl
  have HB7 : Hid (Sml (plus (both d (U i)) (rest1 (R i) 4)) ∧ Sml (minus1 (I i) (R i 1)) ∧ ∀ k, k < 7 → Sml (minus1 (rest1 (R i) 4) (R i k)) ∧ Sml (plus (both d (U i)) (minus1 (rest1 (R i) 4) (R i k)))) := by
    show _ ∧ _ ∧ _
    have h1 := hR i 1 hi (by omega)
    rw [hd]
    refine ⟨?_, ?_, fun k hk => ⟨?_, ?_⟩⟩
    · unfold Sml; simp only [plus, both]; omega
    · unfold Sml; simp only [minus1]; omega
    · have := hR i k hi hk; unfold Sml; simp only [minus1]; omega
    · have := hR i k hi hk; unfold Sml; simp only [minus1, plus, both]; omega
  rw [← hd] at HDW
  rw [hres.out]
  clear hri HD HRr HUi HIi hM hMy j0 j1 hcx hF hR hU hI hd hres
  subst hy
  go_enter Tryd.func51, Tryd.ntmps51
  go_wp2_with fail
  generalize (x.alloc (.cells #[.int .i64 0, .int .i64 0] 44)) = y at *
  obtain ⟨S, hSd⟩ : ∃ S : World → Prop, S = fun z => (z.cell? ⟨mb, 3, none⟩ = some (.slice (some ⟨bi, oi, none⟩) n cr) ∧ z.cell? ⟨mb, 4, none⟩ = some (.slice (some ⟨bu, ou, none⟩) n cu) ∧ z.cell? ⟨bi, oi + i * 14, none⟩ = some (.int .i64 (R i 0).1) ∧ z.cell? ⟨bi, oi + i * 14 + 1, none⟩ = some (.int .i64 (R i 0).2) ∧ z.cell? ⟨bi, oi + i * 14 + 2, none⟩ = some (.int .i64 (R i 1).1) ∧ z.cell? ⟨bi, oi + i * 14 + 3, none⟩ = some (.int .i64 (R i 1).2) ∧ z.cell? ⟨bi, oi + i * 14 + 4, none⟩ = some (.int .i64 (R i 2).1) ∧ z.cell? ⟨bi, oi + i * 14 + 5, none⟩ = some (.int .i64 (R i 2).2) ∧ z.cell? ⟨bi, oi + i * 14 + 6, none⟩ = some (.int .i64 (R i 3).1) ∧ z.cell? ⟨bi, oi + i * 14 + 7, none⟩ = some (.int .i64 (R i 3).2) ∧ z.cell? ⟨bi, oi + i * 14 + 8, none⟩ = some (.int .i64 (R i 4).1) ∧ z.cell? ⟨bi, oi + i * 14 + 9, none⟩ = some (.int .i64 (R i 4).2) ∧ z.cell? ⟨bi, oi + i * 14 + 10, none⟩ = some (.int .i64 (R i 5).1) ∧ z.cell? ⟨bi, oi + i * 14 + 11, none⟩ = some (.int .i64 (R i 5).2) ∧ z.cell? ⟨bi, oi + i * 14 + 12, none⟩ = some (.int .i64 (R i 6).1) ∧ z.cell? ⟨bi, oi + i * 14 + 13, none⟩ = some (.int .i64 (R i 6).2) ∧ z.cell? ⟨bu, ou + i * 2, none⟩ = some (.int .i64 (U i).1) ∧ z.cell? ⟨bu, ou + i * 2 + 1, none⟩ = some (.int .i64 (U i).2)) ∧ Hid (Kp y.heap.size [] y z) := ⟨_, rfl⟩
  have HS := Lib.hid (fun z (hz : Hid (Kp y.heap.size [] y z)) => (by rw [hSd]; exact ⟨HQ.out z hz, hz⟩ : S z))
  go_cut [7, 8] (fun s7 s8 wx => ∃ wl, wl = wx ∧ ∃ b7 b8, s7 = .pointer (some ⟨b7, 0, none⟩) ∧ s8 = .pointer (some ⟨b8, 0, none⟩) ∧ wx.heap[b7]? = some (.cells #[.int .i64 (R i 0).1, .int .i64 (R i 0).2, .int .i64 (R i 1).1, .int .i64 (R i 1).2, .int .i64 (R i 2).1, .int .i64 (R i 2).2, .int .i64 (R i 3).1, .int .i64 (R i 3).2, .int .i64 (R i 4).1, .int .i64 (R i 4).2, .int .i64 (R i 5).1, .int .i64 (R i 5).2, .int .i64 (R i 6).1, .int .i64 (R i 6).2] 104 (0, 0)) ∧ wx.heap[b8]? = some (.cells #[.int .i64 (both d (U i)).1, .int .i64 (both d (U i)).2] 44 (0, 0)) ∧ Kp y.heap.size [] y wx ∧ y.heap.size ≤ b7 ∧ y.heap.size ≤ b8)
  case first =>
    refine wp_region_held_drew (S := S) (by kernel_rfl) ?_ (fun hHeld => ?_)
    · exact HS.out _ (Lib.hid (Kp.refl _ _ _).drew)
    have hKyd : Hid (Kp y.heap.size [] y y.drew) := Lib.hid (Kp.refl _ _ _).drew
    have hSyd : y.heap.size ≤ y.drew.heap.size := Nat.le_refl _
    generalize y.drew = yd at *
    refine tY (v := ?_) 0 10 ?_ ?_
    rotate_left
    · intro w hSw; rw [hSd] at hSw; obtain ⟨⟨qm, qn, q0, q1, q2, q3, q4, q5, q6, q7, q8, q9, q10, q11, q12, q13, u0, u1⟩, -⟩ := hSw; go_simp; (try with_reducible rfl)
    try simp only [N0]
    refine tY (v := ?_) 1 11 ?_ ?_
    rotate_left
    · intro w hSw; rw [hSd] at hSw; obtain ⟨⟨qm, qn, q0, q1, q2, q3, q4, q5, q6, q7, q8, q9, q10, q11, q12, q13, u0, u1⟩, -⟩ := hSw; go_simp; (try with_reducible rfl)
    try simp only [N0]
    refine tY (v := ?_) 2 12 ?_ ?_
    rotate_left
    · intro w hSw; rw [hSd] at hSw; obtain ⟨⟨qm, qn, q0, q1, q2, q3, q4, q5, q6, q7, q8, q9, q10, q11, q12, q13, u0, u1⟩, -⟩ := hSw; go_simp; (try with_reducible rfl)
    try simp only [N0]
    refine tY (v := ?_) 3 13 ?_ ?_
    rotate_left
    · intro w hSw; rw [hSd] at hSw; obtain ⟨⟨qm, qn, q0, q1, q2, q3, q4, q5, q6, q7, q8, q9, q10, q11, q12, q13, u0, u1⟩, -⟩ := hSw; go_simp; (try with_reducible rfl)
    try simp only [N0]
    refine tY (v := ?_) 4 14 ?_ ?_
    rotate_left
    · intro w hSw; rw [hSd] at hSw; obtain ⟨⟨qm, qn, q0, q1, q2, q3, q4, q5, q6, q7, q8, q9, q10, q11, q12, q13, u0, u1⟩, -⟩ := hSw; go_simp; (try with_reducible rfl)
    try simp only [N0]
    refine tY (v := ?_) 5 15 ?_ ?_
    rotate_left
    · intro w hSw; rw [hSd] at hSw; obtain ⟨⟨qm, qn, q0, q1, q2, q3, q4, q5, q6, q7, q8, q9, q10, q11, q12, q13, u0, u1⟩, -⟩ := hSw; go_simp; (try with_reducible rfl)
    try simp only [N0]
    refine tY (v := ?_) 6 16 ?_ ?_
    rotate_left
    · intro w hSw; rw [hSd] at hSw; obtain ⟨⟨qm, qn, q0, q1, q2, q3, q4, q5, q6, q7, q8, q9, q10, q11, q12, q13, u0, u1⟩, -⟩ := hSw; go_simp; (try with_reducible rfl)
    try simp only [N0]
    refine tY (v := ?_) 7 17 ?_ ?_
    rotate_left
    · intro w hSw; rw [hSd] at hSw; obtain ⟨⟨qm, qn, q0, q1, q2, q3, q4, q5, q6, q7, q8, q9, q10, q11, q12, q13, u0, u1⟩, -⟩ := hSw; go_simp; (try with_reducible rfl)
    try simp only [N0]
    refine tY (v := ?_) 8 18 ?_ ?_
    rotate_left
    · intro w hSw; rw [hSd] at hSw; obtain ⟨⟨qm, qn, q0, q1, q2, q3, q4, q5, q6, q7, q8, q9, q10, q11, q12, q13, u0, u1⟩, -⟩ := hSw; go_simp; (try with_reducible rfl)
    try simp only [N0]
    refine tY (v := ?_) 10 20 ?_ ?_
    rotate_left
    · intro w hSw; rw [hSd] at hSw; obtain ⟨⟨qm, qn, q0, q1, q2, q3, q4, q5, q6, q7, q8, q9, q10, q11, q12, q13, u0, u1⟩, -⟩ := hSw; go_simp; (try with_reducible rfl)
    try simp only [N0]
    refine tY (v := ?_) 11 21 ?_ ?_
    rotate_left
    · intro w hSw; rw [hSd] at hSw; obtain ⟨⟨qm, qn, q0, q1, q2, q3, q4, q5, q6, q7, q8, q9, q10, q11, q12, q13, u0, u1⟩, -⟩ := hSw; go_simp; (try with_reducible rfl)
    try simp only [N0]
    refine tY (v := ?_) 12 22 ?_ ?_
    rotate_left
    · intro w hSw; rw [hSd] at hSw; obtain ⟨⟨qm, qn, q0, q1, q2, q3, q4, q5, q6, q7, q8, q9, q10, q11, q12, q13, u0, u1⟩, -⟩ := hSw; go_simp; (try with_reducible rfl)
    try simp only [N0]
    refine tY (v := ?_) 13 23 ?_ ?_
    rotate_left
    · intro w hSw; rw [hSd] at hSw; obtain ⟨⟨qm, qn, q0, q1, q2, q3, q4, q5, q6, q7, q8, q9, q10, q11, q12, q13, u0, u1⟩, -⟩ := hSw; go_simp; (try with_reducible rfl)
    try simp only [N0]
    refine tY (v := ?_) 14 24 ?_ ?_
    rotate_left
    · intro w hSw; rw [hSd] at hSw; obtain ⟨⟨qm, qn, q0, q1, q2, q3, q4, q5, q6, q7, q8, q9, q10, q11, q12, q13, u0, u1⟩, -⟩ := hSw; go_simp; (try with_reducible rfl)
    try simp only [N0]
    refine tY (v := ?_) 15 25 ?_ ?_
    rotate_left
    · intro w hSw; rw [hSd] at hSw; obtain ⟨⟨qm, qn, q0, q1, q2, q3, q4, q5, q6, q7, q8, q9, q10, q11, q12, q13, u0, u1⟩, -⟩ := hSw; go_simp; (try with_reducible rfl)
    try simp only [N0]
    refine tY (v := ?_) 16 26 ?_ ?_
    rotate_left
    · intro w hSw; rw [hSd] at hSw; obtain ⟨⟨qm, qn, q0, q1, q2, q3, q4, q5, q6, q7, q8, q9, q10, q11, q12, q13, u0, u1⟩, -⟩ := hSw; go_simp; (try with_reducible rfl)
    try simp only [N0]
    refine wpAnyH_ready (rs := [9, 18, 19]) (by kernel_rfl) (by simp) ?_
    refine AllReadyH.cons (o := _) rfl (fun Kq hK => ?_) ?_
    · go_simp
      refine (HDW.out _ hKyd).mono ?_
      rintro e zc0 ⟨rfl, hb⟩
      have hKzc0 := Lib.hid (hKyd.out.call hSyd hb)
      have hSzc0 := Nat.le_trans hSyd hb.size
      clear hb
      try go_simp
      refine hK.out _ _ ?_ (fun hHeld => ?_)
      · exact HS.out _ hKzc0
      clear hK Kq
      try simp only [N0]
      refine wpAnyH_ready (rs := [17, 18, 19]) (by kernel_rfl) (by simp) ?_
      refine AllReadyH.cons (o := _) rfl (fun Kq hK => ?_) ?_
      · go_simp
        refine (both_any d (U i) _).mono ?_
        rintro e zc1 ⟨rfl, hb⟩
        have hKzc1 := Lib.hid (hKzc0.out.call hSzc0 hb)
        have hSzc1 := Nat.le_trans hSzc0 hb.size
        clear hb
        try go_simp
        refine hK.out _ _ ?_ (fun hHeld => ?_)
        · exact HS.out _ hKzc1
        clear hK Kq
        try simp only [N0]
        refine wpAnyH_ready (rs := [18, 19]) (by kernel_rfl) (by simp) ?_
        refine AllReadyH.cons (o := _) rfl (fun Kq hK => ?_) ?_
        · go_simp
          have hOoA := heap_alloc_new zc1 (.cells #[.int .i64 0, .int .i64 0, .int .i64 0, .int .i64 0, .int .i64 0, .int .i64 0, .int .i64 0, .int .i64 0, .int .i64 0, .int .i64 0, .int .i64 0, .int .i64 0, .int .i64 0, .int .i64 0] 104)
          have hoboA := hSzc1
          have hKz18f2 := Lib.hid (hKzc1.out.alloc hSzc1 (.cells #[.int .i64 0, .int .i64 0, .int .i64 0, .int .i64 0, .int .i64 0, .int .i64 0, .int .i64 0, .int .i64 0, .int .i64 0, .int .i64 0, .int .i64 0, .int .i64 0, .int .i64 0, .int .i64 0] 104))
          have hSz18f2 := Nat.le_trans hSzc1 ((Below.refl zc1.heap.size zc1).alloc (Nat.le_refl _) (.cells #[.int .i64 0, .int .i64 0, .int .i64 0, .int .i64 0, .int .i64 0, .int .i64 0, .int .i64 0, .int .i64 0, .int .i64 0, .int .i64 0, .int .i64 0, .int .i64 0, .int .i64 0, .int .i64 0] 104)).size
          generalize (zc1.alloc (.cells #[.int .i64 0, .int .i64 0, .int .i64 0, .int .i64 0, .int .i64 0, .int .i64 0, .int .i64 0, .int .i64 0, .int .i64 0, .int .i64 0, .int .i64 0, .int .i64 0, .int .i64 0, .int .i64 0] 104)) = z18f2 at *
          refine hK.out _ _ ?_ (fun hHeld => ?_)
          · exact HS.out _ hKz18f2
          clear hK Kq
          try simp only [N0]
          refine wpAnyH_ready (rs := [19]) (by kernel_rfl) (by simp) ?_
          refine AllReadyH.cons (o := _) rfl (fun Kq hK => ?_) AllReadyH.nil
          go_simp
          have hOoB := heap_alloc_new z18f2 (.cells #[.int .i64 0, .int .i64 0] 44)
          have hoboB := hSz18f2
          have hOoA := keepO ((Below.refl z18f2.heap.size z18f2).alloc (Nat.le_refl _) (.cells #[.int .i64 0, .int .i64 0] 44)) hOoA
          have hKz19f2 := Lib.hid (hKz18f2.out.alloc hSz18f2 (.cells #[.int .i64 0, .int .i64 0] 44))
          have hSz19f2 := Nat.le_trans hSz18f2 ((Below.refl z18f2.heap.size z18f2).alloc (Nat.le_refl _) (.cells #[.int .i64 0, .int .i64 0] 44)).size
          generalize (z18f2.alloc (.cells #[.int .i64 0, .int .i64 0] 44)) = z19f2 at *
          refine hK.out _ _ ?_ (fun hHeld => ?_)
          · exact HS.out _ hKz19f2
          clear hK Kq
          try simp only [N0]
          refine wpAnyH_ready (rs := [20]) (by kernel_rfl) (by simp) ?_
          refine AllReadyH.cons (o := _) rfl (fun Kq hK => ?_) AllReadyH.nil
          obtain ⟨e0, e1, e2, e3, e4, e5, e6, e7, e8, e9, e10, e11, e12, e13, g0, g1, g2, g3, g4, g5, g6, g7, g8, g9, g10, g11, g12, g13⟩ := facts14 hOoA
          go_simp
          clear e0  e1  e2  e3  e4  e5  e6  e7  e8  e9  e10  e11  e12  e13  g0  g1  g2  g3  g4  g5  g6  g7  g8  g9  g10  g11  g12  g13
          obtain ⟨s20z19f2, hz_⟩ : ∃ z, z = ((((((((((((((z19f2.setCell ⟨zc1.heap.size, 0, none⟩ (.int .i64 (R i 0).1)).setCell ⟨zc1.heap.size, 1, none⟩ (.int .i64 (R i 0).2)).setCell ⟨zc1.heap.size, 2, none⟩ (.int .i64 (R i 1).1)).setCell ⟨zc1.heap.size, 3, none⟩ (.int .i64 (R i 1).2)).setCell ⟨zc1.heap.size, 4, none⟩ (.int .i64 (R i 2).1)).setCell ⟨zc1.heap.size, 5, none⟩ (.int .i64 (R i 2).2)).setCell ⟨zc1.heap.size, 6, none⟩ (.int .i64 (R i 3).1)).setCell ⟨zc1.heap.size, 7, none⟩ (.int .i64 (R i 3).2)).setCell ⟨zc1.heap.size, 8, none⟩ (.int .i64 (R i 4).1)).setCell ⟨zc1.heap.size, 9, none⟩ (.int .i64 (R i 4).2)).setCell ⟨zc1.heap.size, 10, none⟩ (.int .i64 (R i 5).1)).setCell ⟨zc1.heap.size, 11, none⟩ (.int .i64 (R i 5).2)).setCell ⟨zc1.heap.size, 12, none⟩ (.int .i64 (R i 6).1)).setCell ⟨zc1.heap.size, 13, none⟩ (.int .i64 (R i 6).2)) := ⟨_, rfl⟩
          rw [← hz_]
          have hN0 := (heap_sets14 z19f2 zc1.heap.size _ (.int .i64 (R i 0).1) (.int .i64 (R i 0).2) (.int .i64 (R i 1).1) (.int .i64 (R i 1).2) (.int .i64 (R i 2).1) (.int .i64 (R i 2).2) (.int .i64 (R i 3).1) (.int .i64 (R i 3).2) (.int .i64 (R i 4).1) (.int .i64 (R i 4).2) (.int .i64 (R i 5).1) (.int .i64 (R i 5).2) (.int .i64 (R i 6).1) (.int .i64 (R i 6).2) (by intro e; have h1 := hOoB; rw [e, hOoA] at h1; simp at h1)).trans hOoB
          rw [← hz_] at hN0
          have hOoA := set14 z19f2 zc1.heap.size _ (.int .i64 (R i 0).1) (.int .i64 (R i 0).2) (.int .i64 (R i 1).1) (.int .i64 (R i 1).2) (.int .i64 (R i 2).1) (.int .i64 (R i 2).2) (.int .i64 (R i 3).1) (.int .i64 (R i 3).2) (.int .i64 (R i 4).1) (.int .i64 (R i 4).2) (.int .i64 (R i 5).1) (.int .i64 (R i 5).2) (.int .i64 (R i 6).1) (.int .i64 (R i 6).2) _ _ _ _ _ _ _ _ _ _ _ _ _ _ hOoA
          rw [← hz_] at hOoA
          have hOoB := hN0
          clear hN0
          have hKs20z19f2 := Lib.hid ((((((((((((((hKz19f2.out.set (p := ⟨zc1.heap.size, 0, none⟩) (Or.inr hoboA) (.int .i64 (R i 0).1)).set (p := ⟨zc1.heap.size, 1, none⟩) (Or.inr hoboA) (.int .i64 (R i 0).2)).set (p := ⟨zc1.heap.size, 2, none⟩) (Or.inr hoboA) (.int .i64 (R i 1).1)).set (p := ⟨zc1.heap.size, 3, none⟩) (Or.inr hoboA) (.int .i64 (R i 1).2)).set (p := ⟨zc1.heap.size, 4, none⟩) (Or.inr hoboA) (.int .i64 (R i 2).1)).set (p := ⟨zc1.heap.size, 5, none⟩) (Or.inr hoboA) (.int .i64 (R i 2).2)).set (p := ⟨zc1.heap.size, 6, none⟩) (Or.inr hoboA) (.int .i64 (R i 3).1)).set (p := ⟨zc1.heap.size, 7, none⟩) (Or.inr hoboA) (.int .i64 (R i 3).2)).set (p := ⟨zc1.heap.size, 8, none⟩) (Or.inr hoboA) (.int .i64 (R i 4).1)).set (p := ⟨zc1.heap.size, 9, none⟩) (Or.inr hoboA) (.int .i64 (R i 4).2)).set (p := ⟨zc1.heap.size, 10, none⟩) (Or.inr hoboA) (.int .i64 (R i 5).1)).set (p := ⟨zc1.heap.size, 11, none⟩) (Or.inr hoboA) (.int .i64 (R i 5).2)).set (p := ⟨zc1.heap.size, 12, none⟩) (Or.inr hoboA) (.int .i64 (R i 6).1)).set (p := ⟨zc1.heap.size, 13, none⟩) (Or.inr hoboA) (.int .i64 (R i 6).2))
          rw [← hz_] at hKs20z19f2
          have hSs20z19f2 := Nat.le_trans hSz19f2 (show z19f2.heap.size ≤ s20z19f2.heap.size by rw [hz_]; simp)
          clear hz_
          refine hK.out _ _ ?_ (fun hHeld => ?_)
          · exact HS.out _ hKs20z19f2
          clear hK Kq
          try simp only [N0]
          refine wpAnyH_ready (rs := [21]) (by kernel_rfl) (by simp) ?_
          refine AllReadyH.cons (o := _) rfl (fun Kq hK => ?_) AllReadyH.nil
          obtain ⟨e0, e1, g0, g1⟩ := two_facts hOoB
          go_simp
          clear e0  e1  g0  g1
          obtain ⟨s21s20z19f2, hz_⟩ : ∃ z, z = ((s20z19f2.setCell ⟨z18f2.heap.size, 0, none⟩ (.int .i64 (both d (U i)).1)).setCell ⟨z18f2.heap.size, 1, none⟩ (.int .i64 (both d (U i)).2)) := ⟨_, rfl⟩
          rw [← hz_]
          have hN0 := (heap_sets2 s20z19f2 z18f2.heap.size _ (.int .i64 (both d (U i)).1) (.int .i64 (both d (U i)).2) (by intro e; have h1 := hOoA; rw [e, hOoB] at h1; simp at h1)).trans hOoA
          rw [← hz_] at hN0
          have hOoB := set_two s20z19f2 z18f2.heap.size _ (.int .i64 (both d (U i)).1) (.int .i64 (both d (U i)).2) _ _ hOoB
          rw [← hz_] at hOoB
          have hOoA := hN0
          clear hN0
          have hKs21s20z19f2 := Lib.hid ((hKs20z19f2.out.set (p := ⟨z18f2.heap.size, 0, none⟩) (Or.inr hoboB) (.int .i64 (both d (U i)).1)).set (p := ⟨z18f2.heap.size, 1, none⟩) (Or.inr hoboB) (.int .i64 (both d (U i)).2))
          rw [← hz_] at hKs21s20z19f2
          have hSs21s20z19f2 := Nat.le_trans hSs20z19f2 (show s20z19f2.heap.size ≤ s21s20z19f2.heap.size by rw [hz_]; simp)
          clear hz_
          refine hK.out _ _ ?_ (fun hHeld => ?_)
          · exact HS.out _ hKs21s20z19f2
          clear hK Kq
          try simp only [N0]
          refine wpAnyH_done (by kernel_rfl) ?_ _
          go_wp2_with fail
          go_meet
          exact ⟨_, rfl, _, _, rfl, rfl, hOoA, hOoB, hKs21s20z19f2.out, hoboA, hoboB⟩
        refine AllReadyH.cons (o := _) rfl (fun Kq hK => ?_) AllReadyH.nil
        go_simp
        have hOoB := heap_alloc_new zc1 (.cells #[.int .i64 0, .int .i64 0] 44)
        have hoboB := hSzc1
        have hKz19f2 := Lib.hid (hKzc1.out.alloc hSzc1 (.cells #[.int .i64 0, .int .i64 0] 44))
        have hSz19f2 := Nat.le_trans hSzc1 ((Below.refl zc1.heap.size zc1).alloc (Nat.le_refl _) (.cells #[.int .i64 0, .int .i64 0] 44)).size
        generalize (zc1.alloc (.cells #[.int .i64 0, .int .i64 0] 44)) = z19f2 at *
        refine hK.out _ _ ?_ (fun hHeld => ?_)
        · exact HS.out _ hKz19f2
        clear hK Kq
        try simp only [N0]
        refine wpAnyH_ready (rs := [18]) (by kernel_rfl) (by simp) ?_
        refine AllReadyH.cons (o := _) rfl (fun Kq hK => ?_) AllReadyH.nil
        go_simp
        have hOoA := heap_alloc_new z19f2 (.cells #[.int .i64 0, .int .i64 0, .int .i64 0, .int .i64 0, .int .i64 0, .int .i64 0, .int .i64 0, .int .i64 0, .int .i64 0, .int .i64 0, .int .i64 0, .int .i64 0, .int .i64 0, .int .i64 0] 104)
        have hoboA := hSz19f2
        have hOoB := keepO ((Below.refl z19f2.heap.size z19f2).alloc (Nat.le_refl _) (.cells #[.int .i64 0, .int .i64 0, .int .i64 0, .int .i64 0, .int .i64 0, .int .i64 0, .int .i64 0, .int .i64 0, .int .i64 0, .int .i64 0, .int .i64 0, .int .i64 0, .int .i64 0, .int .i64 0] 104)) hOoB
        have hKz18f2 := Lib.hid (hKz19f2.out.alloc hSz19f2 (.cells #[.int .i64 0, .int .i64 0, .int .i64 0, .int .i64 0, .int .i64 0, .int .i64 0, .int .i64 0, .int .i64 0, .int .i64 0, .int .i64 0, .int .i64 0, .int .i64 0, .int .i64 0, .int .i64 0] 104))
        have hSz18f2 := Nat.le_trans hSz19f2 ((Below.refl z19f2.heap.size z19f2).alloc (Nat.le_refl _) (.cells #[.int .i64 0, .int .i64 0, .int .i64 0, .int .i64 0, .int .i64 0, .int .i64 0, .int .i64 0, .int .i64 0, .int .i64 0, .int .i64 0, .int .i64 0, .int .i64 0, .int .i64 0, .int .i64 0] 104)).size
        generalize (z19f2.alloc (.cells #[.int .i64 0, .int .i64 0, .int .i64 0, .int .i64 0, .int .i64 0, .int .i64 0, .int .i64 0, .int .i64 0, .int .i64 0, .int .i64 0, .int .i64 0, .int .i64 0, .int .i64 0, .int .i64 0] 104)) = z18f2 at *
        refine hK.out _ _ ?_ (fun hHeld => ?_)
        · exact HS.out _ hKz18f2
        clear hK Kq
        try simp only [N0]
        refine wpAnyH_ready (rs := [20]) (by kernel_rfl) (by simp) ?_
        refine AllReadyH.cons (o := _) rfl (fun Kq hK => ?_) AllReadyH.nil
        obtain ⟨e0, e1, e2, e3, e4, e5, e6, e7, e8, e9, e10, e11, e12, e13, g0, g1, g2, g3, g4, g5, g6, g7, g8, g9, g10, g11, g12, g13⟩ := facts14 hOoA
        go_simp
        clear e0  e1  e2  e3  e4  e5  e6  e7  e8  e9  e10  e11  e12  e13  g0  g1  g2  g3  g4  g5  g6  g7  g8  g9  g10  g11  g12  g13
        obtain ⟨s20z18f2, hz_⟩ : ∃ z, z = ((((((((((((((z18f2.setCell ⟨z19f2.heap.size, 0, none⟩ (.int .i64 (R i 0).1)).setCell ⟨z19f2.heap.size, 1, none⟩ (.int .i64 (R i 0).2)).setCell ⟨z19f2.heap.size, 2, none⟩ (.int .i64 (R i 1).1)).setCell ⟨z19f2.heap.size, 3, none⟩ (.int .i64 (R i 1).2)).setCell ⟨z19f2.heap.size, 4, none⟩ (.int .i64 (R i 2).1)).setCell ⟨z19f2.heap.size, 5, none⟩ (.int .i64 (R i 2).2)).setCell ⟨z19f2.heap.size, 6, none⟩ (.int .i64 (R i 3).1)).setCell ⟨z19f2.heap.size, 7, none⟩ (.int .i64 (R i 3).2)).setCell ⟨z19f2.heap.size, 8, none⟩ (.int .i64 (R i 4).1)).setCell ⟨z19f2.heap.size, 9, none⟩ (.int .i64 (R i 4).2)).setCell ⟨z19f2.heap.size, 10, none⟩ (.int .i64 (R i 5).1)).setCell ⟨z19f2.heap.size, 11, none⟩ (.int .i64 (R i 5).2)).setCell ⟨z19f2.heap.size, 12, none⟩ (.int .i64 (R i 6).1)).setCell ⟨z19f2.heap.size, 13, none⟩ (.int .i64 (R i 6).2)) := ⟨_, rfl⟩
        rw [← hz_]
        have hN0 := (heap_sets14 z18f2 z19f2.heap.size _ (.int .i64 (R i 0).1) (.int .i64 (R i 0).2) (.int .i64 (R i 1).1) (.int .i64 (R i 1).2) (.int .i64 (R i 2).1) (.int .i64 (R i 2).2) (.int .i64 (R i 3).1) (.int .i64 (R i 3).2) (.int .i64 (R i 4).1) (.int .i64 (R i 4).2) (.int .i64 (R i 5).1) (.int .i64 (R i 5).2) (.int .i64 (R i 6).1) (.int .i64 (R i 6).2) (by intro e; have h1 := hOoB; rw [e, hOoA] at h1; simp at h1)).trans hOoB
        rw [← hz_] at hN0
        have hOoA := set14 z18f2 z19f2.heap.size _ (.int .i64 (R i 0).1) (.int .i64 (R i 0).2) (.int .i64 (R i 1).1) (.int .i64 (R i 1).2) (.int .i64 (R i 2).1) (.int .i64 (R i 2).2) (.int .i64 (R i 3).1) (.int .i64 (R i 3).2) (.int .i64 (R i 4).1) (.int .i64 (R i 4).2) (.int .i64 (R i 5).1) (.int .i64 (R i 5).2) (.int .i64 (R i 6).1) (.int .i64 (R i 6).2) _ _ _ _ _ _ _ _ _ _ _ _ _ _ hOoA
        rw [← hz_] at hOoA
        have hOoB := hN0
        clear hN0
        have hKs20z18f2 := Lib.hid ((((((((((((((hKz18f2.out.set (p := ⟨z19f2.heap.size, 0, none⟩) (Or.inr hoboA) (.int .i64 (R i 0).1)).set (p := ⟨z19f2.heap.size, 1, none⟩) (Or.inr hoboA) (.int .i64 (R i 0).2)).set (p := ⟨z19f2.heap.size, 2, none⟩) (Or.inr hoboA) (.int .i64 (R i 1).1)).set (p := ⟨z19f2.heap.size, 3, none⟩) (Or.inr hoboA) (.int .i64 (R i 1).2)).set (p := ⟨z19f2.heap.size, 4, none⟩) (Or.inr hoboA) (.int .i64 (R i 2).1)).set (p := ⟨z19f2.heap.size, 5, none⟩) (Or.inr hoboA) (.int .i64 (R i 2).2)).set (p := ⟨z19f2.heap.size, 6, none⟩) (Or.inr hoboA) (.int .i64 (R i 3).1)).set (p := ⟨z19f2.heap.size, 7, none⟩) (Or.inr hoboA) (.int .i64 (R i 3).2)).set (p := ⟨z19f2.heap.size, 8, none⟩) (Or.inr hoboA) (.int .i64 (R i 4).1)).set (p := ⟨z19f2.heap.size, 9, none⟩) (Or.inr hoboA) (.int .i64 (R i 4).2)).set (p := ⟨z19f2.heap.size, 10, none⟩) (Or.inr hoboA) (.int .i64 (R i 5).1)).set (p := ⟨z19f2.heap.size, 11, none⟩) (Or.inr hoboA) (.int .i64 (R i 5).2)).set (p := ⟨z19f2.heap.size, 12, none⟩) (Or.inr hoboA) (.int .i64 (R i 6).1)).set (p := ⟨z19f2.heap.size, 13, none⟩) (Or.inr hoboA) (.int .i64 (R i 6).2))
        rw [← hz_] at hKs20z18f2
        have hSs20z18f2 := Nat.le_trans hSz18f2 (show z18f2.heap.size ≤ s20z18f2.heap.size by rw [hz_]; simp)
        clear hz_
        refine hK.out _ _ ?_ (fun hHeld => ?_)
        · exact HS.out _ hKs20z18f2
        clear hK Kq
        try simp only [N0]
        refine wpAnyH_ready (rs := [21]) (by kernel_rfl) (by simp) ?_
        refine AllReadyH.cons (o := _) rfl (fun Kq hK => ?_) AllReadyH.nil
        obtain ⟨e0, e1, g0, g1⟩ := two_facts hOoB
        go_simp
        clear e0  e1  g0  g1
        obtain ⟨s21s20z18f2, hz_⟩ : ∃ z, z = ((s20z18f2.setCell ⟨zc1.heap.size, 0, none⟩ (.int .i64 (both d (U i)).1)).setCell ⟨zc1.heap.size, 1, none⟩ (.int .i64 (both d (U i)).2)) := ⟨_, rfl⟩
        rw [← hz_]
        have hN0 := (heap_sets2 s20z18f2 zc1.heap.size _ (.int .i64 (both d (U i)).1) (.int .i64 (both d (U i)).2) (by intro e; have h1 := hOoA; rw [e, hOoB] at h1; simp at h1)).trans hOoA
        rw [← hz_] at hN0
        have hOoB := set_two s20z18f2 zc1.heap.size _ (.int .i64 (both d (U i)).1) (.int .i64 (both d (U i)).2) _ _ hOoB
        rw [← hz_] at hOoB
        have hOoA := hN0
        clear hN0
        have hKs21s20z18f2 := Lib.hid ((hKs20z18f2.out.set (p := ⟨zc1.heap.size, 0, none⟩) (Or.inr hoboB) (.int .i64 (both d (U i)).1)).set (p := ⟨zc1.heap.size, 1, none⟩) (Or.inr hoboB) (.int .i64 (both d (U i)).2))
        rw [← hz_] at hKs21s20z18f2
        have hSs21s20z18f2 := Nat.le_trans hSs20z18f2 (show s20z18f2.heap.size ≤ s21s20z18f2.heap.size by rw [hz_]; simp)
        clear hz_
        refine hK.out _ _ ?_ (fun hHeld => ?_)
        · exact HS.out _ hKs21s20z18f2
        clear hK Kq
        try simp only [N0]
        refine wpAnyH_done (by kernel_rfl) ?_ _
        go_wp2_with fail
        go_meet
        exact ⟨_, rfl, _, _, rfl, rfl, hOoA, hOoB, hKs21s20z18f2.out, hoboA, hoboB⟩
      refine AllReadyH.cons (o := _) rfl (fun Kq hK => ?_) ?_
      · go_simp
        have hOoA := heap_alloc_new zc0 (.cells #[.int .i64 0, .int .i64 0, .int .i64 0, .int .i64 0, .int .i64 0, .int .i64 0, .int .i64 0, .int .i64 0, .int .i64 0, .int .i64 0, .int .i64 0, .int .i64 0, .int .i64 0, .int .i64 0] 104)
        have hoboA := hSzc0
        have hKz18f1 := Lib.hid (hKzc0.out.alloc hSzc0 (.cells #[.int .i64 0, .int .i64 0, .int .i64 0, .int .i64 0, .int .i64 0, .int .i64 0, .int .i64 0, .int .i64 0, .int .i64 0, .int .i64 0, .int .i64 0, .int .i64 0, .int .i64 0, .int .i64 0] 104))
        have hSz18f1 := Nat.le_trans hSzc0 ((Below.refl zc0.heap.size zc0).alloc (Nat.le_refl _) (.cells #[.int .i64 0, .int .i64 0, .int .i64 0, .int .i64 0, .int .i64 0, .int .i64 0, .int .i64 0, .int .i64 0, .int .i64 0, .int .i64 0, .int .i64 0, .int .i64 0, .int .i64 0, .int .i64 0] 104)).size
        generalize (zc0.alloc (.cells #[.int .i64 0, .int .i64 0, .int .i64 0, .int .i64 0, .int .i64 0, .int .i64 0, .int .i64 0, .int .i64 0, .int .i64 0, .int .i64 0, .int .i64 0, .int .i64 0, .int .i64 0, .int .i64 0] 104)) = z18f1 at *
        refine hK.out _ _ ?_ (fun hHeld => ?_)
        · exact HS.out _ hKz18f1
        clear hK Kq
        try simp only [N0]
        refine wpAnyH_ready (rs := [17, 19]) (by kernel_rfl) (by simp) ?_
        refine AllReadyH.cons (o := _) rfl (fun Kq hK => ?_) ?_
        · go_simp
          refine (both_any d (U i) _).mono ?_
          rintro e zc1a18 ⟨rfl, hb⟩
          have hKzc1a18 := Lib.hid (hKz18f1.out.call hSz18f1 hb)
          have hOoA := keepO hb hOoA
          have hSzc1a18 := Nat.le_trans hSz18f1 hb.size
          clear hb
          try go_simp
          refine hK.out _ _ ?_ (fun hHeld => ?_)
          · exact HS.out _ hKzc1a18
          clear hK Kq
          try simp only [N0]
          refine wpAnyH_ready (rs := [19]) (by kernel_rfl) (by simp) ?_
          refine AllReadyH.cons (o := _) rfl (fun Kq hK => ?_) AllReadyH.nil
          go_simp
          have hOoB := heap_alloc_new zc1a18 (.cells #[.int .i64 0, .int .i64 0] 44)
          have hoboB := hSzc1a18
          have hOoA := keepO ((Below.refl zc1a18.heap.size zc1a18).alloc (Nat.le_refl _) (.cells #[.int .i64 0, .int .i64 0] 44)) hOoA
          have hKz19f2 := Lib.hid (hKzc1a18.out.alloc hSzc1a18 (.cells #[.int .i64 0, .int .i64 0] 44))
          have hSz19f2 := Nat.le_trans hSzc1a18 ((Below.refl zc1a18.heap.size zc1a18).alloc (Nat.le_refl _) (.cells #[.int .i64 0, .int .i64 0] 44)).size
          generalize (zc1a18.alloc (.cells #[.int .i64 0, .int .i64 0] 44)) = z19f2 at *
          refine hK.out _ _ ?_ (fun hHeld => ?_)
          · exact HS.out _ hKz19f2
          clear hK Kq
          try simp only [N0]
          refine wpAnyH_ready (rs := [20]) (by kernel_rfl) (by simp) ?_
          refine AllReadyH.cons (o := _) rfl (fun Kq hK => ?_) AllReadyH.nil
          obtain ⟨e0, e1, e2, e3, e4, e5, e6, e7, e8, e9, e10, e11, e12, e13, g0, g1, g2, g3, g4, g5, g6, g7, g8, g9, g10, g11, g12, g13⟩ := facts14 hOoA
          go_simp
          clear e0  e1  e2  e3  e4  e5  e6  e7  e8  e9  e10  e11  e12  e13  g0  g1  g2  g3  g4  g5  g6  g7  g8  g9  g10  g11  g12  g13
          obtain ⟨s20z19f2, hz_⟩ : ∃ z, z = ((((((((((((((z19f2.setCell ⟨zc0.heap.size, 0, none⟩ (.int .i64 (R i 0).1)).setCell ⟨zc0.heap.size, 1, none⟩ (.int .i64 (R i 0).2)).setCell ⟨zc0.heap.size, 2, none⟩ (.int .i64 (R i 1).1)).setCell ⟨zc0.heap.size, 3, none⟩ (.int .i64 (R i 1).2)).setCell ⟨zc0.heap.size, 4, none⟩ (.int .i64 (R i 2).1)).setCell ⟨zc0.heap.size, 5, none⟩ (.int .i64 (R i 2).2)).setCell ⟨zc0.heap.size, 6, none⟩ (.int .i64 (R i 3).1)).setCell ⟨zc0.heap.size, 7, none⟩ (.int .i64 (R i 3).2)).setCell ⟨zc0.heap.size, 8, none⟩ (.int .i64 (R i 4).1)).setCell ⟨zc0.heap.size, 9, none⟩ (.int .i64 (R i 4).2)).setCell ⟨zc0.heap.size, 10, none⟩ (.int .i64 (R i 5).1)).setCell ⟨zc0.heap.size, 11, none⟩ (.int .i64 (R i 5).2)).setCell ⟨zc0.heap.size, 12, none⟩ (.int .i64 (R i 6).1)).setCell ⟨zc0.heap.size, 13, none⟩ (.int .i64 (R i 6).2)) := ⟨_, rfl⟩
          rw [← hz_]
          have hN0 := (heap_sets14 z19f2 zc0.heap.size _ (.int .i64 (R i 0).1) (.int .i64 (R i 0).2) (.int .i64 (R i 1).1) (.int .i64 (R i 1).2) (.int .i64 (R i 2).1) (.int .i64 (R i 2).2) (.int .i64 (R i 3).1) (.int .i64 (R i 3).2) (.int .i64 (R i 4).1) (.int .i64 (R i 4).2) (.int .i64 (R i 5).1) (.int .i64 (R i 5).2) (.int .i64 (R i 6).1) (.int .i64 (R i 6).2) (by intro e; have h1 := hOoB; rw [e, hOoA] at h1; simp at h1)).trans hOoB
          rw [← hz_] at hN0
          have hOoA := set14 z19f2 zc0.heap.size _ (.int .i64 (R i 0).1) (.int .i64 (R i 0).2) (.int .i64 (R i 1).1) (.int .i64 (R i 1).2) (.int .i64 (R i 2).1) (.int .i64 (R i 2).2) (.int .i64 (R i 3).1) (.int .i64 (R i 3).2) (.int .i64 (R i 4).1) (.int .i64 (R i 4).2) (.int .i64 (R i 5).1) (.int .i64 (R i 5).2) (.int .i64 (R i 6).1) (.int .i64 (R i 6).2) _ _ _ _ _ _ _ _ _ _ _ _ _ _ hOoA
          rw [← hz_] at hOoA
          have hOoB := hN0
          clear hN0
          have hKs20z19f2 := Lib.hid ((((((((((((((hKz19f2.out.set (p := ⟨zc0.heap.size, 0, none⟩) (Or.inr hoboA) (.int .i64 (R i 0).1)).set (p := ⟨zc0.heap.size, 1, none⟩) (Or.inr hoboA) (.int .i64 (R i 0).2)).set (p := ⟨zc0.heap.size, 2, none⟩) (Or.inr hoboA) (.int .i64 (R i 1).1)).set (p := ⟨zc0.heap.size, 3, none⟩) (Or.inr hoboA) (.int .i64 (R i 1).2)).set (p := ⟨zc0.heap.size, 4, none⟩) (Or.inr hoboA) (.int .i64 (R i 2).1)).set (p := ⟨zc0.heap.size, 5, none⟩) (Or.inr hoboA) (.int .i64 (R i 2).2)).set (p := ⟨zc0.heap.size, 6, none⟩) (Or.inr hoboA) (.int .i64 (R i 3).1)).set (p := ⟨zc0.heap.size, 7, none⟩) (Or.inr hoboA) (.int .i64 (R i 3).2)).set (p := ⟨zc0.heap.size, 8, none⟩) (Or.inr hoboA) (.int .i64 (R i 4).1)).set (p := ⟨zc0.heap.size, 9, none⟩) (Or.inr hoboA) (.int .i64 (R i 4).2)).set (p := ⟨zc0.heap.size, 10, none⟩) (Or.inr hoboA) (.int .i64 (R i 5).1)).set (p := ⟨zc0.heap.size, 11, none⟩) (Or.inr hoboA) (.int .i64 (R i 5).2)).set (p := ⟨zc0.heap.size, 12, none⟩) (Or.inr hoboA) (.int .i64 (R i 6).1)).set (p := ⟨zc0.heap.size, 13, none⟩) (Or.inr hoboA) (.int .i64 (R i 6).2))
          rw [← hz_] at hKs20z19f2
          have hSs20z19f2 := Nat.le_trans hSz19f2 (show z19f2.heap.size ≤ s20z19f2.heap.size by rw [hz_]; simp)
          clear hz_
          refine hK.out _ _ ?_ (fun hHeld => ?_)
          · exact HS.out _ hKs20z19f2
          clear hK Kq
          try simp only [N0]
          refine wpAnyH_ready (rs := [21]) (by kernel_rfl) (by simp) ?_
          refine AllReadyH.cons (o := _) rfl (fun Kq hK => ?_) AllReadyH.nil
          obtain ⟨e0, e1, g0, g1⟩ := two_facts hOoB
          go_simp
          clear e0  e1  g0  g1
          obtain ⟨s21s20z19f2, hz_⟩ : ∃ z, z = ((s20z19f2.setCell ⟨zc1a18.heap.size, 0, none⟩ (.int .i64 (both d (U i)).1)).setCell ⟨zc1a18.heap.size, 1, none⟩ (.int .i64 (both d (U i)).2)) := ⟨_, rfl⟩
          rw [← hz_]
          have hN0 := (heap_sets2 s20z19f2 zc1a18.heap.size _ (.int .i64 (both d (U i)).1) (.int .i64 (both d (U i)).2) (by intro e; have h1 := hOoA; rw [e, hOoB] at h1; simp at h1)).trans hOoA
          rw [← hz_] at hN0
          have hOoB := set_two s20z19f2 zc1a18.heap.size _ (.int .i64 (both d (U i)).1) (.int .i64 (both d (U i)).2) _ _ hOoB
          rw [← hz_] at hOoB
          have hOoA := hN0
          clear hN0
          have hKs21s20z19f2 := Lib.hid ((hKs20z19f2.out.set (p := ⟨zc1a18.heap.size, 0, none⟩) (Or.inr hoboB) (.int .i64 (both d (U i)).1)).set (p := ⟨zc1a18.heap.size, 1, none⟩) (Or.inr hoboB) (.int .i64 (both d (U i)).2))
          rw [← hz_] at hKs21s20z19f2
          have hSs21s20z19f2 := Nat.le_trans hSs20z19f2 (show s20z19f2.heap.size ≤ s21s20z19f2.heap.size by rw [hz_]; simp)
          clear hz_
          refine hK.out _ _ ?_ (fun hHeld => ?_)
          · exact HS.out _ hKs21s20z19f2
          clear hK Kq
          try simp only [N0]
          refine wpAnyH_done (by kernel_rfl) ?_ _
          go_wp2_with fail
          go_meet
          exact ⟨_, rfl, _, _, rfl, rfl, hOoA, hOoB, hKs21s20z19f2.out, hoboA, hoboB⟩
        refine AllReadyH.cons (o := _) rfl (fun Kq hK => ?_) AllReadyH.nil
        go_simp
        have hOoB := heap_alloc_new z18f1 (.cells #[.int .i64 0, .int .i64 0] 44)
        have hoboB := hSz18f1
        have hOoA := keepO ((Below.refl z18f1.heap.size z18f1).alloc (Nat.le_refl _) (.cells #[.int .i64 0, .int .i64 0] 44)) hOoA
        have hKz19f1 := Lib.hid (hKz18f1.out.alloc hSz18f1 (.cells #[.int .i64 0, .int .i64 0] 44))
        have hSz19f1 := Nat.le_trans hSz18f1 ((Below.refl z18f1.heap.size z18f1).alloc (Nat.le_refl _) (.cells #[.int .i64 0, .int .i64 0] 44)).size
        generalize (z18f1.alloc (.cells #[.int .i64 0, .int .i64 0] 44)) = z19f1 at *
        refine hK.out _ _ ?_ (fun hHeld => ?_)
        · exact HS.out _ hKz19f1
        clear hK Kq
        try simp only [N0]
        refine wpAnyH_ready (rs := [17]) (by kernel_rfl) (by simp) ?_
        refine AllReadyH.cons (o := _) rfl (fun Kq hK => ?_) AllReadyH.nil
        go_simp
        refine (both_any d (U i) _).mono ?_
        rintro e zc1a1819 ⟨rfl, hb⟩
        have hKzc1a1819 := Lib.hid (hKz19f1.out.call hSz19f1 hb)
        have hOoA := keepO hb hOoA
        have hOoB := keepO hb hOoB
        have hSzc1a1819 := Nat.le_trans hSz19f1 hb.size
        clear hb
        try go_simp
        refine hK.out _ _ ?_ (fun hHeld => ?_)
        · exact HS.out _ hKzc1a1819
        clear hK Kq
        try simp only [N0]
        refine wpAnyH_ready (rs := [20]) (by kernel_rfl) (by simp) ?_
        refine AllReadyH.cons (o := _) rfl (fun Kq hK => ?_) AllReadyH.nil
        obtain ⟨e0, e1, e2, e3, e4, e5, e6, e7, e8, e9, e10, e11, e12, e13, g0, g1, g2, g3, g4, g5, g6, g7, g8, g9, g10, g11, g12, g13⟩ := facts14 hOoA
        go_simp
        clear e0  e1  e2  e3  e4  e5  e6  e7  e8  e9  e10  e11  e12  e13  g0  g1  g2  g3  g4  g5  g6  g7  g8  g9  g10  g11  g12  g13
        obtain ⟨s20zc1a1819, hz_⟩ : ∃ z, z = ((((((((((((((zc1a1819.setCell ⟨zc0.heap.size, 0, none⟩ (.int .i64 (R i 0).1)).setCell ⟨zc0.heap.size, 1, none⟩ (.int .i64 (R i 0).2)).setCell ⟨zc0.heap.size, 2, none⟩ (.int .i64 (R i 1).1)).setCell ⟨zc0.heap.size, 3, none⟩ (.int .i64 (R i 1).2)).setCell ⟨zc0.heap.size, 4, none⟩ (.int .i64 (R i 2).1)).setCell ⟨zc0.heap.size, 5, none⟩ (.int .i64 (R i 2).2)).setCell ⟨zc0.heap.size, 6, none⟩ (.int .i64 (R i 3).1)).setCell ⟨zc0.heap.size, 7, none⟩ (.int .i64 (R i 3).2)).setCell ⟨zc0.heap.size, 8, none⟩ (.int .i64 (R i 4).1)).setCell ⟨zc0.heap.size, 9, none⟩ (.int .i64 (R i 4).2)).setCell ⟨zc0.heap.size, 10, none⟩ (.int .i64 (R i 5).1)).setCell ⟨zc0.heap.size, 11, none⟩ (.int .i64 (R i 5).2)).setCell ⟨zc0.heap.size, 12, none⟩ (.int .i64 (R i 6).1)).setCell ⟨zc0.heap.size, 13, none⟩ (.int .i64 (R i 6).2)) := ⟨_, rfl⟩
        rw [← hz_]
        have hN0 := (heap_sets14 zc1a1819 zc0.heap.size _ (.int .i64 (R i 0).1) (.int .i64 (R i 0).2) (.int .i64 (R i 1).1) (.int .i64 (R i 1).2) (.int .i64 (R i 2).1) (.int .i64 (R i 2).2) (.int .i64 (R i 3).1) (.int .i64 (R i 3).2) (.int .i64 (R i 4).1) (.int .i64 (R i 4).2) (.int .i64 (R i 5).1) (.int .i64 (R i 5).2) (.int .i64 (R i 6).1) (.int .i64 (R i 6).2) (by intro e; have h1 := hOoB; rw [e, hOoA] at h1; simp at h1)).trans hOoB
        rw [← hz_] at hN0
        have hOoA := set14 zc1a1819 zc0.heap.size _ (.int .i64 (R i 0).1) (.int .i64 (R i 0).2) (.int .i64 (R i 1).1) (.int .i64 (R i 1).2) (.int .i64 (R i 2).1) (.int .i64 (R i 2).2) (.int .i64 (R i 3).1) (.int .i64 (R i 3).2) (.int .i64 (R i 4).1) (.int .i64 (R i 4).2) (.int .i64 (R i 5).1) (.int .i64 (R i 5).2) (.int .i64 (R i 6).1) (.int .i64 (R i 6).2) _ _ _ _ _ _ _ _ _ _ _ _ _ _ hOoA
        rw [← hz_] at hOoA
        have hOoB := hN0
        clear hN0
        have hKs20zc1a1819 := Lib.hid ((((((((((((((hKzc1a1819.out.set (p := ⟨zc0.heap.size, 0, none⟩) (Or.inr hoboA) (.int .i64 (R i 0).1)).set (p := ⟨zc0.heap.size, 1, none⟩) (Or.inr hoboA) (.int .i64 (R i 0).2)).set (p := ⟨zc0.heap.size, 2, none⟩) (Or.inr hoboA) (.int .i64 (R i 1).1)).set (p := ⟨zc0.heap.size, 3, none⟩) (Or.inr hoboA) (.int .i64 (R i 1).2)).set (p := ⟨zc0.heap.size, 4, none⟩) (Or.inr hoboA) (.int .i64 (R i 2).1)).set (p := ⟨zc0.heap.size, 5, none⟩) (Or.inr hoboA) (.int .i64 (R i 2).2)).set (p := ⟨zc0.heap.size, 6, none⟩) (Or.inr hoboA) (.int .i64 (R i 3).1)).set (p := ⟨zc0.heap.size, 7, none⟩) (Or.inr hoboA) (.int .i64 (R i 3).2)).set (p := ⟨zc0.heap.size, 8, none⟩) (Or.inr hoboA) (.int .i64 (R i 4).1)).set (p := ⟨zc0.heap.size, 9, none⟩) (Or.inr hoboA) (.int .i64 (R i 4).2)).set (p := ⟨zc0.heap.size, 10, none⟩) (Or.inr hoboA) (.int .i64 (R i 5).1)).set (p := ⟨zc0.heap.size, 11, none⟩) (Or.inr hoboA) (.int .i64 (R i 5).2)).set (p := ⟨zc0.heap.size, 12, none⟩) (Or.inr hoboA) (.int .i64 (R i 6).1)).set (p := ⟨zc0.heap.size, 13, none⟩) (Or.inr hoboA) (.int .i64 (R i 6).2))
        rw [← hz_] at hKs20zc1a1819
        have hSs20zc1a1819 := Nat.le_trans hSzc1a1819 (show zc1a1819.heap.size ≤ s20zc1a1819.heap.size by rw [hz_]; simp)
        clear hz_
        refine hK.out _ _ ?_ (fun hHeld => ?_)
        · exact HS.out _ hKs20zc1a1819
        clear hK Kq
        try simp only [N0]
        refine wpAnyH_ready (rs := [21]) (by kernel_rfl) (by simp) ?_
        refine AllReadyH.cons (o := _) rfl (fun Kq hK => ?_) AllReadyH.nil
        obtain ⟨e0, e1, g0, g1⟩ := two_facts hOoB
        go_simp
        clear e0  e1  g0  g1
        obtain ⟨s21s20zc1a1819, hz_⟩ : ∃ z, z = ((s20zc1a1819.setCell ⟨z18f1.heap.size, 0, none⟩ (.int .i64 (both d (U i)).1)).setCell ⟨z18f1.heap.size, 1, none⟩ (.int .i64 (both d (U i)).2)) := ⟨_, rfl⟩
        rw [← hz_]
        have hN0 := (heap_sets2 s20zc1a1819 z18f1.heap.size _ (.int .i64 (both d (U i)).1) (.int .i64 (both d (U i)).2) (by intro e; have h1 := hOoA; rw [e, hOoB] at h1; simp at h1)).trans hOoA
        rw [← hz_] at hN0
        have hOoB := set_two s20zc1a1819 z18f1.heap.size _ (.int .i64 (both d (U i)).1) (.int .i64 (both d (U i)).2) _ _ hOoB
        rw [← hz_] at hOoB
        have hOoA := hN0
        clear hN0
        have hKs21s20zc1a1819 := Lib.hid ((hKs20zc1a1819.out.set (p := ⟨z18f1.heap.size, 0, none⟩) (Or.inr hoboB) (.int .i64 (both d (U i)).1)).set (p := ⟨z18f1.heap.size, 1, none⟩) (Or.inr hoboB) (.int .i64 (both d (U i)).2))
        rw [← hz_] at hKs21s20zc1a1819
        have hSs21s20zc1a1819 := Nat.le_trans hSs20zc1a1819 (show s20zc1a1819.heap.size ≤ s21s20zc1a1819.heap.size by rw [hz_]; simp)
        clear hz_
        refine hK.out _ _ ?_ (fun hHeld => ?_)
        · exact HS.out _ hKs21s20zc1a1819
        clear hK Kq
        try simp only [N0]
        refine wpAnyH_done (by kernel_rfl) ?_ _
        go_wp2_with fail
        go_meet
        exact ⟨_, rfl, _, _, rfl, rfl, hOoA, hOoB, hKs21s20zc1a1819.out, hoboA, hoboB⟩
      refine AllReadyH.cons (o := _) rfl (fun Kq hK => ?_) AllReadyH.nil
      go_simp
      have hOoB := heap_alloc_new zc0 (.cells #[.int .i64 0, .int .i64 0] 44)
      have hoboB := hSzc0
      have hKz19f1 := Lib.hid (hKzc0.out.alloc hSzc0 (.cells #[.int .i64 0, .int .i64 0] 44))
      have hSz19f1 := Nat.le_trans hSzc0 ((Below.refl zc0.heap.size zc0).alloc (Nat.le_refl _) (.cells #[.int .i64 0, .int .i64 0] 44)).size
      generalize (zc0.alloc (.cells #[.int .i64 0, .int .i64 0] 44)) = z19f1 at *
      refine hK.out _ _ ?_ (fun hHeld => ?_)
      · exact HS.out _ hKz19f1
      clear hK Kq
      try simp only [N0]
      refine wpAnyH_ready (rs := [17, 18]) (by kernel_rfl) (by simp) ?_
      refine AllReadyH.cons (o := _) rfl (fun Kq hK => ?_) ?_
      · go_simp
        refine (both_any d (U i) _).mono ?_
        rintro e zc1a19 ⟨rfl, hb⟩
        have hKzc1a19 := Lib.hid (hKz19f1.out.call hSz19f1 hb)
        have hOoB := keepO hb hOoB
        have hSzc1a19 := Nat.le_trans hSz19f1 hb.size
        clear hb
        try go_simp
        refine hK.out _ _ ?_ (fun hHeld => ?_)
        · exact HS.out _ hKzc1a19
        clear hK Kq
        try simp only [N0]
        refine wpAnyH_ready (rs := [18]) (by kernel_rfl) (by simp) ?_
        refine AllReadyH.cons (o := _) rfl (fun Kq hK => ?_) AllReadyH.nil
        go_simp
        have hOoA := heap_alloc_new zc1a19 (.cells #[.int .i64 0, .int .i64 0, .int .i64 0, .int .i64 0, .int .i64 0, .int .i64 0, .int .i64 0, .int .i64 0, .int .i64 0, .int .i64 0, .int .i64 0, .int .i64 0, .int .i64 0, .int .i64 0] 104)
        have hoboA := hSzc1a19
        have hOoB := keepO ((Below.refl zc1a19.heap.size zc1a19).alloc (Nat.le_refl _) (.cells #[.int .i64 0, .int .i64 0, .int .i64 0, .int .i64 0, .int .i64 0, .int .i64 0, .int .i64 0, .int .i64 0, .int .i64 0, .int .i64 0, .int .i64 0, .int .i64 0, .int .i64 0, .int .i64 0] 104)) hOoB
        have hKz18f2 := Lib.hid (hKzc1a19.out.alloc hSzc1a19 (.cells #[.int .i64 0, .int .i64 0, .int .i64 0, .int .i64 0, .int .i64 0, .int .i64 0, .int .i64 0, .int .i64 0, .int .i64 0, .int .i64 0, .int .i64 0, .int .i64 0, .int .i64 0, .int .i64 0] 104))
        have hSz18f2 := Nat.le_trans hSzc1a19 ((Below.refl zc1a19.heap.size zc1a19).alloc (Nat.le_refl _) (.cells #[.int .i64 0, .int .i64 0, .int .i64 0, .int .i64 0, .int .i64 0, .int .i64 0, .int .i64 0, .int .i64 0, .int .i64 0, .int .i64 0, .int .i64 0, .int .i64 0, .int .i64 0, .int .i64 0] 104)).size
        generalize (zc1a19.alloc (.cells #[.int .i64 0, .int .i64 0, .int .i64 0, .int .i64 0, .int .i64 0, .int .i64 0, .int .i64 0, .int .i64 0, .int .i64 0, .int .i64 0, .int .i64 0, .int .i64 0, .int .i64 0, .int .i64 0] 104)) = z18f2 at *
        refine hK.out _ _ ?_ (fun hHeld => ?_)
        · exact HS.out _ hKz18f2
        clear hK Kq
        try simp only [N0]
        refine wpAnyH_ready (rs := [20]) (by kernel_rfl) (by simp) ?_
        refine AllReadyH.cons (o := _) rfl (fun Kq hK => ?_) AllReadyH.nil
        obtain ⟨e0, e1, e2, e3, e4, e5, e6, e7, e8, e9, e10, e11, e12, e13, g0, g1, g2, g3, g4, g5, g6, g7, g8, g9, g10, g11, g12, g13⟩ := facts14 hOoA
        go_simp
        clear e0  e1  e2  e3  e4  e5  e6  e7  e8  e9  e10  e11  e12  e13  g0  g1  g2  g3  g4  g5  g6  g7  g8  g9  g10  g11  g12  g13
        obtain ⟨s20z18f2, hz_⟩ : ∃ z, z = ((((((((((((((z18f2.setCell ⟨zc1a19.heap.size, 0, none⟩ (.int .i64 (R i 0).1)).setCell ⟨zc1a19.heap.size, 1, none⟩ (.int .i64 (R i 0).2)).setCell ⟨zc1a19.heap.size, 2, none⟩ (.int .i64 (R i 1).1)).setCell ⟨zc1a19.heap.size, 3, none⟩ (.int .i64 (R i 1).2)).setCell ⟨zc1a19.heap.size, 4, none⟩ (.int .i64 (R i 2).1)).setCell ⟨zc1a19.heap.size, 5, none⟩ (.int .i64 (R i 2).2)).setCell ⟨zc1a19.heap.size, 6, none⟩ (.int .i64 (R i 3).1)).setCell ⟨zc1a19.heap.size, 7, none⟩ (.int .i64 (R i 3).2)).setCell ⟨zc1a19.heap.size, 8, none⟩ (.int .i64 (R i 4).1)).setCell ⟨zc1a19.heap.size, 9, none⟩ (.int .i64 (R i 4).2)).setCell ⟨zc1a19.heap.size, 10, none⟩ (.int .i64 (R i 5).1)).setCell ⟨zc1a19.heap.size, 11, none⟩ (.int .i64 (R i 5).2)).setCell ⟨zc1a19.heap.size, 12, none⟩ (.int .i64 (R i 6).1)).setCell ⟨zc1a19.heap.size, 13, none⟩ (.int .i64 (R i 6).2)) := ⟨_, rfl⟩
        rw [← hz_]
        have hN0 := (heap_sets14 z18f2 zc1a19.heap.size _ (.int .i64 (R i 0).1) (.int .i64 (R i 0).2) (.int .i64 (R i 1).1) (.int .i64 (R i 1).2) (.int .i64 (R i 2).1) (.int .i64 (R i 2).2) (.int .i64 (R i 3).1) (.int .i64 (R i 3).2) (.int .i64 (R i 4).1) (.int .i64 (R i 4).2) (.int .i64 (R i 5).1) (.int .i64 (R i 5).2) (.int .i64 (R i 6).1) (.int .i64 (R i 6).2) (by intro e; have h1 := hOoB; rw [e, hOoA] at h1; simp at h1)).trans hOoB
        rw [← hz_] at hN0
        have hOoA := set14 z18f2 zc1a19.heap.size _ (.int .i64 (R i 0).1) (.int .i64 (R i 0).2) (.int .i64 (R i 1).1) (.int .i64 (R i 1).2) (.int .i64 (R i 2).1) (.int .i64 (R i 2).2) (.int .i64 (R i 3).1) (.int .i64 (R i 3).2) (.int .i64 (R i 4).1) (.int .i64 (R i 4).2) (.int .i64 (R i 5).1) (.int .i64 (R i 5).2) (.int .i64 (R i 6).1) (.int .i64 (R i 6).2) _ _ _ _ _ _ _ _ _ _ _ _ _ _ hOoA
        rw [← hz_] at hOoA
        have hOoB := hN0
        clear hN0
        have hKs20z18f2 := Lib.hid ((((((((((((((hKz18f2.out.set (p := ⟨zc1a19.heap.size, 0, none⟩) (Or.inr hoboA) (.int .i64 (R i 0).1)).set (p := ⟨zc1a19.heap.size, 1, none⟩) (Or.inr hoboA) (.int .i64 (R i 0).2)).set (p := ⟨zc1a19.heap.size, 2, none⟩) (Or.inr hoboA) (.int .i64 (R i 1).1)).set (p := ⟨zc1a19.heap.size, 3, none⟩) (Or.inr hoboA) (.int .i64 (R i 1).2)).set (p := ⟨zc1a19.heap.size, 4, none⟩) (Or.inr hoboA) (.int .i64 (R i 2).1)).set (p := ⟨zc1a19.heap.size, 5, none⟩) (Or.inr hoboA) (.int .i64 (R i 2).2)).set (p := ⟨zc1a19.heap.size, 6, none⟩) (Or.inr hoboA) (.int .i64 (R i 3).1)).set (p := ⟨zc1a19.heap.size, 7, none⟩) (Or.inr hoboA) (.int .i64 (R i 3).2)).set (p := ⟨zc1a19.heap.size, 8, none⟩) (Or.inr hoboA) (.int .i64 (R i 4).1)).set (p := ⟨zc1a19.heap.size, 9, none⟩) (Or.inr hoboA) (.int .i64 (R i 4).2)).set (p := ⟨zc1a19.heap.size, 10, none⟩) (Or.inr hoboA) (.int .i64 (R i 5).1)).set (p := ⟨zc1a19.heap.size, 11, none⟩) (Or.inr hoboA) (.int .i64 (R i 5).2)).set (p := ⟨zc1a19.heap.size, 12, none⟩) (Or.inr hoboA) (.int .i64 (R i 6).1)).set (p := ⟨zc1a19.heap.size, 13, none⟩) (Or.inr hoboA) (.int .i64 (R i 6).2))
        rw [← hz_] at hKs20z18f2
        have hSs20z18f2 := Nat.le_trans hSz18f2 (show z18f2.heap.size ≤ s20z18f2.heap.size by rw [hz_]; simp)
        clear hz_
        refine hK.out _ _ ?_ (fun hHeld => ?_)
        · exact HS.out _ hKs20z18f2
        clear hK Kq
        try simp only [N0]
        refine wpAnyH_ready (rs := [21]) (by kernel_rfl) (by simp) ?_
        refine AllReadyH.cons (o := _) rfl (fun Kq hK => ?_) AllReadyH.nil
        obtain ⟨e0, e1, g0, g1⟩ := two_facts hOoB
        go_simp
        clear e0  e1  g0  g1
        obtain ⟨s21s20z18f2, hz_⟩ : ∃ z, z = ((s20z18f2.setCell ⟨zc0.heap.size, 0, none⟩ (.int .i64 (both d (U i)).1)).setCell ⟨zc0.heap.size, 1, none⟩ (.int .i64 (both d (U i)).2)) := ⟨_, rfl⟩
        rw [← hz_]
        have hN0 := (heap_sets2 s20z18f2 zc0.heap.size _ (.int .i64 (both d (U i)).1) (.int .i64 (both d (U i)).2) (by intro e; have h1 := hOoA; rw [e, hOoB] at h1; simp at h1)).trans hOoA
        rw [← hz_] at hN0
        have hOoB := set_two s20z18f2 zc0.heap.size _ (.int .i64 (both d (U i)).1) (.int .i64 (both d (U i)).2) _ _ hOoB
        rw [← hz_] at hOoB
        have hOoA := hN0
        clear hN0
        have hKs21s20z18f2 := Lib.hid ((hKs20z18f2.out.set (p := ⟨zc0.heap.size, 0, none⟩) (Or.inr hoboB) (.int .i64 (both d (U i)).1)).set (p := ⟨zc0.heap.size, 1, none⟩) (Or.inr hoboB) (.int .i64 (both d (U i)).2))
        rw [← hz_] at hKs21s20z18f2
        have hSs21s20z18f2 := Nat.le_trans hSs20z18f2 (show s20z18f2.heap.size ≤ s21s20z18f2.heap.size by rw [hz_]; simp)
        clear hz_
        refine hK.out _ _ ?_ (fun hHeld => ?_)
        · exact HS.out _ hKs21s20z18f2
        clear hK Kq
        try simp only [N0]
        refine wpAnyH_done (by kernel_rfl) ?_ _
        go_wp2_with fail
        go_meet
        exact ⟨_, rfl, _, _, rfl, rfl, hOoA, hOoB, hKs21s20z18f2.out, hoboA, hoboB⟩
      refine AllReadyH.cons (o := _) rfl (fun Kq hK => ?_) AllReadyH.nil
      go_simp
      have hOoA := heap_alloc_new z19f1 (.cells #[.int .i64 0, .int .i64 0, .int .i64 0, .int .i64 0, .int .i64 0, .int .i64 0, .int .i64 0, .int .i64 0, .int .i64 0, .int .i64 0, .int .i64 0, .int .i64 0, .int .i64 0, .int .i64 0] 104)
      have hoboA := hSz19f1
      have hOoB := keepO ((Below.refl z19f1.heap.size z19f1).alloc (Nat.le_refl _) (.cells #[.int .i64 0, .int .i64 0, .int .i64 0, .int .i64 0, .int .i64 0, .int .i64 0, .int .i64 0, .int .i64 0, .int .i64 0, .int .i64 0, .int .i64 0, .int .i64 0, .int .i64 0, .int .i64 0] 104)) hOoB
      have hKz18f1 := Lib.hid (hKz19f1.out.alloc hSz19f1 (.cells #[.int .i64 0, .int .i64 0, .int .i64 0, .int .i64 0, .int .i64 0, .int .i64 0, .int .i64 0, .int .i64 0, .int .i64 0, .int .i64 0, .int .i64 0, .int .i64 0, .int .i64 0, .int .i64 0] 104))
      have hSz18f1 := Nat.le_trans hSz19f1 ((Below.refl z19f1.heap.size z19f1).alloc (Nat.le_refl _) (.cells #[.int .i64 0, .int .i64 0, .int .i64 0, .int .i64 0, .int .i64 0, .int .i64 0, .int .i64 0, .int .i64 0, .int .i64 0, .int .i64 0, .int .i64 0, .int .i64 0, .int .i64 0, .int .i64 0] 104)).size
      generalize (z19f1.alloc (.cells #[.int .i64 0, .int .i64 0, .int .i64 0, .int .i64 0, .int .i64 0, .int .i64 0, .int .i64 0, .int .i64 0, .int .i64 0, .int .i64 0, .int .i64 0, .int .i64 0, .int .i64 0, .int .i64 0] 104)) = z18f1 at *
      refine hK.out _ _ ?_ (fun hHeld => ?_)
      · exact HS.out _ hKz18f1
      clear hK Kq
      try simp only [N0]
      refine wpAnyH_ready (rs := [17]) (by kernel_rfl) (by simp) ?_
      refine AllReadyH.cons (o := _) rfl (fun Kq hK => ?_) AllReadyH.nil
      go_simp
      refine (both_any d (U i) _).mono ?_
      rintro e zc1a1918 ⟨rfl, hb⟩
      have hKzc1a1918 := Lib.hid (hKz18f1.out.call hSz18f1 hb)
      have hOoB := keepO hb hOoB
      have hOoA := keepO hb hOoA
      have hSzc1a1918 := Nat.le_trans hSz18f1 hb.size
      clear hb
      try go_simp
      refine hK.out _ _ ?_ (fun hHeld => ?_)
      · exact HS.out _ hKzc1a1918
      clear hK Kq
      try simp only [N0]
      refine wpAnyH_ready (rs := [20]) (by kernel_rfl) (by simp) ?_
      refine AllReadyH.cons (o := _) rfl (fun Kq hK => ?_) AllReadyH.nil
      obtain ⟨e0, e1, e2, e3, e4, e5, e6, e7, e8, e9, e10, e11, e12, e13, g0, g1, g2, g3, g4, g5, g6, g7, g8, g9, g10, g11, g12, g13⟩ := facts14 hOoA
      go_simp
      clear e0  e1  e2  e3  e4  e5  e6  e7  e8  e9  e10  e11  e12  e13  g0  g1  g2  g3  g4  g5  g6  g7  g8  g9  g10  g11  g12  g13
      obtain ⟨s20zc1a1918, hz_⟩ : ∃ z, z = ((((((((((((((zc1a1918.setCell ⟨z19f1.heap.size, 0, none⟩ (.int .i64 (R i 0).1)).setCell ⟨z19f1.heap.size, 1, none⟩ (.int .i64 (R i 0).2)).setCell ⟨z19f1.heap.size, 2, none⟩ (.int .i64 (R i 1).1)).setCell ⟨z19f1.heap.size, 3, none⟩ (.int .i64 (R i 1).2)).setCell ⟨z19f1.heap.size, 4, none⟩ (.int .i64 (R i 2).1)).setCell ⟨z19f1.heap.size, 5, none⟩ (.int .i64 (R i 2).2)).setCell ⟨z19f1.heap.size, 6, none⟩ (.int .i64 (R i 3).1)).setCell ⟨z19f1.heap.size, 7, none⟩ (.int .i64 (R i 3).2)).setCell ⟨z19f1.heap.size, 8, none⟩ (.int .i64 (R i 4).1)).setCell ⟨z19f1.heap.size, 9, none⟩ (.int .i64 (R i 4).2)).setCell ⟨z19f1.heap.size, 10, none⟩ (.int .i64 (R i 5).1)).setCell ⟨z19f1.heap.size, 11, none⟩ (.int .i64 (R i 5).2)).setCell ⟨z19f1.heap.size, 12, none⟩ (.int .i64 (R i 6).1)).setCell ⟨z19f1.heap.size, 13, none⟩ (.int .i64 (R i 6).2)) := ⟨_, rfl⟩
      rw [← hz_]
      have hN0 := (heap_sets14 zc1a1918 z19f1.heap.size _ (.int .i64 (R i 0).1) (.int .i64 (R i 0).2) (.int .i64 (R i 1).1) (.int .i64 (R i 1).2) (.int .i64 (R i 2).1) (.int .i64 (R i 2).2) (.int .i64 (R i 3).1) (.int .i64 (R i 3).2) (.int .i64 (R i 4).1) (.int .i64 (R i 4).2) (.int .i64 (R i 5).1) (.int .i64 (R i 5).2) (.int .i64 (R i 6).1) (.int .i64 (R i 6).2) (by intro e; have h1 := hOoB; rw [e, hOoA] at h1; simp at h1)).trans hOoB
      rw [← hz_] at hN0
      have hOoA := set14 zc1a1918 z19f1.heap.size _ (.int .i64 (R i 0).1) (.int .i64 (R i 0).2) (.int .i64 (R i 1).1) (.int .i64 (R i 1).2) (.int .i64 (R i 2).1) (.int .i64 (R i 2).2) (.int .i64 (R i 3).1) (.int .i64 (R i 3).2) (.int .i64 (R i 4).1) (.int .i64 (R i 4).2) (.int .i64 (R i 5).1) (.int .i64 (R i 5).2) (.int .i64 (R i 6).1) (.int .i64 (R i 6).2) _ _ _ _ _ _ _ _ _ _ _ _ _ _ hOoA
      rw [← hz_] at hOoA
      have hOoB := hN0
      clear hN0
      have hKs20zc1a1918 := Lib.hid ((((((((((((((hKzc1a1918.out.set (p := ⟨z19f1.heap.size, 0, none⟩) (Or.inr hoboA) (.int .i64 (R i 0).1)).set (p := ⟨z19f1.heap.size, 1, none⟩) (Or.inr hoboA) (.int .i64 (R i 0).2)).set (p := ⟨z19f1.heap.size, 2, none⟩) (Or.inr hoboA) (.int .i64 (R i 1).1)).set (p := ⟨z19f1.heap.size, 3, none⟩) (Or.inr hoboA) (.int .i64 (R i 1).2)).set (p := ⟨z19f1.heap.size, 4, none⟩) (Or.inr hoboA) (.int .i64 (R i 2).1)).set (p := ⟨z19f1.heap.size, 5, none⟩) (Or.inr hoboA) (.int .i64 (R i 2).2)).set (p := ⟨z19f1.heap.size, 6, none⟩) (Or.inr hoboA) (.int .i64 (R i 3).1)).set (p := ⟨z19f1.heap.size, 7, none⟩) (Or.inr hoboA) (.int .i64 (R i 3).2)).set (p := ⟨z19f1.heap.size, 8, none⟩) (Or.inr hoboA) (.int .i64 (R i 4).1)).set (p := ⟨z19f1.heap.size, 9, none⟩) (Or.inr hoboA) (.int .i64 (R i 4).2)).set (p := ⟨z19f1.heap.size, 10, none⟩) (Or.inr hoboA) (.int .i64 (R i 5).1)).set (p := ⟨z19f1.heap.size, 11, none⟩) (Or.inr hoboA) (.int .i64 (R i 5).2)).set (p := ⟨z19f1.heap.size, 12, none⟩) (Or.inr hoboA) (.int .i64 (R i 6).1)).set (p := ⟨z19f1.heap.size, 13, none⟩) (Or.inr hoboA) (.int .i64 (R i 6).2))
      rw [← hz_] at hKs20zc1a1918
      have hSs20zc1a1918 := Nat.le_trans hSzc1a1918 (show zc1a1918.heap.size ≤ s20zc1a1918.heap.size by rw [hz_]; simp)
      clear hz_
      refine hK.out _ _ ?_ (fun hHeld => ?_)
      · exact HS.out _ hKs20zc1a1918
      clear hK Kq
      try simp only [N0]
      refine wpAnyH_ready (rs := [21]) (by kernel_rfl) (by simp) ?_
      refine AllReadyH.cons (o := _) rfl (fun Kq hK => ?_) AllReadyH.nil
      obtain ⟨e0, e1, g0, g1⟩ := two_facts hOoB
      go_simp
      clear e0  e1  g0  g1
      obtain ⟨s21s20zc1a1918, hz_⟩ : ∃ z, z = ((s20zc1a1918.setCell ⟨zc0.heap.size, 0, none⟩ (.int .i64 (both d (U i)).1)).setCell ⟨zc0.heap.size, 1, none⟩ (.int .i64 (both d (U i)).2)) := ⟨_, rfl⟩
      rw [← hz_]
      have hN0 := (heap_sets2 s20zc1a1918 zc0.heap.size _ (.int .i64 (both d (U i)).1) (.int .i64 (both d (U i)).2) (by intro e; have h1 := hOoA; rw [e, hOoB] at h1; simp at h1)).trans hOoA
      rw [← hz_] at hN0
      have hOoB := set_two s20zc1a1918 zc0.heap.size _ (.int .i64 (both d (U i)).1) (.int .i64 (both d (U i)).2) _ _ hOoB
      rw [← hz_] at hOoB
      have hOoA := hN0
      clear hN0
      have hKs21s20zc1a1918 := Lib.hid ((hKs20zc1a1918.out.set (p := ⟨zc0.heap.size, 0, none⟩) (Or.inr hoboB) (.int .i64 (both d (U i)).1)).set (p := ⟨zc0.heap.size, 1, none⟩) (Or.inr hoboB) (.int .i64 (both d (U i)).2))
      rw [← hz_] at hKs21s20zc1a1918
      have hSs21s20zc1a1918 := Nat.le_trans hSs20zc1a1918 (show s20zc1a1918.heap.size ≤ s21s20zc1a1918.heap.size by rw [hz_]; simp)
      clear hz_
      refine hK.out _ _ ?_ (fun hHeld => ?_)
      · exact HS.out _ hKs21s20zc1a1918
      clear hK Kq
      try simp only [N0]
      refine wpAnyH_done (by kernel_rfl) ?_ _
      go_wp2_with fail
      go_meet
      exact ⟨_, rfl, _, _, rfl, rfl, hOoA, hOoB, hKs21s20zc1a1918.out, hoboA, hoboB⟩
    refine AllReadyH.cons (o := _) rfl (fun Kq hK => ?_) ?_
    · go_simp
      have hOoA := heap_alloc_new yd (.cells #[.int .i64 0, .int .i64 0, .int .i64 0, .int .i64 0, .int .i64 0, .int .i64 0, .int .i64 0, .int .i64 0, .int .i64 0, .int .i64 0, .int .i64 0, .int .i64 0, .int .i64 0, .int .i64 0] 104)
      have hoboA := hSyd
      have hKz18f0 := Lib.hid (hKyd.out.alloc hSyd (.cells #[.int .i64 0, .int .i64 0, .int .i64 0, .int .i64 0, .int .i64 0, .int .i64 0, .int .i64 0, .int .i64 0, .int .i64 0, .int .i64 0, .int .i64 0, .int .i64 0, .int .i64 0, .int .i64 0] 104))
      have hSz18f0 := Nat.le_trans hSyd ((Below.refl yd.heap.size yd).alloc (Nat.le_refl _) (.cells #[.int .i64 0, .int .i64 0, .int .i64 0, .int .i64 0, .int .i64 0, .int .i64 0, .int .i64 0, .int .i64 0, .int .i64 0, .int .i64 0, .int .i64 0, .int .i64 0, .int .i64 0, .int .i64 0] 104)).size
      generalize (yd.alloc (.cells #[.int .i64 0, .int .i64 0, .int .i64 0, .int .i64 0, .int .i64 0, .int .i64 0, .int .i64 0, .int .i64 0, .int .i64 0, .int .i64 0, .int .i64 0, .int .i64 0, .int .i64 0, .int .i64 0] 104)) = z18f0 at *
      refine hK.out _ _ ?_ (fun hHeld => ?_)
      · exact HS.out _ hKz18f0
      clear hK Kq
      try simp only [N0]
      refine wpAnyH_ready (rs := [9, 19]) (by kernel_rfl) (by simp) ?_
      refine AllReadyH.cons (o := _) rfl (fun Kq hK => ?_) ?_
      · go_simp
        refine (HDW.out _ hKz18f0).mono ?_
        rintro e zc0a18 ⟨rfl, hb⟩
        have hKzc0a18 := Lib.hid (hKz18f0.out.call hSz18f0 hb)
        have hOoA := keepO hb hOoA
        have hSzc0a18 := Nat.le_trans hSz18f0 hb.size
        clear hb
        try go_simp
        refine hK.out _ _ ?_ (fun hHeld => ?_)
        · exact HS.out _ hKzc0a18
        clear hK Kq
        try simp only [N0]
        refine wpAnyH_ready (rs := [17, 19]) (by kernel_rfl) (by simp) ?_
        refine AllReadyH.cons (o := _) rfl (fun Kq hK => ?_) ?_
        · go_simp
          refine (both_any d (U i) _).mono ?_
          rintro e zc1a18 ⟨rfl, hb⟩
          have hKzc1a18 := Lib.hid (hKzc0a18.out.call hSzc0a18 hb)
          have hOoA := keepO hb hOoA
          have hSzc1a18 := Nat.le_trans hSzc0a18 hb.size
          clear hb
          try go_simp
          refine hK.out _ _ ?_ (fun hHeld => ?_)
          · exact HS.out _ hKzc1a18
          clear hK Kq
          try simp only [N0]
          refine wpAnyH_ready (rs := [19]) (by kernel_rfl) (by simp) ?_
          refine AllReadyH.cons (o := _) rfl (fun Kq hK => ?_) AllReadyH.nil
          go_simp
          have hOoB := heap_alloc_new zc1a18 (.cells #[.int .i64 0, .int .i64 0] 44)
          have hoboB := hSzc1a18
          have hOoA := keepO ((Below.refl zc1a18.heap.size zc1a18).alloc (Nat.le_refl _) (.cells #[.int .i64 0, .int .i64 0] 44)) hOoA
          have hKz19f2 := Lib.hid (hKzc1a18.out.alloc hSzc1a18 (.cells #[.int .i64 0, .int .i64 0] 44))
          have hSz19f2 := Nat.le_trans hSzc1a18 ((Below.refl zc1a18.heap.size zc1a18).alloc (Nat.le_refl _) (.cells #[.int .i64 0, .int .i64 0] 44)).size
          generalize (zc1a18.alloc (.cells #[.int .i64 0, .int .i64 0] 44)) = z19f2 at *
          refine hK.out _ _ ?_ (fun hHeld => ?_)
          · exact HS.out _ hKz19f2
          clear hK Kq
          try simp only [N0]
          refine wpAnyH_ready (rs := [20]) (by kernel_rfl) (by simp) ?_
          refine AllReadyH.cons (o := _) rfl (fun Kq hK => ?_) AllReadyH.nil
          obtain ⟨e0, e1, e2, e3, e4, e5, e6, e7, e8, e9, e10, e11, e12, e13, g0, g1, g2, g3, g4, g5, g6, g7, g8, g9, g10, g11, g12, g13⟩ := facts14 hOoA
          go_simp
          clear e0  e1  e2  e3  e4  e5  e6  e7  e8  e9  e10  e11  e12  e13  g0  g1  g2  g3  g4  g5  g6  g7  g8  g9  g10  g11  g12  g13
          obtain ⟨s20z19f2, hz_⟩ : ∃ z, z = ((((((((((((((z19f2.setCell ⟨yd.heap.size, 0, none⟩ (.int .i64 (R i 0).1)).setCell ⟨yd.heap.size, 1, none⟩ (.int .i64 (R i 0).2)).setCell ⟨yd.heap.size, 2, none⟩ (.int .i64 (R i 1).1)).setCell ⟨yd.heap.size, 3, none⟩ (.int .i64 (R i 1).2)).setCell ⟨yd.heap.size, 4, none⟩ (.int .i64 (R i 2).1)).setCell ⟨yd.heap.size, 5, none⟩ (.int .i64 (R i 2).2)).setCell ⟨yd.heap.size, 6, none⟩ (.int .i64 (R i 3).1)).setCell ⟨yd.heap.size, 7, none⟩ (.int .i64 (R i 3).2)).setCell ⟨yd.heap.size, 8, none⟩ (.int .i64 (R i 4).1)).setCell ⟨yd.heap.size, 9, none⟩ (.int .i64 (R i 4).2)).setCell ⟨yd.heap.size, 10, none⟩ (.int .i64 (R i 5).1)).setCell ⟨yd.heap.size, 11, none⟩ (.int .i64 (R i 5).2)).setCell ⟨yd.heap.size, 12, none⟩ (.int .i64 (R i 6).1)).setCell ⟨yd.heap.size, 13, none⟩ (.int .i64 (R i 6).2)) := ⟨_, rfl⟩
          rw [← hz_]
          have hN0 := (heap_sets14 z19f2 yd.heap.size _ (.int .i64 (R i 0).1) (.int .i64 (R i 0).2) (.int .i64 (R i 1).1) (.int .i64 (R i 1).2) (.int .i64 (R i 2).1) (.int .i64 (R i 2).2) (.int .i64 (R i 3).1) (.int .i64 (R i 3).2) (.int .i64 (R i 4).1) (.int .i64 (R i 4).2) (.int .i64 (R i 5).1) (.int .i64 (R i 5).2) (.int .i64 (R i 6).1) (.int .i64 (R i 6).2) (by intro e; have h1 := hOoB; rw [e, hOoA] at h1; simp at h1)).trans hOoB
          rw [← hz_] at hN0
          have hOoA := set14 z19f2 yd.heap.size _ (.int .i64 (R i 0).1) (.int .i64 (R i 0).2) (.int .i64 (R i 1).1) (.int .i64 (R i 1).2) (.int .i64 (R i 2).1) (.int .i64 (R i 2).2) (.int .i64 (R i 3).1) (.int .i64 (R i 3).2) (.int .i64 (R i 4).1) (.int .i64 (R i 4).2) (.int .i64 (R i 5).1) (.int .i64 (R i 5).2) (.int .i64 (R i 6).1) (.int .i64 (R i 6).2) _ _ _ _ _ _ _ _ _ _ _ _ _ _ hOoA
          rw [← hz_] at hOoA
          have hOoB := hN0
          clear hN0
          have hKs20z19f2 := Lib.hid ((((((((((((((hKz19f2.out.set (p := ⟨yd.heap.size, 0, none⟩) (Or.inr hoboA) (.int .i64 (R i 0).1)).set (p := ⟨yd.heap.size, 1, none⟩) (Or.inr hoboA) (.int .i64 (R i 0).2)).set (p := ⟨yd.heap.size, 2, none⟩) (Or.inr hoboA) (.int .i64 (R i 1).1)).set (p := ⟨yd.heap.size, 3, none⟩) (Or.inr hoboA) (.int .i64 (R i 1).2)).set (p := ⟨yd.heap.size, 4, none⟩) (Or.inr hoboA) (.int .i64 (R i 2).1)).set (p := ⟨yd.heap.size, 5, none⟩) (Or.inr hoboA) (.int .i64 (R i 2).2)).set (p := ⟨yd.heap.size, 6, none⟩) (Or.inr hoboA) (.int .i64 (R i 3).1)).set (p := ⟨yd.heap.size, 7, none⟩) (Or.inr hoboA) (.int .i64 (R i 3).2)).set (p := ⟨yd.heap.size, 8, none⟩) (Or.inr hoboA) (.int .i64 (R i 4).1)).set (p := ⟨yd.heap.size, 9, none⟩) (Or.inr hoboA) (.int .i64 (R i 4).2)).set (p := ⟨yd.heap.size, 10, none⟩) (Or.inr hoboA) (.int .i64 (R i 5).1)).set (p := ⟨yd.heap.size, 11, none⟩) (Or.inr hoboA) (.int .i64 (R i 5).2)).set (p := ⟨yd.heap.size, 12, none⟩) (Or.inr hoboA) (.int .i64 (R i 6).1)).set (p := ⟨yd.heap.size, 13, none⟩) (Or.inr hoboA) (.int .i64 (R i 6).2))
          rw [← hz_] at hKs20z19f2
          have hSs20z19f2 := Nat.le_trans hSz19f2 (show z19f2.heap.size ≤ s20z19f2.heap.size by rw [hz_]; simp)
          clear hz_
          refine hK.out _ _ ?_ (fun hHeld => ?_)
          · exact HS.out _ hKs20z19f2
          clear hK Kq
          try simp only [N0]
          refine wpAnyH_ready (rs := [21]) (by kernel_rfl) (by simp) ?_
          refine AllReadyH.cons (o := _) rfl (fun Kq hK => ?_) AllReadyH.nil
          obtain ⟨e0, e1, g0, g1⟩ := two_facts hOoB
          go_simp
          clear e0  e1  g0  g1
          obtain ⟨s21s20z19f2, hz_⟩ : ∃ z, z = ((s20z19f2.setCell ⟨zc1a18.heap.size, 0, none⟩ (.int .i64 (both d (U i)).1)).setCell ⟨zc1a18.heap.size, 1, none⟩ (.int .i64 (both d (U i)).2)) := ⟨_, rfl⟩
          rw [← hz_]
          have hN0 := (heap_sets2 s20z19f2 zc1a18.heap.size _ (.int .i64 (both d (U i)).1) (.int .i64 (both d (U i)).2) (by intro e; have h1 := hOoA; rw [e, hOoB] at h1; simp at h1)).trans hOoA
          rw [← hz_] at hN0
          have hOoB := set_two s20z19f2 zc1a18.heap.size _ (.int .i64 (both d (U i)).1) (.int .i64 (both d (U i)).2) _ _ hOoB
          rw [← hz_] at hOoB
          have hOoA := hN0
          clear hN0
          have hKs21s20z19f2 := Lib.hid ((hKs20z19f2.out.set (p := ⟨zc1a18.heap.size, 0, none⟩) (Or.inr hoboB) (.int .i64 (both d (U i)).1)).set (p := ⟨zc1a18.heap.size, 1, none⟩) (Or.inr hoboB) (.int .i64 (both d (U i)).2))
          rw [← hz_] at hKs21s20z19f2
          have hSs21s20z19f2 := Nat.le_trans hSs20z19f2 (show s20z19f2.heap.size ≤ s21s20z19f2.heap.size by rw [hz_]; simp)
          clear hz_
          refine hK.out _ _ ?_ (fun hHeld => ?_)
          · exact HS.out _ hKs21s20z19f2
          clear hK Kq
          try simp only [N0]
          refine wpAnyH_done (by kernel_rfl) ?_ _
          go_wp2_with fail
          go_meet
          exact ⟨_, rfl, _, _, rfl, rfl, hOoA, hOoB, hKs21s20z19f2.out, hoboA, hoboB⟩
        refine AllReadyH.cons (o := _) rfl (fun Kq hK => ?_) AllReadyH.nil
        go_simp
        have hOoB := heap_alloc_new zc0a18 (.cells #[.int .i64 0, .int .i64 0] 44)
        have hoboB := hSzc0a18
        have hOoA := keepO ((Below.refl zc0a18.heap.size zc0a18).alloc (Nat.le_refl _) (.cells #[.int .i64 0, .int .i64 0] 44)) hOoA
        have hKz19f1 := Lib.hid (hKzc0a18.out.alloc hSzc0a18 (.cells #[.int .i64 0, .int .i64 0] 44))
        have hSz19f1 := Nat.le_trans hSzc0a18 ((Below.refl zc0a18.heap.size zc0a18).alloc (Nat.le_refl _) (.cells #[.int .i64 0, .int .i64 0] 44)).size
        generalize (zc0a18.alloc (.cells #[.int .i64 0, .int .i64 0] 44)) = z19f1 at *
        refine hK.out _ _ ?_ (fun hHeld => ?_)
        · exact HS.out _ hKz19f1
        clear hK Kq
        try simp only [N0]
        refine wpAnyH_ready (rs := [17]) (by kernel_rfl) (by simp) ?_
        refine AllReadyH.cons (o := _) rfl (fun Kq hK => ?_) AllReadyH.nil
        go_simp
        refine (both_any d (U i) _).mono ?_
        rintro e zc1a1819 ⟨rfl, hb⟩
        have hKzc1a1819 := Lib.hid (hKz19f1.out.call hSz19f1 hb)
        have hOoA := keepO hb hOoA
        have hOoB := keepO hb hOoB
        have hSzc1a1819 := Nat.le_trans hSz19f1 hb.size
        clear hb
        try go_simp
        refine hK.out _ _ ?_ (fun hHeld => ?_)
        · exact HS.out _ hKzc1a1819
        clear hK Kq
        try simp only [N0]
        refine wpAnyH_ready (rs := [20]) (by kernel_rfl) (by simp) ?_
        refine AllReadyH.cons (o := _) rfl (fun Kq hK => ?_) AllReadyH.nil
        obtain ⟨e0, e1, e2, e3, e4, e5, e6, e7, e8, e9, e10, e11, e12, e13, g0, g1, g2, g3, g4, g5, g6, g7, g8, g9, g10, g11, g12, g13⟩ := facts14 hOoA
        go_simp
        clear e0  e1  e2  e3  e4  e5  e6  e7  e8  e9  e10  e11  e12  e13  g0  g1  g2  g3  g4  g5  g6  g7  g8  g9  g10  g11  g12  g13
        obtain ⟨s20zc1a1819, hz_⟩ : ∃ z, z = ((((((((((((((zc1a1819.setCell ⟨yd.heap.size, 0, none⟩ (.int .i64 (R i 0).1)).setCell ⟨yd.heap.size, 1, none⟩ (.int .i64 (R i 0).2)).setCell ⟨yd.heap.size, 2, none⟩ (.int .i64 (R i 1).1)).setCell ⟨yd.heap.size, 3, none⟩ (.int .i64 (R i 1).2)).setCell ⟨yd.heap.size, 4, none⟩ (.int .i64 (R i 2).1)).setCell ⟨yd.heap.size, 5, none⟩ (.int .i64 (R i 2).2)).setCell ⟨yd.heap.size, 6, none⟩ (.int .i64 (R i 3).1)).setCell ⟨yd.heap.size, 7, none⟩ (.int .i64 (R i 3).2)).setCell ⟨yd.heap.size, 8, none⟩ (.int .i64 (R i 4).1)).setCell ⟨yd.heap.size, 9, none⟩ (.int .i64 (R i 4).2)).setCell ⟨yd.heap.size, 10, none⟩ (.int .i64 (R i 5).1)).setCell ⟨yd.heap.size, 11, none⟩ (.int .i64 (R i 5).2)).setCell ⟨yd.heap.size, 12, none⟩ (.int .i64 (R i 6).1)).setCell ⟨yd.heap.size, 13, none⟩ (.int .i64 (R i 6).2)) := ⟨_, rfl⟩
        rw [← hz_]
        have hN0 := (heap_sets14 zc1a1819 yd.heap.size _ (.int .i64 (R i 0).1) (.int .i64 (R i 0).2) (.int .i64 (R i 1).1) (.int .i64 (R i 1).2) (.int .i64 (R i 2).1) (.int .i64 (R i 2).2) (.int .i64 (R i 3).1) (.int .i64 (R i 3).2) (.int .i64 (R i 4).1) (.int .i64 (R i 4).2) (.int .i64 (R i 5).1) (.int .i64 (R i 5).2) (.int .i64 (R i 6).1) (.int .i64 (R i 6).2) (by intro e; have h1 := hOoB; rw [e, hOoA] at h1; simp at h1)).trans hOoB
        rw [← hz_] at hN0
        have hOoA := set14 zc1a1819 yd.heap.size _ (.int .i64 (R i 0).1) (.int .i64 (R i 0).2) (.int .i64 (R i 1).1) (.int .i64 (R i 1).2) (.int .i64 (R i 2).1) (.int .i64 (R i 2).2) (.int .i64 (R i 3).1) (.int .i64 (R i 3).2) (.int .i64 (R i 4).1) (.int .i64 (R i 4).2) (.int .i64 (R i 5).1) (.int .i64 (R i 5).2) (.int .i64 (R i 6).1) (.int .i64 (R i 6).2) _ _ _ _ _ _ _ _ _ _ _ _ _ _ hOoA
        rw [← hz_] at hOoA
        have hOoB := hN0
        clear hN0
        have hKs20zc1a1819 := Lib.hid ((((((((((((((hKzc1a1819.out.set (p := ⟨yd.heap.size, 0, none⟩) (Or.inr hoboA) (.int .i64 (R i 0).1)).set (p := ⟨yd.heap.size, 1, none⟩) (Or.inr hoboA) (.int .i64 (R i 0).2)).set (p := ⟨yd.heap.size, 2, none⟩) (Or.inr hoboA) (.int .i64 (R i 1).1)).set (p := ⟨yd.heap.size, 3, none⟩) (Or.inr hoboA) (.int .i64 (R i 1).2)).set (p := ⟨yd.heap.size, 4, none⟩) (Or.inr hoboA) (.int .i64 (R i 2).1)).set (p := ⟨yd.heap.size, 5, none⟩) (Or.inr hoboA) (.int .i64 (R i 2).2)).set (p := ⟨yd.heap.size, 6, none⟩) (Or.inr hoboA) (.int .i64 (R i 3).1)).set (p := ⟨yd.heap.size, 7, none⟩) (Or.inr hoboA) (.int .i64 (R i 3).2)).set (p := ⟨yd.heap.size, 8, none⟩) (Or.inr hoboA) (.int .i64 (R i 4).1)).set (p := ⟨yd.heap.size, 9, none⟩) (Or.inr hoboA) (.int .i64 (R i 4).2)).set (p := ⟨yd.heap.size, 10, none⟩) (Or.inr hoboA) (.int .i64 (R i 5).1)).set (p := ⟨yd.heap.size, 11, none⟩) (Or.inr hoboA) (.int .i64 (R i 5).2)).set (p := ⟨yd.heap.size, 12, none⟩) (Or.inr hoboA) (.int .i64 (R i 6).1)).set (p := ⟨yd.heap.size, 13, none⟩) (Or.inr hoboA) (.int .i64 (R i 6).2))
        rw [← hz_] at hKs20zc1a1819
        have hSs20zc1a1819 := Nat.le_trans hSzc1a1819 (show zc1a1819.heap.size ≤ s20zc1a1819.heap.size by rw [hz_]; simp)
        clear hz_
        refine hK.out _ _ ?_ (fun hHeld => ?_)
        · exact HS.out _ hKs20zc1a1819
        clear hK Kq
        try simp only [N0]
        refine wpAnyH_ready (rs := [21]) (by kernel_rfl) (by simp) ?_
        refine AllReadyH.cons (o := _) rfl (fun Kq hK => ?_) AllReadyH.nil
        obtain ⟨e0, e1, g0, g1⟩ := two_facts hOoB
        go_simp
        clear e0  e1  g0  g1
        obtain ⟨s21s20zc1a1819, hz_⟩ : ∃ z, z = ((s20zc1a1819.setCell ⟨zc0a18.heap.size, 0, none⟩ (.int .i64 (both d (U i)).1)).setCell ⟨zc0a18.heap.size, 1, none⟩ (.int .i64 (both d (U i)).2)) := ⟨_, rfl⟩
        rw [← hz_]
        have hN0 := (heap_sets2 s20zc1a1819 zc0a18.heap.size _ (.int .i64 (both d (U i)).1) (.int .i64 (both d (U i)).2) (by intro e; have h1 := hOoA; rw [e, hOoB] at h1; simp at h1)).trans hOoA
        rw [← hz_] at hN0
        have hOoB := set_two s20zc1a1819 zc0a18.heap.size _ (.int .i64 (both d (U i)).1) (.int .i64 (both d (U i)).2) _ _ hOoB
        rw [← hz_] at hOoB
        have hOoA := hN0
        clear hN0
        have hKs21s20zc1a1819 := Lib.hid ((hKs20zc1a1819.out.set (p := ⟨zc0a18.heap.size, 0, none⟩) (Or.inr hoboB) (.int .i64 (both d (U i)).1)).set (p := ⟨zc0a18.heap.size, 1, none⟩) (Or.inr hoboB) (.int .i64 (both d (U i)).2))
        rw [← hz_] at hKs21s20zc1a1819
        have hSs21s20zc1a1819 := Nat.le_trans hSs20zc1a1819 (show s20zc1a1819.heap.size ≤ s21s20zc1a1819.heap.size by rw [hz_]; simp)
        clear hz_
        refine hK.out _ _ ?_ (fun hHeld => ?_)
        · exact HS.out _ hKs21s20zc1a1819
        clear hK Kq
        try simp only [N0]
        refine wpAnyH_done (by kernel_rfl) ?_ _
        go_wp2_with fail
        go_meet
        exact ⟨_, rfl, _, _, rfl, rfl, hOoA, hOoB, hKs21s20zc1a1819.out, hoboA, hoboB⟩
      refine AllReadyH.cons (o := _) rfl (fun Kq hK => ?_) AllReadyH.nil
      go_simp
      have hOoB := heap_alloc_new z18f0 (.cells #[.int .i64 0, .int .i64 0] 44)
      have hoboB := hSz18f0
      have hOoA := keepO ((Below.refl z18f0.heap.size z18f0).alloc (Nat.le_refl _) (.cells #[.int .i64 0, .int .i64 0] 44)) hOoA
      have hKz19f0 := Lib.hid (hKz18f0.out.alloc hSz18f0 (.cells #[.int .i64 0, .int .i64 0] 44))
      have hSz19f0 := Nat.le_trans hSz18f0 ((Below.refl z18f0.heap.size z18f0).alloc (Nat.le_refl _) (.cells #[.int .i64 0, .int .i64 0] 44)).size
      generalize (z18f0.alloc (.cells #[.int .i64 0, .int .i64 0] 44)) = z19f0 at *
      refine hK.out _ _ ?_ (fun hHeld => ?_)
      · exact HS.out _ hKz19f0
      clear hK Kq
      try simp only [N0]
      refine wpAnyH_ready (rs := [9]) (by kernel_rfl) (by simp) ?_
      refine AllReadyH.cons (o := _) rfl (fun Kq hK => ?_) AllReadyH.nil
      go_simp
      refine (HDW.out _ hKz19f0).mono ?_
      rintro e zc0a1819 ⟨rfl, hb⟩
      have hKzc0a1819 := Lib.hid (hKz19f0.out.call hSz19f0 hb)
      have hOoA := keepO hb hOoA
      have hOoB := keepO hb hOoB
      have hSzc0a1819 := Nat.le_trans hSz19f0 hb.size
      clear hb
      try go_simp
      refine hK.out _ _ ?_ (fun hHeld => ?_)
      · exact HS.out _ hKzc0a1819
      clear hK Kq
      try simp only [N0]
      refine wpAnyH_ready (rs := [17]) (by kernel_rfl) (by simp) ?_
      refine AllReadyH.cons (o := _) rfl (fun Kq hK => ?_) AllReadyH.nil
      go_simp
      refine (both_any d (U i) _).mono ?_
      rintro e zc1a1819 ⟨rfl, hb⟩
      have hKzc1a1819 := Lib.hid (hKzc0a1819.out.call hSzc0a1819 hb)
      have hOoA := keepO hb hOoA
      have hOoB := keepO hb hOoB
      have hSzc1a1819 := Nat.le_trans hSzc0a1819 hb.size
      clear hb
      try go_simp
      refine hK.out _ _ ?_ (fun hHeld => ?_)
      · exact HS.out _ hKzc1a1819
      clear hK Kq
      try simp only [N0]
      refine wpAnyH_ready (rs := [20]) (by kernel_rfl) (by simp) ?_
      refine AllReadyH.cons (o := _) rfl (fun Kq hK => ?_) AllReadyH.nil
      obtain ⟨e0, e1, e2, e3, e4, e5, e6, e7, e8, e9, e10, e11, e12, e13, g0, g1, g2, g3, g4, g5, g6, g7, g8, g9, g10, g11, g12, g13⟩ := facts14 hOoA
      go_simp
      clear e0  e1  e2  e3  e4  e5  e6  e7  e8  e9  e10  e11  e12  e13  g0  g1  g2  g3  g4  g5  g6  g7  g8  g9  g10  g11  g12  g13
      obtain ⟨s20zc1a1819, hz_⟩ : ∃ z, z = ((((((((((((((zc1a1819.setCell ⟨yd.heap.size, 0, none⟩ (.int .i64 (R i 0).1)).setCell ⟨yd.heap.size, 1, none⟩ (.int .i64 (R i 0).2)).setCell ⟨yd.heap.size, 2, none⟩ (.int .i64 (R i 1).1)).setCell ⟨yd.heap.size, 3, none⟩ (.int .i64 (R i 1).2)).setCell ⟨yd.heap.size, 4, none⟩ (.int .i64 (R i 2).1)).setCell ⟨yd.heap.size, 5, none⟩ (.int .i64 (R i 2).2)).setCell ⟨yd.heap.size, 6, none⟩ (.int .i64 (R i 3).1)).setCell ⟨yd.heap.size, 7, none⟩ (.int .i64 (R i 3).2)).setCell ⟨yd.heap.size, 8, none⟩ (.int .i64 (R i 4).1)).setCell ⟨yd.heap.size, 9, none⟩ (.int .i64 (R i 4).2)).setCell ⟨yd.heap.size, 10, none⟩ (.int .i64 (R i 5).1)).setCell ⟨yd.heap.size, 11, none⟩ (.int .i64 (R i 5).2)).setCell ⟨yd.heap.size, 12, none⟩ (.int .i64 (R i 6).1)).setCell ⟨yd.heap.size, 13, none⟩ (.int .i64 (R i 6).2)) := ⟨_, rfl⟩
      rw [← hz_]
      have hN0 := (heap_sets14 zc1a1819 yd.heap.size _ (.int .i64 (R i 0).1) (.int .i64 (R i 0).2) (.int .i64 (R i 1).1) (.int .i64 (R i 1).2) (.int .i64 (R i 2).1) (.int .i64 (R i 2).2) (.int .i64 (R i 3).1) (.int .i64 (R i 3).2) (.int .i64 (R i 4).1) (.int .i64 (R i 4).2) (.int .i64 (R i 5).1) (.int .i64 (R i 5).2) (.int .i64 (R i 6).1) (.int .i64 (R i 6).2) (by intro e; have h1 := hOoB; rw [e, hOoA] at h1; simp at h1)).trans hOoB
      rw [← hz_] at hN0
      have hOoA := set14 zc1a1819 yd.heap.size _ (.int .i64 (R i 0).1) (.int .i64 (R i 0).2) (.int .i64 (R i 1).1) (.int .i64 (R i 1).2) (.int .i64 (R i 2).1) (.int .i64 (R i 2).2) (.int .i64 (R i 3).1) (.int .i64 (R i 3).2) (.int .i64 (R i 4).1) (.int .i64 (R i 4).2) (.int .i64 (R i 5).1) (.int .i64 (R i 5).2) (.int .i64 (R i 6).1) (.int .i64 (R i 6).2) _ _ _ _ _ _ _ _ _ _ _ _ _ _ hOoA
      rw [← hz_] at hOoA
      have hOoB := hN0
      clear hN0
      have hKs20zc1a1819 := Lib.hid ((((((((((((((hKzc1a1819.out.set (p := ⟨yd.heap.size, 0, none⟩) (Or.inr hoboA) (.int .i64 (R i 0).1)).set (p := ⟨yd.heap.size, 1, none⟩) (Or.inr hoboA) (.int .i64 (R i 0).2)).set (p := ⟨yd.heap.size, 2, none⟩) (Or.inr hoboA) (.int .i64 (R i 1).1)).set (p := ⟨yd.heap.size, 3, none⟩) (Or.inr hoboA) (.int .i64 (R i 1).2)).set (p := ⟨yd.heap.size, 4, none⟩) (Or.inr hoboA) (.int .i64 (R i 2).1)).set (p := ⟨yd.heap.size, 5, none⟩) (Or.inr hoboA) (.int .i64 (R i 2).2)).set (p := ⟨yd.heap.size, 6, none⟩) (Or.inr hoboA) (.int .i64 (R i 3).1)).set (p := ⟨yd.heap.size, 7, none⟩) (Or.inr hoboA) (.int .i64 (R i 3).2)).set (p := ⟨yd.heap.size, 8, none⟩) (Or.inr hoboA) (.int .i64 (R i 4).1)).set (p := ⟨yd.heap.size, 9, none⟩) (Or.inr hoboA) (.int .i64 (R i 4).2)).set (p := ⟨yd.heap.size, 10, none⟩) (Or.inr hoboA) (.int .i64 (R i 5).1)).set (p := ⟨yd.heap.size, 11, none⟩) (Or.inr hoboA) (.int .i64 (R i 5).2)).set (p := ⟨yd.heap.size, 12, none⟩) (Or.inr hoboA) (.int .i64 (R i 6).1)).set (p := ⟨yd.heap.size, 13, none⟩) (Or.inr hoboA) (.int .i64 (R i 6).2))
      rw [← hz_] at hKs20zc1a1819
      have hSs20zc1a1819 := Nat.le_trans hSzc1a1819 (show zc1a1819.heap.size ≤ s20zc1a1819.heap.size by rw [hz_]; simp)
      clear hz_
      refine hK.out _ _ ?_ (fun hHeld => ?_)
      · exact HS.out _ hKs20zc1a1819
      clear hK Kq
      try simp only [N0]
      refine wpAnyH_ready (rs := [21]) (by kernel_rfl) (by simp) ?_
      refine AllReadyH.cons (o := _) rfl (fun Kq hK => ?_) AllReadyH.nil
      obtain ⟨e0, e1, g0, g1⟩ := two_facts hOoB
      go_simp
      clear e0  e1  g0  g1
      obtain ⟨s21s20zc1a1819, hz_⟩ : ∃ z, z = ((s20zc1a1819.setCell ⟨z18f0.heap.size, 0, none⟩ (.int .i64 (both d (U i)).1)).setCell ⟨z18f0.heap.size, 1, none⟩ (.int .i64 (both d (U i)).2)) := ⟨_, rfl⟩
      rw [← hz_]
      have hN0 := (heap_sets2 s20zc1a1819 z18f0.heap.size _ (.int .i64 (both d (U i)).1) (.int .i64 (both d (U i)).2) (by intro e; have h1 := hOoA; rw [e, hOoB] at h1; simp at h1)).trans hOoA
      rw [← hz_] at hN0
      have hOoB := set_two s20zc1a1819 z18f0.heap.size _ (.int .i64 (both d (U i)).1) (.int .i64 (both d (U i)).2) _ _ hOoB
      rw [← hz_] at hOoB
      have hOoA := hN0
      clear hN0
      have hKs21s20zc1a1819 := Lib.hid ((hKs20zc1a1819.out.set (p := ⟨z18f0.heap.size, 0, none⟩) (Or.inr hoboB) (.int .i64 (both d (U i)).1)).set (p := ⟨z18f0.heap.size, 1, none⟩) (Or.inr hoboB) (.int .i64 (both d (U i)).2))
      rw [← hz_] at hKs21s20zc1a1819
      have hSs21s20zc1a1819 := Nat.le_trans hSs20zc1a1819 (show s20zc1a1819.heap.size ≤ s21s20zc1a1819.heap.size by rw [hz_]; simp)
      clear hz_
      refine hK.out _ _ ?_ (fun hHeld => ?_)
      · exact HS.out _ hKs21s20zc1a1819
      clear hK Kq
      try simp only [N0]
      refine wpAnyH_done (by kernel_rfl) ?_ _
      go_wp2_with fail
      go_meet
      exact ⟨_, rfl, _, _, rfl, rfl, hOoA, hOoB, hKs21s20zc1a1819.out, hoboA, hoboB⟩
    refine AllReadyH.cons (o := _) rfl (fun Kq hK => ?_) AllReadyH.nil
    go_simp
    have hOoB := heap_alloc_new yd (.cells #[.int .i64 0, .int .i64 0] 44)
    have hoboB := hSyd
    have hKz19f0 := Lib.hid (hKyd.out.alloc hSyd (.cells #[.int .i64 0, .int .i64 0] 44))
    have hSz19f0 := Nat.le_trans hSyd ((Below.refl yd.heap.size yd).alloc (Nat.le_refl _) (.cells #[.int .i64 0, .int .i64 0] 44)).size
    generalize (yd.alloc (.cells #[.int .i64 0, .int .i64 0] 44)) = z19f0 at *
    refine hK.out _ _ ?_ (fun hHeld => ?_)
    · exact HS.out _ hKz19f0
    clear hK Kq
    try simp only [N0]
    refine wpAnyH_ready (rs := [9, 18]) (by kernel_rfl) (by simp) ?_
    refine AllReadyH.cons (o := _) rfl (fun Kq hK => ?_) ?_
    · go_simp
      refine (HDW.out _ hKz19f0).mono ?_
      rintro e zc0a19 ⟨rfl, hb⟩
      have hKzc0a19 := Lib.hid (hKz19f0.out.call hSz19f0 hb)
      have hOoB := keepO hb hOoB
      have hSzc0a19 := Nat.le_trans hSz19f0 hb.size
      clear hb
      try go_simp
      refine hK.out _ _ ?_ (fun hHeld => ?_)
      · exact HS.out _ hKzc0a19
      clear hK Kq
      try simp only [N0]
      refine wpAnyH_ready (rs := [17, 18]) (by kernel_rfl) (by simp) ?_
      refine AllReadyH.cons (o := _) rfl (fun Kq hK => ?_) ?_
      · go_simp
        refine (both_any d (U i) _).mono ?_
        rintro e zc1a19 ⟨rfl, hb⟩
        have hKzc1a19 := Lib.hid (hKzc0a19.out.call hSzc0a19 hb)
        have hOoB := keepO hb hOoB
        have hSzc1a19 := Nat.le_trans hSzc0a19 hb.size
        clear hb
        try go_simp
        refine hK.out _ _ ?_ (fun hHeld => ?_)
        · exact HS.out _ hKzc1a19
        clear hK Kq
        try simp only [N0]
        refine wpAnyH_ready (rs := [18]) (by kernel_rfl) (by simp) ?_
        refine AllReadyH.cons (o := _) rfl (fun Kq hK => ?_) AllReadyH.nil
        go_simp
        have hOoA := heap_alloc_new zc1a19 (.cells #[.int .i64 0, .int .i64 0, .int .i64 0, .int .i64 0, .int .i64 0, .int .i64 0, .int .i64 0, .int .i64 0, .int .i64 0, .int .i64 0, .int .i64 0, .int .i64 0, .int .i64 0, .int .i64 0] 104)
        have hoboA := hSzc1a19
        have hOoB := keepO ((Below.refl zc1a19.heap.size zc1a19).alloc (Nat.le_refl _) (.cells #[.int .i64 0, .int .i64 0, .int .i64 0, .int .i64 0, .int .i64 0, .int .i64 0, .int .i64 0, .int .i64 0, .int .i64 0, .int .i64 0, .int .i64 0, .int .i64 0, .int .i64 0, .int .i64 0] 104)) hOoB
        have hKz18f2 := Lib.hid (hKzc1a19.out.alloc hSzc1a19 (.cells #[.int .i64 0, .int .i64 0, .int .i64 0, .int .i64 0, .int .i64 0, .int .i64 0, .int .i64 0, .int .i64 0, .int .i64 0, .int .i64 0, .int .i64 0, .int .i64 0, .int .i64 0, .int .i64 0] 104))
        have hSz18f2 := Nat.le_trans hSzc1a19 ((Below.refl zc1a19.heap.size zc1a19).alloc (Nat.le_refl _) (.cells #[.int .i64 0, .int .i64 0, .int .i64 0, .int .i64 0, .int .i64 0, .int .i64 0, .int .i64 0, .int .i64 0, .int .i64 0, .int .i64 0, .int .i64 0, .int .i64 0, .int .i64 0, .int .i64 0] 104)).size
        generalize (zc1a19.alloc (.cells #[.int .i64 0, .int .i64 0, .int .i64 0, .int .i64 0, .int .i64 0, .int .i64 0, .int .i64 0, .int .i64 0, .int .i64 0, .int .i64 0, .int .i64 0, .int .i64 0, .int .i64 0, .int .i64 0] 104)) = z18f2 at *
        refine hK.out _ _ ?_ (fun hHeld => ?_)
        · exact HS.out _ hKz18f2
        clear hK Kq
        try simp only [N0]
        refine wpAnyH_ready (rs := [20]) (by kernel_rfl) (by simp) ?_
        refine AllReadyH.cons (o := _) rfl (fun Kq hK => ?_) AllReadyH.nil
        obtain ⟨e0, e1, e2, e3, e4, e5, e6, e7, e8, e9, e10, e11, e12, e13, g0, g1, g2, g3, g4, g5, g6, g7, g8, g9, g10, g11, g12, g13⟩ := facts14 hOoA
        go_simp
        clear e0  e1  e2  e3  e4  e5  e6  e7  e8  e9  e10  e11  e12  e13  g0  g1  g2  g3  g4  g5  g6  g7  g8  g9  g10  g11  g12  g13
        obtain ⟨s20z18f2, hz_⟩ : ∃ z, z = ((((((((((((((z18f2.setCell ⟨zc1a19.heap.size, 0, none⟩ (.int .i64 (R i 0).1)).setCell ⟨zc1a19.heap.size, 1, none⟩ (.int .i64 (R i 0).2)).setCell ⟨zc1a19.heap.size, 2, none⟩ (.int .i64 (R i 1).1)).setCell ⟨zc1a19.heap.size, 3, none⟩ (.int .i64 (R i 1).2)).setCell ⟨zc1a19.heap.size, 4, none⟩ (.int .i64 (R i 2).1)).setCell ⟨zc1a19.heap.size, 5, none⟩ (.int .i64 (R i 2).2)).setCell ⟨zc1a19.heap.size, 6, none⟩ (.int .i64 (R i 3).1)).setCell ⟨zc1a19.heap.size, 7, none⟩ (.int .i64 (R i 3).2)).setCell ⟨zc1a19.heap.size, 8, none⟩ (.int .i64 (R i 4).1)).setCell ⟨zc1a19.heap.size, 9, none⟩ (.int .i64 (R i 4).2)).setCell ⟨zc1a19.heap.size, 10, none⟩ (.int .i64 (R i 5).1)).setCell ⟨zc1a19.heap.size, 11, none⟩ (.int .i64 (R i 5).2)).setCell ⟨zc1a19.heap.size, 12, none⟩ (.int .i64 (R i 6).1)).setCell ⟨zc1a19.heap.size, 13, none⟩ (.int .i64 (R i 6).2)) := ⟨_, rfl⟩
        rw [← hz_]
        have hN0 := (heap_sets14 z18f2 zc1a19.heap.size _ (.int .i64 (R i 0).1) (.int .i64 (R i 0).2) (.int .i64 (R i 1).1) (.int .i64 (R i 1).2) (.int .i64 (R i 2).1) (.int .i64 (R i 2).2) (.int .i64 (R i 3).1) (.int .i64 (R i 3).2) (.int .i64 (R i 4).1) (.int .i64 (R i 4).2) (.int .i64 (R i 5).1) (.int .i64 (R i 5).2) (.int .i64 (R i 6).1) (.int .i64 (R i 6).2) (by intro e; have h1 := hOoB; rw [e, hOoA] at h1; simp at h1)).trans hOoB
        rw [← hz_] at hN0
        have hOoA := set14 z18f2 zc1a19.heap.size _ (.int .i64 (R i 0).1) (.int .i64 (R i 0).2) (.int .i64 (R i 1).1) (.int .i64 (R i 1).2) (.int .i64 (R i 2).1) (.int .i64 (R i 2).2) (.int .i64 (R i 3).1) (.int .i64 (R i 3).2) (.int .i64 (R i 4).1) (.int .i64 (R i 4).2) (.int .i64 (R i 5).1) (.int .i64 (R i 5).2) (.int .i64 (R i 6).1) (.int .i64 (R i 6).2) _ _ _ _ _ _ _ _ _ _ _ _ _ _ hOoA
        rw [← hz_] at hOoA
        have hOoB := hN0
        clear hN0
        have hKs20z18f2 := Lib.hid ((((((((((((((hKz18f2.out.set (p := ⟨zc1a19.heap.size, 0, none⟩) (Or.inr hoboA) (.int .i64 (R i 0).1)).set (p := ⟨zc1a19.heap.size, 1, none⟩) (Or.inr hoboA) (.int .i64 (R i 0).2)).set (p := ⟨zc1a19.heap.size, 2, none⟩) (Or.inr hoboA) (.int .i64 (R i 1).1)).set (p := ⟨zc1a19.heap.size, 3, none⟩) (Or.inr hoboA) (.int .i64 (R i 1).2)).set (p := ⟨zc1a19.heap.size, 4, none⟩) (Or.inr hoboA) (.int .i64 (R i 2).1)).set (p := ⟨zc1a19.heap.size, 5, none⟩) (Or.inr hoboA) (.int .i64 (R i 2).2)).set (p := ⟨zc1a19.heap.size, 6, none⟩) (Or.inr hoboA) (.int .i64 (R i 3).1)).set (p := ⟨zc1a19.heap.size, 7, none⟩) (Or.inr hoboA) (.int .i64 (R i 3).2)).set (p := ⟨zc1a19.heap.size, 8, none⟩) (Or.inr hoboA) (.int .i64 (R i 4).1)).set (p := ⟨zc1a19.heap.size, 9, none⟩) (Or.inr hoboA) (.int .i64 (R i 4).2)).set (p := ⟨zc1a19.heap.size, 10, none⟩) (Or.inr hoboA) (.int .i64 (R i 5).1)).set (p := ⟨zc1a19.heap.size, 11, none⟩) (Or.inr hoboA) (.int .i64 (R i 5).2)).set (p := ⟨zc1a19.heap.size, 12, none⟩) (Or.inr hoboA) (.int .i64 (R i 6).1)).set (p := ⟨zc1a19.heap.size, 13, none⟩) (Or.inr hoboA) (.int .i64 (R i 6).2))
        rw [← hz_] at hKs20z18f2
        have hSs20z18f2 := Nat.le_trans hSz18f2 (show z18f2.heap.size ≤ s20z18f2.heap.size by rw [hz_]; simp)
        clear hz_
        refine hK.out _ _ ?_ (fun hHeld => ?_)
        · exact HS.out _ hKs20z18f2
        clear hK Kq
        try simp only [N0]
        refine wpAnyH_ready (rs := [21]) (by kernel_rfl) (by simp) ?_
        refine AllReadyH.cons (o := _) rfl (fun Kq hK => ?_) AllReadyH.nil
        obtain ⟨e0, e1, g0, g1⟩ := two_facts hOoB
        go_simp
        clear e0  e1  g0  g1
        obtain ⟨s21s20z18f2, hz_⟩ : ∃ z, z = ((s20z18f2.setCell ⟨yd.heap.size, 0, none⟩ (.int .i64 (both d (U i)).1)).setCell ⟨yd.heap.size, 1, none⟩ (.int .i64 (both d (U i)).2)) := ⟨_, rfl⟩
        rw [← hz_]
        have hN0 := (heap_sets2 s20z18f2 yd.heap.size _ (.int .i64 (both d (U i)).1) (.int .i64 (both d (U i)).2) (by intro e; have h1 := hOoA; rw [e, hOoB] at h1; simp at h1)).trans hOoA
        rw [← hz_] at hN0
        have hOoB := set_two s20z18f2 yd.heap.size _ (.int .i64 (both d (U i)).1) (.int .i64 (both d (U i)).2) _ _ hOoB
        rw [← hz_] at hOoB
        have hOoA := hN0
        clear hN0
        have hKs21s20z18f2 := Lib.hid ((hKs20z18f2.out.set (p := ⟨yd.heap.size, 0, none⟩) (Or.inr hoboB) (.int .i64 (both d (U i)).1)).set (p := ⟨yd.heap.size, 1, none⟩) (Or.inr hoboB) (.int .i64 (both d (U i)).2))
        rw [← hz_] at hKs21s20z18f2
        have hSs21s20z18f2 := Nat.le_trans hSs20z18f2 (show s20z18f2.heap.size ≤ s21s20z18f2.heap.size by rw [hz_]; simp)
        clear hz_
        refine hK.out _ _ ?_ (fun hHeld => ?_)
        · exact HS.out _ hKs21s20z18f2
        clear hK Kq
        try simp only [N0]
        refine wpAnyH_done (by kernel_rfl) ?_ _
        go_wp2_with fail
        go_meet
        exact ⟨_, rfl, _, _, rfl, rfl, hOoA, hOoB, hKs21s20z18f2.out, hoboA, hoboB⟩
      refine AllReadyH.cons (o := _) rfl (fun Kq hK => ?_) AllReadyH.nil
      go_simp
      have hOoA := heap_alloc_new zc0a19 (.cells #[.int .i64 0, .int .i64 0, .int .i64 0, .int .i64 0, .int .i64 0, .int .i64 0, .int .i64 0, .int .i64 0, .int .i64 0, .int .i64 0, .int .i64 0, .int .i64 0, .int .i64 0, .int .i64 0] 104)
      have hoboA := hSzc0a19
      have hOoB := keepO ((Below.refl zc0a19.heap.size zc0a19).alloc (Nat.le_refl _) (.cells #[.int .i64 0, .int .i64 0, .int .i64 0, .int .i64 0, .int .i64 0, .int .i64 0, .int .i64 0, .int .i64 0, .int .i64 0, .int .i64 0, .int .i64 0, .int .i64 0, .int .i64 0, .int .i64 0] 104)) hOoB
      have hKz18f1 := Lib.hid (hKzc0a19.out.alloc hSzc0a19 (.cells #[.int .i64 0, .int .i64 0, .int .i64 0, .int .i64 0, .int .i64 0, .int .i64 0, .int .i64 0, .int .i64 0, .int .i64 0, .int .i64 0, .int .i64 0, .int .i64 0, .int .i64 0, .int .i64 0] 104))
      have hSz18f1 := Nat.le_trans hSzc0a19 ((Below.refl zc0a19.heap.size zc0a19).alloc (Nat.le_refl _) (.cells #[.int .i64 0, .int .i64 0, .int .i64 0, .int .i64 0, .int .i64 0, .int .i64 0, .int .i64 0, .int .i64 0, .int .i64 0, .int .i64 0, .int .i64 0, .int .i64 0, .int .i64 0, .int .i64 0] 104)).size
      generalize (zc0a19.alloc (.cells #[.int .i64 0, .int .i64 0, .int .i64 0, .int .i64 0, .int .i64 0, .int .i64 0, .int .i64 0, .int .i64 0, .int .i64 0, .int .i64 0, .int .i64 0, .int .i64 0, .int .i64 0, .int .i64 0] 104)) = z18f1 at *
      refine hK.out _ _ ?_ (fun hHeld => ?_)
      · exact HS.out _ hKz18f1
      clear hK Kq
      try simp only [N0]
      refine wpAnyH_ready (rs := [17]) (by kernel_rfl) (by simp) ?_
      refine AllReadyH.cons (o := _) rfl (fun Kq hK => ?_) AllReadyH.nil
      go_simp
      refine (both_any d (U i) _).mono ?_
      rintro e zc1a1918 ⟨rfl, hb⟩
      have hKzc1a1918 := Lib.hid (hKz18f1.out.call hSz18f1 hb)
      have hOoB := keepO hb hOoB
      have hOoA := keepO hb hOoA
      have hSzc1a1918 := Nat.le_trans hSz18f1 hb.size
      clear hb
      try go_simp
      refine hK.out _ _ ?_ (fun hHeld => ?_)
      · exact HS.out _ hKzc1a1918
      clear hK Kq
      try simp only [N0]
      refine wpAnyH_ready (rs := [20]) (by kernel_rfl) (by simp) ?_
      refine AllReadyH.cons (o := _) rfl (fun Kq hK => ?_) AllReadyH.nil
      obtain ⟨e0, e1, e2, e3, e4, e5, e6, e7, e8, e9, e10, e11, e12, e13, g0, g1, g2, g3, g4, g5, g6, g7, g8, g9, g10, g11, g12, g13⟩ := facts14 hOoA
      go_simp
      clear e0  e1  e2  e3  e4  e5  e6  e7  e8  e9  e10  e11  e12  e13  g0  g1  g2  g3  g4  g5  g6  g7  g8  g9  g10  g11  g12  g13
      obtain ⟨s20zc1a1918, hz_⟩ : ∃ z, z = ((((((((((((((zc1a1918.setCell ⟨zc0a19.heap.size, 0, none⟩ (.int .i64 (R i 0).1)).setCell ⟨zc0a19.heap.size, 1, none⟩ (.int .i64 (R i 0).2)).setCell ⟨zc0a19.heap.size, 2, none⟩ (.int .i64 (R i 1).1)).setCell ⟨zc0a19.heap.size, 3, none⟩ (.int .i64 (R i 1).2)).setCell ⟨zc0a19.heap.size, 4, none⟩ (.int .i64 (R i 2).1)).setCell ⟨zc0a19.heap.size, 5, none⟩ (.int .i64 (R i 2).2)).setCell ⟨zc0a19.heap.size, 6, none⟩ (.int .i64 (R i 3).1)).setCell ⟨zc0a19.heap.size, 7, none⟩ (.int .i64 (R i 3).2)).setCell ⟨zc0a19.heap.size, 8, none⟩ (.int .i64 (R i 4).1)).setCell ⟨zc0a19.heap.size, 9, none⟩ (.int .i64 (R i 4).2)).setCell ⟨zc0a19.heap.size, 10, none⟩ (.int .i64 (R i 5).1)).setCell ⟨zc0a19.heap.size, 11, none⟩ (.int .i64 (R i 5).2)).setCell ⟨zc0a19.heap.size, 12, none⟩ (.int .i64 (R i 6).1)).setCell ⟨zc0a19.heap.size, 13, none⟩ (.int .i64 (R i 6).2)) := ⟨_, rfl⟩
      rw [← hz_]
      have hN0 := (heap_sets14 zc1a1918 zc0a19.heap.size _ (.int .i64 (R i 0).1) (.int .i64 (R i 0).2) (.int .i64 (R i 1).1) (.int .i64 (R i 1).2) (.int .i64 (R i 2).1) (.int .i64 (R i 2).2) (.int .i64 (R i 3).1) (.int .i64 (R i 3).2) (.int .i64 (R i 4).1) (.int .i64 (R i 4).2) (.int .i64 (R i 5).1) (.int .i64 (R i 5).2) (.int .i64 (R i 6).1) (.int .i64 (R i 6).2) (by intro e; have h1 := hOoB; rw [e, hOoA] at h1; simp at h1)).trans hOoB
      rw [← hz_] at hN0
      have hOoA := set14 zc1a1918 zc0a19.heap.size _ (.int .i64 (R i 0).1) (.int .i64 (R i 0).2) (.int .i64 (R i 1).1) (.int .i64 (R i 1).2) (.int .i64 (R i 2).1) (.int .i64 (R i 2).2) (.int .i64 (R i 3).1) (.int .i64 (R i 3).2) (.int .i64 (R i 4).1) (.int .i64 (R i 4).2) (.int .i64 (R i 5).1) (.int .i64 (R i 5).2) (.int .i64 (R i 6).1) (.int .i64 (R i 6).2) _ _ _ _ _ _ _ _ _ _ _ _ _ _ hOoA
      rw [← hz_] at hOoA
      have hOoB := hN0
      clear hN0
      have hKs20zc1a1918 := Lib.hid ((((((((((((((hKzc1a1918.out.set (p := ⟨zc0a19.heap.size, 0, none⟩) (Or.inr hoboA) (.int .i64 (R i 0).1)).set (p := ⟨zc0a19.heap.size, 1, none⟩) (Or.inr hoboA) (.int .i64 (R i 0).2)).set (p := ⟨zc0a19.heap.size, 2, none⟩) (Or.inr hoboA) (.int .i64 (R i 1).1)).set (p := ⟨zc0a19.heap.size, 3, none⟩) (Or.inr hoboA) (.int .i64 (R i 1).2)).set (p := ⟨zc0a19.heap.size, 4, none⟩) (Or.inr hoboA) (.int .i64 (R i 2).1)).set (p := ⟨zc0a19.heap.size, 5, none⟩) (Or.inr hoboA) (.int .i64 (R i 2).2)).set (p := ⟨zc0a19.heap.size, 6, none⟩) (Or.inr hoboA) (.int .i64 (R i 3).1)).set (p := ⟨zc0a19.heap.size, 7, none⟩) (Or.inr hoboA) (.int .i64 (R i 3).2)).set (p := ⟨zc0a19.heap.size, 8, none⟩) (Or.inr hoboA) (.int .i64 (R i 4).1)).set (p := ⟨zc0a19.heap.size, 9, none⟩) (Or.inr hoboA) (.int .i64 (R i 4).2)).set (p := ⟨zc0a19.heap.size, 10, none⟩) (Or.inr hoboA) (.int .i64 (R i 5).1)).set (p := ⟨zc0a19.heap.size, 11, none⟩) (Or.inr hoboA) (.int .i64 (R i 5).2)).set (p := ⟨zc0a19.heap.size, 12, none⟩) (Or.inr hoboA) (.int .i64 (R i 6).1)).set (p := ⟨zc0a19.heap.size, 13, none⟩) (Or.inr hoboA) (.int .i64 (R i 6).2))
      rw [← hz_] at hKs20zc1a1918
      have hSs20zc1a1918 := Nat.le_trans hSzc1a1918 (show zc1a1918.heap.size ≤ s20zc1a1918.heap.size by rw [hz_]; simp)
      clear hz_
      refine hK.out _ _ ?_ (fun hHeld => ?_)
      · exact HS.out _ hKs20zc1a1918
      clear hK Kq
      try simp only [N0]
      refine wpAnyH_ready (rs := [21]) (by kernel_rfl) (by simp) ?_
      refine AllReadyH.cons (o := _) rfl (fun Kq hK => ?_) AllReadyH.nil
      obtain ⟨e0, e1, g0, g1⟩ := two_facts hOoB
      go_simp
      clear e0  e1  g0  g1
      obtain ⟨s21s20zc1a1918, hz_⟩ : ∃ z, z = ((s20zc1a1918.setCell ⟨yd.heap.size, 0, none⟩ (.int .i64 (both d (U i)).1)).setCell ⟨yd.heap.size, 1, none⟩ (.int .i64 (both d (U i)).2)) := ⟨_, rfl⟩
      rw [← hz_]
      have hN0 := (heap_sets2 s20zc1a1918 yd.heap.size _ (.int .i64 (both d (U i)).1) (.int .i64 (both d (U i)).2) (by intro e; have h1 := hOoA; rw [e, hOoB] at h1; simp at h1)).trans hOoA
      rw [← hz_] at hN0
      have hOoB := set_two s20zc1a1918 yd.heap.size _ (.int .i64 (both d (U i)).1) (.int .i64 (both d (U i)).2) _ _ hOoB
      rw [← hz_] at hOoB
      have hOoA := hN0
      clear hN0
      have hKs21s20zc1a1918 := Lib.hid ((hKs20zc1a1918.out.set (p := ⟨yd.heap.size, 0, none⟩) (Or.inr hoboB) (.int .i64 (both d (U i)).1)).set (p := ⟨yd.heap.size, 1, none⟩) (Or.inr hoboB) (.int .i64 (both d (U i)).2))
      rw [← hz_] at hKs21s20zc1a1918
      have hSs21s20zc1a1918 := Nat.le_trans hSs20zc1a1918 (show s20zc1a1918.heap.size ≤ s21s20zc1a1918.heap.size by rw [hz_]; simp)
      clear hz_
      refine hK.out _ _ ?_ (fun hHeld => ?_)
      · exact HS.out _ hKs21s20zc1a1918
      clear hK Kq
      try simp only [N0]
      refine wpAnyH_done (by kernel_rfl) ?_ _
      go_wp2_with fail
      go_meet
      exact ⟨_, rfl, _, _, rfl, rfl, hOoA, hOoB, hKs21s20zc1a1918.out, hoboA, hoboB⟩
    refine AllReadyH.cons (o := _) rfl (fun Kq hK => ?_) AllReadyH.nil
    go_simp
    have hOoA := heap_alloc_new z19f0 (.cells #[.int .i64 0, .int .i64 0, .int .i64 0, .int .i64 0, .int .i64 0, .int .i64 0, .int .i64 0, .int .i64 0, .int .i64 0, .int .i64 0, .int .i64 0, .int .i64 0, .int .i64 0, .int .i64 0] 104)
    have hoboA := hSz19f0
    have hOoB := keepO ((Below.refl z19f0.heap.size z19f0).alloc (Nat.le_refl _) (.cells #[.int .i64 0, .int .i64 0, .int .i64 0, .int .i64 0, .int .i64 0, .int .i64 0, .int .i64 0, .int .i64 0, .int .i64 0, .int .i64 0, .int .i64 0, .int .i64 0, .int .i64 0, .int .i64 0] 104)) hOoB
    have hKz18f0 := Lib.hid (hKz19f0.out.alloc hSz19f0 (.cells #[.int .i64 0, .int .i64 0, .int .i64 0, .int .i64 0, .int .i64 0, .int .i64 0, .int .i64 0, .int .i64 0, .int .i64 0, .int .i64 0, .int .i64 0, .int .i64 0, .int .i64 0, .int .i64 0] 104))
    have hSz18f0 := Nat.le_trans hSz19f0 ((Below.refl z19f0.heap.size z19f0).alloc (Nat.le_refl _) (.cells #[.int .i64 0, .int .i64 0, .int .i64 0, .int .i64 0, .int .i64 0, .int .i64 0, .int .i64 0, .int .i64 0, .int .i64 0, .int .i64 0, .int .i64 0, .int .i64 0, .int .i64 0, .int .i64 0] 104)).size
    generalize (z19f0.alloc (.cells #[.int .i64 0, .int .i64 0, .int .i64 0, .int .i64 0, .int .i64 0, .int .i64 0, .int .i64 0, .int .i64 0, .int .i64 0, .int .i64 0, .int .i64 0, .int .i64 0, .int .i64 0, .int .i64 0] 104)) = z18f0 at *
    refine hK.out _ _ ?_ (fun hHeld => ?_)
    · exact HS.out _ hKz18f0
    clear hK Kq
    try simp only [N0]
    refine wpAnyH_ready (rs := [9]) (by kernel_rfl) (by simp) ?_
    refine AllReadyH.cons (o := _) rfl (fun Kq hK => ?_) AllReadyH.nil
    go_simp
    refine (HDW.out _ hKz18f0).mono ?_
    rintro e zc0a1918 ⟨rfl, hb⟩
    have hKzc0a1918 := Lib.hid (hKz18f0.out.call hSz18f0 hb)
    have hOoB := keepO hb hOoB
    have hOoA := keepO hb hOoA
    have hSzc0a1918 := Nat.le_trans hSz18f0 hb.size
    clear hb
    try go_simp
    refine hK.out _ _ ?_ (fun hHeld => ?_)
    · exact HS.out _ hKzc0a1918
    clear hK Kq
    try simp only [N0]
    refine wpAnyH_ready (rs := [17]) (by kernel_rfl) (by simp) ?_
    refine AllReadyH.cons (o := _) rfl (fun Kq hK => ?_) AllReadyH.nil
    go_simp
    refine (both_any d (U i) _).mono ?_
    rintro e zc1a1918 ⟨rfl, hb⟩
    have hKzc1a1918 := Lib.hid (hKzc0a1918.out.call hSzc0a1918 hb)
    have hOoB := keepO hb hOoB
    have hOoA := keepO hb hOoA
    have hSzc1a1918 := Nat.le_trans hSzc0a1918 hb.size
    clear hb
    try go_simp
    refine hK.out _ _ ?_ (fun hHeld => ?_)
    · exact HS.out _ hKzc1a1918
    clear hK Kq
    try simp only [N0]
    refine wpAnyH_ready (rs := [20]) (by kernel_rfl) (by simp) ?_
    refine AllReadyH.cons (o := _) rfl (fun Kq hK => ?_) AllReadyH.nil
    obtain ⟨e0, e1, e2, e3, e4, e5, e6, e7, e8, e9, e10, e11, e12, e13, g0, g1, g2, g3, g4, g5, g6, g7, g8, g9, g10, g11, g12, g13⟩ := facts14 hOoA
    go_simp
    clear e0  e1  e2  e3  e4  e5  e6  e7  e8  e9  e10  e11  e12  e13  g0  g1  g2  g3  g4  g5  g6  g7  g8  g9  g10  g11  g12  g13
    obtain ⟨s20zc1a1918, hz_⟩ : ∃ z, z = ((((((((((((((zc1a1918.setCell ⟨z19f0.heap.size, 0, none⟩ (.int .i64 (R i 0).1)).setCell ⟨z19f0.heap.size, 1, none⟩ (.int .i64 (R i 0).2)).setCell ⟨z19f0.heap.size, 2, none⟩ (.int .i64 (R i 1).1)).setCell ⟨z19f0.heap.size, 3, none⟩ (.int .i64 (R i 1).2)).setCell ⟨z19f0.heap.size, 4, none⟩ (.int .i64 (R i 2).1)).setCell ⟨z19f0.heap.size, 5, none⟩ (.int .i64 (R i 2).2)).setCell ⟨z19f0.heap.size, 6, none⟩ (.int .i64 (R i 3).1)).setCell ⟨z19f0.heap.size, 7, none⟩ (.int .i64 (R i 3).2)).setCell ⟨z19f0.heap.size, 8, none⟩ (.int .i64 (R i 4).1)).setCell ⟨z19f0.heap.size, 9, none⟩ (.int .i64 (R i 4).2)).setCell ⟨z19f0.heap.size, 10, none⟩ (.int .i64 (R i 5).1)).setCell ⟨z19f0.heap.size, 11, none⟩ (.int .i64 (R i 5).2)).setCell ⟨z19f0.heap.size, 12, none⟩ (.int .i64 (R i 6).1)).setCell ⟨z19f0.heap.size, 13, none⟩ (.int .i64 (R i 6).2)) := ⟨_, rfl⟩
    rw [← hz_]
    have hN0 := (heap_sets14 zc1a1918 z19f0.heap.size _ (.int .i64 (R i 0).1) (.int .i64 (R i 0).2) (.int .i64 (R i 1).1) (.int .i64 (R i 1).2) (.int .i64 (R i 2).1) (.int .i64 (R i 2).2) (.int .i64 (R i 3).1) (.int .i64 (R i 3).2) (.int .i64 (R i 4).1) (.int .i64 (R i 4).2) (.int .i64 (R i 5).1) (.int .i64 (R i 5).2) (.int .i64 (R i 6).1) (.int .i64 (R i 6).2) (by intro e; have h1 := hOoB; rw [e, hOoA] at h1; simp at h1)).trans hOoB
    rw [← hz_] at hN0
    have hOoA := set14 zc1a1918 z19f0.heap.size _ (.int .i64 (R i 0).1) (.int .i64 (R i 0).2) (.int .i64 (R i 1).1) (.int .i64 (R i 1).2) (.int .i64 (R i 2).1) (.int .i64 (R i 2).2) (.int .i64 (R i 3).1) (.int .i64 (R i 3).2) (.int .i64 (R i 4).1) (.int .i64 (R i 4).2) (.int .i64 (R i 5).1) (.int .i64 (R i 5).2) (.int .i64 (R i 6).1) (.int .i64 (R i 6).2) _ _ _ _ _ _ _ _ _ _ _ _ _ _ hOoA
    rw [← hz_] at hOoA
    have hOoB := hN0
    clear hN0
    have hKs20zc1a1918 := Lib.hid ((((((((((((((hKzc1a1918.out.set (p := ⟨z19f0.heap.size, 0, none⟩) (Or.inr hoboA) (.int .i64 (R i 0).1)).set (p := ⟨z19f0.heap.size, 1, none⟩) (Or.inr hoboA) (.int .i64 (R i 0).2)).set (p := ⟨z19f0.heap.size, 2, none⟩) (Or.inr hoboA) (.int .i64 (R i 1).1)).set (p := ⟨z19f0.heap.size, 3, none⟩) (Or.inr hoboA) (.int .i64 (R i 1).2)).set (p := ⟨z19f0.heap.size, 4, none⟩) (Or.inr hoboA) (.int .i64 (R i 2).1)).set (p := ⟨z19f0.heap.size, 5, none⟩) (Or.inr hoboA) (.int .i64 (R i 2).2)).set (p := ⟨z19f0.heap.size, 6, none⟩) (Or.inr hoboA) (.int .i64 (R i 3).1)).set (p := ⟨z19f0.heap.size, 7, none⟩) (Or.inr hoboA) (.int .i64 (R i 3).2)).set (p := ⟨z19f0.heap.size, 8, none⟩) (Or.inr hoboA) (.int .i64 (R i 4).1)).set (p := ⟨z19f0.heap.size, 9, none⟩) (Or.inr hoboA) (.int .i64 (R i 4).2)).set (p := ⟨z19f0.heap.size, 10, none⟩) (Or.inr hoboA) (.int .i64 (R i 5).1)).set (p := ⟨z19f0.heap.size, 11, none⟩) (Or.inr hoboA) (.int .i64 (R i 5).2)).set (p := ⟨z19f0.heap.size, 12, none⟩) (Or.inr hoboA) (.int .i64 (R i 6).1)).set (p := ⟨z19f0.heap.size, 13, none⟩) (Or.inr hoboA) (.int .i64 (R i 6).2))
    rw [← hz_] at hKs20zc1a1918
    have hSs20zc1a1918 := Nat.le_trans hSzc1a1918 (show zc1a1918.heap.size ≤ s20zc1a1918.heap.size by rw [hz_]; simp)
    clear hz_
    refine hK.out _ _ ?_ (fun hHeld => ?_)
    · exact HS.out _ hKs20zc1a1918
    clear hK Kq
    try simp only [N0]
    refine wpAnyH_ready (rs := [21]) (by kernel_rfl) (by simp) ?_
    refine AllReadyH.cons (o := _) rfl (fun Kq hK => ?_) AllReadyH.nil
    obtain ⟨e0, e1, g0, g1⟩ := two_facts hOoB
    go_simp
    clear e0  e1  g0  g1
    obtain ⟨s21s20zc1a1918, hz_⟩ : ∃ z, z = ((s20zc1a1918.setCell ⟨yd.heap.size, 0, none⟩ (.int .i64 (both d (U i)).1)).setCell ⟨yd.heap.size, 1, none⟩ (.int .i64 (both d (U i)).2)) := ⟨_, rfl⟩
    rw [← hz_]
    have hN0 := (heap_sets2 s20zc1a1918 yd.heap.size _ (.int .i64 (both d (U i)).1) (.int .i64 (both d (U i)).2) (by intro e; have h1 := hOoA; rw [e, hOoB] at h1; simp at h1)).trans hOoA
    rw [← hz_] at hN0
    have hOoB := set_two s20zc1a1918 yd.heap.size _ (.int .i64 (both d (U i)).1) (.int .i64 (both d (U i)).2) _ _ hOoB
    rw [← hz_] at hOoB
    have hOoA := hN0
    clear hN0
    have hKs21s20zc1a1918 := Lib.hid ((hKs20zc1a1918.out.set (p := ⟨yd.heap.size, 0, none⟩) (Or.inr hoboB) (.int .i64 (both d (U i)).1)).set (p := ⟨yd.heap.size, 1, none⟩) (Or.inr hoboB) (.int .i64 (both d (U i)).2))
    rw [← hz_] at hKs21s20zc1a1918
    have hSs21s20zc1a1918 := Nat.le_trans hSs20zc1a1918 (show s20zc1a1918.heap.size ≤ s21s20zc1a1918.heap.size by rw [hz_]; simp)
    clear hz_
    refine hK.out _ _ ?_ (fun hHeld => ?_)
    · exact HS.out _ hKs21s20zc1a1918
    clear hK Kq
    try simp only [N0]
    refine wpAnyH_done (by kernel_rfl) ?_ _
    go_wp2_with fail
    go_meet
    exact ⟨_, rfl, _, _, rfl, rfl, hOoA, hOoB, hKs21s20zc1a1918.out, hoboA, hoboB⟩
  case rest =>
    clear S hSd HS HQ HDW
    obtain ⟨wx, rfl, b7, b8, rfl, rfl, hO7, hO8, hKw, h7, h8⟩ := ‹∃ wl, wl = _ ∧ _›
    have h7x : b7 < wx.heap.size := (Array.getElem?_eq_some_iff.1 hO7).1
    have h8x : b8 < wx.heap.size := (Array.getElem?_eq_some_iff.1 hO8).1
    have hxx := hxy.trans (hKw.below (B' := x.heap.size) (by omega) (by simp))
    have hOx0 := (hKw.block x.heap.size (by omega) (by simp)).trans hyb
    have hMx := HMx.out _ hxx
    clear HMx
    by_cases h6 : k = 6
    · subst h6
      rw [show ((6 : Nat) : Int) = 6 from rfl]
      obtain ⟨q0, q1, q2, q3, q4, q5, q6, q7, q8, q9, q10, q11, q12, q13, -⟩ := facts14 hO7
      obtain ⟨wq, hwq⟩ : ∃ wq, wq = wx.alloc (.cells #[.int .i64 (R i 6).1, .int .i64 (R i 6).2] 44) := ⟨_, rfl⟩
      have hO9 := heap_alloc_new wx (.cells #[.int .i64 (R i 6).1, .int .i64 (R i 6).2] 44)
      have hKq : Kp wx.heap.size [] wx wq := by rw [hwq]; exact (Kp.refl _ _ _).alloc (Nat.le_refl _) _
      have hSq : wx.heap.size + 1 = wq.heap.size := by rw [hwq]; simp
      rw [← hwq] at hO9
      have hO7' := (hKq.block b7 h7x (by simp)).trans hO7
      have hO8' := (hKq.block b8 h8x (by simp)).trans hO8
      have hOx := (hKq.block x.heap.size (by omega) (by simp)).trans hOx0
      have hMq := hMx.below (hKq.below (Nat.le_refl _) (by simp))
      obtain ⟨p0, p1, -, -⟩ := two_facts hO8'
      obtain ⟨o0, o1, -, -⟩ := two_facts hO9
      obtain ⟨x0, x1, fx0, fx1⟩ := two_facts hOx
      have hxw : Hid (Below x.heap.size x wq) := Lib.hid (hxx.trans (hKq.below (by omega) (by simp)))
      have hz1 := set_two wq x.heap.size _ (.int .i64 (both d (U i)).1) (.int .i64 (both d (U i)).2) _ _ hOx
      obtain ⟨k0, k1, -, -⟩ := two_facts hz1
      have hBe := (hxw.out.setCell (p := ⟨x.heap.size, 0, none⟩) (by simp) (.int .i64 (both d (U i)).1)).setCell (p := ⟨x.heap.size, 1, none⟩) (by simp) (.int .i64 (both d (U i)).2)
      clear hMx hMq hO7 hO8 hO7' hO8' hO9 hOx hz1 hKq
      rw [hwq] at p0 p1 x0 x1 fx0 fx1 k0 k1 hBe
      clear hwq
      go_wp2
      exact bodyPost_ret (v := .agg #[.int .i64 (both d (U i)).1, .int .i64 (both d (U i)).2]) (by simp [results, Tryd.results51, go_sem, k0, k1]) rfl ⟨rfl, hBe⟩
    · by_cases h1 : k = 1
      · subst h1
        rw [show ((1 : Nat) : Int) = 1 from rfl]
        obtain ⟨q0, q1, q2, q3, q4, q5, q6, q7, q8, q9, q10, q11, q12, q13, -⟩ := facts14 hO7
        obtain ⟨wq, hwq⟩ : ∃ wq, wq = wx.alloc (.cells #[.int .i64 (R i 1).1, .int .i64 (R i 1).2] 44) := ⟨_, rfl⟩
        have hO9 := heap_alloc_new wx (.cells #[.int .i64 (R i 1).1, .int .i64 (R i 1).2] 44)
        have hKq : Kp wx.heap.size [] wx wq := by rw [hwq]; exact (Kp.refl _ _ _).alloc (Nat.le_refl _) _
        have hSq : wx.heap.size + 1 = wq.heap.size := by rw [hwq]; simp
        rw [← hwq] at hO9
        have hO7' := (hKq.block b7 h7x (by simp)).trans hO7
        have hO8' := (hKq.block b8 h8x (by simp)).trans hO8
        have hOx := (hKq.block x.heap.size (by omega) (by simp)).trans hOx0
        have hMq := hMx.below (hKq.below (Nat.le_refl _) (by simp))
        obtain ⟨p0, p1, -, -⟩ := two_facts hO8'
        obtain ⟨o0, o1, -, -⟩ := two_facts hO9
        obtain ⟨x0, x1, fx0, fx1⟩ := two_facts hOx
        have hxw : Hid (Below x.heap.size x wq) := Lib.hid (hxx.trans (hKq.below (by omega) (by simp)))
        clear q0 q1 q2 q3 q4 q5 q6 q7 q8 q9 q10 q11 q12 q13
        obtain ⟨q0, q1, q2, q3, q4, q5, q6, q7, q8, q9, q10, q11, q12, q13, -⟩ := facts14 hO7'
        have j0 := (hxw.out.cell (p := ⟨bj, oj + i * 2, none⟩) hbj).trans JJ0.out
        have j1 := (hxw.out.cell (p := ⟨bj, oj + i * 2 + 1, none⟩) hbj).trans JJ1.out
        have c5 := hMq.c5
        have HQ7 := Lib.hid (fun z (hz : Hid (Kp wq.heap.size [x.heap.size] wq z)) => (⟨(hz.out.cell (by simp only; omega) (by simp; omega)).trans c5, (hz.out.cell (by simp only; omega) (by simp; omega)).trans q0, (hz.out.cell (by simp only; omega) (by simp; omega)).trans q1, (hz.out.cell (by simp only; omega) (by simp; omega)).trans q2, (hz.out.cell (by simp only; omega) (by simp; omega)).trans q3, (hz.out.cell (by simp only; omega) (by simp; omega)).trans q4, (hz.out.cell (by simp only; omega) (by simp; omega)).trans q5, (hz.out.cell (by simp only; omega) (by simp; omega)).trans q6, (hz.out.cell (by simp only; omega) (by simp; omega)).trans q7, (hz.out.cell (by simp only; omega) (by simp; omega)).trans q8, (hz.out.cell (by simp only; omega) (by simp; omega)).trans q9, (hz.out.cell (by simp only; omega) (by simp; omega)).trans q10, (hz.out.cell (by simp only; omega) (by simp; omega)).trans q11, (hz.out.cell (by simp only; omega) (by simp; omega)).trans q12, (hz.out.cell (by simp only; omega) (by simp; omega)).trans q13, (hz.out.cell (by simp only; omega) (by simp; omega)).trans p0, (hz.out.cell (by simp only; omega) (by simp; omega)).trans p1, (hz.out.cell (by simp only; omega) (by simp; omega)).trans o0, (hz.out.cell (by simp only; omega) (by simp; omega)).trans o1, (hz.out.cell (by simp only; omega) (by simp; omega)).trans j0, (hz.out.cell (by simp only; omega) (by simp; omega)).trans j1⟩ : z.cell? ⟨mb, 5, none⟩ = some (.slice (some ⟨bj, oj, none⟩) n ci) ∧ z.cell? ⟨b7, 0, none⟩ = some (.int .i64 (R i 0).1) ∧ z.cell? ⟨b7, 1, none⟩ = some (.int .i64 (R i 0).2) ∧ z.cell? ⟨b7, 2, none⟩ = some (.int .i64 (R i 1).1) ∧ z.cell? ⟨b7, 3, none⟩ = some (.int .i64 (R i 1).2) ∧ z.cell? ⟨b7, 4, none⟩ = some (.int .i64 (R i 2).1) ∧ z.cell? ⟨b7, 5, none⟩ = some (.int .i64 (R i 2).2) ∧ z.cell? ⟨b7, 6, none⟩ = some (.int .i64 (R i 3).1) ∧ z.cell? ⟨b7, 7, none⟩ = some (.int .i64 (R i 3).2) ∧ z.cell? ⟨b7, 8, none⟩ = some (.int .i64 (R i 4).1) ∧ z.cell? ⟨b7, 9, none⟩ = some (.int .i64 (R i 4).2) ∧ z.cell? ⟨b7, 10, none⟩ = some (.int .i64 (R i 5).1) ∧ z.cell? ⟨b7, 11, none⟩ = some (.int .i64 (R i 5).2) ∧ z.cell? ⟨b7, 12, none⟩ = some (.int .i64 (R i 6).1) ∧ z.cell? ⟨b7, 13, none⟩ = some (.int .i64 (R i 6).2) ∧ z.cell? ⟨b8, 0, none⟩ = some (.int .i64 (both d (U i)).1) ∧ z.cell? ⟨b8, 1, none⟩ = some (.int .i64 (both d (U i)).2) ∧ z.cell? ⟨wx.heap.size, 0, none⟩ = some (.int .i64 (R i 1).1) ∧ z.cell? ⟨wx.heap.size, 1, none⟩ = some (.int .i64 (R i 1).2) ∧ z.cell? ⟨bj, oj + i * 2, none⟩ = some (.int .i64 (I i).1) ∧ z.cell? ⟨bj, oj + i * 2 + 1, none⟩ = some (.int .i64 (I i).2)))
        clear q0 q1 q2 q3 q4 q5 q6 q7 q8 q9 q10 q11 q12 q13 p0 p1 o0 o1 x0 x1 fx0 fx1 j0 j1 c5 hMq hO7' hO8' hO9 hKq
        have hs5 := hsk.out 1 (by omega)
        have hs5 := Lib.hid hs5
        have hs6 := Lib.hid HB7.out.1
        have hs7 := Lib.hid HB7.out.2.1
        obtain ⟨q0, q1, q2, q3, q4, q5, q6, q7, q8, q9, q10, q11, q12, q13, -⟩ := facts14 hO7
        clear hMx hO7 hO8 HB7 hsk
        go_wp2_with fail
        rw [← hwq]
        clear hwq q0 q1 q2 q3 q4 q5 q6 q7 q8 q9 q10 q11 q12 q13
        obtain ⟨S, hSd⟩ : ∃ S : World → Prop, S = fun z => (z.cell? ⟨mb, 5, none⟩ = some (.slice (some ⟨bj, oj, none⟩) n ci) ∧ z.cell? ⟨b7, 0, none⟩ = some (.int .i64 (R i 0).1) ∧ z.cell? ⟨b7, 1, none⟩ = some (.int .i64 (R i 0).2) ∧ z.cell? ⟨b7, 2, none⟩ = some (.int .i64 (R i 1).1) ∧ z.cell? ⟨b7, 3, none⟩ = some (.int .i64 (R i 1).2) ∧ z.cell? ⟨b7, 4, none⟩ = some (.int .i64 (R i 2).1) ∧ z.cell? ⟨b7, 5, none⟩ = some (.int .i64 (R i 2).2) ∧ z.cell? ⟨b7, 6, none⟩ = some (.int .i64 (R i 3).1) ∧ z.cell? ⟨b7, 7, none⟩ = some (.int .i64 (R i 3).2) ∧ z.cell? ⟨b7, 8, none⟩ = some (.int .i64 (R i 4).1) ∧ z.cell? ⟨b7, 9, none⟩ = some (.int .i64 (R i 4).2) ∧ z.cell? ⟨b7, 10, none⟩ = some (.int .i64 (R i 5).1) ∧ z.cell? ⟨b7, 11, none⟩ = some (.int .i64 (R i 5).2) ∧ z.cell? ⟨b7, 12, none⟩ = some (.int .i64 (R i 6).1) ∧ z.cell? ⟨b7, 13, none⟩ = some (.int .i64 (R i 6).2) ∧ z.cell? ⟨b8, 0, none⟩ = some (.int .i64 (both d (U i)).1) ∧ z.cell? ⟨b8, 1, none⟩ = some (.int .i64 (both d (U i)).2) ∧ z.cell? ⟨wx.heap.size, 0, none⟩ = some (.int .i64 (R i 1).1) ∧ z.cell? ⟨wx.heap.size, 1, none⟩ = some (.int .i64 (R i 1).2) ∧ z.cell? ⟨bj, oj + i * 2, none⟩ = some (.int .i64 (I i).1) ∧ z.cell? ⟨bj, oj + i * 2 + 1, none⟩ = some (.int .i64 (I i).2)) ∧ Hid (Kp wq.heap.size [x.heap.size] wq z) := ⟨_, rfl⟩
        have HS := Lib.hid (fun z (hz : Hid (Kp wq.heap.size [x.heap.size] wq z)) => (by rw [hSd]; exact ⟨HQ7.out z hz, hz⟩ : S z))
        refine wp_region_held_drew (S := S) (by kernel_rfl) ?_ (fun hHeld => ?_)
        · exact HS.out _ (Lib.hid (Kp.refl _ _ _).drew)
        have hKyd : Hid (Kp wq.heap.size [x.heap.size] wq wq.drew) := Lib.hid (Kp.refl _ _ _).drew
        have hSyd : wq.heap.size ≤ wq.drew.heap.size := Nat.le_refl _
        have hOx := keepO (Below.refl wq.heap.size wq).drew hOx
        generalize wq.drew = yd at *
        refine tY (v := ?_) 0 37 ?_ ?_
        rotate_left
        · intro w hSw; rw [hSd] at hSw; obtain ⟨⟨qm, q0, q1, q2, q3, q4, q5, q6, q7, q8, q9, q10, q11, q12, q13, p0, p1, o0, o1, u0, u1⟩, -⟩ := hSw; go_simp; (try with_reducible rfl)
        try simp only [N0]
        refine tY (v := ?_) 1 38 ?_ ?_
        rotate_left
        · intro w hSw; rw [hSd] at hSw; obtain ⟨⟨qm, q0, q1, q2, q3, q4, q5, q6, q7, q8, q9, q10, q11, q12, q13, p0, p1, o0, o1, u0, u1⟩, -⟩ := hSw; go_simp; (try with_reducible rfl)
        try simp only [N0]
        refine tY (v := ?_) 2 39 ?_ ?_
        rotate_left
        · intro w hSw; rw [hSd] at hSw; obtain ⟨⟨qm, q0, q1, q2, q3, q4, q5, q6, q7, q8, q9, q10, q11, q12, q13, p0, p1, o0, o1, u0, u1⟩, -⟩ := hSw; go_simp; (try with_reducible rfl)
        try simp only [N0]
        refine tY (v := ?_) 5 42 ?_ ?_
        rotate_left
        · intro w hSw; rw [hSd] at hSw; obtain ⟨⟨qm, q0, q1, q2, q3, q4, q5, q6, q7, q8, q9, q10, q11, q12, q13, p0, p1, o0, o1, u0, u1⟩, -⟩ := hSw; go_simp; (try with_reducible rfl)
        try simp only [N0]
        refine tY (v := ?_) 6 43 ?_ ?_
        rotate_left
        · intro w hSw; rw [hSd] at hSw; obtain ⟨⟨qm, q0, q1, q2, q3, q4, q5, q6, q7, q8, q9, q10, q11, q12, q13, p0, p1, o0, o1, u0, u1⟩, -⟩ := hSw; go_simp; (try with_reducible rfl)
        try simp only [N0]
        refine tY (v := ?_) 7 44 ?_ ?_
        rotate_left
        · intro w hSw; rw [hSd] at hSw; obtain ⟨⟨qm, q0, q1, q2, q3, q4, q5, q6, q7, q8, q9, q10, q11, q12, q13, p0, p1, o0, o1, u0, u1⟩, -⟩ := hSw; go_simp; (try with_reducible rfl)
        try simp only [N0]
        refine tY (v := ?_) 8 45 ?_ ?_
        rotate_left
        · intro w hSw; rw [hSd] at hSw; obtain ⟨⟨qm, q0, q1, q2, q3, q4, q5, q6, q7, q8, q9, q10, q11, q12, q13, p0, p1, o0, o1, u0, u1⟩, -⟩ := hSw; go_simp; (try with_reducible rfl)
        try simp only [N0]
        refine tY (v := ?_) 9 46 ?_ ?_
        rotate_left
        · intro w hSw; rw [hSd] at hSw; obtain ⟨⟨qm, q0, q1, q2, q3, q4, q5, q6, q7, q8, q9, q10, q11, q12, q13, p0, p1, o0, o1, u0, u1⟩, -⟩ := hSw; go_simp; (try with_reducible rfl)
        try simp only [N0]
        refine tY (v := ?_) 10 47 ?_ ?_
        rotate_left
        · intro w hSw; rw [hSd] at hSw; obtain ⟨⟨qm, q0, q1, q2, q3, q4, q5, q6, q7, q8, q9, q10, q11, q12, q13, p0, p1, o0, o1, u0, u1⟩, -⟩ := hSw; go_simp; (try with_reducible rfl)
        try simp only [N0]
        refine tY (v := ?_) 11 48 ?_ ?_
        rotate_left
        · intro w hSw; rw [hSd] at hSw; obtain ⟨⟨qm, q0, q1, q2, q3, q4, q5, q6, q7, q8, q9, q10, q11, q12, q13, p0, p1, o0, o1, u0, u1⟩, -⟩ := hSw; go_simp; (try with_reducible rfl)
        try simp only [N0]
        refine tY (v := ?_) 12 49 ?_ ?_
        rotate_left
        · intro w hSw; rw [hSd] at hSw; obtain ⟨⟨qm, q0, q1, q2, q3, q4, q5, q6, q7, q8, q9, q10, q11, q12, q13, p0, p1, o0, o1, u0, u1⟩, -⟩ := hSw; go_simp; (try with_reducible rfl)
        try simp only [N0]
        refine wpAnyH_ready (rs := [3]) (by kernel_rfl) (by simp) ?_
        refine AllReadyH.cons (o := _) rfl (fun Kq hK => ?_) AllReadyH.nil
        go_simp
        refine (rest_any (R i) hRi.out _).mono ?_
        rintro e zc0 ⟨rfl, hb⟩
        have hKzc0 := Lib.hid (hKyd.out.call hSyd hb)
        have hOx := keepO hb hOx
        have hSzc0 := Nat.le_trans hSyd hb.size
        clear hb
        try go_simp
        refine hK.out _ _ ?_ (fun hHeld => ?_)
        · exact HS.out _ hKzc0
        clear hK Kq
        try simp only [N0]
        refine wpAnyH_ready (rs := [4]) (by kernel_rfl) (by simp) ?_
        refine AllReadyH.cons (o := _) rfl (fun Kq hK => ?_) AllReadyH.nil
        go_simp
        refine (plus_any (both d (U i)) (rest1 (R i) 4) hs3.out hs2.out _).mono ?_
        rintro e zc1 ⟨rfl, hb⟩
        have hKzc1 := Lib.hid (hKzc0.out.call hSzc0 hb)
        have hOx := keepO hb hOx
        have hSzc1 := Nat.le_trans hSzc0 hb.size
        clear hb
        try go_simp
        refine hK.out _ _ ?_ (fun hHeld => ?_)
        · exact HS.out _ hKzc1
        clear hK Kq
        try simp only [N0]
        refine wpAnyH_ready (rs := [13]) (by kernel_rfl) (by simp) ?_
        refine AllReadyH.cons (o := _) rfl (fun Kq hK => ?_) AllReadyH.nil
        go_simp
        refine (minus1_any (I i) (R i 1) hs4.out hs5.out _).mono ?_
        rintro e zc2 ⟨rfl, hb⟩
        have hKzc2 := Lib.hid (hKzc1.out.call hSzc1 hb)
        have hOx := keepO hb hOx
        have hSzc2 := Nat.le_trans hSzc1 hb.size
        clear hb
        try go_simp
        refine hK.out _ _ ?_ (fun hHeld => ?_)
        · exact HS.out _ hKzc2
        clear hK Kq
        try simp only [N0]
        refine wpAnyH_ready (rs := [14]) (by kernel_rfl) (by simp) ?_
        refine AllReadyH.cons (o := _) rfl (fun Kq hK => ?_) AllReadyH.nil
        go_simp
        refine (minus_any (plus (both d (U i)) (rest1 (R i) 4)) (minus1 (I i) (R i 1)) hs6.out hs7.out _).mono ?_
        rintro e zc3 ⟨rfl, hb⟩
        have hKzc3 := Lib.hid (hKzc2.out.call hSzc2 hb)
        have hOx := keepO hb hOx
        have hSzc3 := Nat.le_trans hSzc2 hb.size
        clear hb
        try go_simp
        refine hK.out _ _ ?_ (fun hHeld => ?_)
        · exact HS.out _ hKzc3
        clear hK Kq
        try simp only [N0]
        refine wpAnyH_ready (rs := [15]) (by kernel_rfl) (by simp) ?_
        refine AllReadyH.cons (o := _) rfl (fun Kq hK => ?_) AllReadyH.nil
        go_simp
        refine (both_any (R i 1) (minus (plus (both d (U i)) (rest1 (R i) 4)) (minus1 (I i) (R i 1))) _).mono ?_
        rintro e zc4 ⟨rfl, hb⟩
        have hKzc4 := Lib.hid (hKzc3.out.call hSzc3 hb)
        have hOx := keepO hb hOx
        have hSzc4 := Nat.le_trans hSzc3 hb.size
        clear hb
        try go_simp
        refine hK.out _ _ ?_ (fun hHeld => ?_)
        · exact HS.out _ hKzc4
        clear hK Kq
        try simp only [N0]
        refine wpAnyH_ready (rs := [16]) (by kernel_rfl) (by simp) ?_
        refine AllReadyH.cons (o := _) rfl (fun Kq hK => ?_) AllReadyH.nil
        obtain ⟨e0, e1, g0, g1⟩ := two_facts hOx
        go_simp
        clear e0  e1  g0  g1
        obtain ⟨s16zc4, hz_⟩ : ∃ z, z = ((zc4.setCell ⟨x.heap.size, 0, none⟩ (.int .i64 (both (R i 1) (minus (plus (both d (U i)) (rest1 (R i) 4)) (minus1 (I i) (R i 1)))).1)).setCell ⟨x.heap.size, 1, none⟩ (.int .i64 (both (R i 1) (minus (plus (both d (U i)) (rest1 (R i) 4)) (minus1 (I i) (R i 1)))).2)) := ⟨_, rfl⟩
        rw [← hz_]
        have hOx := set_two zc4 x.heap.size _ (.int .i64 (both (R i 1) (minus (plus (both d (U i)) (rest1 (R i) 4)) (minus1 (I i) (R i 1)))).1) (.int .i64 (both (R i 1) (minus (plus (both d (U i)) (rest1 (R i) 4)) (minus1 (I i) (R i 1)))).2) _ _ hOx
        rw [← hz_] at hOx
        have hKs16zc4 := Lib.hid ((hKzc4.out.set (p := ⟨x.heap.size, 0, none⟩) (Or.inl (by simp)) (.int .i64 (both (R i 1) (minus (plus (both d (U i)) (rest1 (R i) 4)) (minus1 (I i) (R i 1)))).1)).set (p := ⟨x.heap.size, 1, none⟩) (Or.inl (by simp)) (.int .i64 (both (R i 1) (minus (plus (both d (U i)) (rest1 (R i) 4)) (minus1 (I i) (R i 1)))).2))
        rw [← hz_] at hKs16zc4
        have hSs16zc4 := Nat.le_trans hSzc4 (show zc4.heap.size ≤ s16zc4.heap.size by rw [hz_]; simp)
        clear hz_
        refine hK.out _ _ ?_ (fun hHeld => ?_)
        · exact HS.out _ hKs16zc4
        clear hK Kq
        try simp only [N0]
        refine wpAnyH_done (by kernel_rfl) ?_ _
        obtain ⟨k0, k1, -, -⟩ := two_facts hOx
        have hBe := hxw.out.trans (hKs16zc4.out.below (B' := x.heap.size) (by omega) (by simp))
        go_wp2
        exact bodyPost_ret (v := .agg #[.int .i64 (both (R i 1) (minus (plus (both d (U i)) (rest1 (R i) 4)) (minus1 (I i) (R i 1)))).1, .int .i64 (both (R i 1) (minus (plus (both d (U i)) (rest1 (R i) 4)) (minus1 (I i) (R i 1)))).2]) (by simp [results, Tryd.results51, go_sem, k0, k1]) rfl ⟨rfl, hBe⟩
      · have hki : (0 : Int) ≤ (k : Int) := by omega
        have hki7 : (k : Int) < 7 := by omega
        have h6i : ¬ (k : Int) = 6 := by omega
        have h1i : ¬ (k : Int) = 1 := by omega
        obtain ⟨a0, a1⟩ := row14 hO7 (k := k) (by omega)
        obtain ⟨wq, hwq⟩ : ∃ wq, wq = wx.alloc (.cells #[.int .i64 (R i k).1, .int .i64 (R i k).2] 44) := ⟨_, rfl⟩
        have hO9 := heap_alloc_new wx (.cells #[.int .i64 (R i k).1, .int .i64 (R i k).2] 44)
        have hKq : Kp wx.heap.size [] wx wq := by rw [hwq]; exact (Kp.refl _ _ _).alloc (Nat.le_refl _) _
        have hSq : wx.heap.size + 1 = wq.heap.size := by rw [hwq]; simp
        rw [← hwq] at hO9
        have hO7' := (hKq.block b7 h7x (by simp)).trans hO7
        have hO8' := (hKq.block b8 h8x (by simp)).trans hO8
        have hOx := (hKq.block x.heap.size (by omega) (by simp)).trans hOx0
        have hMq := hMx.below (hKq.below (Nat.le_refl _) (by simp))
        obtain ⟨p0, p1, -, -⟩ := two_facts hO8'
        obtain ⟨o0, o1, -, -⟩ := two_facts hO9
        obtain ⟨x0, x1, fx0, fx1⟩ := two_facts hOx
        have hxw : Hid (Below x.heap.size x wq) := Lib.hid (hxx.trans (hKq.below (by omega) (by simp)))
        obtain ⟨q0, q1, q2, q3, q4, q5, q6, q7, q8, q9, q10, q11, q12, q13, -⟩ := facts14 hO7'
        have j0 := (hxw.out.cell (p := ⟨bj, oj + i * 2, none⟩) hbj).trans JJ0.out
        have j1 := (hxw.out.cell (p := ⟨bj, oj + i * 2 + 1, none⟩) hbj).trans JJ1.out
        have c5 := hMq.c5
        have HQ7 := Lib.hid (fun z (hz : Hid (Kp wq.heap.size [x.heap.size] wq z)) => (⟨(hz.out.cell (by simp only; omega) (by simp; omega)).trans c5, (hz.out.cell (by simp only; omega) (by simp; omega)).trans q0, (hz.out.cell (by simp only; omega) (by simp; omega)).trans q1, (hz.out.cell (by simp only; omega) (by simp; omega)).trans q2, (hz.out.cell (by simp only; omega) (by simp; omega)).trans q3, (hz.out.cell (by simp only; omega) (by simp; omega)).trans q4, (hz.out.cell (by simp only; omega) (by simp; omega)).trans q5, (hz.out.cell (by simp only; omega) (by simp; omega)).trans q6, (hz.out.cell (by simp only; omega) (by simp; omega)).trans q7, (hz.out.cell (by simp only; omega) (by simp; omega)).trans q8, (hz.out.cell (by simp only; omega) (by simp; omega)).trans q9, (hz.out.cell (by simp only; omega) (by simp; omega)).trans q10, (hz.out.cell (by simp only; omega) (by simp; omega)).trans q11, (hz.out.cell (by simp only; omega) (by simp; omega)).trans q12, (hz.out.cell (by simp only; omega) (by simp; omega)).trans q13, (hz.out.cell (by simp only; omega) (by simp; omega)).trans p0, (hz.out.cell (by simp only; omega) (by simp; omega)).trans p1, (hz.out.cell (by simp only; omega) (by simp; omega)).trans o0, (hz.out.cell (by simp only; omega) (by simp; omega)).trans o1, (hz.out.cell (by simp only; omega) (by simp; omega)).trans j0, (hz.out.cell (by simp only; omega) (by simp; omega)).trans j1⟩ : z.cell? ⟨mb, 5, none⟩ = some (.slice (some ⟨bj, oj, none⟩) n ci) ∧ z.cell? ⟨b7, 0, none⟩ = some (.int .i64 (R i 0).1) ∧ z.cell? ⟨b7, 1, none⟩ = some (.int .i64 (R i 0).2) ∧ z.cell? ⟨b7, 2, none⟩ = some (.int .i64 (R i 1).1) ∧ z.cell? ⟨b7, 3, none⟩ = some (.int .i64 (R i 1).2) ∧ z.cell? ⟨b7, 4, none⟩ = some (.int .i64 (R i 2).1) ∧ z.cell? ⟨b7, 5, none⟩ = some (.int .i64 (R i 2).2) ∧ z.cell? ⟨b7, 6, none⟩ = some (.int .i64 (R i 3).1) ∧ z.cell? ⟨b7, 7, none⟩ = some (.int .i64 (R i 3).2) ∧ z.cell? ⟨b7, 8, none⟩ = some (.int .i64 (R i 4).1) ∧ z.cell? ⟨b7, 9, none⟩ = some (.int .i64 (R i 4).2) ∧ z.cell? ⟨b7, 10, none⟩ = some (.int .i64 (R i 5).1) ∧ z.cell? ⟨b7, 11, none⟩ = some (.int .i64 (R i 5).2) ∧ z.cell? ⟨b7, 12, none⟩ = some (.int .i64 (R i 6).1) ∧ z.cell? ⟨b7, 13, none⟩ = some (.int .i64 (R i 6).2) ∧ z.cell? ⟨b8, 0, none⟩ = some (.int .i64 (both d (U i)).1) ∧ z.cell? ⟨b8, 1, none⟩ = some (.int .i64 (both d (U i)).2) ∧ z.cell? ⟨wx.heap.size, 0, none⟩ = some (.int .i64 (R i k).1) ∧ z.cell? ⟨wx.heap.size, 1, none⟩ = some (.int .i64 (R i k).2) ∧ z.cell? ⟨bj, oj + i * 2, none⟩ = some (.int .i64 (I i).1) ∧ z.cell? ⟨bj, oj + i * 2 + 1, none⟩ = some (.int .i64 (I i).2)))
        clear q0 q1 q2 q3 q4 q5 q6 q7 q8 q9 q10 q11 q12 q13 p0 p1 o0 o1 x0 x1 fx0 fx1 j0 j1 c5 hMq hO7' hO8' hO9 hKq
        have hs5 := Lib.hid (hsk.out k (by omega))
        have hs6 := Lib.hid (HB7.out.2.2 k (by omega)).1
        have hs7 := Lib.hid (HB7.out.2.2 k (by omega)).2
        clear hMx hO7 hO8 HB7 hsk
        go_wp2_with fail
        rw [← hwq]
        clear hwq a0 a1
        obtain ⟨S, hSd⟩ : ∃ S : World → Prop, S = fun z => (z.cell? ⟨mb, 5, none⟩ = some (.slice (some ⟨bj, oj, none⟩) n ci) ∧ z.cell? ⟨b7, 0, none⟩ = some (.int .i64 (R i 0).1) ∧ z.cell? ⟨b7, 1, none⟩ = some (.int .i64 (R i 0).2) ∧ z.cell? ⟨b7, 2, none⟩ = some (.int .i64 (R i 1).1) ∧ z.cell? ⟨b7, 3, none⟩ = some (.int .i64 (R i 1).2) ∧ z.cell? ⟨b7, 4, none⟩ = some (.int .i64 (R i 2).1) ∧ z.cell? ⟨b7, 5, none⟩ = some (.int .i64 (R i 2).2) ∧ z.cell? ⟨b7, 6, none⟩ = some (.int .i64 (R i 3).1) ∧ z.cell? ⟨b7, 7, none⟩ = some (.int .i64 (R i 3).2) ∧ z.cell? ⟨b7, 8, none⟩ = some (.int .i64 (R i 4).1) ∧ z.cell? ⟨b7, 9, none⟩ = some (.int .i64 (R i 4).2) ∧ z.cell? ⟨b7, 10, none⟩ = some (.int .i64 (R i 5).1) ∧ z.cell? ⟨b7, 11, none⟩ = some (.int .i64 (R i 5).2) ∧ z.cell? ⟨b7, 12, none⟩ = some (.int .i64 (R i 6).1) ∧ z.cell? ⟨b7, 13, none⟩ = some (.int .i64 (R i 6).2) ∧ z.cell? ⟨b8, 0, none⟩ = some (.int .i64 (both d (U i)).1) ∧ z.cell? ⟨b8, 1, none⟩ = some (.int .i64 (both d (U i)).2) ∧ z.cell? ⟨wx.heap.size, 0, none⟩ = some (.int .i64 (R i k).1) ∧ z.cell? ⟨wx.heap.size, 1, none⟩ = some (.int .i64 (R i k).2) ∧ z.cell? ⟨bj, oj + i * 2, none⟩ = some (.int .i64 (I i).1) ∧ z.cell? ⟨bj, oj + i * 2 + 1, none⟩ = some (.int .i64 (I i).2)) ∧ Hid (Kp wq.heap.size [x.heap.size] wq z) := ⟨_, rfl⟩
        have HS := Lib.hid (fun z (hz : Hid (Kp wq.heap.size [x.heap.size] wq z)) => (by rw [hSd]; exact ⟨HQ7.out z hz, hz⟩ : S z))
        refine wp_region_held_drew (S := S) (by kernel_rfl) ?_ (fun hHeld => ?_)
        · exact HS.out _ (Lib.hid (Kp.refl _ _ _).drew)
        have hKyd : Hid (Kp wq.heap.size [x.heap.size] wq wq.drew) := Lib.hid (Kp.refl _ _ _).drew
        have hSyd : wq.heap.size ≤ wq.drew.heap.size := Nat.le_refl _
        have hOx := keepO (Below.refl wq.heap.size wq).drew hOx
        generalize wq.drew = yd at *
        refine tY (v := ?_) 0 53 ?_ ?_
        rotate_left
        · intro w hSw; rw [hSd] at hSw; obtain ⟨⟨qm, q0, q1, q2, q3, q4, q5, q6, q7, q8, q9, q10, q11, q12, q13, p0, p1, o0, o1, u0, u1⟩, -⟩ := hSw; go_simp; (try with_reducible rfl)
        try simp only [N0]
        refine tY (v := ?_) 1 54 ?_ ?_
        rotate_left
        · intro w hSw; rw [hSd] at hSw; obtain ⟨⟨qm, q0, q1, q2, q3, q4, q5, q6, q7, q8, q9, q10, q11, q12, q13, p0, p1, o0, o1, u0, u1⟩, -⟩ := hSw; go_simp; (try with_reducible rfl)
        try simp only [N0]
        refine tY (v := ?_) 2 55 ?_ ?_
        rotate_left
        · intro w hSw; rw [hSd] at hSw; obtain ⟨⟨qm, q0, q1, q2, q3, q4, q5, q6, q7, q8, q9, q10, q11, q12, q13, p0, p1, o0, o1, u0, u1⟩, -⟩ := hSw; go_simp; (try with_reducible rfl)
        try simp only [N0]
        refine tY (v := ?_) 3 56 ?_ ?_
        rotate_left
        · intro w hSw; rw [hSd] at hSw; obtain ⟨⟨qm, q0, q1, q2, q3, q4, q5, q6, q7, q8, q9, q10, q11, q12, q13, p0, p1, o0, o1, u0, u1⟩, -⟩ := hSw; go_simp; (try with_reducible rfl)
        try simp only [N0]
        refine tY (v := ?_) 4 57 ?_ ?_
        rotate_left
        · intro w hSw; rw [hSd] at hSw; obtain ⟨⟨qm, q0, q1, q2, q3, q4, q5, q6, q7, q8, q9, q10, q11, q12, q13, p0, p1, o0, o1, u0, u1⟩, -⟩ := hSw; go_simp; (try with_reducible rfl)
        try simp only [N0]
        refine tY (v := ?_) 5 58 ?_ ?_
        rotate_left
        · intro w hSw; rw [hSd] at hSw; obtain ⟨⟨qm, q0, q1, q2, q3, q4, q5, q6, q7, q8, q9, q10, q11, q12, q13, p0, p1, o0, o1, u0, u1⟩, -⟩ := hSw; go_simp; (try with_reducible rfl)
        try simp only [N0]
        refine tY (v := ?_) 6 59 ?_ ?_
        rotate_left
        · intro w hSw; rw [hSd] at hSw; obtain ⟨⟨qm, q0, q1, q2, q3, q4, q5, q6, q7, q8, q9, q10, q11, q12, q13, p0, p1, o0, o1, u0, u1⟩, -⟩ := hSw; go_simp; (try with_reducible rfl)
        try simp only [N0]
        refine tY (v := ?_) 7 60 ?_ ?_
        rotate_left
        · intro w hSw; rw [hSd] at hSw; obtain ⟨⟨qm, q0, q1, q2, q3, q4, q5, q6, q7, q8, q9, q10, q11, q12, q13, p0, p1, o0, o1, u0, u1⟩, -⟩ := hSw; go_simp; (try with_reducible rfl)
        try simp only [N0]
        refine tY (v := ?_) 8 61 ?_ ?_
        rotate_left
        · intro w hSw; rw [hSd] at hSw; obtain ⟨⟨qm, q0, q1, q2, q3, q4, q5, q6, q7, q8, q9, q10, q11, q12, q13, p0, p1, o0, o1, u0, u1⟩, -⟩ := hSw; go_simp; (try with_reducible rfl)
        try simp only [N0]
        refine tY (v := ?_) 9 62 ?_ ?_
        rotate_left
        · intro w hSw; rw [hSd] at hSw; obtain ⟨⟨qm, q0, q1, q2, q3, q4, q5, q6, q7, q8, q9, q10, q11, q12, q13, p0, p1, o0, o1, u0, u1⟩, -⟩ := hSw; go_simp; (try with_reducible rfl)
        try simp only [N0]
        refine tY (v := ?_) 11 64 ?_ ?_
        rotate_left
        · intro w hSw; rw [hSd] at hSw; obtain ⟨⟨qm, q0, q1, q2, q3, q4, q5, q6, q7, q8, q9, q10, q11, q12, q13, p0, p1, o0, o1, u0, u1⟩, -⟩ := hSw; go_simp; (try with_reducible rfl)
        try simp only [N0]
        refine wpAnyH_ready (rs := [10]) (by kernel_rfl) (by simp) ?_
        refine AllReadyH.cons (o := _) rfl (fun Kq hK => ?_) AllReadyH.nil
        go_simp
        refine (rest_any (R i) hRi.out _).mono ?_
        rintro e zc0 ⟨rfl, hb⟩
        have hKzc0 := Lib.hid (hKyd.out.call hSyd hb)
        have hOx := keepO hb hOx
        have hSzc0 := Nat.le_trans hSyd hb.size
        clear hb
        try go_simp
        refine hK.out _ _ ?_ (fun hHeld => ?_)
        · exact HS.out _ hKzc0
        clear hK Kq
        try simp only [N0]
        refine wpAnyH_ready (rs := [12]) (by kernel_rfl) (by simp) ?_
        refine AllReadyH.cons (o := _) rfl (fun Kq hK => ?_) AllReadyH.nil
        go_simp
        refine (minus1_any (rest1 (R i) 4) (R i k) hs2.out hs5.out _).mono ?_
        rintro e zc1 ⟨rfl, hb⟩
        have hKzc1 := Lib.hid (hKzc0.out.call hSzc0 hb)
        have hOx := keepO hb hOx
        have hSzc1 := Nat.le_trans hSzc0 hb.size
        clear hb
        try go_simp
        refine hK.out _ _ ?_ (fun hHeld => ?_)
        · exact HS.out _ hKzc1
        clear hK Kq
        try simp only [N0]
        refine wpAnyH_ready (rs := [13]) (by kernel_rfl) (by simp) ?_
        refine AllReadyH.cons (o := _) rfl (fun Kq hK => ?_) AllReadyH.nil
        go_simp
        refine (plus_any (both d (U i)) (minus1 (rest1 (R i) 4) (R i k)) hs3.out hs6.out _).mono ?_
        rintro e zc2 ⟨rfl, hb⟩
        have hKzc2 := Lib.hid (hKzc1.out.call hSzc1 hb)
        have hOx := keepO hb hOx
        have hSzc2 := Nat.le_trans hSzc1 hb.size
        clear hb
        try go_simp
        refine hK.out _ _ ?_ (fun hHeld => ?_)
        · exact HS.out _ hKzc2
        clear hK Kq
        try simp only [N0]
        refine wpAnyH_ready (rs := [14]) (by kernel_rfl) (by simp) ?_
        refine AllReadyH.cons (o := _) rfl (fun Kq hK => ?_) AllReadyH.nil
        go_simp
        refine (minus_any (I i) (plus (both d (U i)) (minus1 (rest1 (R i) 4) (R i k))) hs4.out hs7.out _).mono ?_
        rintro e zc3 ⟨rfl, hb⟩
        have hKzc3 := Lib.hid (hKzc2.out.call hSzc2 hb)
        have hOx := keepO hb hOx
        have hSzc3 := Nat.le_trans hSzc2 hb.size
        clear hb
        try go_simp
        refine hK.out _ _ ?_ (fun hHeld => ?_)
        · exact HS.out _ hKzc3
        clear hK Kq
        try simp only [N0]
        refine wpAnyH_ready (rs := [15]) (by kernel_rfl) (by simp) ?_
        refine AllReadyH.cons (o := _) rfl (fun Kq hK => ?_) AllReadyH.nil
        go_simp
        refine (both_any (R i k) (minus (I i) (plus (both d (U i)) (minus1 (rest1 (R i) 4) (R i k)))) _).mono ?_
        rintro e zc4 ⟨rfl, hb⟩
        have hKzc4 := Lib.hid (hKzc3.out.call hSzc3 hb)
        have hOx := keepO hb hOx
        have hSzc4 := Nat.le_trans hSzc3 hb.size
        clear hb
        try go_simp
        refine hK.out _ _ ?_ (fun hHeld => ?_)
        · exact HS.out _ hKzc4
        clear hK Kq
        try simp only [N0]
        refine wpAnyH_ready (rs := [16]) (by kernel_rfl) (by simp) ?_
        refine AllReadyH.cons (o := _) rfl (fun Kq hK => ?_) AllReadyH.nil
        obtain ⟨e0, e1, g0, g1⟩ := two_facts hOx
        go_simp
        clear e0  e1  g0  g1
        obtain ⟨s16zc4, hz_⟩ : ∃ z, z = ((zc4.setCell ⟨x.heap.size, 0, none⟩ (.int .i64 (both (R i k) (minus (I i) (plus (both d (U i)) (minus1 (rest1 (R i) 4) (R i k))))).1)).setCell ⟨x.heap.size, 1, none⟩ (.int .i64 (both (R i k) (minus (I i) (plus (both d (U i)) (minus1 (rest1 (R i) 4) (R i k))))).2)) := ⟨_, rfl⟩
        rw [← hz_]
        have hOx := set_two zc4 x.heap.size _ (.int .i64 (both (R i k) (minus (I i) (plus (both d (U i)) (minus1 (rest1 (R i) 4) (R i k))))).1) (.int .i64 (both (R i k) (minus (I i) (plus (both d (U i)) (minus1 (rest1 (R i) 4) (R i k))))).2) _ _ hOx
        rw [← hz_] at hOx
        have hKs16zc4 := Lib.hid ((hKzc4.out.set (p := ⟨x.heap.size, 0, none⟩) (Or.inl (by simp)) (.int .i64 (both (R i k) (minus (I i) (plus (both d (U i)) (minus1 (rest1 (R i) 4) (R i k))))).1)).set (p := ⟨x.heap.size, 1, none⟩) (Or.inl (by simp)) (.int .i64 (both (R i k) (minus (I i) (plus (both d (U i)) (minus1 (rest1 (R i) 4) (R i k))))).2))
        rw [← hz_] at hKs16zc4
        have hSs16zc4 := Nat.le_trans hSzc4 (show zc4.heap.size ≤ s16zc4.heap.size by rw [hz_]; simp)
        clear hz_
        refine hK.out _ _ ?_ (fun hHeld => ?_)
        · exact HS.out _ hKs16zc4
        clear hK Kq
        try simp only [N0]
        refine wpAnyH_done (by kernel_rfl) ?_ _
        obtain ⟨k0, k1, -, -⟩ := two_facts hOx
        have hBe := hxw.out.trans (hKs16zc4.out.below (B' := x.heap.size) (by omega) (by simp))
        go_wp2
        exact bodyPost_ret (v := .agg #[.int .i64 (both (R i k) (minus (I i) (plus (both d (U i)) (minus1 (rest1 (R i) 4) (R i k))))).1, .int .i64 (both (R i k) (minus (I i) (plus (both d (U i)) (minus1 (rest1 (R i) 4) (R i k))))).2]) (by simp [results, Tryd.results51, go_sem, k0, k1]) rfl ⟨rfl, hBe⟩
end Go.Proofs.YtoakeclpakjbiaaDoor
