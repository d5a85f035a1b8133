/-
  The walk of what tells what can go in, and what the parings can be, by what comes before.
-/
import Derived.Test.YtoakeclpakjbiaaDoorTk
import Derived.Test.YtoakeclpakjbiaaDoorCst
import Derived.Deep.DeepCutAuto
import Derived.Deep.CutRange
namespace Go.Proofs.YtoakeclpakjbiaaDoor
open Go.RowKit
set_option linter.unusedVariables false
set_option linter.unusedSimpArgs false
theorem rd_two {w : World} {b : Nat} {u v : Int} {t : TypeId} (h : w.heap[b]? = some (.cells #[.int .i64 u, .int .i64 v] t (0, 0))) : Reads w w.heap.size 2 (some ⟨b, 0, none⟩) 1 (spc (u, v)) := by
  refine ⟨rfl, fun _ => ⟨b, 0, rfl, (Array.getElem?_eq_some_iff.1 h).1, fun j u hu => ?_⟩⟩
  have hj : j < 2 := (List.getElem?_eq_some_iff.1 hu).1
  rcases (by omega : j = 0 ∨ j = 1) with rfl | rfl
  · simp only [spc, List.getElem?_cons_zero, Option.some.injEq] at hu; subst hu; simp [World.cell?, h]
  · simp [spc] at hu; subst hu; simp [World.cell?, h]
set_option maxRecDepth 100000 in
set_option maxHeartbeats 8000000 in
theorem carry_any (mb n : Nat) (t : Nat → Option Nat) (R : Nat → Nat → Sp) (hF : Fwd n t) (hR : SmR R n) (hn : n ≤ 10) (vp vw vU0 vI0 : Value) (At Ar : Option Addr) (ct cr : Nat) (x : World)
    (hm : x.heap[mb]? = some (.cells #[vp, vw, .slice At n ct, .slice Ar n cr, vU0, vI0] 108 (0, 0))) (rt : RdX [mb] x x.heap.size 1 At n (ints (tos t n))) (rr : RdX [mb] x x.heap.size 14 Ar n (rws R n)) :
    Calls Tryd.prog 52 #[.pointer (some ⟨mb, 0, none⟩)] x fun e x' => (∃ v, e = .returned v) ∧ ∃ vU gI, CSt x x' mb gI n vp vw (.slice At n ct) (.slice Ar n cr) vU n (upP t R) (intoP t R) := by
  have hlt : mb < x.heap.size := (Array.getElem?_eq_some_iff.1 hm).1
  have hmk := make_sps n (by omega)
  obtain ⟨j0, hj, hj0, hj1, hj2⟩ := info_parts info_sp
  have HST : Hid (∀ z : World, (fun _ : World => True) z) := fun _ => trivial
  go_enter Tryd.func52, Tryd.ntmps52
  go_wp2_with fail
  go_cut [] (fun wx => ∃ wl, wl = wx ∧ ∃ gI, CSt x wl mb gI n vp vw (.slice At n ct) (.slice Ar n cr) (.slice none 0 0) 0 (upP t R) (inF t R (upP t R) 0))
  case first =>
    obtain ⟨S, hSd⟩ : ∃ S : World → Prop, S = fun _ => True := ⟨_, rfl⟩
    have HST : Hid (∀ z : World, S z) := by intro z; rw [hSd]; trivial
    refine wp_region_held_drew (S := S) (by kernel_rfl) ?_ (fun hHeld => ?_)
    · exact HST.out _
    have hKPyd : Hid (Kp x.heap.size [mb] x x.drew) := Lib.hid (Kp.refl _ _ _).drew
    have hSZyd : x.heap.size ≤ x.drew.heap.size := Nat.le_refl _
    have hm := keepO (Below.refl x.heap.size x).drew hm
    generalize x.drew = yd at *
    refine tY (v := ?_) 0 6 ?_ ?_
    rotate_left
    · intro w hSw; go_simp; (try with_reducible rfl)
    try simp only [N0]
    refine tY (v := ?_) 1 7 ?_ ?_
    rotate_left
    · intro w hSw; go_simp; (try with_reducible rfl)
    try simp only [N0]
    refine tY (v := ?_) 2 8 ?_ ?_
    rotate_left
    · intro w hSw; go_simp; (try with_reducible rfl)
    try simp only [N0]
    refine tY (v := ?_) 3 9 ?_ ?_
    rotate_left
    · intro w hSw; go_simp; (try with_reducible rfl)
    try simp only [N0]
    refine tY (v := ?_) 4 10 ?_ ?_
    rotate_left
    · intro w hSw; go_simp; (try with_reducible rfl)
    try simp only [N0]
    refine wpAnyH_ready (rs := [5]) (by kernel_rfl) (by simp) ?_
    refine AllReadyH.cons (o := _) rfl (fun Kq hK => ?_) AllReadyH.nil
    obtain ⟨e1, e3, e4, e5, g4, g5⟩ := facts6 hm
    go_simp
    clear e1 e3 e4 e5 g4 g5
    refine hK.out _ _ ?_ (fun hHeld => ?_)
    · exact HST.out _
    clear hK Kq
    try simp only [N0]
    refine tY (v := ?_) 6 12 ?_ ?_
    rotate_left
    · intro w hSw; go_simp; (try with_reducible rfl)
    try simp only [N0]
    refine tY (v := ?_) 8 14 ?_ ?_
    rotate_left
    · intro w hSw; go_simp; (try with_reducible rfl)
    try simp only [N0]
    refine tY (v := ?_) 9 15 ?_ ?_
    rotate_left
    · intro w hSw; go_simp; (try with_reducible rfl)
    try simp only [N0]
    refine wpAnyH_ready (rs := [7, 10]) (by kernel_rfl) (by simp) ?_
    refine AllReadyH.cons (o := _) rfl (fun Kq hK => ?_) ?_
    · go_simp
      try rw [hmk]
      try go_simp
      have hOI := heap_alloc_new yd (.cells (madeCells #[.int .i64 0, .int .i64 0] (n * 2)) 44)
      have hgI := hSZyd
      have hm := keepO ((Below.refl yd.heap.size yd).alloc (Nat.le_refl _) (.cells (madeCells #[.int .i64 0, .int .i64 0] (n * 2)) 44)) hm
      have hKPz7yd := Lib.hid (hKPyd.out.alloc hSZyd (.cells (madeCells #[.int .i64 0, .int .i64 0] (n * 2)) 44))
      have hSZz7yd := Nat.le_trans hSZyd ((Below.refl yd.heap.size yd).alloc (Nat.le_refl _) (.cells (madeCells #[.int .i64 0, .int .i64 0] (n * 2)) 44)).size
      generalize (yd.alloc (.cells (madeCells #[.int .i64 0, .int .i64 0] (n * 2)) 44)) = z7yd at *
      refine hK.out _ _ ?_ (fun hHeld => ?_)
      · exact HST.out _
      clear hK Kq
      try simp only [N0]
      refine wpAnyH_ready (rs := [10]) (by kernel_rfl) (by simp) ?_
      refine AllReadyH.cons (o := _) rfl (fun Kq hK => ?_) AllReadyH.nil
      obtain ⟨e1, e3, e4, e5, g4, g5⟩ := facts6 hm
      go_simp
      clear e1 e3 e4 e5 g4 g5
      obtain ⟨s10z7yd, hz_⟩ : ∃ z, z = z7yd.setCell ⟨mb, 4, none⟩ (.slice none 0 0) := ⟨_, rfl⟩
      rw [← hz_]
      have hm := set6_4 z7yd mb _ (.slice none 0 0) _ _ _ _ _ _ hm
      rw [← hz_] at hm
      have hOI := (Below.heap_setCell z7yd ⟨mb, 4, none⟩ (.slice none 0 0) _ (by simp only; omega)).trans hOI
      rw [← hz_] at hOI
      have hKPs10z7yd := Lib.hid (hKPz7yd.out.set (p := ⟨mb, 4, none⟩) (Or.inl (by simp)) (.slice none 0 0))
      rw [← hz_] at hKPs10z7yd
      have hSZs10z7yd := Nat.le_trans hSZz7yd (show z7yd.heap.size ≤ s10z7yd.heap.size by rw [hz_]; simp)
      clear hz_
      refine hK.out _ _ ?_ (fun hHeld => ?_)
      · exact HST.out _
      clear hK Kq
      try simp only [N0]
      refine wpAnyH_ready (rs := [11]) (by kernel_rfl) (by simp) ?_
      refine AllReadyH.cons (o := _) rfl (fun Kq hK => ?_) AllReadyH.nil
      go_simp
      refine hK.out _ _ ?_ (fun hHeld => ?_)
      · exact HST.out _
      clear hK Kq
      try simp only [N0]
      refine tY (v := ?_) 12 17 ?_ ?_
      rotate_left
      · intro w hSw; go_simp; (try with_reducible rfl)
      try simp only [N0]
      refine wpAnyH_ready (rs := [13]) (by kernel_rfl) (by simp) ?_
      refine AllReadyH.cons (o := _) rfl (fun Kq hK => ?_) AllReadyH.nil
      obtain ⟨e1, e3, e4, e5, g4, g5⟩ := facts6 hm
      go_simp
      clear e1 e3 e4 e5 g4 g5
      obtain ⟨s13s10z7yd, hz_⟩ : ∃ z, z = s10z7yd.setCell ⟨mb, 5, none⟩ (.slice (some ⟨yd.heap.size, 0, none⟩) n n) := ⟨_, rfl⟩
      rw [← hz_]
      have hm := set6_5 s10z7yd mb _ (.slice (some ⟨yd.heap.size, 0, none⟩) n n) _ _ _ _ _ _ hm
      rw [← hz_] at hm
      have hOI := (Below.heap_setCell s10z7yd ⟨mb, 5, none⟩ (.slice (some ⟨yd.heap.size, 0, none⟩) n n) _ (by simp only; omega)).trans hOI
      rw [← hz_] at hOI
      have hKPs13s10z7yd := Lib.hid (hKPs10z7yd.out.set (p := ⟨mb, 5, none⟩) (Or.inl (by simp)) (.slice (some ⟨yd.heap.size, 0, none⟩) n n))
      rw [← hz_] at hKPs13s10z7yd
      have hSZs13s10z7yd := Nat.le_trans hSZs10z7yd (show s10z7yd.heap.size ≤ s13s10z7yd.heap.size by rw [hz_]; simp)
      clear hz_
      refine hK.out _ _ ?_ (fun hHeld => ?_)
      · exact HST.out _
      clear hK Kq
      try simp only [N0]
      refine wpAnyH_done (by kernel_rfl) ?_ _
      go_wp2_with fail
      go_meet
      exact ⟨_, rfl, _, (CSt.start (upP t R) hm hOI hKPs13s10z7yd.out hlt hgI).congr (fun j _ => inF_0 t R (upP t R) j)⟩
    refine AllReadyH.cons (o := _) rfl (fun Kq hK => ?_) AllReadyH.nil
    obtain ⟨e1, e3, e4, e5, g4, g5⟩ := facts6 hm
    go_simp
    clear e1 e3 e4 e5 g4 g5
    obtain ⟨s10yd, hz_⟩ : ∃ z, z = yd.setCell ⟨mb, 4, none⟩ (.slice none 0 0) := ⟨_, rfl⟩
    rw [← hz_]
    have hm := set6_4 yd mb _ (.slice none 0 0) _ _ _ _ _ _ hm
    rw [← hz_] at hm
    have hKPs10yd := Lib.hid (hKPyd.out.set (p := ⟨mb, 4, none⟩) (Or.inl (by simp)) (.slice none 0 0))
    rw [← hz_] at hKPs10yd
    have hSZs10yd := Nat.le_trans hSZyd (show yd.heap.size ≤ s10yd.heap.size by rw [hz_]; simp)
    clear hz_
    refine hK.out _ _ ?_ (fun hHeld => ?_)
    · exact HST.out _
    clear hK Kq
    try simp only [N0]
    refine wpAnyH_ready (rs := [7]) (by kernel_rfl) (by simp) ?_
    refine AllReadyH.cons (o := _) rfl (fun Kq hK => ?_) AllReadyH.nil
    go_simp
    try rw [hmk]
    try go_simp
    have hOI := heap_alloc_new s10yd (.cells (madeCells #[.int .i64 0, .int .i64 0] (n * 2)) 44)
    have hgI := hSZs10yd
    have hm := keepO ((Below.refl s10yd.heap.size s10yd).alloc (Nat.le_refl _) (.cells (madeCells #[.int .i64 0, .int .i64 0] (n * 2)) 44)) hm
    have hKPz7s10yd := Lib.hid (hKPs10yd.out.alloc hSZs10yd (.cells (madeCells #[.int .i64 0, .int .i64 0] (n * 2)) 44))
    have hSZz7s10yd := Nat.le_trans hSZs10yd ((Below.refl s10yd.heap.size s10yd).alloc (Nat.le_refl _) (.cells (madeCells #[.int .i64 0, .int .i64 0] (n * 2)) 44)).size
    generalize (s10yd.alloc (.cells (madeCells #[.int .i64 0, .int .i64 0] (n * 2)) 44)) = z7s10yd at *
    refine hK.out _ _ ?_ (fun hHeld => ?_)
    · exact HST.out _
    clear hK Kq
    try simp only [N0]
    refine wpAnyH_ready (rs := [11]) (by kernel_rfl) (by simp) ?_
    refine AllReadyH.cons (o := _) rfl (fun Kq hK => ?_) AllReadyH.nil
    go_simp
    refine hK.out _ _ ?_ (fun hHeld => ?_)
    · exact HST.out _
    clear hK Kq
    try simp only [N0]
    refine tY (v := ?_) 12 17 ?_ ?_
    rotate_left
    · intro w hSw; go_simp; (try with_reducible rfl)
    try simp only [N0]
    refine wpAnyH_ready (rs := [13]) (by kernel_rfl) (by simp) ?_
    refine AllReadyH.cons (o := _) rfl (fun Kq hK => ?_) AllReadyH.nil
    obtain ⟨e1, e3, e4, e5, g4, g5⟩ := facts6 hm
    go_simp
    clear e1 e3 e4 e5 g4 g5
    obtain ⟨s13z7s10yd, hz_⟩ : ∃ z, z = z7s10yd.setCell ⟨mb, 5, none⟩ (.slice (some ⟨s10yd.heap.size, 0, none⟩) n n) := ⟨_, rfl⟩
    rw [← hz_]
    have hm := set6_5 z7s10yd mb _ (.slice (some ⟨s10yd.heap.size, 0, none⟩) n n) _ _ _ _ _ _ hm
    rw [← hz_] at hm
    have hOI := (Below.heap_setCell z7s10yd ⟨mb, 5, none⟩ (.slice (some ⟨s10yd.heap.size, 0, none⟩) n n) _ (by simp only; omega)).trans hOI
    rw [← hz_] at hOI
    have hKPs13z7s10yd := Lib.hid (hKPz7s10yd.out.set (p := ⟨mb, 5, none⟩) (Or.inl (by simp)) (.slice (some ⟨s10yd.heap.size, 0, none⟩) n n))
    rw [← hz_] at hKPs13z7s10yd
    have hSZs13z7s10yd := Nat.le_trans hSZz7s10yd (show z7s10yd.heap.size ≤ s13z7s10yd.heap.size by rw [hz_]; simp)
    clear hz_
    refine hK.out _ _ ?_ (fun hHeld => ?_)
    · exact HST.out _
    clear hK Kq
    try simp only [N0]
    refine wpAnyH_done (by kernel_rfl) ?_ _
    go_wp2_with fail
    go_meet
    exact ⟨_, rfl, _, (CSt.start (upP t R) hm hOI hKPs13z7s10yd.out hlt hgI).congr (fun j _ => inF_0 t R (upP t R) j)⟩
  case rest =>
    obtain ⟨wl, rfl, gI, hC0⟩ := ‹∃ wl, wl = _ ∧ _›
    obtain ⟨m1, m2, m3, m4, m5, f4⟩ := hC0.cells
    have hC0' := Lib.hid hC0
    have hrt := Lib.hid rt
    have hrr := Lib.hid rr
    have hR' := Lib.hid hR
    have hF' := Lib.hid hF
    clear hC0 rt rr hm hR hF
    go_wp2_with fail
    clear m1 m2 m3 m4 m5 f4
    go_loopw [23] (fun v wr => ∃ k : Nat, k ≤ n ∧ v = .int .i64 k ∧ ∃ vU, Hid (CSt x wr mb gI n vp vw (.slice At n ct) (.slice Ar n cr) vU k (upP t R) (inF t R (upP t R) k))) (fun v _ => n - (intOf v).toNat)
    case atStart => exact ⟨0, by omega, rfl, _, hC0'⟩
    case round =>
      clear hC0'
      obtain ⟨k, hk, rfl, vU, hCr⟩ := hrel
      by_cases hlt2 : k < n
      · have hki : (k : Int) < (n : Int) := by omega
        have k0 : (0 : Int) ≤ (k : Int) := by omega
        obtain ⟨br, or, rfl, hbr, hri⟩ := (hrr.out.keep hCr.out.kp (Nat.le_refl _) (by simp)).1.rw_ hlt2
        have r0 : wr.cell? ⟨br, or + k * 14, none⟩ = some (.int .i64 (R k 0).1) := hri 0 _ rfl
        have r1 : wr.cell? ⟨br, or + k * 14 + 1, none⟩ = some (.int .i64 (R k 0).2) := hri 1 _ rfl
        have r2 : wr.cell? ⟨br, or + k * 14 + 2, none⟩ = some (.int .i64 (R k 1).1) := hri 2 _ rfl
        have r3 : wr.cell? ⟨br, or + k * 14 + 3, none⟩ = some (.int .i64 (R k 1).2) := hri 3 _ rfl
        have r4 : wr.cell? ⟨br, or + k * 14 + 4, none⟩ = some (.int .i64 (R k 2).1) := hri 4 _ rfl
        have r5 : wr.cell? ⟨br, or + k * 14 + 5, none⟩ = some (.int .i64 (R k 2).2) := hri 5 _ rfl
        have r6 : wr.cell? ⟨br, or + k * 14 + 6, none⟩ = some (.int .i64 (R k 3).1) := hri 6 _ rfl
        have r7 : wr.cell? ⟨br, or + k * 14 + 7, none⟩ = some (.int .i64 (R k 3).2) := hri 7 _ rfl
        have r8 : wr.cell? ⟨br, or + k * 14 + 8, none⟩ = some (.int .i64 (R k 4).1) := hri 8 _ rfl
        have r9 : wr.cell? ⟨br, or + k * 14 + 9, none⟩ = some (.int .i64 (R k 4).2) := hri 9 _ rfl
        have r10 : wr.cell? ⟨br, or + k * 14 + 10, none⟩ = some (.int .i64 (R k 5).1) := hri 10 _ rfl
        have r11 : wr.cell? ⟨br, or + k * 14 + 11, none⟩ = some (.int .i64 (R k 5).2) := hri 11 _ rfl
        have r12 : wr.cell? ⟨br, or + k * 14 + 12, none⟩ = some (.int .i64 (R k 6).1) := hri 12 _ rfl
        have r13 : wr.cell? ⟨br, or + k * 14 + 13, none⟩ = some (.int .i64 (R k 6).2) := hri 13 _ rfl
        have hzO := heap_alloc_new wr (.cells #[.int .i64 (R k 0).1, .int .i64 (R k 0).2, .int .i64 (R k 1).1, .int .i64 (R k 1).2, .int .i64 (R k 2).1, .int .i64 (R k 2).2, .int .i64 (R k 3).1, .int .i64 (R k 3).2, .int .i64 (R k 4).1, .int .i64 (R k 4).2, .int .i64 (R k 5).1, .int .i64 (R k 5).2, .int .i64 (R k 6).1, .int .i64 (R k 6).2] 104)
        have hzB := (Below.refl wr.heap.size wr).alloc (Nat.le_refl _) (.cells #[.int .i64 (R k 0).1, .int .i64 (R k 0).2, .int .i64 (R k 1).1, .int .i64 (R k 1).2, .int .i64 (R k 2).1, .int .i64 (R k 2).2, .int .i64 (R k 3).1, .int .i64 (R k 3).2, .int .i64 (R k 4).1, .int .i64 (R k 4).2, .int .i64 (R k 5).1, .int .i64 (R k 5).2, .int .i64 (R k 6).1, .int .i64 (R k 6).2] 104)
        have hC := hCr.out.below hzB
        have hrg : wr.heap.size ≠ gI := (Nat.ne_of_lt hCr.out.into.lt).symm
        have hrx : x.heap.size ≤ wr.heap.size := hCr.out.kp.size
        have hgx := hC.g
        have hs1 := Lib.hid (inF_sml (t := t) (j := k) hR'.out hn hlt2 hk)
        have hsR : Hid (∀ j, j < 7 → Sml (R k j)) := by intro j hj; have := hR'.out k j hlt2 hj; unfold Sml; omega
        have hs2 := Lib.hid (hsR.out 1 (by omega))
        have hRk : Hid (SmF (R k)) := fun j hj => hR'.out k j hlt2 hj
        have hs3 := Lib.hid (inG_sml (t := t) (j := k) hR'.out hn hlt2 hlt2)
        have hs4 : Hid (Sml (rest1 (R k) 4)) := by have := rest1_sml hRk.out 4 (Nat.le_refl _); show Sml _; unfold Sml; omega
        have hU : Hid (upP t R k = (both (minus (inG t R (upP t R) k k) (rest1 (R k) 4)) (R k 6))) := by show _ = _; rw [upP_eq]; unfold recS inG; rw [if_pos rfl]; rfl
        clear hri hzB hsR
        obtain ⟨z, hz⟩ : ∃ z, z = wr.alloc (.cells #[.int .i64 (R k 0).1, .int .i64 (R k 0).2, .int .i64 (R k 1).1, .int .i64 (R k 1).2, .int .i64 (R k 2).1, .int .i64 (R k 2).2, .int .i64 (R k 3).1, .int .i64 (R k 3).2, .int .i64 (R k 4).1, .int .i64 (R k 4).2, .int .i64 (R k 5).1, .int .i64 (R k 5).2, .int .i64 (R k 6).1, .int .i64 (R k 6).2] 104) := ⟨_, rfl⟩
        rw [← hz] at hC hzO
        go_wp2_with fail
        rw [← hz]
        generalize hrb : wr.heap.size = rb at *
        have hR3 := hzO
        clear hz hzO hCr hrb r0 r1 r2 r3 r4 r5 r6 r7 r8 r9 r10 r11 r12 r13
        obtain ⟨m1, m2, m3, m4, m5, f4⟩ := hC.cells
        obtain ⟨q0, q1, q2, q3, q4, q5, q6, q7, q8, q9, q10, q11, q12, q13, -⟩ := facts14 hR3
        have hrz : rb < z.heap.size := (Array.getElem?_eq_some_iff.1 hR3).1
        have hmz : mb < z.heap.size := by have := hC.kp.size; omega
        have HQ := Lib.hid (fun w' (hz : Hid (Kp z.heap.size [gI] z w')) => (⟨(hz.out.cell (by simp only; omega) (by simp; try omega)).trans m5, (hz.out.cell (by simp only; omega) (by simp; try omega)).trans q2, (hz.out.cell (by simp only; omega) (by simp; try omega)).trans q3⟩ : w'.cell? ⟨mb, 5, none⟩ = some (.slice (some ⟨gI, 0, none⟩) n n) ∧ w'.cell? ⟨rb, 2, none⟩ = some (.int .i64 (R k 1).1) ∧ w'.cell? ⟨rb, 3, none⟩ = some (.int .i64 (R k 1).2)))
        obtain ⟨S, hSd⟩ : ∃ S : World → Prop, S = fun w' => (w'.cell? ⟨mb, 5, none⟩ = some (.slice (some ⟨gI, 0, none⟩) n n) ∧ w'.cell? ⟨rb, 2, none⟩ = some (.int .i64 (R k 1).1) ∧ w'.cell? ⟨rb, 3, none⟩ = some (.int .i64 (R k 1).2)) ∧ Hid (Kp z.heap.size [gI] z w') := ⟨_, rfl⟩
        have HS := Lib.hid (fun w' (hz : Hid (Kp z.heap.size [gI] z w')) => (by rw [hSd]; exact ⟨HQ.out w' hz, hz⟩ : S w'))
        clear m1 m2 m3 m4 m5 f4 q0 q1 q2 q3 q4 q5 q6 q7 q8 q9 q10 q11 q12 q13
        refine wp_region_held_drew (S := S) (by kernel_rfl) ?_ (fun hHeld => ?_)
        · exact HS.out _ (Lib.hid (Kp.refl _ _ _).drew)
        have hKyd : Hid (Kp z.heap.size [gI] z z.drew) := Lib.hid (Kp.refl _ _ _).drew
        have hSyd : z.heap.size ≤ z.drew.heap.size := Nat.le_refl _
        have hR3 := keepO (Below.refl z.heap.size z).drew hR3
        have hC := hC.drew
        generalize z.drew = yd at *
        refine tY (v := ?_) 0 28 ?_ ?_
        rotate_left
        · intro w hSw; rw [hSd] at hSw; obtain ⟨⟨qm, q0, q1⟩, -⟩ := hSw; go_simp; (try with_reducible rfl)
        try simp only [N0]
        refine tY (v := ?_) 1 29 ?_ ?_
        rotate_left
        · intro w hSw; rw [hSd] at hSw; obtain ⟨⟨qm, q0, q1⟩, -⟩ := hSw; go_simp; (try with_reducible rfl)
        try simp only [N0]
        refine tY (v := ?_) 2 30 ?_ ?_
        rotate_left
        · intro w hSw; rw [hSd] at hSw; obtain ⟨⟨qm, q0, q1⟩, -⟩ := hSw; go_simp; (try with_reducible rfl)
        try simp only [N0]
        refine tY (v := ?_) 3 31 ?_ ?_
        rotate_left
        · intro w hSw; rw [hSd] at hSw; obtain ⟨⟨qm, q0, q1⟩, -⟩ := hSw; go_simp; (try with_reducible rfl)
        try simp only [N0]
        refine tY (v := ?_) 4 32 ?_ ?_
        rotate_left
        · intro w hSw; rw [hSd] at hSw; obtain ⟨⟨qm, q0, q1⟩, -⟩ := hSw; go_simp; (try with_reducible rfl)
        try simp only [N0]
        refine tY (v := ?_) 5 33 ?_ ?_
        rotate_left
        · intro w hSw; rw [hSd] at hSw; obtain ⟨⟨qm, q0, q1⟩, -⟩ := hSw; go_simp; (try with_reducible rfl)
        try simp only [N0]
        refine tY (v := ?_) 6 34 ?_ ?_
        rotate_left
        · intro w hSw; rw [hSd] at hSw; obtain ⟨⟨qm, q0, q1⟩, -⟩ := hSw; go_simp; (try with_reducible rfl)
        try simp only [N0]
        refine tY (v := ?_) 7 35 ?_ ?_
        rotate_left
        · intro w hSw; rw [hSd] at hSw; obtain ⟨⟨qm, q0, q1⟩, -⟩ := hSw; go_simp; (try with_reducible rfl)
        try simp only [N0]
        refine tY (v := ?_) 8 36 ?_ ?_
        rotate_left
        · intro w hSw; rw [hSd] at hSw; obtain ⟨⟨qm, q0, q1⟩, -⟩ := hSw; go_simp; (try with_reducible rfl)
        try simp only [N0]
        refine tY (v := ?_) 9 37 ?_ ?_
        rotate_left
        · intro w hSw; rw [hSd] at hSw; obtain ⟨⟨qm, q0, q1⟩, -⟩ := hSw; go_simp; (try with_reducible rfl)
        try simp only [N0]
        refine tY (v := ?_) 10 38 ?_ ?_
        rotate_left
        · intro w hSw; rw [hSd] at hSw; obtain ⟨⟨qm, q0, q1⟩, -⟩ := hSw; go_simp; (try with_reducible rfl)
        try simp only [N0]
        refine tY (v := ?_) 12 40 ?_ ?_
        rotate_left
        · intro w hSw; rw [hSd] at hSw; obtain ⟨⟨qm, q0, q1⟩, -⟩ := hSw; go_simp; (try with_reducible rfl)
        try simp only [N0]
        refine tY (v := ?_) 13 41 ?_ ?_
        rotate_left
        · intro w hSw; rw [hSd] at hSw; obtain ⟨⟨qm, q0, q1⟩, -⟩ := hSw; go_simp; (try with_reducible rfl)
        try simp only [N0]
        refine wpAnyH_ready (rs := [11]) (by kernel_rfl) (by simp) ?_
        refine AllReadyH.cons (o := _) rfl (fun Kq hK => ?_) AllReadyH.nil
        obtain ⟨i0', i1', -, -⟩ := hC.at_ hlt2
        go_simp
        refine hK.out _ _ ?_ (fun hHeld => ?_)
        · exact HS.out _ hKyd
        clear hK Kq
        try simp only [N0]
        refine wpAnyH_ready (rs := [14]) (by kernel_rfl) (by simp) ?_
        refine AllReadyH.cons (o := _) rfl (fun Kq hK => ?_) AllReadyH.nil
        go_simp
        refine (plus_any (inF t R (upP t R) k k) (R k 1) hs1.out hs2.out _).mono ?_
        rintro e c14yd ⟨rfl, hb⟩
        have hKc14yd := Lib.hid (hKyd.out.call hSyd hb)
        have hR3 := keepO hb hR3
        have hSc14yd := Nat.le_trans hSyd hb.size
        have hC := hC.below hb
        clear hb
        try go_simp
        refine hK.out _ _ ?_ (fun hHeld => ?_)
        · exact HS.out _ hKc14yd
        clear hK Kq
        try simp only [N0]
        refine wpAnyH_ready (rs := [15]) (by kernel_rfl) (by simp) ?_
        refine AllReadyH.cons (o := _) rfl (fun Kq hK => ?_) AllReadyH.nil
        go_simp
        refine hK.out _ _ ?_ (fun hHeld => ?_)
        · exact HS.out _ hKc14yd
        clear hK Kq
        try simp only [N0]
        refine wpAnyH_ready (rs := [16]) (by kernel_rfl) (by simp) ?_
        refine AllReadyH.cons (o := _) rfl (fun Kq hK => ?_) AllReadyH.nil
        obtain ⟨i0', i1', g0', g1'⟩ := hC.at_ hlt2
        go_simp
        obtain ⟨s16c14yd, hz_⟩ : ∃ z, z = ((c14yd.setCell ⟨gI, k * 2, none⟩ (.int .i64 (plus (inF t R (upP t R) k k) (R k 1)).1)).setCell ⟨gI, k * 2 + 1, none⟩ (.int .i64 (plus (inF t R (upP t R) k k) (R k 1)).2)) := ⟨_, rfl⟩
        rw [← hz_]
        have hC := hC.put k (plus (inF t R (upP t R) k k) (R k 1))
        rw [← hz_] at hC
        have hR3 := ((Below.heap_setCell (c14yd.setCell ⟨gI, k * 2, none⟩ (.int .i64 (plus (inF t R (upP t R) k k) (R k 1)).1)) ⟨gI, k * 2 + 1, none⟩ (.int .i64 (plus (inF t R (upP t R) k k) (R k 1)).2) _ (by simp only; omega)).trans ((Below.heap_setCell c14yd ⟨gI, k * 2, none⟩ (.int .i64 (plus (inF t R (upP t R) k k) (R k 1)).1) _ (by simp only; omega)).trans hR3))
        rw [← hz_] at hR3
        have hKs16c14yd := Lib.hid ((hKc14yd.out.set (p := ⟨gI, k * 2, none⟩) (Or.inl (by simp)) (.int .i64 (plus (inF t R (upP t R) k k) (R k 1)).1)).set (p := ⟨gI, k * 2 + 1, none⟩) (Or.inl (by simp)) (.int .i64 (plus (inF t R (upP t R) k k) (R k 1)).2))
        rw [← hz_] at hKs16c14yd
        have hSs16c14yd := Nat.le_trans hSc14yd (show c14yd.heap.size ≤ s16c14yd.heap.size by rw [hz_]; simp)
        clear hz_
        refine hK.out _ _ ?_ (fun hHeld => ?_)
        · exact HS.out _ hKs16c14yd
        clear hK Kq
        try simp only [N0]
        refine wpAnyH_done (by kernel_rfl) ?_ _
        have hC := hC.congr (fun j _ => inG_eq t R (upP t R) k j)
        clear HS hKs16c14yd HQ hSd
        generalize s16c14yd = z4 at *
        go_wp2_with fail
        go_cut [4] from 24 to 91 (fun s wx => ∃ wl, wl = wx ∧ ∃ sb, s = .pointer (some ⟨sb, 0, none⟩) ∧ CSt x wl mb gI n vp vw (.slice At n ct) (.slice (some ⟨br, or, none⟩) n cr) vU k (upP t R) (inG t R (upP t R) k) ∧ wl.heap[sb]? = some (.cells #[.int .i64 (upP t R k).1, .int .i64 (upP t R k).2] 44 (0, 0)) ∧ x.heap.size ≤ sb ∧ sb ≠ gI ∧ (∀ q, vU.ownBlock = some q → q ≠ sb))
        case first =>
          obtain ⟨m1, m2, m3, m4, m5, f4⟩ := hC.cells
          obtain ⟨q0, q1, q2, q3, q4, q5, q6, q7, q8, q9, q10, q11, q12, q13, -⟩ := facts14 hR3
          obtain ⟨i0', i1', -, -⟩ := hC.at_ hlt2
          have hrz : rb < z4.heap.size := (Array.getElem?_eq_some_iff.1 hR3).1
          have hmz : mb < z4.heap.size := by have := hC.kp.size; omega
          have hgz : gI < z4.heap.size := hC.into.lt
          have HQ := Lib.hid (fun w' (hz : Hid (Kp z4.heap.size [] z4 w')) => (⟨(hz.out.cell (by simp only; omega) (by simp; try omega)).trans m5, (hz.out.cell (by simp only; omega) (by simp; try omega)).trans i0', (hz.out.cell (by simp only; omega) (by simp; try omega)).trans i1', (hz.out.cell (by simp only; omega) (by simp; try omega)).trans q0, (hz.out.cell (by simp only; omega) (by simp; try omega)).trans q1, (hz.out.cell (by simp only; omega) (by simp; try omega)).trans q2, (hz.out.cell (by simp only; omega) (by simp; try omega)).trans q3, (hz.out.cell (by simp only; omega) (by simp; try omega)).trans q4, (hz.out.cell (by simp only; omega) (by simp; try omega)).trans q5, (hz.out.cell (by simp only; omega) (by simp; try omega)).trans q6, (hz.out.cell (by simp only; omega) (by simp; try omega)).trans q7, (hz.out.cell (by simp only; omega) (by simp; try omega)).trans q8, (hz.out.cell (by simp only; omega) (by simp; try omega)).trans q9, (hz.out.cell (by simp only; omega) (by simp; try omega)).trans q10, (hz.out.cell (by simp only; omega) (by simp; try omega)).trans q11, (hz.out.cell (by simp only; omega) (by simp; try omega)).trans q12, (hz.out.cell (by simp only; omega) (by simp; try omega)).trans q13⟩ : w'.cell? ⟨mb, 5, none⟩ = some (.slice (some ⟨gI, 0, none⟩) n n) ∧ w'.cell? ⟨gI, k * 2, none⟩ = some (.int .i64 (inG t R (upP t R) k k).1) ∧ w'.cell? ⟨gI, k * 2 + 1, none⟩ = some (.int .i64 (inG t R (upP t R) k k).2) ∧ w'.cell? ⟨rb, 0, none⟩ = some (.int .i64 (R k 0).1) ∧ w'.cell? ⟨rb, 1, none⟩ = some (.int .i64 (R k 0).2) ∧ w'.cell? ⟨rb, 2, none⟩ = some (.int .i64 (R k 1).1) ∧ w'.cell? ⟨rb, 3, none⟩ = some (.int .i64 (R k 1).2) ∧ w'.cell? ⟨rb, 4, none⟩ = some (.int .i64 (R k 2).1) ∧ w'.cell? ⟨rb, 5, none⟩ = some (.int .i64 (R k 2).2) ∧ w'.cell? ⟨rb, 6, none⟩ = some (.int .i64 (R k 3).1) ∧ w'.cell? ⟨rb, 7, none⟩ = some (.int .i64 (R k 3).2) ∧ w'.cell? ⟨rb, 8, none⟩ = some (.int .i64 (R k 4).1) ∧ w'.cell? ⟨rb, 9, none⟩ = some (.int .i64 (R k 4).2) ∧ w'.cell? ⟨rb, 10, none⟩ = some (.int .i64 (R k 5).1) ∧ w'.cell? ⟨rb, 11, none⟩ = some (.int .i64 (R k 5).2) ∧ w'.cell? ⟨rb, 12, none⟩ = some (.int .i64 (R k 6).1) ∧ w'.cell? ⟨rb, 13, none⟩ = some (.int .i64 (R k 6).2)))
          obtain ⟨S, hSd⟩ : ∃ S : World → Prop, S = fun w' => (w'.cell? ⟨mb, 5, none⟩ = some (.slice (some ⟨gI, 0, none⟩) n n) ∧ w'.cell? ⟨gI, k * 2, none⟩ = some (.int .i64 (inG t R (upP t R) k k).1) ∧ w'.cell? ⟨gI, k * 2 + 1, none⟩ = some (.int .i64 (inG t R (upP t R) k k).2) ∧ w'.cell? ⟨rb, 0, none⟩ = some (.int .i64 (R k 0).1) ∧ w'.cell? ⟨rb, 1, none⟩ = some (.int .i64 (R k 0).2) ∧ w'.cell? ⟨rb, 2, none⟩ = some (.int .i64 (R k 1).1) ∧ w'.cell? ⟨rb, 3, none⟩ = some (.int .i64 (R k 1).2) ∧ w'.cell? ⟨rb, 4, none⟩ = some (.int .i64 (R k 2).1) ∧ w'.cell? ⟨rb, 5, none⟩ = some (.int .i64 (R k 2).2) ∧ w'.cell? ⟨rb, 6, none⟩ = some (.int .i64 (R k 3).1) ∧ w'.cell? ⟨rb, 7, none⟩ = some (.int .i64 (R k 3).2) ∧ w'.cell? ⟨rb, 8, none⟩ = some (.int .i64 (R k 4).1) ∧ w'.cell? ⟨rb, 9, none⟩ = some (.int .i64 (R k 4).2) ∧ w'.cell? ⟨rb, 10, none⟩ = some (.int .i64 (R k 5).1) ∧ w'.cell? ⟨rb, 11, none⟩ = some (.int .i64 (R k 5).2) ∧ w'.cell? ⟨rb, 12, none⟩ = some (.int .i64 (R k 6).1) ∧ w'.cell? ⟨rb, 13, none⟩ = some (.int .i64 (R k 6).2)) ∧ Hid (Kp z4.heap.size [] z4 w') := ⟨_, rfl⟩
          have HS := Lib.hid (fun w' (hz : Hid (Kp z4.heap.size [] z4 w')) => (by rw [hSd]; exact ⟨HQ.out w' hz, hz⟩ : S w'))
          clear m1 m2 m3 m4 m5 f4 q0 q1 q2 q3 q4 q5 q6 q7 q8 q9 q10 q11 q12 q13 i0' i1'
          refine wp_region_held_drew (S := S) (by kernel_rfl) ?_ (fun hHeld => ?_)
          · exact HS.out _ (Lib.hid (Kp.refl _ _ _).drew)
          have hKyd : Hid (Kp z4.heap.size [] z4 z4.drew) := Lib.hid (Kp.refl _ _ _).drew
          have hSyd : z4.heap.size ≤ z4.drew.heap.size := Nat.le_refl _
          have hC := hC.drew
          generalize z4.drew = yd at *
          refine tY (v := ?_) 0 44 ?_ ?_
          rotate_left
          · intro w hSw; rw [hSd] at hSw; obtain ⟨⟨qm, i0', i1', q0, q1, q2, q3, q4, q5, q6, q7, q8, q9, q10, q11, q12, q13⟩, -⟩ := hSw; go_simp; (try with_reducible rfl)
          try simp only [N0]
          refine tY (v := ?_) 1 45 ?_ ?_
          rotate_left
          · intro w hSw; rw [hSd] at hSw; obtain ⟨⟨qm, i0', i1', q0, q1, q2, q3, q4, q5, q6, q7, q8, q9, q10, q11, q12, q13⟩, -⟩ := hSw; go_simp; (try with_reducible rfl)
          try simp only [N0]
          refine tY (v := ?_) 2 46 ?_ ?_
          rotate_left
          · intro w hSw; rw [hSd] at hSw; obtain ⟨⟨qm, i0', i1', q0, q1, q2, q3, q4, q5, q6, q7, q8, q9, q10, q11, q12, q13⟩, -⟩ := hSw; go_simp; (try with_reducible rfl)
          try simp only [N0]
          refine tY (v := ?_) 3 47 ?_ ?_
          rotate_left
          · intro w hSw; rw [hSd] at hSw; obtain ⟨⟨qm, i0', i1', q0, q1, q2, q3, q4, q5, q6, q7, q8, q9, q10, q11, q12, q13⟩, -⟩ := hSw; go_simp; (try with_reducible rfl)
          try simp only [N0]
          refine tY (v := ?_) 4 48 ?_ ?_
          rotate_left
          · intro w hSw; rw [hSd] at hSw; obtain ⟨⟨qm, i0', i1', q0, q1, q2, q3, q4, q5, q6, q7, q8, q9, q10, q11, q12, q13⟩, -⟩ := hSw; go_simp; (try with_reducible rfl)
          try simp only [N0]
          refine tY (v := ?_) 5 49 ?_ ?_
          rotate_left
          · intro w hSw; rw [hSd] at hSw; obtain ⟨⟨qm, i0', i1', q0, q1, q2, q3, q4, q5, q6, q7, q8, q9, q10, q11, q12, q13⟩, -⟩ := hSw; go_simp; (try with_reducible rfl)
          try simp only [N0]
          refine tY (v := ?_) 6 50 ?_ ?_
          rotate_left
          · intro w hSw; rw [hSd] at hSw; obtain ⟨⟨qm, i0', i1', q0, q1, q2, q3, q4, q5, q6, q7, q8, q9, q10, q11, q12, q13⟩, -⟩ := hSw; go_simp; (try with_reducible rfl)
          try simp only [N0]
          refine tY (v := ?_) 7 51 ?_ ?_
          rotate_left
          · intro w hSw; rw [hSd] at hSw; obtain ⟨⟨qm, i0', i1', q0, q1, q2, q3, q4, q5, q6, q7, q8, q9, q10, q11, q12, q13⟩, -⟩ := hSw; go_simp; (try with_reducible rfl)
          try simp only [N0]
          refine tY (v := ?_) 10 54 ?_ ?_
          rotate_left
          · intro w hSw; rw [hSd] at hSw; obtain ⟨⟨qm, i0', i1', q0, q1, q2, q3, q4, q5, q6, q7, q8, q9, q10, q11, q12, q13⟩, -⟩ := hSw; go_simp; (try with_reducible rfl)
          try simp only [N0]
          refine tY (v := ?_) 11 55 ?_ ?_
          rotate_left
          · intro w hSw; rw [hSd] at hSw; obtain ⟨⟨qm, i0', i1', q0, q1, q2, q3, q4, q5, q6, q7, q8, q9, q10, q11, q12, q13⟩, -⟩ := hSw; go_simp; (try with_reducible rfl)
          try simp only [N0]
          refine wpAnyH_ready (rs := [8, 13]) (by kernel_rfl) (by simp) ?_
          refine AllReadyH.cons (o := _) rfl (fun Kq hK => ?_) ?_
          · go_simp
            refine (rest_any (R k) hRk.out _).mono ?_
            rintro e c8yd ⟨rfl, hb⟩
            have hKc8yd := Lib.hid (hKyd.out.call hSyd hb)
            have hSc8yd := Nat.le_trans hSyd hb.size
            have hC := hC.below hb
            clear hb
            try go_simp
            refine hK.out _ _ ?_ (fun hHeld => ?_)
            · exact HS.out _ hKc8yd
            clear hK Kq
            try simp only [N0]
            refine wpAnyH_ready (rs := [9, 13]) (by kernel_rfl) (by simp) ?_
            refine AllReadyH.cons (o := _) rfl (fun Kq hK => ?_) ?_
            · go_simp
              refine (minus_any (inG t R (upP t R) k k) (rest1 (R k) 4) hs3.out hs4.out _).mono ?_
              rintro e c9c8yd ⟨rfl, hb⟩
              have hKc9c8yd := Lib.hid (hKc8yd.out.call hSc8yd hb)
              have hSc9c8yd := Nat.le_trans hSc8yd hb.size
              have hC := hC.below hb
              clear hb
              try go_simp
              refine hK.out _ _ ?_ (fun hHeld => ?_)
              · exact HS.out _ hKc9c8yd
              clear hK Kq
              try simp only [N0]
              refine wpAnyH_ready (rs := [12, 13]) (by kernel_rfl) (by simp) ?_
              refine AllReadyH.cons (o := _) rfl (fun Kq hK => ?_) ?_
              · go_simp
                refine (both_any (minus (inG t R (upP t R) k k) (rest1 (R k) 4)) (R k 6) _).mono ?_
                rintro e c12c9c8yd ⟨rfl, hb⟩
                have hKc12c9c8yd := Lib.hid (hKc9c8yd.out.call hSc9c8yd hb)
                have hSc12c9c8yd := Nat.le_trans hSc9c8yd hb.size
                have hC := hC.below hb
                clear hb
                try go_simp
                refine hK.out _ _ ?_ (fun hHeld => ?_)
                · exact HS.out _ hKc12c9c8yd
                clear hK Kq
                try simp only [N0]
                refine wpAnyH_ready (rs := [13]) (by kernel_rfl) (by simp) ?_
                refine AllReadyH.cons (o := _) rfl (fun Kq hK => ?_) AllReadyH.nil
                go_simp
                have hOs := heap_alloc_new c12c9c8yd (.cells #[.int .i64 0, .int .i64 0] 44)
                have hobs := hSc12c9c8yd
                have hKz13c12c9c8yd := Lib.hid (hKc12c9c8yd.out.alloc hSc12c9c8yd (.cells #[.int .i64 0, .int .i64 0] 44))
                have hSz13c12c9c8yd := Nat.le_trans hSc12c9c8yd ((Below.refl c12c9c8yd.heap.size c12c9c8yd).alloc (Nat.le_refl _) (.cells #[.int .i64 0, .int .i64 0] 44)).size
                have hVq : ∀ q, vU.ownBlock = some q → q ≠ c12c9c8yd.heap.size := fun q hq => Nat.ne_of_lt (ownR_lt hC.own hq).2
                have hsg : c12c9c8yd.heap.size ≠ gI := (Nat.ne_of_lt hC.into.lt).symm
                have hsx : x.heap.size ≤ c12c9c8yd.heap.size := hC.kp.size
                have hC := hC.below ((Below.refl c12c9c8yd.heap.size c12c9c8yd).alloc (Nat.le_refl _) (.cells #[.int .i64 0, .int .i64 0] 44))
                generalize (c12c9c8yd.alloc (.cells #[.int .i64 0, .int .i64 0] 44)) = z13c12c9c8yd at *
                refine hK.out _ _ ?_ (fun hHeld => ?_)
                · exact HS.out _ hKz13c12c9c8yd
                clear hK Kq
                try simp only [N0]
                refine wpAnyH_ready (rs := [14]) (by kernel_rfl) (by simp) ?_
                refine AllReadyH.cons (o := _) rfl (fun Kq hK => ?_) AllReadyH.nil
                obtain ⟨e0, e1, g0, g1⟩ := two_facts hOs
                go_simp
                clear e0  e1  g0  g1
                obtain ⟨s14z13c12c9c8yd, hz_⟩ : ∃ z, z = ((z13c12c9c8yd.setCell ⟨c12c9c8yd.heap.size, 0, none⟩ (.int .i64 (both (minus (inG t R (upP t R) k k) (rest1 (R k) 4)) (R k 6)).1)).setCell ⟨c12c9c8yd.heap.size, 1, none⟩ (.int .i64 (both (minus (inG t R (upP t R) k k) (rest1 (R k) 4)) (R k 6)).2)) := ⟨_, rfl⟩
                rw [← hz_]
                have hOs := set_two z13c12c9c8yd c12c9c8yd.heap.size _ (.int .i64 (both (minus (inG t R (upP t R) k k) (rest1 (R k) 4)) (R k 6)).1) (.int .i64 (both (minus (inG t R (upP t R) k k) (rest1 (R k) 4)) (R k 6)).2) _ _ hOs
                have hC := hC.far hsx hsg hVq (.int .i64 (both (minus (inG t R (upP t R) k k) (rest1 (R k) 4)) (R k 6)).1) (.int .i64 (both (minus (inG t R (upP t R) k k) (rest1 (R k) 4)) (R k 6)).2)
                rw [← hz_] at hC
                rw [← hz_] at hOs
                have hKs14z13c12c9c8yd := Lib.hid ((hKz13c12c9c8yd.out.set (p := ⟨c12c9c8yd.heap.size, 0, none⟩) (Or.inr hobs) (.int .i64 (both (minus (inG t R (upP t R) k k) (rest1 (R k) 4)) (R k 6)).1)).set (p := ⟨c12c9c8yd.heap.size, 1, none⟩) (Or.inr hobs) (.int .i64 (both (minus (inG t R (upP t R) k k) (rest1 (R k) 4)) (R k 6)).2))
                rw [← hz_] at hKs14z13c12c9c8yd
                have hSs14z13c12c9c8yd := Nat.le_trans hSz13c12c9c8yd (show z13c12c9c8yd.heap.size ≤ s14z13c12c9c8yd.heap.size by rw [hz_]; simp)
                clear hz_
                refine hK.out _ _ ?_ (fun hHeld => ?_)
                · exact HS.out _ hKs14z13c12c9c8yd
                clear hK Kq
                try simp only [N0]
                refine wpAnyH_done (by kernel_rfl) ?_ _
                go_wp2_with fail
                go_meet
                exact ⟨_, rfl, _, rfl, hC, by rw [hU.out]; exact hOs, hsx, hsg, hVq⟩
              refine AllReadyH.cons (o := _) rfl (fun Kq hK => ?_) AllReadyH.nil
              go_simp
              have hOs := heap_alloc_new c9c8yd (.cells #[.int .i64 0, .int .i64 0] 44)
              have hobs := hSc9c8yd
              have hKz13c9c8yd := Lib.hid (hKc9c8yd.out.alloc hSc9c8yd (.cells #[.int .i64 0, .int .i64 0] 44))
              have hSz13c9c8yd := Nat.le_trans hSc9c8yd ((Below.refl c9c8yd.heap.size c9c8yd).alloc (Nat.le_refl _) (.cells #[.int .i64 0, .int .i64 0] 44)).size
              have hVq : ∀ q, vU.ownBlock = some q → q ≠ c9c8yd.heap.size := fun q hq => Nat.ne_of_lt (ownR_lt hC.own hq).2
              have hsg : c9c8yd.heap.size ≠ gI := (Nat.ne_of_lt hC.into.lt).symm
              have hsx : x.heap.size ≤ c9c8yd.heap.size := hC.kp.size
              have hC := hC.below ((Below.refl c9c8yd.heap.size c9c8yd).alloc (Nat.le_refl _) (.cells #[.int .i64 0, .int .i64 0] 44))
              generalize (c9c8yd.alloc (.cells #[.int .i64 0, .int .i64 0] 44)) = z13c9c8yd at *
              refine hK.out _ _ ?_ (fun hHeld => ?_)
              · exact HS.out _ hKz13c9c8yd
              clear hK Kq
              try simp only [N0]
              refine wpAnyH_ready (rs := [12]) (by kernel_rfl) (by simp) ?_
              refine AllReadyH.cons (o := _) rfl (fun Kq hK => ?_) AllReadyH.nil
              go_simp
              refine (both_any (minus (inG t R (upP t R) k k) (rest1 (R k) 4)) (R k 6) _).mono ?_
              rintro e c12z13c9c8yd ⟨rfl, hb⟩
              have hKc12z13c9c8yd := Lib.hid (hKz13c9c8yd.out.call hSz13c9c8yd hb)
              have hOs := keepO hb hOs
              have hSc12z13c9c8yd := Nat.le_trans hSz13c9c8yd hb.size
              have hC := hC.below hb
              clear hb
              try go_simp
              refine hK.out _ _ ?_ (fun hHeld => ?_)
              · exact HS.out _ hKc12z13c9c8yd
              clear hK Kq
              try simp only [N0]
              refine wpAnyH_ready (rs := [14]) (by kernel_rfl) (by simp) ?_
              refine AllReadyH.cons (o := _) rfl (fun Kq hK => ?_) AllReadyH.nil
              obtain ⟨e0, e1, g0, g1⟩ := two_facts hOs
              go_simp
              clear e0  e1  g0  g1
              obtain ⟨s14c12z13c9c8yd, hz_⟩ : ∃ z, z = ((c12z13c9c8yd.setCell ⟨c9c8yd.heap.size, 0, none⟩ (.int .i64 (both (minus (inG t R (upP t R) k k) (rest1 (R k) 4)) (R k 6)).1)).setCell ⟨c9c8yd.heap.size, 1, none⟩ (.int .i64 (both (minus (inG t R (upP t R) k k) (rest1 (R k) 4)) (R k 6)).2)) := ⟨_, rfl⟩
              rw [← hz_]
              have hOs := set_two c12z13c9c8yd c9c8yd.heap.size _ (.int .i64 (both (minus (inG t R (upP t R) k k) (rest1 (R k) 4)) (R k 6)).1) (.int .i64 (both (minus (inG t R (upP t R) k k) (rest1 (R k) 4)) (R k 6)).2) _ _ hOs
              have hC := hC.far hsx hsg hVq (.int .i64 (both (minus (inG t R (upP t R) k k) (rest1 (R k) 4)) (R k 6)).1) (.int .i64 (both (minus (inG t R (upP t R) k k) (rest1 (R k) 4)) (R k 6)).2)
              rw [← hz_] at hC
              rw [← hz_] at hOs
              have hKs14c12z13c9c8yd := Lib.hid ((hKc12z13c9c8yd.out.set (p := ⟨c9c8yd.heap.size, 0, none⟩) (Or.inr hobs) (.int .i64 (both (minus (inG t R (upP t R) k k) (rest1 (R k) 4)) (R k 6)).1)).set (p := ⟨c9c8yd.heap.size, 1, none⟩) (Or.inr hobs) (.int .i64 (both (minus (inG t R (upP t R) k k) (rest1 (R k) 4)) (R k 6)).2))
              rw [← hz_] at hKs14c12z13c9c8yd
              have hSs14c12z13c9c8yd := Nat.le_trans hSc12z13c9c8yd (show c12z13c9c8yd.heap.size ≤ s14c12z13c9c8yd.heap.size by rw [hz_]; simp)
              clear hz_
              refine hK.out _ _ ?_ (fun hHeld => ?_)
              · exact HS.out _ hKs14c12z13c9c8yd
              clear hK Kq
              try simp only [N0]
              refine wpAnyH_done (by kernel_rfl) ?_ _
              go_wp2_with fail
              go_meet
              exact ⟨_, rfl, _, rfl, hC, by rw [hU.out]; exact hOs, hsx, hsg, hVq⟩
            refine AllReadyH.cons (o := _) rfl (fun Kq hK => ?_) AllReadyH.nil
            go_simp
            have hOs := heap_alloc_new c8yd (.cells #[.int .i64 0, .int .i64 0] 44)
            have hobs := hSc8yd
            have hKz13c8yd := Lib.hid (hKc8yd.out.alloc hSc8yd (.cells #[.int .i64 0, .int .i64 0] 44))
            have hSz13c8yd := Nat.le_trans hSc8yd ((Below.refl c8yd.heap.size c8yd).alloc (Nat.le_refl _) (.cells #[.int .i64 0, .int .i64 0] 44)).size
            have hVq : ∀ q, vU.ownBlock = some q → q ≠ c8yd.heap.size := fun q hq => Nat.ne_of_lt (ownR_lt hC.own hq).2
            have hsg : c8yd.heap.size ≠ gI := (Nat.ne_of_lt hC.into.lt).symm
            have hsx : x.heap.size ≤ c8yd.heap.size := hC.kp.size
            have hC := hC.below ((Below.refl c8yd.heap.size c8yd).alloc (Nat.le_refl _) (.cells #[.int .i64 0, .int .i64 0] 44))
            generalize (c8yd.alloc (.cells #[.int .i64 0, .int .i64 0] 44)) = z13c8yd at *
            refine hK.out _ _ ?_ (fun hHeld => ?_)
            · exact HS.out _ hKz13c8yd
            clear hK Kq
            try simp only [N0]
            refine wpAnyH_ready (rs := [9]) (by kernel_rfl) (by simp) ?_
            refine AllReadyH.cons (o := _) rfl (fun Kq hK => ?_) AllReadyH.nil
            go_simp
            refine (minus_any (inG t R (upP t R) k k) (rest1 (R k) 4) hs3.out hs4.out _).mono ?_
            rintro e c9z13c8yd ⟨rfl, hb⟩
            have hKc9z13c8yd := Lib.hid (hKz13c8yd.out.call hSz13c8yd hb)
            have hOs := keepO hb hOs
            have hSc9z13c8yd := Nat.le_trans hSz13c8yd hb.size
            have hC := hC.below hb
            clear hb
            try go_simp
            refine hK.out _ _ ?_ (fun hHeld => ?_)
            · exact HS.out _ hKc9z13c8yd
            clear hK Kq
            try simp only [N0]
            refine wpAnyH_ready (rs := [12]) (by kernel_rfl) (by simp) ?_
            refine AllReadyH.cons (o := _) rfl (fun Kq hK => ?_) AllReadyH.nil
            go_simp
            refine (both_any (minus (inG t R (upP t R) k k) (rest1 (R k) 4)) (R k 6) _).mono ?_
            rintro e c12c9z13c8yd ⟨rfl, hb⟩
            have hKc12c9z13c8yd := Lib.hid (hKc9z13c8yd.out.call hSc9z13c8yd hb)
            have hOs := keepO hb hOs
            have hSc12c9z13c8yd := Nat.le_trans hSc9z13c8yd hb.size
            have hC := hC.below hb
            clear hb
            try go_simp
            refine hK.out _ _ ?_ (fun hHeld => ?_)
            · exact HS.out _ hKc12c9z13c8yd
            clear hK Kq
            try simp only [N0]
            refine wpAnyH_ready (rs := [14]) (by kernel_rfl) (by simp) ?_
            refine AllReadyH.cons (o := _) rfl (fun Kq hK => ?_) AllReadyH.nil
            obtain ⟨e0, e1, g0, g1⟩ := two_facts hOs
            go_simp
            clear e0  e1  g0  g1
            obtain ⟨s14c12c9z13c8yd, hz_⟩ : ∃ z, z = ((c12c9z13c8yd.setCell ⟨c8yd.heap.size, 0, none⟩ (.int .i64 (both (minus (inG t R (upP t R) k k) (rest1 (R k) 4)) (R k 6)).1)).setCell ⟨c8yd.heap.size, 1, none⟩ (.int .i64 (both (minus (inG t R (upP t R) k k) (rest1 (R k) 4)) (R k 6)).2)) := ⟨_, rfl⟩
            rw [← hz_]
            have hOs := set_two c12c9z13c8yd c8yd.heap.size _ (.int .i64 (both (minus (inG t R (upP t R) k k) (rest1 (R k) 4)) (R k 6)).1) (.int .i64 (both (minus (inG t R (upP t R) k k) (rest1 (R k) 4)) (R k 6)).2) _ _ hOs
            have hC := hC.far hsx hsg hVq (.int .i64 (both (minus (inG t R (upP t R) k k) (rest1 (R k) 4)) (R k 6)).1) (.int .i64 (both (minus (inG t R (upP t R) k k) (rest1 (R k) 4)) (R k 6)).2)
            rw [← hz_] at hC
            rw [← hz_] at hOs
            have hKs14c12c9z13c8yd := Lib.hid ((hKc12c9z13c8yd.out.set (p := ⟨c8yd.heap.size, 0, none⟩) (Or.inr hobs) (.int .i64 (both (minus (inG t R (upP t R) k k) (rest1 (R k) 4)) (R k 6)).1)).set (p := ⟨c8yd.heap.size, 1, none⟩) (Or.inr hobs) (.int .i64 (both (minus (inG t R (upP t R) k k) (rest1 (R k) 4)) (R k 6)).2))
            rw [← hz_] at hKs14c12c9z13c8yd
            have hSs14c12c9z13c8yd := Nat.le_trans hSc12c9z13c8yd (show c12c9z13c8yd.heap.size ≤ s14c12c9z13c8yd.heap.size by rw [hz_]; simp)
            clear hz_
            refine hK.out _ _ ?_ (fun hHeld => ?_)
            · exact HS.out _ hKs14c12c9z13c8yd
            clear hK Kq
            try simp only [N0]
            refine wpAnyH_done (by kernel_rfl) ?_ _
            go_wp2_with fail
            go_meet
            exact ⟨_, rfl, _, rfl, hC, by rw [hU.out]; exact hOs, hsx, hsg, hVq⟩
          refine AllReadyH.cons (o := _) rfl (fun Kq hK => ?_) AllReadyH.nil
          go_simp
          have hOs := heap_alloc_new yd (.cells #[.int .i64 0, .int .i64 0] 44)
          have hobs := hSyd
          have hKz13yd := Lib.hid (hKyd.out.alloc hSyd (.cells #[.int .i64 0, .int .i64 0] 44))
          have hSz13yd := Nat.le_trans hSyd ((Below.refl yd.heap.size yd).alloc (Nat.le_refl _) (.cells #[.int .i64 0, .int .i64 0] 44)).size
          have hVq : ∀ q, vU.ownBlock = some q → q ≠ yd.heap.size := fun q hq => Nat.ne_of_lt (ownR_lt hC.own hq).2
          have hsg : yd.heap.size ≠ gI := (Nat.ne_of_lt hC.into.lt).symm
          have hsx : x.heap.size ≤ yd.heap.size := hC.kp.size
          have hC := hC.below ((Below.refl yd.heap.size yd).alloc (Nat.le_refl _) (.cells #[.int .i64 0, .int .i64 0] 44))
          generalize (yd.alloc (.cells #[.int .i64 0, .int .i64 0] 44)) = z13yd at *
          refine hK.out _ _ ?_ (fun hHeld => ?_)
          · exact HS.out _ hKz13yd
          clear hK Kq
          try simp only [N0]
          refine wpAnyH_ready (rs := [8]) (by kernel_rfl) (by simp) ?_
          refine AllReadyH.cons (o := _) rfl (fun Kq hK => ?_) AllReadyH.nil
          go_simp
          refine (rest_any (R k) hRk.out _).mono ?_
          rintro e c8z13yd ⟨rfl, hb⟩
          have hKc8z13yd := Lib.hid (hKz13yd.out.call hSz13yd hb)
          have hOs := keepO hb hOs
          have hSc8z13yd := Nat.le_trans hSz13yd hb.size
          have hC := hC.below hb
          clear hb
          try go_simp
          refine hK.out _ _ ?_ (fun hHeld => ?_)
          · exact HS.out _ hKc8z13yd
          clear hK Kq
          try simp only [N0]
          refine wpAnyH_ready (rs := [9]) (by kernel_rfl) (by simp) ?_
          refine AllReadyH.cons (o := _) rfl (fun Kq hK => ?_) AllReadyH.nil
          go_simp
          refine (minus_any (inG t R (upP t R) k k) (rest1 (R k) 4) hs3.out hs4.out _).mono ?_
          rintro e c9c8z13yd ⟨rfl, hb⟩
          have hKc9c8z13yd := Lib.hid (hKc8z13yd.out.call hSc8z13yd hb)
          have hOs := keepO hb hOs
          have hSc9c8z13yd := Nat.le_trans hSc8z13yd hb.size
          have hC := hC.below hb
          clear hb
          try go_simp
          refine hK.out _ _ ?_ (fun hHeld => ?_)
          · exact HS.out _ hKc9c8z13yd
          clear hK Kq
          try simp only [N0]
          refine wpAnyH_ready (rs := [12]) (by kernel_rfl) (by simp) ?_
          refine AllReadyH.cons (o := _) rfl (fun Kq hK => ?_) AllReadyH.nil
          go_simp
          refine (both_any (minus (inG t R (upP t R) k k) (rest1 (R k) 4)) (R k 6) _).mono ?_
          rintro e c12c9c8z13yd ⟨rfl, hb⟩
          have hKc12c9c8z13yd := Lib.hid (hKc9c8z13yd.out.call hSc9c8z13yd hb)
          have hOs := keepO hb hOs
          have hSc12c9c8z13yd := Nat.le_trans hSc9c8z13yd hb.size
          have hC := hC.below hb
          clear hb
          try go_simp
          refine hK.out _ _ ?_ (fun hHeld => ?_)
          · exact HS.out _ hKc12c9c8z13yd
          clear hK Kq
          try simp only [N0]
          refine wpAnyH_ready (rs := [14]) (by kernel_rfl) (by simp) ?_
          refine AllReadyH.cons (o := _) rfl (fun Kq hK => ?_) AllReadyH.nil
          obtain ⟨e0, e1, g0, g1⟩ := two_facts hOs
          go_simp
          clear e0  e1  g0  g1
          obtain ⟨s14c12c9c8z13yd, hz_⟩ : ∃ z, z = ((c12c9c8z13yd.setCell ⟨yd.heap.size, 0, none⟩ (.int .i64 (both (minus (inG t R (upP t R) k k) (rest1 (R k) 4)) (R k 6)).1)).setCell ⟨yd.heap.size, 1, none⟩ (.int .i64 (both (minus (inG t R (upP t R) k k) (rest1 (R k) 4)) (R k 6)).2)) := ⟨_, rfl⟩
          rw [← hz_]
          have hOs := set_two c12c9c8z13yd yd.heap.size _ (.int .i64 (both (minus (inG t R (upP t R) k k) (rest1 (R k) 4)) (R k 6)).1) (.int .i64 (both (minus (inG t R (upP t R) k k) (rest1 (R k) 4)) (R k 6)).2) _ _ hOs
          have hC := hC.far hsx hsg hVq (.int .i64 (both (minus (inG t R (upP t R) k k) (rest1 (R k) 4)) (R k 6)).1) (.int .i64 (both (minus (inG t R (upP t R) k k) (rest1 (R k) 4)) (R k 6)).2)
          rw [← hz_] at hC
          rw [← hz_] at hOs
          have hKs14c12c9c8z13yd := Lib.hid ((hKc12c9c8z13yd.out.set (p := ⟨yd.heap.size, 0, none⟩) (Or.inr hobs) (.int .i64 (both (minus (inG t R (upP t R) k k) (rest1 (R k) 4)) (R k 6)).1)).set (p := ⟨yd.heap.size, 1, none⟩) (Or.inr hobs) (.int .i64 (both (minus (inG t R (upP t R) k k) (rest1 (R k) 4)) (R k 6)).2))
          rw [← hz_] at hKs14c12c9c8z13yd
          have hSs14c12c9c8z13yd := Nat.le_trans hSc12c9c8z13yd (show c12c9c8z13yd.heap.size ≤ s14c12c9c8z13yd.heap.size by rw [hz_]; simp)
          clear hz_
          refine hK.out _ _ ?_ (fun hHeld => ?_)
          · exact HS.out _ hKs14c12c9c8z13yd
          clear hK Kq
          try simp only [N0]
          refine wpAnyH_done (by kernel_rfl) ?_ _
          go_wp2_with fail
          go_meet
          exact ⟨_, rfl, _, rfl, hC, by rw [hU.out]; exact hOs, hsx, hsg, hVq⟩
        case rest =>
          clear hC hR3
          obtain ⟨z5, rfl, sb, rfl, hC, hOs, hsx, hsg, hVq⟩ := ‹∃ wl, wl = _ ∧ _›
          go_wp2_with fail
          go_cut [] from 24 to 91 (fun wx => ∃ wl, wl = wx ∧ ∃ v', CSt x wl mb gI n vp vw (.slice At n ct) (.slice (some ⟨br, or, none⟩) n cr) v' (k + 1) (upP t R) (inG t R (upP t R) k) ∧ wl.heap[sb]? = some (.cells #[.int .i64 (upP t R k).1, .int .i64 (upP t R k).2] 44 (0, 0)))
          case first =>
            obtain ⟨S, hSd⟩ : ∃ S : World → Prop, S = fun _ => True := ⟨_, rfl⟩
            have HST : Hid (∀ z : World, S z) := by intro z; rw [hSd]; trivial
            refine wp_region_held_drew (S := S) (by kernel_rfl) ?_ (fun hHeld => ?_)
            · exact HST.out _
            have hKyd : Hid (Kp z5.heap.size [] z5 z5.drew) := Lib.hid (Kp.refl _ _ _).drew
            have hSyd : z5.heap.size ≤ z5.drew.heap.size := Nat.le_refl _
            have hOs := keepO (Below.refl z5.heap.size z5).drew hOs
            have hC := hC.drew
            generalize z5.drew = yd at *
            refine tY (v := ?_) 0 57 ?_ ?_
            rotate_left
            · intro w hSw; go_simp; (try with_reducible rfl)
            try simp only [N0]
            refine tY (v := ?_) 1 58 ?_ ?_
            rotate_left
            · intro w hSw; go_simp; (try with_reducible rfl)
            try simp only [N0]
            refine tY (v := ?_) 2 59 ?_ ?_
            rotate_left
            · intro w hSw; go_simp; (try with_reducible rfl)
            try simp only [N0]
            refine tY (v := ?_) 3 60 ?_ ?_
            rotate_left
            · intro w hSw; go_simp; (try with_reducible rfl)
            try simp only [N0]
            refine wpAnyH_ready (rs := [4, 5]) (by kernel_rfl) (by simp) ?_
            refine AllReadyH.cons (o := _) rfl (fun Kq hK => ?_) ?_
            · obtain ⟨m1, m2, m3, m4, m5, f4⟩ := hC.cells
              go_simp
              refine hK.out _ _ ?_ (fun hHeld => ?_)
              · exact HST.out _
              clear hK Kq
              try simp only [N0]
              refine wpAnyH_ready (rs := [5]) (by kernel_rfl) (by simp) ?_
              refine AllReadyH.cons (o := _) rfl (fun Kq hK => ?_) AllReadyH.nil
              obtain ⟨o0, o1, -, -⟩ := two_facts hOs
              go_simp
              refine hK.out _ _ ?_ (fun hHeld => ?_)
              · exact HST.out _
              clear hK Kq
              try simp only [N0]
              refine wpAnyH_ready (rs := [6]) (by kernel_rfl) (by simp) ?_
              refine AllReadyH.cons (o := _) rfl (fun Kq hK => ?_) AllReadyH.nil
              go_simp
              have hL := heap_alloc_new yd (.cells #[.int .i64 (upP t R k).1, .int .i64 (upP t R k).2] 44)
              have hbA := (Below.refl yd.heap.size yd).alloc (Nat.le_refl _) (.cells #[.int .i64 (upP t R k).1, .int .i64 (upP t R k).2] 44)
              have hOs := keepO hbA hOs
              have hC := hC.below hbA
              clear hbA
              generalize hnb : yd.heap.size = nb at *
              generalize (yd.alloc (.cells #[.int .i64 (upP t R k).1, .int .i64 (upP t R k).2] 44)) = b6yd at *
              clear hnb
              refine hK.out _ _ ?_ (fun hHeld => ?_)
              · exact HST.out _
              clear hK Kq
              try simp only [N0]
              refine wpAnyH_ready (rs := [7]) (by kernel_rfl) (by simp) ?_
              refine AllReadyH.cons (o := _) rfl (fun Kq hK => ?_) AllReadyH.nil
              refine step_app _ rfl _ _ 106 rfl (gI + 1) 44 j0 _ 2 16 Tryd.underlying106 hj hj0 hj1 hj2 rfl (by decide) vU k (sps (upP t R) k) rfl hC.own b6yd.heap.size (some ⟨nb, 0, none⟩) 1 1 (spc (upP t R k)) rfl (rd_two hL) (spc_one _) (by unfold maxLen; omega) (by omega) hC.into.lt ?_
              intro v' a7b6yd hown hgr hat
              obtain ⟨h4, g4⟩ := hC.grew hgr
              have hOs := (hgr.block sb (Array.getElem?_eq_some_iff.1 hOs).1 (fun e => hVq sb e.symm rfl)).trans hOs
              refine hK.out _ _ ?_ (fun hHeld => ?_)
              · exact HST.out _
              clear hK Kq
              try simp only [N0]
              refine wpAnyH_ready (rs := [8]) (by kernel_rfl) (by simp) ?_
              refine AllReadyH.cons (o := _) rfl (fun Kq hK => ?_) AllReadyH.nil
              go_simp
              refine hK.out _ _ ?_ (fun hHeld => ?_)
              · exact HST.out _
              clear hK Kq
              try simp only [N0]
              refine wpAnyH_ready (rs := [9]) (by kernel_rfl) (by simp) ?_
              refine AllReadyH.cons (o := _) rfl (fun Kq hK => ?_) AllReadyH.nil
              go_simp
              refine hK.out _ _ ?_ (fun hHeld => ?_)
              · exact HST.out _
              clear hK Kq
              try simp only [N0]
              refine wpAnyH_ready (rs := [10]) (by kernel_rfl) (by simp) ?_
              refine AllReadyH.cons (o := _) rfl (fun Kq hK => ?_) AllReadyH.nil
              obtain ⟨A', c', rfl⟩ := ownR_val hown
              go_simp
              clear h4 g4
              have hC' := hC.app (Below.refl _ _) hown hgr
              have hOs := (Below.heap_setCell a7b6yd ⟨mb, 4, none⟩ (.slice A' (k + 1) c') sb (by simp only; omega)).trans hOs
              generalize (a7b6yd.setCell ⟨mb, 4, none⟩ (.slice A' (k + 1) c')) = s10a7b6yd at *
              refine hK.out _ _ ?_ (fun hHeld => ?_)
              · exact HST.out _
              clear hK Kq
              try simp only [N0]
              refine wpAnyH_done (by kernel_rfl) ?_ _
              go_wp2_with fail
              go_meet
              exact ⟨_, rfl, _, hC', hOs⟩
            refine AllReadyH.cons (o := _) rfl (fun Kq hK => ?_) AllReadyH.nil
            obtain ⟨o0, o1, -, -⟩ := two_facts hOs
            go_simp
            refine hK.out _ _ ?_ (fun hHeld => ?_)
            · exact HST.out _
            clear hK Kq
            try simp only [N0]
            refine wpAnyH_ready (rs := [4, 6]) (by kernel_rfl) (by simp) ?_
            refine AllReadyH.cons (o := _) rfl (fun Kq hK => ?_) ?_
            · obtain ⟨m1, m2, m3, m4, m5, f4⟩ := hC.cells
              go_simp
              refine hK.out _ _ ?_ (fun hHeld => ?_)
              · exact HST.out _
              clear hK Kq
              try simp only [N0]
              refine wpAnyH_ready (rs := [6]) (by kernel_rfl) (by simp) ?_
              refine AllReadyH.cons (o := _) rfl (fun Kq hK => ?_) AllReadyH.nil
              go_simp
              have hL := heap_alloc_new yd (.cells #[.int .i64 (upP t R k).1, .int .i64 (upP t R k).2] 44)
              have hbA := (Below.refl yd.heap.size yd).alloc (Nat.le_refl _) (.cells #[.int .i64 (upP t R k).1, .int .i64 (upP t R k).2] 44)
              have hOs := keepO hbA hOs
              have hC := hC.below hbA
              clear hbA
              generalize hnb : yd.heap.size = nb at *
              generalize (yd.alloc (.cells #[.int .i64 (upP t R k).1, .int .i64 (upP t R k).2] 44)) = b6yd at *
              clear hnb
              refine hK.out _ _ ?_ (fun hHeld => ?_)
              · exact HST.out _
              clear hK Kq
              try simp only [N0]
              refine wpAnyH_ready (rs := [7]) (by kernel_rfl) (by simp) ?_
              refine AllReadyH.cons (o := _) rfl (fun Kq hK => ?_) AllReadyH.nil
              refine step_app _ rfl _ _ 106 rfl (gI + 1) 44 j0 _ 2 16 Tryd.underlying106 hj hj0 hj1 hj2 rfl (by decide) vU k (sps (upP t R) k) rfl hC.own b6yd.heap.size (some ⟨nb, 0, none⟩) 1 1 (spc (upP t R k)) rfl (rd_two hL) (spc_one _) (by unfold maxLen; omega) (by omega) hC.into.lt ?_
              intro v' a7b6yd hown hgr hat
              obtain ⟨h4, g4⟩ := hC.grew hgr
              have hOs := (hgr.block sb (Array.getElem?_eq_some_iff.1 hOs).1 (fun e => hVq sb e.symm rfl)).trans hOs
              refine hK.out _ _ ?_ (fun hHeld => ?_)
              · exact HST.out _
              clear hK Kq
              try simp only [N0]
              refine wpAnyH_ready (rs := [8]) (by kernel_rfl) (by simp) ?_
              refine AllReadyH.cons (o := _) rfl (fun Kq hK => ?_) AllReadyH.nil
              go_simp
              refine hK.out _ _ ?_ (fun hHeld => ?_)
              · exact HST.out _
              clear hK Kq
              try simp only [N0]
              refine wpAnyH_ready (rs := [9]) (by kernel_rfl) (by simp) ?_
              refine AllReadyH.cons (o := _) rfl (fun Kq hK => ?_) AllReadyH.nil
              go_simp
              refine hK.out _ _ ?_ (fun hHeld => ?_)
              · exact HST.out _
              clear hK Kq
              try simp only [N0]
              refine wpAnyH_ready (rs := [10]) (by kernel_rfl) (by simp) ?_
              refine AllReadyH.cons (o := _) rfl (fun Kq hK => ?_) AllReadyH.nil
              obtain ⟨A', c', rfl⟩ := ownR_val hown
              go_simp
              clear h4 g4
              have hC' := hC.app (Below.refl _ _) hown hgr
              have hOs := (Below.heap_setCell a7b6yd ⟨mb, 4, none⟩ (.slice A' (k + 1) c') sb (by simp only; omega)).trans hOs
              generalize (a7b6yd.setCell ⟨mb, 4, none⟩ (.slice A' (k + 1) c')) = s10a7b6yd at *
              refine hK.out _ _ ?_ (fun hHeld => ?_)
              · exact HST.out _
              clear hK Kq
              try simp only [N0]
              refine wpAnyH_done (by kernel_rfl) ?_ _
              go_wp2_with fail
              go_meet
              exact ⟨_, rfl, _, hC', hOs⟩
            refine AllReadyH.cons (o := _) rfl (fun Kq hK => ?_) AllReadyH.nil
            go_simp
            have hL := heap_alloc_new yd (.cells #[.int .i64 (upP t R k).1, .int .i64 (upP t R k).2] 44)
            have hbA := (Below.refl yd.heap.size yd).alloc (Nat.le_refl _) (.cells #[.int .i64 (upP t R k).1, .int .i64 (upP t R k).2] 44)
            have hOs := keepO hbA hOs
            have hC := hC.below hbA
            clear hbA
            generalize hnb : yd.heap.size = nb at *
            generalize (yd.alloc (.cells #[.int .i64 (upP t R k).1, .int .i64 (upP t R k).2] 44)) = b6yd at *
            clear hnb
            refine hK.out _ _ ?_ (fun hHeld => ?_)
            · exact HST.out _
            clear hK Kq
            try simp only [N0]
            refine wpAnyH_ready (rs := [4]) (by kernel_rfl) (by simp) ?_
            refine AllReadyH.cons (o := _) rfl (fun Kq hK => ?_) AllReadyH.nil
            obtain ⟨m1, m2, m3, m4, m5, f4⟩ := hC.cells
            go_simp
            refine hK.out _ _ ?_ (fun hHeld => ?_)
            · exact HST.out _
            clear hK Kq
            try simp only [N0]
            refine wpAnyH_ready (rs := [7]) (by kernel_rfl) (by simp) ?_
            refine AllReadyH.cons (o := _) rfl (fun Kq hK => ?_) AllReadyH.nil
            refine step_app _ rfl _ _ 106 rfl (gI + 1) 44 j0 _ 2 16 Tryd.underlying106 hj hj0 hj1 hj2 rfl (by decide) vU k (sps (upP t R) k) rfl hC.own b6yd.heap.size (some ⟨nb, 0, none⟩) 1 1 (spc (upP t R k)) rfl (rd_two hL) (spc_one _) (by unfold maxLen; omega) (by omega) hC.into.lt ?_
            intro v' a7b6yd hown hgr hat
            obtain ⟨h4, g4⟩ := hC.grew hgr
            have hOs := (hgr.block sb (Array.getElem?_eq_some_iff.1 hOs).1 (fun e => hVq sb e.symm rfl)).trans hOs
            refine hK.out _ _ ?_ (fun hHeld => ?_)
            · exact HST.out _
            clear hK Kq
            try simp only [N0]
            refine wpAnyH_ready (rs := [8]) (by kernel_rfl) (by simp) ?_
            refine AllReadyH.cons (o := _) rfl (fun Kq hK => ?_) AllReadyH.nil
            go_simp
            refine hK.out _ _ ?_ (fun hHeld => ?_)
            · exact HST.out _
            clear hK Kq
            try simp only [N0]
            refine wpAnyH_ready (rs := [9]) (by kernel_rfl) (by simp) ?_
            refine AllReadyH.cons (o := _) rfl (fun Kq hK => ?_) AllReadyH.nil
            go_simp
            refine hK.out _ _ ?_ (fun hHeld => ?_)
            · exact HST.out _
            clear hK Kq
            try simp only [N0]
            refine wpAnyH_ready (rs := [10]) (by kernel_rfl) (by simp) ?_
            refine AllReadyH.cons (o := _) rfl (fun Kq hK => ?_) AllReadyH.nil
            obtain ⟨A', c', rfl⟩ := ownR_val hown
            go_simp
            clear h4 g4
            have hC' := hC.app (Below.refl _ _) hown hgr
            have hOs := (Below.heap_setCell a7b6yd ⟨mb, 4, none⟩ (.slice A' (k + 1) c') sb (by simp only; omega)).trans hOs
            generalize (a7b6yd.setCell ⟨mb, 4, none⟩ (.slice A' (k + 1) c')) = s10a7b6yd at *
            refine hK.out _ _ ?_ (fun hHeld => ?_)
            · exact HST.out _
            clear hK Kq
            try simp only [N0]
            refine wpAnyH_done (by kernel_rfl) ?_ _
            go_wp2_with fail
            go_meet
            exact ⟨_, rfl, _, hC', hOs⟩
          case rest =>
            clear hC hOs hVq
            obtain ⟨z6, rfl, v', hC, hOs⟩ := ‹∃ wl, wl = _ ∧ _›
            obtain ⟨m1, m2, m3, m4, m5, f4⟩ := hC.cells
            obtain ⟨bt, ot, rfl, hbt, cto⟩ := (hrt.out.keep hC.kp (Nat.le_refl _) (by simp)).1.to_ hlt2
            cases htk : t k with
            | none =>
              have hv : toV t k = -1 := by unfold toV; rw [htk]
              rw [hv] at cto
              have hX := Lib.hid (hC.congr (fun j _ => inF_none htk j))
              clear hC hOs hv htk
              go_wp2
              go_roundw
              case rel => exact ⟨k + 1, by omega, by go_num, _, hX⟩
              case measure => simp [intOf]; omega
            | some q =>
              obtain ⟨hkq, hqn⟩ := hF'.out k q hlt2 htk
              have hv : toV t k = q := by unfold toV; rw [htk]
              rw [hv] at cto
              have htk := Lib.hid htk
              have hqi : (q : Int) < (n : Int) := by omega
              have q0 : (0 : Int) ≤ (q : Int) := by omega
              have hs5 := Lib.hid (inG_sml (t := t) (j := q) hR'.out hn hqn hlt2)
              have hs6 : Hid (Sml (upP t R k)) := by have := up_smu (t := t) hR'.out hn k hlt2; show Sml _; unfold Sml; omega
              have hgx := hC.g
              clear hv
              go_wp2_with fail
              obtain ⟨o0, o1, -, -⟩ := two_facts hOs
              have hrz : sb < z6.heap.size := (Array.getElem?_eq_some_iff.1 hOs).1
              have hmz : mb < z6.heap.size := by have := hC.kp.size; omega
              have HQ := Lib.hid (fun w' (hz : Hid (Kp z6.heap.size [gI] z6 w')) => (⟨(hz.out.cell (by simp only; omega) (by simp; try omega)).trans m5, (hz.out.cell (by simp only; omega) (by simp; try omega)).trans o0, (hz.out.cell (by simp only; omega) (by simp; try omega)).trans o1⟩ : w'.cell? ⟨mb, 5, none⟩ = some (.slice (some ⟨gI, 0, none⟩) n n) ∧ w'.cell? ⟨sb, 0, none⟩ = some (.int .i64 (upP t R k).1) ∧ w'.cell? ⟨sb, 1, none⟩ = some (.int .i64 (upP t R k).2)))
              obtain ⟨S, hSd⟩ : ∃ S : World → Prop, S = fun w' => (w'.cell? ⟨mb, 5, none⟩ = some (.slice (some ⟨gI, 0, none⟩) n n) ∧ w'.cell? ⟨sb, 0, none⟩ = some (.int .i64 (upP t R k).1) ∧ w'.cell? ⟨sb, 1, none⟩ = some (.int .i64 (upP t R k).2)) ∧ Hid (Kp z6.heap.size [gI] z6 w') := ⟨_, rfl⟩
              have HS := Lib.hid (fun w' (hz : Hid (Kp z6.heap.size [gI] z6 w')) => (by rw [hSd]; exact ⟨HQ.out w' hz, hz⟩ : S w'))
              clear m1 m2 m3 m4 m5 f4 o0 o1 hOs
              refine wp_region_held_drew (S := S) (by kernel_rfl) ?_ (fun hHeld => ?_)
              · exact HS.out _ (Lib.hid (Kp.refl _ _ _).drew)
              have hKyd : Hid (Kp z6.heap.size [gI] z6 z6.drew) := Lib.hid (Kp.refl _ _ _).drew
              have hSyd : z6.heap.size ≤ z6.drew.heap.size := Nat.le_refl _
              have hC := hC.drew
              generalize z6.drew = yd at *
              refine tY (v := ?_) 0 76 ?_ ?_
              rotate_left
              · intro w hSw; rw [hSd] at hSw; obtain ⟨⟨qm, q0, q1⟩, -⟩ := hSw; go_simp; (try with_reducible rfl)
              try simp only [N0]
              refine tY (v := ?_) 1 77 ?_ ?_
              rotate_left
              · intro w hSw; rw [hSd] at hSw; obtain ⟨⟨qm, q0, q1⟩, -⟩ := hSw; go_simp; (try with_reducible rfl)
              try simp only [N0]
              refine tY (v := ?_) 2 78 ?_ ?_
              rotate_left
              · intro w hSw; rw [hSd] at hSw; obtain ⟨⟨qm, q0, q1⟩, -⟩ := hSw; go_simp; (try with_reducible rfl)
              try simp only [N0]
              refine tY (v := ?_) 3 79 ?_ ?_
              rotate_left
              · intro w hSw; rw [hSd] at hSw; obtain ⟨⟨qm, q0, q1⟩, -⟩ := hSw; go_simp; (try with_reducible rfl)
              try simp only [N0]
              refine tY (v := ?_) 4 80 ?_ ?_
              rotate_left
              · intro w hSw; rw [hSd] at hSw; obtain ⟨⟨qm, q0, q1⟩, -⟩ := hSw; go_simp; (try with_reducible rfl)
              try simp only [N0]
              refine tY (v := ?_) 5 81 ?_ ?_
              rotate_left
              · intro w hSw; rw [hSd] at hSw; obtain ⟨⟨qm, q0, q1⟩, -⟩ := hSw; go_simp; (try with_reducible rfl)
              try simp only [N0]
              refine tY (v := ?_) 6 82 ?_ ?_
              rotate_left
              · intro w hSw; rw [hSd] at hSw; obtain ⟨⟨qm, q0, q1⟩, -⟩ := hSw; go_simp; (try with_reducible rfl)
              try simp only [N0]
              refine tY (v := ?_) 7 83 ?_ ?_
              rotate_left
              · intro w hSw; rw [hSd] at hSw; obtain ⟨⟨qm, q0, q1⟩, -⟩ := hSw; go_simp; (try with_reducible rfl)
              try simp only [N0]
              refine tY (v := ?_) 8 84 ?_ ?_
              rotate_left
              · intro w hSw; rw [hSd] at hSw; obtain ⟨⟨qm, q0, q1⟩, -⟩ := hSw; go_simp; (try with_reducible rfl)
              try simp only [N0]
              refine tY (v := ?_) 9 85 ?_ ?_
              rotate_left
              · intro w hSw; rw [hSd] at hSw; obtain ⟨⟨qm, q0, q1⟩, -⟩ := hSw; go_simp; (try with_reducible rfl)
              try simp only [N0]
              refine tY (v := ?_) 10 86 ?_ ?_
              rotate_left
              · intro w hSw; rw [hSd] at hSw; obtain ⟨⟨qm, q0, q1⟩, -⟩ := hSw; go_simp; (try with_reducible rfl)
              try simp only [N0]
              refine tY (v := ?_) 12 88 ?_ ?_
              rotate_left
              · intro w hSw; rw [hSd] at hSw; obtain ⟨⟨qm, q0, q1⟩, -⟩ := hSw; go_simp; (try with_reducible rfl)
              try simp only [N0]
              refine wpAnyH_ready (rs := [11]) (by kernel_rfl) (by simp) ?_
              refine AllReadyH.cons (o := _) rfl (fun Kq hK => ?_) AllReadyH.nil
              obtain ⟨i0', i1', -, -⟩ := hC.at_ hqn
              go_simp
              refine hK.out _ _ ?_ (fun hHeld => ?_)
              · exact HS.out _ hKyd
              clear hK Kq
              try simp only [N0]
              refine wpAnyH_ready (rs := [13]) (by kernel_rfl) (by simp) ?_
              refine AllReadyH.cons (o := _) rfl (fun Kq hK => ?_) AllReadyH.nil
              go_simp
              refine (plus_any (inG t R (upP t R) k q) (upP t R k) hs5.out hs6.out _).mono ?_
              rintro e c13yd ⟨rfl, hb⟩
              have hKc13yd := Lib.hid (hKyd.out.call hSyd hb)
              have hSc13yd := Nat.le_trans hSyd hb.size
              have hC := hC.below hb
              clear hb
              try go_simp
              refine hK.out _ _ ?_ (fun hHeld => ?_)
              · exact HS.out _ hKc13yd
              clear hK Kq
              try simp only [N0]
              refine wpAnyH_ready (rs := [14]) (by kernel_rfl) (by simp) ?_
              refine AllReadyH.cons (o := _) rfl (fun Kq hK => ?_) AllReadyH.nil
              go_simp
              refine hK.out _ _ ?_ (fun hHeld => ?_)
              · exact HS.out _ hKc13yd
              clear hK Kq
              try simp only [N0]
              refine wpAnyH_ready (rs := [15]) (by kernel_rfl) (by simp) ?_
              refine AllReadyH.cons (o := _) rfl (fun Kq hK => ?_) AllReadyH.nil
              obtain ⟨i0', i1', g0', g1'⟩ := hC.at_ hqn
              go_simp
              obtain ⟨s15c13yd, hz_⟩ : ∃ z, z = ((c13yd.setCell ⟨gI, q * 2, none⟩ (.int .i64 (plus (inG t R (upP t R) k q) (upP t R k)).1)).setCell ⟨gI, q * 2 + 1, none⟩ (.int .i64 (plus (inG t R (upP t R) k q) (upP t R k)).2)) := ⟨_, rfl⟩
              rw [← hz_]
              have hC := hC.put q (plus (inG t R (upP t R) k q) (upP t R k))
              rw [← hz_] at hC
              have hKs15c13yd := Lib.hid ((hKc13yd.out.set (p := ⟨gI, q * 2, none⟩) (Or.inl (by simp)) (.int .i64 (plus (inG t R (upP t R) k q) (upP t R k)).1)).set (p := ⟨gI, q * 2 + 1, none⟩) (Or.inl (by simp)) (.int .i64 (plus (inG t R (upP t R) k q) (upP t R k)).2))
              rw [← hz_] at hKs15c13yd
              have hSs15c13yd := Nat.le_trans hSc13yd (show c13yd.heap.size ≤ s15c13yd.heap.size by rw [hz_]; simp)
              clear hz_
              refine hK.out _ _ ?_ (fun hHeld => ?_)
              · exact HS.out _ hKs15c13yd
              clear hK Kq
              try simp only [N0]
              refine wpAnyH_done (by kernel_rfl) ?_ _
              have hX := Lib.hid (hC.congr (fun j _ => inF_some htk.out hkq j))
              clear HS hKs15c13yd HQ hC
              go_wp2
              go_roundw
              case rel => exact ⟨k + 1, by omega, by go_num, _, hX⟩
              case measure => simp [intOf]; omega
      · obtain rfl : n = k := by omega
        go_wp2
        exact bodyPost_end (results_none rfl _ _ _) rfl ⟨⟨_, rfl⟩, _, _, hCr.out.congr (fun j hj => (inF_n hj).symm)⟩
end Go.Proofs.YtoakeclpakjbiaaDoor
