/-
  The ratio of a train, step by step.
-/
import Derived.Test.YtjmegnbjacndpaaProd
namespace Go.Proofs.Ytjmegnbjacndpaa
open Go.RowKit Go.Maps
theorem heap_lt_alloc (w : World) (o : Obj) (b : Nat) (h : b < w.heap.size) : (w.alloc o).heap[b]? = w.heap[b]? := (MapKept.heap_alloc w o).2 b h
/-- The blocks of a call of ratio: the wheels, the result, the ratio so far. -/
structure RF (w : World) (A : Option Addr) (n c : Nat) (r s : Int) (x : World) : Prop where
  b0 : x.heap[w.heap.size]? = some (.cells #[.slice A n c] 50 (0, 0))
  b1 : x.heap[w.heap.size + 1]? = some (.cells #[.int .i64 0, .int .i64 0] 26 (0, 0))
  b2 : x.heap[w.heap.size + 1 + 1]? = some (.cells #[.int .i64 r, .int .i64 s] 26 (0, 0))
  bel : Below w.heap.size w x
  size : w.heap.size + 3 ≤ x.heap.size
section
variable {w x y : World} {A : Option Addr} {n c : Nat} {r s : Int}
theorem RF.alloc (h : RF w A n c r s x) (o : Obj) : RF w A n c r s (x.alloc o) :=
  have hz := h.size
  ⟨(heap_lt_alloc _ _ _ (by omega)).trans h.b0, (heap_lt_alloc _ _ _ (by omega)).trans h.b1, (heap_lt_alloc _ _ _ (by omega)).trans h.b2, h.bel.alloc (by omega) _, by simp; omega⟩
theorem RF.below (h : RF w A n c r s x) (hb : Below x.heap.size x y) : RF w A n c r s y :=
  have hz := h.size
  ⟨(hb.block _ (by omega)).trans h.b0, (hb.block _ (by omega)).trans h.b1, (hb.block _ (by omega)).trans h.b2, below_via h.bel (by omega) hb, Nat.le_trans hz hb.size⟩
theorem RF.c0 (h : RF w A n c r s x) : x.cell? ⟨w.heap.size, 0, none⟩ = some (.slice A n c) := by simp [World.cell?, h.b0]
theorem RF.c1 (h : RF w A n c r s x) (k : Nat) (hk : k < 2) : x.cell? ⟨w.heap.size + 1, k, none⟩ = some (.int .i64 0) := by
  obtain rfl | rfl : k = 0 ∨ k = 1 := by omega
  · simp [World.cell?, h.b1]
  · simp [World.cell?, h.b1]
theorem RF.f1 (h : RF w A n c r s x) (k : Nat) : x.frozen? ⟨w.heap.size + 1, k, none⟩ = false := by simp [World.frozen?, h.b1]
theorem RF.c20 (h : RF w A n c r s x) : x.cell? ⟨w.heap.size + 1 + 1, 0, none⟩ = some (.int .i64 r) := by simp [World.cell?, h.b2]
theorem RF.c21 (h : RF w A n c r s x) : x.cell? ⟨w.heap.size + 1 + 1, 1, none⟩ = some (.int .i64 s) := by simp [World.cell?, h.b2]
theorem RF.f2 (h : RF w A n c r s x) (k : Nat) : x.frozen? ⟨w.heap.size + 1 + 1, k, none⟩ = false := by simp [World.frozen?, h.b2]
theorem RF.store (h : RF w A n c r s x) (r' s' : Int) : RF w A n c r' s' ((x.setCell ⟨w.heap.size + 1 + 1, 0, none⟩ (.int .i64 r')).setCell ⟨w.heap.size + 1 + 1, 1, none⟩ (.int .i64 s')) := by
  have hz := h.size
  refine ⟨?_, ?_, ?_, (h.bel.setCell (by simp; omega) _).setCell (by simp; omega) _, by simpa using hz⟩
  · have hne : ¬ (w.heap.size + 1 + 1 = w.heap.size) := by omega
    simp [World.setCell, Array.getElem?_modify, h.b0, hne]
  · simp [World.setCell, Array.getElem?_modify, h.b1]
  · simp [World.setCell, Array.getElem?_modify, h.b2]
end
set_option maxRecDepth 100000 in
theorem ratio_any (A A' : Option Addr) (n c m c' : Nat) (hn : n ≤ 20) (ts : List Int) (l : List (Int × Int)) (hO : Okay n ts l) (w : World) (hT : Reads w w.heap.size 1 A n (ints ts)) (hR : Reads w w.heap.size 2 A' m (prs l)) :
    Calls Try.prog 19 #[.agg #[.slice A n c], .slice A' m c'] w fun e w' =>
      e = .returned (.agg #[.int .i64 (redu (numT ts l) (denT ts l)).1, .int .i64 (redu (numT ts l) (denT ts l)).2]) ∧ Below w.heap.size w w' := by
  have hl : l.length = m := hR.pr_len
  have hl3 : m ≤ 3 := hl ▸ hO.len
  have h0 : RF w A n c 1 1 (((w.alloc (.cells #[.slice A n c] 50)).alloc (.cells #[.int .i64 0, .int .i64 0] 26)).alloc (.cells #[.int .i64 1, .int .i64 1] 26)) :=
    ⟨by rw [heap_lt_alloc _ _ _ (by simp; omega), heap_lt_alloc _ _ _ (by simp)]; exact (MapKept.heap_alloc w _).1, by rw [heap_lt_alloc _ _ _ (by simp)]; simpa using (MapKept.heap_alloc (w.alloc (.cells #[.slice A n c] 50)) _).1,
     by simpa using (MapKept.heap_alloc ((w.alloc (.cells #[.slice A n c] 50)).alloc (.cells #[.int .i64 0, .int .i64 0] 26)) _).1, (((Below.refl _ _).alloc (Nat.le_refl _) _).alloc (by simp) _).alloc (by simp; omega) _, by simp⟩
  go_enter Try.func19, Try.ntmps19
  go_wp2
  go_loopw [12] (fun i wr => ∃ k : Nat, k ≤ m ∧ i = .int .i64 k ∧ Hid (RF w A n c (redu (numT ts (l.take k)) (denT ts (l.take k))).1 (redu (numT ts (l.take k)) (denT ts (l.take k))).2 wr)) (fun i _ => m - (intOf i).toNat)
  case atStart =>
    have e : redu (numT ts (l.take 0)) (denT ts (l.take 0)) = (1, 1) := by rw [List.take_zero]; unfold numT denT; decide
    refine ⟨0, Nat.zero_le _, rfl, ?_⟩
    rw [e]
    exact Lib.hid h0
  case round =>
    obtain ⟨k, hk, rfl, hG⟩ := hrel
    clear h0
    by_cases hlt : k < m
    · obtain ⟨p, o, D, V, rfl, hp, hx, hcD, hcV⟩ := hR.pr hlt
      have hcD' := (hG.out.bel.cell hp).trans hcD
      have hcV' := (hG.out.bel.cell (p := ⟨p, o + k * 2 + 1, none⟩) hp).trans hcV
      obtain ⟨⟨d1, d2⟩, v1, v2⟩ := hO.one k D V hx
      obtain ⟨t1, t2⟩ := hO.teeth D d1 d2
      obtain ⟨t3, t4⟩ := hO.teeth V v1 v2
      obtain ⟨d, rfl⟩ : ∃ d : Nat, D = (d : Int) + 1 := ⟨(D - 1).toNat, by omega⟩
      obtain ⟨v, rfl⟩ : ∃ v : Nat, V = (v : Int) + 1 := ⟨(V - 1).toNat, by omega⟩
      obtain ⟨⟨n1, n2⟩, n3, n4⟩ := hO.bound k (by omega)
      have hk120 : (120 : Int) ^ k ≤ 14400 := by
        obtain rfl | rfl | rfl : k = 0 ∨ k = 1 ∨ k = 2 := by omega
        all_goals decide
      obtain ⟨⟨r1, r2⟩, s1, s2⟩ := redu_bound _ _ n1 n3
      have hstep := redu_step (numT ts (l.take k)) (denT ts (l.take k)) (tAt ts ((d : Int) + 1)) (tAt ts ((v : Int) + 1)) n1
      rw [← numT_take ts l k _ _ hx, ← denT_take ts l k _ _ hx] at hstep
      have hTx := (hT.below hG.out.bel).more (Nat.le_trans (Nat.le_add_right _ 3) hG.out.size)
      generalize hr : (redu (numT ts (l.take k)) (denT ts (l.take k))).1 = r at *
      generalize hs : (redu (numT ts (l.take k)) (denT ts (l.take k))).2 = s at *
      have x1 : r * tAt ts ((d : Int) + 1) ≤ 14400 * 120 := Int.mul_le_mul (by omega) t2 (by omega) (by omega)
      have x2 : s * tAt ts ((v : Int) + 1) ≤ 14400 * 120 := Int.mul_le_mul (by omega) t4 (by omega) (by omega)
      have x3 : 1 ≤ r * tAt ts ((d : Int) + 1) := by have := Int.mul_le_mul r1 t1 (by decide) (by omega); simpa using this
      have x4 : 1 ≤ s * tAt ts ((v : Int) + 1) := by have := Int.mul_le_mul s1 t3 (by decide) (by omega); simpa using this
      have H1 := Lib.hid (teeth_any A n c d v hn ts (by omega) (by omega) (wr.alloc (.cells #[.int .i64 ((d : Int) + 1), .int .i64 ((v : Int) + 1)] 72)) ((hTx.alloc (Nat.le_refl _) _).more (by simp)))
      have H2 := fun w => Lib.hid (lowest_any _ _ (Int.le_trans (by decide) x3) (Int.le_trans x1 (by decide)) x4 (Int.le_trans x2 (by decide)) w)
      rw [hstep] at H2
      generalize hu : tAt ts ((d : Int) + 1) = u at *
      generalize hv : tAt ts ((v : Int) + 1) = z at *
      have y1 : wrap64 (r * u) = r * u := w64 (by omega) (by omega)
      have y2 : wrap64 (s * z) = s * z := w64 (by omega) (by omega)
      have hG1 := Lib.hid (hG.out.alloc (.cells #[.int .i64 ((d : Int) + 1), .int .i64 ((v : Int) + 1)] 72))
      have hGc := hG1.out.c0
      clear hO n1 n2 n3 n4 hk120 r1 r2 s1 s2 hstep hr hs t1 t2 t3 t4 x1 x2 x3 x4 hu hv hTx hT hR hcD hcV hG
      go_wp2_with fail
      refine H1.out.mono ?_
      rintro e w1 ⟨rfl, hb1⟩
      have hG2 := Lib.hid (hG1.out.below hb1)
      have hG3 := Lib.hid (hG2.out.alloc (.cells #[.int .i64 u, .int .i64 z] 86))
      have q1 := hG3.out.c20
      have q2 := hG3.out.c21
      clear hb1 H1 hGc hcD' hcV'
      go_wp2_with fail
      refine (H2 _).out.mono ?_
      rintro e w2 ⟨rfl, hb2⟩
      have hG4 := Lib.hid (hG3.out.below hb2)
      have hG5 := Lib.hid (hG4.out.store (redu (numT ts (l.take (k + 1))) (denT ts (l.take (k + 1)))).1 (redu (numT ts (l.take (k + 1))) (denT ts (l.take (k + 1)))).2)
      replace q1 := hG4.out.c20
      replace q2 := hG4.out.c21
      have f1 := hG4.out.f2 0
      have f2 := hG4.out.f2 1
      clear hb2 H2
      go_wp2
      go_roundw
      case rel => exact ⟨k + 1, by omega, by go_num, hG5⟩
      case measure => simp [intOf]; omega
    · have hkm : k = m := by omega
      have e : l.take k = l := List.take_of_length_le (by omega)
      rw [e] at hG
      have q1 := hG.out.c20
      have q2 := hG.out.c21
      have q3 := hG.out.c1 0 (by omega)
      have q4 := hG.out.c1 1 (by omega)
      have f1 := hG.out.f1 0
      have f2 := hG.out.f1 1
      generalize hr : (redu (numT ts l) (denT ts l)).1 = r at *
      generalize hs : (redu (numT ts l) (denT ts l)).2 = s at *
      replace hr := Lib.hid hr
      replace hs := Lib.hid hs
      go_wp2
      obtain ⟨g0, g1⟩ := two_cells wr (w.heap.size + 1) (.int .i64 r) (.int .i64 s) _ _ q3 q4
      refine bodyPost_ret (v := .agg #[.int .i64 r, .int .i64 s]) (by simp [results, Try.results19, go_sem, g0, g1]) rfl ⟨by rw [hr.out, hs.out], (hG.out.bel.setCell (by simp) _).setCell (by simp) _⟩
end Go.Proofs.Ytjmegnbjacndpaa
