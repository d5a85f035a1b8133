/-
  The reference's ratio of a train, or the error.
-/
import Derived.Test.YtlmmjaolmmcklaaRefR
namespace Go.Proofs.Ytlmmjaolmmcklaa
open Go.RowKit Go.Maps

/-- The blocks of a call of Ratio: the wheels, the result. -/
structure PF (w : World) (A : Option Addr) (n c : Nat) (x : World) : Prop where
  b0 : x.heap[w.heap.size]? = some (.cells #[.slice A n c] 35 (0, 0))
  b1 : x.heap[w.heap.size + 1]? = some (.cells #[.int .i64 0, .int .i64 0] 40 (0, 0))
  bel : Below w.heap.size w x
  size : w.heap.size + 2 ≤ x.heap.size
section
variable {w x y : World} {A : Option Addr} {n c : Nat}
theorem PF.below (h : PF w A n c x) (hb : Below x.heap.size x y) : PF w A n c y :=
  have hz := h.size
  ⟨(hb.block _ (by omega)).trans h.b0, (hb.block _ (by omega)).trans h.b1, below_via h.bel (by omega) hb, Nat.le_trans hz hb.size⟩
theorem PF.c0 (h : PF w A n c x) : x.cell? ⟨w.heap.size, 0, none⟩ = some (.slice A n c) := by simp [World.cell?, h.b0]
theorem PF.c10 (h : PF w A n c x) : x.cell? ⟨w.heap.size + 1, 0, none⟩ = some (.int .i64 0) := by simp [World.cell?, h.b1]
theorem PF.c11 (h : PF w A n c x) : x.cell? ⟨w.heap.size + 1, 1, none⟩ = some (.int .i64 0) := by simp [World.cell?, h.b1]
theorem PF.f1 (h : PF w A n c x) (k : Nat) : x.frozen? ⟨w.heap.size + 1, k, none⟩ = false := by simp [World.frozen?, h.b1]
end
theorem PF.new (w : World) (A : Option Addr) (n c : Nat) : PF w A n c ((w.alloc (.cells #[.slice A n c] 35)).alloc (.cells #[.int .i64 0, .int .i64 0] 40)) :=
  have h := blk2 (Below.refl ((w.alloc (.cells #[.slice A n c] 35)).alloc (.cells #[.int .i64 0, .int .i64 0] 40)).heap.size ((w.alloc (.cells #[.slice A n c] 35)).alloc (.cells #[.int .i64 0, .int .i64 0] 40)))
  ⟨h.1, h.2, ((Below.refl w.heap.size w).alloc (Nat.le_refl _) _).alloc (by simp) _, by simp⟩

set_option maxRecDepth 100000 in
theorem RRatio_100 (A A' : Option Addr) (n c m c' : Nat) (hn : n ≤ 20) (ts : List Int) (w : World) (hT : Reads w w.heap.size 1 A n (ints ts)) (h : okW n ts = false) :
    Calls Try.prog 14 #[.agg #[.slice A n c], .slice A' m c'] w fun e w' => e = .returned (.tuple #[.agg #[.int .i64 0, .int .i64 0], .int .i64 100]) ∧ Below w.heap.size w w' := by
  have G := Lib.hid (PF.new w A n c)
  have H := Lib.hid (Wheels_any A n c ts hn _ ((hT.below G.out.bel).more G.out.bel.size))
  rw [h] at H
  clear h
  go_enter Try.func14, Try.ntmps14
  go_wp2_with fail
  refine H.out.mono ?_
  rintro e w1 ⟨rfl, hb1⟩
  have G1 := Lib.hid (G.out.below hb1)
  have c10 := G1.out.c10
  have c11 := G1.out.c11
  have f0 := G1.out.f1 0
  have f1 := G1.out.f1 1
  clear hb1 H G
  go_wp2
  obtain ⟨g0, g1⟩ := two_cells w1 (w.heap.size + 1) (.int .i64 0) (.int .i64 0) _ _ c10 c11
  exact bodyPost_ret (v := .tuple #[.agg #[.int .i64 0, .int .i64 0], .int .i64 100]) (by simp [results, Try.results14, go_sem, g0, g1]) rfl ⟨rfl, (G1.out.bel.setCell (by simp) _).setCell (by simp) _⟩

set_option maxRecDepth 100000 in
theorem RRatio_101 (A A' : Option Addr) (n c m c' : Nat) (hn : n ≤ 20) (hm : m ≤ 20) (ts : List Int) (l : List (Int × Int)) (w : World) (hT : Reads w w.heap.size 1 A n (ints ts)) (hR : Reads w w.heap.size 2 A' m (prs l)) (h : okW n ts = true) (h' : validB n l = false) :
    Calls Try.prog 14 #[.agg #[.slice A n c], .slice A' m c'] w fun e w' => e = .returned (.tuple #[.agg #[.int .i64 0, .int .i64 0], .int .i64 101]) ∧ Below w.heap.size w w' := by
  have h8 : n ≤ 8 := by unfold okW at h; simp at h; exact h.1
  have G := Lib.hid (PF.new w A n c)
  have H := Lib.hid (Wheels_any A n c ts hn _ ((hT.below G.out.bel).more G.out.bel.size))
  rw [h] at H
  go_enter Try.func14, Try.ntmps14
  go_wp2_with fail
  refine H.out.mono ?_
  rintro e w1 ⟨rfl, hb1⟩
  have G1 := Lib.hid (G.out.below hb1)
  have c0 := G1.out.c0
  have H2 := Lib.hid (Train_any A A' n c m c' h8 hm l w1 ((hR.below G1.out.bel).more G1.out.bel.size))
  rw [h'] at H2
  clear hb1 H G h h'
  go_wp2_with fail
  refine H2.out.mono ?_
  rintro e w2 ⟨rfl, hb2⟩
  have G2 := Lib.hid (G1.out.below hb2)
  have c10 := G2.out.c10
  have c11 := G2.out.c11
  have f0 := G2.out.f1 0
  have f1 := G2.out.f1 1
  clear hb2 H2 G1 c0
  go_wp2
  obtain ⟨g0, g1⟩ := two_cells w2 (w.heap.size + 1) (.int .i64 0) (.int .i64 0) _ _ c10 c11
  exact bodyPost_ret (v := .tuple #[.agg #[.int .i64 0, .int .i64 0], .int .i64 101]) (by simp [results, Try.results14, go_sem, g0, g1]) rfl ⟨rfl, (G2.out.bel.setCell (by simp) _).setCell (by simp) _⟩

set_option maxRecDepth 100000 in
theorem RRatio_ok (A A' : Option Addr) (n c m c' : Nat) (hn : n ≤ 20) (hm : m ≤ 20) (ts : List Int) (l : List (Int × Int)) (hO : Okay n ts l) (w : World) (hT : Reads w w.heap.size 1 A n (ints ts)) (hR : Reads w w.heap.size 2 A' m (prs l)) (h : okW n ts = true) (h' : validB n l = true) :
    Calls Try.prog 14 #[.agg #[.slice A n c], .slice A' m c'] w fun e w' => e = .returned (.tuple #[.agg #[.int .i64 (redu (numT ts l) (denT ts l)).1, .int .i64 (redu (numT ts l) (denT ts l)).2], .int .i64 0]) ∧ Below w.heap.size w w' := by
  have h8 : n ≤ 8 := by unfold okW at h; simp at h; exact h.1
  have G := Lib.hid (PF.new w A n c)
  have H := Lib.hid (Wheels_any A n c ts hn _ ((hT.below G.out.bel).more G.out.bel.size))
  rw [h] at H
  go_enter Try.func14, Try.ntmps14
  go_wp2_with fail
  refine H.out.mono ?_
  rintro e w1 ⟨rfl, hb1⟩
  have G1 := Lib.hid (G.out.below hb1)
  have c0 := G1.out.c0
  have H2 := Lib.hid (Train_any A A' n c m c' h8 hm l w1 ((hR.below G1.out.bel).more G1.out.bel.size))
  rw [h'] at H2
  clear hb1 H G h h'
  go_wp2_with fail
  refine H2.out.mono ?_
  rintro e w2 ⟨rfl, hb2⟩
  have G2 := Lib.hid (G1.out.below hb2)
  replace c0 := G2.out.c0
  have H3 := Lib.hid (rratio_any A A' n c m c' hn ts l hO w2 ((hT.below G2.out.bel).more G2.out.bel.size) ((hR.below G2.out.bel).more G2.out.bel.size))
  clear hb2 H2 G1 hO
  generalize hr : (redu (numT ts l) (denT ts l)).1 = r at *
  generalize hs : (redu (numT ts l) (denT ts l)).2 = s at *
  replace hr := Lib.hid hr
  replace hs := Lib.hid hs
  go_wp2_with fail
  refine H3.out.mono ?_
  rintro e w3 ⟨rfl, hb3⟩
  have G3 := Lib.hid (G2.out.below hb3)
  have c10 := G3.out.c10
  have c11 := G3.out.c11
  have f0 := G3.out.f1 0
  have f1 := G3.out.f1 1
  clear hb3 H3 G2 c0
  go_wp2
  obtain ⟨g0, g1⟩ := two_cells w3 (w.heap.size + 1) (.int .i64 r) (.int .i64 s) _ _ c10 c11
  exact bodyPost_ret (v := .tuple #[.agg #[.int .i64 r, .int .i64 s], .int .i64 0]) (by simp [results, Try.results14, go_sem, g0, g1]) rfl ⟨by rw [hr.out, hs.out], (G3.out.bel.setCell (by simp) _).setCell (by simp) _⟩
end Go.Proofs.Ytlmmjaolmmcklaa
