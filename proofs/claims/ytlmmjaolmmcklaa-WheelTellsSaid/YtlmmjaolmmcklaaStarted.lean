/-
  Wheels that are checked, and wheels at work.
-/
import Derived.Test.YtlmmjaolmmcklaaRatioP
namespace Go.Proofs.Ytlmmjaolmmcklaa
open Go.RowKit Go.Maps

/-- Whether wheels are valid. -/
def okW (n : Nat) (ts : List Int) : Bool := decide (n ≤ 8) && inB 6 120 ts

set_option maxRecDepth 100000 in
theorem check_ok (A : Option Addr) (n c : Nat) (ts : List Int) (hn : n ≤ 20) (w : World) (hT : Reads w w.heap.size 1 A n (ints ts)) (h : okW n ts = true) :
    Calls Try.prog 19 #[.agg #[.slice A n c]] w fun e w' => e = .returned (.int .i64 0) ∧ Below w.heap.size w w' := by
  unfold okW at h
  simp only [Bool.and_eq_true, decide_eq_true_eq] at h
  obtain ⟨h8, hi⟩ := h
  have H := Lib.hid (in_any 6 120 A n c ts (w.alloc (.cells #[.slice A n c] 35)) (by unfold maxLen; omega) ((hT.alloc (Nat.le_refl _) _).more (by simp)))
  rw [hi] at H
  have hB := Lib.hid ((Below.refl w.heap.size w).alloc (Nat.le_refl _) (.cells #[.slice A n c] 35))
  go_enter Try.func19, Try.ntmps19
  go_wp2_with fail
  refine H.out.mono ?_
  rintro e w1 ⟨rfl, hb1⟩
  go_wp2
  go_ret
  exact ⟨rfl, hB.out.trans (hb1.mono (by simp))⟩

set_option maxRecDepth 100000 in
theorem check_no (A : Option Addr) (n c : Nat) (ts : List Int) (hn : n ≤ 20) (w : World) (hT : Reads w w.heap.size 1 A n (ints ts)) (h : okW n ts = false) :
    Calls Try.prog 19 #[.agg #[.slice A n c]] w fun e w' => e = .returned (.int .i64 100) ∧ Below w.heap.size w w' := by
  have hB := Lib.hid ((Below.refl w.heap.size w).alloc (Nat.le_refl _) (.cells #[.slice A n c] 35))
  by_cases h8 : n ≤ 8
  · have hi : inB 6 120 ts = false := by
      unfold okW at h
      simpa [h8] using h
    have H := Lib.hid (in_any 6 120 A n c ts (w.alloc (.cells #[.slice A n c] 35)) (by unfold maxLen; omega) ((hT.alloc (Nat.le_refl _) _).more (by simp)))
    rw [hi] at H
    clear h
    go_enter Try.func19, Try.ntmps19
    go_wp2_with fail
    refine H.out.mono ?_
    rintro e w1 ⟨rfl, hb1⟩
    go_wp2
    go_ret
    exact ⟨rfl, hB.out.trans (hb1.mono (by simp))⟩
  · have h9 : (8 : Int) < (n : Int) := by omega
    clear h h8
    go_enter Try.func19, Try.ntmps19
    go_wp2
    go_ret
    exact ⟨rfl, hB.out⟩

theorem blocks2 (w w1 : World) (u v : Value) (s t : TypeId) (hb : Below ((w.alloc (.cells #[u] s)).alloc (.cells #[v] t)).heap.size ((w.alloc (.cells #[u] s)).alloc (.cells #[v] t)) w1) :
    w1.cell? ⟨w.heap.size, 0, none⟩ = some u ∧ w1.cell? ⟨w.heap.size + 1, 0, none⟩ = some v ∧ w1.frozen? ⟨w.heap.size + 1, 0, none⟩ = false := by
  refine ⟨(hb.cell (by simp; omega)).trans (by rw [World.cell?_alloc_past _ _ _ (by simp)]; exact cellN _ _ _), (hb.cell (by simp)).trans (by rw [World.cell?_alloc_at _ _ _ _ (by simp)]; rfl), (hb.frozen (by simp)).trans (fz_new' _ _ _ _ _ (by simp))⟩

set_option maxRecDepth 100000 in
theorem started_no (A A' : Option Addr) (n c m c' : Nat) (hn : n ≤ 20) (ts : List Int) (w : World) (hT : Reads w w.heap.size 1 A n (ints ts)) (h : okW n ts = false) :
    Calls Try.prog 34 #[.agg #[.slice A n c], .slice A' m c'] w fun e w' => e = .returned (.tuple #[.agg #[.slice none 0 0], .int .i64 100]) ∧ Below w.heap.size w w' := by
  have hB := Lib.hid (((Below.refl w.heap.size w).alloc (Nat.le_refl _) (.cells #[.slice A n c] 35)).alloc (by simp) (.cells #[.slice none 0 0] 76))
  have H := Lib.hid (check_no A n c ts hn ((w.alloc (.cells #[.slice A n c] 35)).alloc (.cells #[.slice none 0 0] 76)) (((hT.alloc (Nat.le_refl _) _).alloc (by simp) _).more (by simp; omega)) h)
  go_enter Try.func34, Try.ntmps34
  go_wp2_with fail
  refine H.out.mono ?_
  rintro e w1 ⟨rfl, hb1⟩
  obtain ⟨-, c1, f1⟩ := blocks2 _ _ _ _ _ _ hb1
  have hB1 := Lib.hid (hB.out.trans (hb1.mono (by simp; omega)))
  clear hb1 hB H
  go_wp2
  have g0 := World.cell?_setCell_same w1 ⟨w.heap.size + 1, 0, none⟩ (.slice none 0 0) c1
  exact bodyPost_ret (v := .tuple #[.agg #[.slice none 0 0], .int .i64 100]) (by simp [results, Try.results34, go_sem, g0]) rfl ⟨rfl, hB1.out.setCell (by simp) _⟩

/-- What started returns of wheels that are valid. -/
def startV (b : Bool) (A : Option Addr) (n c : Nat) : Value := match b with
  | true => .tuple #[.agg #[.slice A n c], .int .i64 0]
  | false => .tuple #[.agg #[.slice none 0 0], .int .i64 101]

set_option maxRecDepth 100000 in
theorem started_any (A A' : Option Addr) (n c m c' : Nat) (hn : n ≤ 20) (hm : m ≤ 20) (ts : List Int) (l : List (Int × Int)) (hF : Fit2 l) (w : World) (hT : Reads w w.heap.size 1 A n (ints ts)) (hR : Reads w w.heap.size 2 A' m (prs l)) (h : okW n ts = true) :
    Calls Try.prog 34 #[.agg #[.slice A n c], .slice A' m c'] w fun e w' =>
      e = .returned (startV (validB n l) A n c) ∧ Below w.heap.size w w' := by
  have hB := Lib.hid (((Below.refl w.heap.size w).alloc (Nat.le_refl _) (.cells #[.slice A n c] 35)).alloc (by simp) (.cells #[.slice none 0 0] 76))
  have H := Lib.hid (check_ok A n c ts hn ((w.alloc (.cells #[.slice A n c] 35)).alloc (.cells #[.slice none 0 0] 76)) (((hT.alloc (Nat.le_refl _) _).alloc (by simp) _).more (by simp; omega)) h)
  clear h
  go_enter Try.func34, Try.ntmps34
  go_wp2_with fail
  refine H.out.mono ?_
  rintro e w1 ⟨rfl, hb1⟩
  obtain ⟨c0, c1, f1⟩ := blocks2 _ _ _ _ _ _ hb1
  have hB1 := Lib.hid (hB.out.trans (hb1.mono (by simp; omega)))
  have hz := hB1.out.size
  have hz1 : w.heap.size + 2 ≤ w1.heap.size := by have := hb1.size; simp at this; omega
  have hRv := ((hR.below hB1.out).more hz).alloc (Nat.le_refl _) (.cells #[.slice A n c] 76)
  have H2 := Lib.hid (valid_any A A' n c m c' hn hm l hF (w1.alloc (.cells #[.slice A n c] 76)) (hRv.more (by simp)))
  clear hb1 hB H hRv hF hz
  go_wp2_with fail
  refine H2.out.mono ?_
  rintro e w2 ⟨rfl, hb2⟩
  have c1' : w2.cell? ⟨w.heap.size + 1, 0, none⟩ = some (.slice none 0 0) := (hb2.cell (by simp; omega)).trans ((World.cell?_alloc_lt _ _ _ (by simp; omega)).trans c1)
  have f1' : w2.frozen? ⟨w.heap.size + 1, 0, none⟩ = false := (hb2.frozen (by simp; omega)).trans ((frozen?_alloc_cells _ _ _ _).trans f1)
  have c7 : w2.cell? ⟨w1.heap.size, 0, none⟩ = some (.slice A n c) := (hb2.cell (by simp)).trans (cellN _ _ _)
  have hB2 := Lib.hid (below_in hB1.out hB1.out.size hb2)
  clear hb2 c0 c1 f1 H2
  cases hv : validB n l
  · go_wp2
    have g0 := World.cell?_setCell_same w2 ⟨w.heap.size + 1, 0, none⟩ (.slice none 0 0) c1'
    exact bodyPost_ret (v := .tuple #[.agg #[.slice none 0 0], .int .i64 101]) (by simp [results, Try.results34, go_sem, g0]) rfl ⟨by rw [hv]; rfl, hB2.out.setCell (by simp) _⟩
  · go_wp2
    have g0 := World.cell?_setCell_same w2 ⟨w.heap.size + 1, 0, none⟩ (.slice A n c) c1'
    exact bodyPost_ret (v := .tuple #[.agg #[.slice A n c], .int .i64 0]) (by simp [results, Try.results34, go_sem, g0]) rfl ⟨by rw [hv]; rfl, hB2.out.setCell (by simp) _⟩
end Go.Proofs.Ytlmmjaolmmcklaa
