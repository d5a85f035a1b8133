/-
  The ratio of a train, or the error.
-/
import Derived.Test.YtlmmjaolmmcklaaStarted
namespace Go.Proofs.Ytlmmjaolmmcklaa
open Go.RowKit Go.Maps

/-- What started returns, in each world that has grown. -/
def St (w : World) (A A' : Option Addr) (n c m c' : Nat) (sv : Value) (E : Int) : Prop := ∀ x, Below w.heap.size w x →
  Calls Try.prog 34 #[.agg #[.slice A n c], .slice A' m c'] x fun e x' => e = .returned (.tuple #[.agg #[sv], .int .i64 E]) ∧ Below x.heap.size x x'

theorem st_100 {A A' : Option Addr} {n c m c' : Nat} (hn : n ≤ 20) {ts : List Int} {w : World} (hT : Reads w w.heap.size 1 A n (ints ts)) (h : okW n ts = false) : St w A A' n c m c' (.slice none 0 0) 100 :=
  fun x hx => started_no A A' n c m c' hn ts x ((hT.below hx).more hx.size) h
theorem st_101 {A A' : Option Addr} {n c m c' : Nat} (hn : n ≤ 20) (hm : m ≤ 20) {ts : List Int} {l : List (Int × Int)} (hF : Fit2 l) {w : World} (hT : Reads w w.heap.size 1 A n (ints ts)) (hR : Reads w w.heap.size 2 A' m (prs l)) (h : okW n ts = true) (h' : validB n l = false) : St w A A' n c m c' (.slice none 0 0) 101 := by
  intro x hx
  have := started_any A A' n c m c' hn hm ts l hF x ((hT.below hx).more hx.size) ((hR.below hx).more hx.size) h
  rw [h'] at this
  exact this
theorem st_ok {A A' : Option Addr} {n c m c' : Nat} (hn : n ≤ 20) (hm : m ≤ 20) {ts : List Int} {l : List (Int × Int)} (hF : Fit2 l) {w : World} (hT : Reads w w.heap.size 1 A n (ints ts)) (hR : Reads w w.heap.size 2 A' m (prs l)) (h : okW n ts = true) (h' : validB n l = true) : St w A A' n c m c' (.slice A n c) 0 := by
  intro x hx
  have := started_any A A' n c m c' hn hm ts l hF x ((hT.below hx).more hx.size) ((hR.below hx).more hx.size) h
  rw [h'] at this
  exact this

theorem blk2 {w w1 : World} {o1 o2 : Obj} (hb : Below ((w.alloc o1).alloc o2).heap.size ((w.alloc o1).alloc o2) w1) : w1.heap[w.heap.size]? = some o1 ∧ w1.heap[w.heap.size + 1]? = some o2 := by
  refine ⟨(hb.block _ (by simp; omega)).trans ?_, (hb.block _ (by simp)).trans ?_⟩
  · rw [heap_lt_alloc _ _ _ (by simp)]; exact (MapKept.heap_alloc w _).1
  · simpa using (MapKept.heap_alloc (w.alloc o1) o2).1

set_option maxRecDepth 100000 in
theorem Ratio_bad (A A' : Option Addr) (n c m c' : Nat) (E : Int) (w : World) (hE : E = 100 ∨ E = 101) (hS : Hid (St w A A' n c m c' (.slice none 0 0) E)) :
    Calls Try.prog 13 #[.agg #[.slice A n c], .slice A' m c'] w fun e w' => e = .returned (.tuple #[.agg #[.int .i64 0, .int .i64 0], .int .i64 E]) ∧ Below w.heap.size w w' := by
  have hB := Lib.hid (((Below.refl w.heap.size w).alloc (Nat.le_refl _) (.cells #[.slice A n c] 35)).alloc (by simp) (.cells #[.int .i64 0, .int .i64 0] 40))
  have H := Lib.hid (hS.out _ hB.out)
  have hE0 : ¬ E = 0 := by omega
  clear hS
  go_enter Try.func13, Try.ntmps13
  go_wp2_with fail
  refine H.out.mono ?_
  rintro e w1 ⟨rfl, hb1⟩
  obtain ⟨-, hp⟩ := blk2 hb1
  have hB1 := Lib.hid (hB.out.trans (hb1.mono (by simp; omega)))
  have hz1 : w.heap.size + 2 ≤ w1.heap.size := by have := hb1.size; simp at this; omega
  have hp2 := (heap_lt_alloc w1 (.cells #[.slice none 0 0] 76) (w.heap.size + 1) (by omega)).trans hp
  have hB2 := Lib.hid (hB1.out.alloc hB1.out.size (.cells #[.slice none 0 0] 76))
  clear hb1 hB H hB1 hz1 hp
  have c0 : (w1.alloc (.cells #[.slice none 0 0] 76)).cell? ⟨w.heap.size + 1, 0, none⟩ = some (.int .i64 0) := by simp only [World.cell?, hp2]; rfl
  have c1 : (w1.alloc (.cells #[.slice none 0 0] 76)).cell? ⟨w.heap.size + 1, 1, none⟩ = some (.int .i64 0) := by simp only [World.cell?, hp2]; rfl
  have f0 : (w1.alloc (.cells #[.slice none 0 0] 76)).frozen? ⟨w.heap.size + 1, 0, none⟩ = false := by simp only [World.frozen?, hp2]; rfl
  have f1 : (w1.alloc (.cells #[.slice none 0 0] 76)).frozen? ⟨w.heap.size + 1, 1, none⟩ = false := by simp only [World.frozen?, hp2]; rfl
  clear hp2
  go_wp2
  obtain ⟨g0, g1⟩ := two_cells (w1.alloc (.cells #[.slice none 0 0] 76)) (w.heap.size + 1) (.int .i64 0) (.int .i64 0) _ _ c0 c1
  exact bodyPost_ret (v := .tuple #[.agg #[.int .i64 0, .int .i64 0], .int .i64 E]) (by simp [results, Try.results13, go_sem, g0, g1]) rfl ⟨rfl, (hB2.out.setCell (by simp) _).setCell (by simp) _⟩

set_option maxRecDepth 100000 in
theorem Ratio_good (A A' : Option Addr) (n c m c' : Nat) (hn : n ≤ 20) (ts : List Int) (l : List (Int × Int)) (hO : Okay n ts l) (w : World) (hT : Reads w w.heap.size 1 A n (ints ts)) (hR : Reads w w.heap.size 2 A' m (prs l)) (hS : Hid (St w A A' n c m c' (.slice A n c) 0)) :
    Calls Try.prog 13 #[.agg #[.slice A n c], .slice A' m c'] w fun e w' => e = .returned (.tuple #[.agg #[.int .i64 (redu (numT ts l) (denT ts l)).1, .int .i64 (redu (numT ts l) (denT ts l)).2], .int .i64 0]) ∧ Below w.heap.size w w' := by
  have hB := Lib.hid (((Below.refl w.heap.size w).alloc (Nat.le_refl _) (.cells #[.slice A n c] 35)).alloc (by simp) (.cells #[.int .i64 0, .int .i64 0] 40))
  have H := Lib.hid (hS.out _ hB.out)
  clear hS
  go_enter Try.func13, Try.ntmps13
  go_wp2_with fail
  refine H.out.mono ?_
  rintro e w1 ⟨rfl, hb1⟩
  obtain ⟨-, hp⟩ := blk2 hb1
  have hB1 := Lib.hid (hB.out.trans (hb1.mono (by simp; omega)))
  have hz1 : w.heap.size + 2 ≤ w1.heap.size := by have := hb1.size; simp at this; omega
  have hp2 := (heap_lt_alloc w1 (.cells #[.slice A n c] 76) (w.heap.size + 1) (by omega)).trans hp
  have hB2 := Lib.hid (hB1.out.alloc hB1.out.size (.cells #[.slice A n c] 76))
  have H2 := Lib.hid (ratio_any A A' n c m c' hn ts l hO (w1.alloc (.cells #[.slice A n c] 76)) ((hT.below hB2.out).more hB2.out.size) ((hR.below hB2.out).more hB2.out.size))
  have hz2 : w.heap.size + 2 ≤ (w1.alloc (.cells #[.slice A n c] 76)).heap.size := by simp; omega
  clear hb1 hB H hB1 hz1 hp hT hR hO
  generalize hr : (redu (numT ts l) (denT ts l)).1 = r at *
  generalize hs : (redu (numT ts l) (denT ts l)).2 = s at *
  replace hr := Lib.hid hr
  replace hs := Lib.hid hs
  go_wp2_with fail
  refine H2.out.mono ?_
  rintro e w2 ⟨rfl, hb2⟩
  have hB3 := Lib.hid (below_via hB2.out hB2.out.size hb2)
  have hp3 := (hb2.block (w.heap.size + 1) (by omega)).trans hp2
  have c0 : w2.cell? ⟨w.heap.size + 1, 0, none⟩ = some (.int .i64 0) := by simp only [World.cell?, hp3]; rfl
  have c1 : w2.cell? ⟨w.heap.size + 1, 1, none⟩ = some (.int .i64 0) := by simp only [World.cell?, hp3]; rfl
  have f0 : w2.frozen? ⟨w.heap.size + 1, 0, none⟩ = false := by simp only [World.frozen?, hp3]; rfl
  have f1 : w2.frozen? ⟨w.heap.size + 1, 1, none⟩ = false := by simp only [World.frozen?, hp3]; rfl
  clear hb2 hp2 hp3 H2 hB2 hz2
  go_wp2
  obtain ⟨g0, g1⟩ := two_cells w2 (w.heap.size + 1) (.int .i64 r) (.int .i64 s) _ _ c0 c1
  exact bodyPost_ret (v := .tuple #[.agg #[.int .i64 r, .int .i64 s], .int .i64 0]) (by simp [results, Try.results13, go_sem, g0, g1]) rfl ⟨by rw [hr.out, hs.out], (hB3.out.setCell (by simp) _).setCell (by simp) _⟩
end Go.Proofs.Ytlmmjaolmmcklaa
