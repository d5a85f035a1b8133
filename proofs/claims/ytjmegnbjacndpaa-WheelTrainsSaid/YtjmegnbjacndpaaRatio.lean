/-
  The teeth of a pair's wheels, fractions in lowest terms, and the ratio of a train.
-/
import Derived.Test.YtjmegnbjacndpaaValid
namespace Go.Proofs.Ytjmegnbjacndpaa
open Go.RowKit Go.Maps
/-- The teeth of a wheel, by its number. -/
def tAt (ts : List Int) (x : Int) : Int := ts.getD (x - 1).toNat 0
theorem fz_new (x : World) (cs : Array Value) (t : TypeId) (j : Nat) : (x.alloc (.cells cs t)).frozen? ⟨x.heap.size, j, none⟩ = false := by
  have h := (MapKept.heap_alloc x (.cells cs t)).1
  unfold World.frozen?
  rw [show ((⟨x.heap.size, j, none⟩ : Addr).block) = x.heap.size from rfl, h]
  simp
theorem fz_new' (x : World) (cs : Array Value) (t : TypeId) (j k : Nat) (h : x.heap.size = k) : (x.alloc (.cells cs t)).frozen? ⟨k, j, none⟩ = false := h ▸ fz_new x cs t j
theorem two_cells (w : World) (b : Nat) (x y u v : Value) (h0 : w.cell? ⟨b, 0, none⟩ = some u) (h1 : w.cell? ⟨b, 1, none⟩ = some v) :
    ((w.setCell ⟨b, 0, none⟩ x).setCell ⟨b, 1, none⟩ y).cell? ⟨b, 0, none⟩ = some x ∧ ((w.setCell ⟨b, 0, none⟩ x).setCell ⟨b, 1, none⟩ y).cell? ⟨b, 1, none⟩ = some y := by
  have n1 : (⟨b, 1, none⟩ : Addr) ≠ ⟨b, 0, none⟩ := by simp
  have n2 : (⟨b, 0, none⟩ : Addr) ≠ ⟨b, 1, none⟩ := by simp
  exact ⟨(World.cell?_setCell_other _ _ _ _ n1).trans (World.cell?_setCell_same _ _ _ h0), World.cell?_setCell_same _ _ _ ((World.cell?_setCell_other _ _ _ _ n2).trans h1)⟩
set_option maxRecDepth 100000 in
theorem teeth_any (A : Option Addr) (n c d v : Nat) (hn : n ≤ 20) (ts : List Int) (hd : d < n) (hv : v < n) (w : World) (hR : Reads w w.heap.size 1 A n (ints ts)) :
    Calls Try.prog 42 #[.agg #[.slice A n c], .agg #[.int .i64 ((d : Int) + 1), .int .i64 ((v : Int) + 1)]] w fun e w' =>
      e = .returned (.agg #[.int .i64 (tAt ts ((d : Int) + 1)), .int .i64 (tAt ts ((v : Int) + 1))]) ∧ Below w.heap.size w w' := by
  have hld : tAt ts ((d : Int) + 1) = ts[d]?.getD 0 := by unfold tAt; simp
  have hlv : tAt ts ((v : Int) + 1) = ts[v]?.getD 0 := by unfold tAt; simp
  have hR' := (((hR.alloc (Nat.le_refl _) (.cells #[.slice A n c] 50)).alloc (by simp) (.cells #[.int .i64 ((d : Int) + 1), .int .i64 ((v : Int) + 1)] 72)).alloc (by simp; omega) (.cells #[.int .i64 0, .int .i64 0] 86))
  obtain ⟨b, o, rfl, hb, hc⟩ := hR'.int hd
  obtain ⟨b', o', he, hb', hc'⟩ := hR'.int hv
  cases he
  rw [hld, hlv]
  have c0 : (((w.alloc (.cells #[.slice (some ⟨b, o, none⟩) n c] 50)).alloc (.cells #[.int .i64 ((d : Int) + 1), .int .i64 ((v : Int) + 1)] 72)).alloc (.cells #[.int .i64 0, .int .i64 0] 86)).cell? ⟨w.heap.size, 0, none⟩ = some (.slice (some ⟨b, o, none⟩) n c) := by
    rw [World.cell?_alloc_past _ _ _ (by simp; omega), World.cell?_alloc_past _ _ _ (by simp)]; exact cellN _ _ _
  have c1 : (((w.alloc (.cells #[.slice (some ⟨b, o, none⟩) n c] 50)).alloc (.cells #[.int .i64 ((d : Int) + 1), .int .i64 ((v : Int) + 1)] 72)).alloc (.cells #[.int .i64 0, .int .i64 0] 86)).cell? ⟨w.heap.size + 1, 0, none⟩ = some (.int .i64 ((d : Int) + 1)) := by
    rw [World.cell?_alloc_past _ _ _ (by simp), World.cell?_alloc_at _ _ _ _ (by simp)]; rfl
  have c2 : (((w.alloc (.cells #[.slice (some ⟨b, o, none⟩) n c] 50)).alloc (.cells #[.int .i64 ((d : Int) + 1), .int .i64 ((v : Int) + 1)] 72)).alloc (.cells #[.int .i64 0, .int .i64 0] 86)).cell? ⟨w.heap.size + 1, 1, none⟩ = some (.int .i64 ((v : Int) + 1)) := by
    rw [World.cell?_alloc_past _ _ _ (by simp), World.cell?_alloc_at _ _ _ _ (by simp)]; rfl
  have c3 : (((w.alloc (.cells #[.slice (some ⟨b, o, none⟩) n c] 50)).alloc (.cells #[.int .i64 ((d : Int) + 1), .int .i64 ((v : Int) + 1)] 72)).alloc (.cells #[.int .i64 0, .int .i64 0] 86)).cell? ⟨w.heap.size + 1 + 1, 0, none⟩ = some (.int .i64 0) := by
    rw [World.cell?_alloc_at _ _ _ _ (by simp)]; rfl
  have c4 : (((w.alloc (.cells #[.slice (some ⟨b, o, none⟩) n c] 50)).alloc (.cells #[.int .i64 ((d : Int) + 1), .int .i64 ((v : Int) + 1)] 72)).alloc (.cells #[.int .i64 0, .int .i64 0] 86)).cell? ⟨w.heap.size + 1 + 1, 1, none⟩ = some (.int .i64 0) := by
    rw [World.cell?_alloc_at _ _ _ _ (by simp)]; rfl
  have f3 : (((w.alloc (.cells #[.slice (some ⟨b, o, none⟩) n c] 50)).alloc (.cells #[.int .i64 ((d : Int) + 1), .int .i64 ((v : Int) + 1)] 72)).alloc (.cells #[.int .i64 0, .int .i64 0] 86)).frozen? ⟨w.heap.size + 1 + 1, 0, none⟩ = false := fz_new' _ _ _ _ _ (by simp)
  have f4 : (((w.alloc (.cells #[.slice (some ⟨b, o, none⟩) n c] 50)).alloc (.cells #[.int .i64 ((d : Int) + 1), .int .i64 ((v : Int) + 1)] 72)).alloc (.cells #[.int .i64 0, .int .i64 0] 86)).frozen? ⟨w.heap.size + 1 + 1, 1, none⟩ = false := fz_new' _ _ _ _ _ (by simp)
  have hB := Lib.hid ((((Below.refl w.heap.size w).alloc (Nat.le_refl _) (.cells #[.slice (some ⟨b, o, none⟩) n c] 50)).alloc (by simp) (.cells #[.int .i64 ((d : Int) + 1), .int .i64 ((v : Int) + 1)] 72)).alloc (by simp; omega) (.cells #[.int .i64 0, .int .i64 0] 86))
  clear hld hlv hR hR' hb hb'
  go_enter Try.func42, Try.ntmps42
  go_wp2
  generalize hwq : (((w.alloc (.cells #[.slice (some ⟨b, o, none⟩) n c] 50)).alloc (.cells #[.int .i64 ((d : Int) + 1), .int .i64 ((v : Int) + 1)] 72)).alloc (.cells #[.int .i64 0, .int .i64 0] 86)) = wq at *
  clear hwq
  have wd : IntKind.i64.wrap (d : Int) = d := IntWalk.i64_in _ (by omega)
  have wv : IntKind.i64.wrap (v : Int) = v := IntWalk.i64_in _ (by omega)
  go_still_tail 17, (by kernel_rfl)
  change wpList _ _ _ _ _ wq.drew
  have hB' := Lib.hid hB.out.drew
  replace c3 : wq.drew.cell? ⟨w.heap.size + 1 + 1, 0, none⟩ = some (.int .i64 0) := c3
  replace c4 : wq.drew.cell? ⟨w.heap.size + 1 + 1, 1, none⟩ = some (.int .i64 0) := c4
  replace f3 : wq.drew.frozen? ⟨w.heap.size + 1 + 1, 0, none⟩ = false := f3
  replace f4 : wq.drew.frozen? ⟨w.heap.size + 1 + 1, 1, none⟩ = false := f4
  clear c0 c1 c2 hB hc hc'
  generalize wq.drew = w2 at *
  go_wp2
  obtain ⟨g0, g1⟩ := two_cells w2 (w.heap.size + 1 + 1) (.int .i64 (ts[d]?.getD 0)) (.int .i64 (ts[v]?.getD 0)) _ _ c3 c4
  refine bodyPost_ret (v := .agg #[.int .i64 (ts[d]?.getD 0), .int .i64 (ts[v]?.getD 0)]) (by simp [results, Try.results42, go_sem, g0, g1]) rfl ⟨rfl, (hB'.out.setCell (by simp; omega) _).setCell (by simp; omega) _⟩
end Go.Proofs.Ytjmegnbjacndpaa
