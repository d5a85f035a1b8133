/-
  The walk of the reference's notes: all of them by value.
-/
import Derived.Test.YtoakeclpakjbiaaDoorPut
import Derived.Test.YtoakeclpakjbiaaDoorPSpans
import Derived.Deep.WholeRow
import Derived.Laws.CopyOwn
import Derived.StillTailTactics
namespace Go.Proofs.YtoakeclpakjbiaaDoor
open Go.RowKit
set_option linter.unusedVariables false
set_option linter.unusedSimpArgs false

/-- The notes of ten pressings, as one value. -/
def NV (R : Nat → Nat → Sp) : Array Value := (rws R 10).toArray
theorem NV_size (R : Nat → Nat → Sp) : (NV R).size = 140 := by unfold NV; rw [List.size_toArray, rws_len]
theorem rws_ones (R : Nat → Nat → Sp) (n : Nat) : ∀ u ∈ rws R n, u.oneCell' = true := by
  intro u hu
  simp only [rws, List.mem_flatMap] at hu
  obtain ⟨a, _, h⟩ := hu
  exact rowc_one _ u h
theorem NV_ones (R : Nat → Nat → Sp) : (NV R).all (·.oneCell') = true := by
  rw [Array.all_eq_true_iff_forall_mem]
  intro u hu
  exact rws_ones R 10 u (by simpa [NV] using hu)
theorem NV_get (R : Nat → Nat → Sp) {i k t : Nat} (hi : i < 10) (hk : k < 7) (ht : t < 2) : (NV R)[i * 14 + (k * 2 + t)]? = some (.int .i64 (spAt (R i k) t)) := by
  have := rws_g2 R (n := 10) hi hk ht
  simpa [NV] using this
theorem info_nv : (Tryd.prog.info? 110).map (·.size) = some 140 := by kernel_rfl
/-- Notes lie in a block. -/
def NB (w : World) (b : Nat) (R : Nat → Nat → Sp) : Prop := w.heap[b]? = some (.cells (NV R) 110 (0, 0))
section
variable {w z : World} {b : Nat} {R : Nat → Nat → Sp}
theorem NB.at_ (h : NB w b R) {i k : Nat} (hi : i < 10) (hk : k < 7) : w.cell? ⟨b, i * 14 + k * 2, none⟩ = some (.int .i64 (R i k).1) ∧ w.cell? ⟨b, i * 14 + k * 2 + 1, none⟩ = some (.int .i64 (R i k).2) ∧
    w.frozen? ⟨b, i * 14 + k * 2, none⟩ = false ∧ w.frozen? ⟨b, i * 14 + k * 2 + 1, none⟩ = false := by
  refine ⟨?_, ?_, ?_, ?_⟩
  · rw [cell_of_row _ _ _ _ _ _ h]; exact NV_get R hi hk (t := 0) (by omega)
  · rw [cell_of_row _ _ _ _ _ _ h]; exact NV_get R hi hk (t := 1) (by omega)
  · simp [World.frozen?, show w.heap[b]? = _ from h]
  · simp [World.frozen?, show w.heap[b]? = _ from h]
theorem NB.put (h : NB w b R) {i k : Nat} (hi : i < 10) (hk : k < 7) (s : Sp) : NB ((w.setCell ⟨b, i * 14 + k * 2, none⟩ (.int .i64 s.1)).setCell ⟨b, i * 14 + k * 2 + 1, none⟩ (.int .i64 s.2)) b (putR R i k s) := by
  have e : NV (putR R i k s) = ((NV R).setIfInBounds (i * 14 + k * 2) (.int .i64 s.1)).setIfInBounds (i * 14 + k * 2 + 1) (.int .i64 s.2) := by
    apply Array.toList_inj.1
    rw [Array.toList_setIfInBounds, Array.toList_setIfInBounds]
    simp only [NV]
    exact (rws_put R hi hk s).symm
  unfold NB
  rw [e]
  simp [World.setCell, Array.getElem?_modify, show w.heap[b]? = _ from h]
theorem NB.below (h : NB w b R) (hb : Below w.heap.size w z) : NB z b R := keepO hb h
theorem NB.load (h : NB w b R) : (loadCellsFrom ⟨b, 0, none⟩ 0 140 #[]).run Tryd.prog w = .ok (NV R) w := by
  have := run_loadCells_list (P := Tryd.prog) w ⟨b, 0, none⟩ (NV R).toList (fun j v hv => by
    have hadd : (⟨b, 0, none⟩ : Addr).add j = ⟨b, j, none⟩ := by unfold Addr.add; split <;> simp_all
    rw [hadd, cell_of_row _ _ j _ _ (0, 0) h]
    simpa using hv)
  have hs := NV_size R
  rw [Array.length_toList, hs] at this
  simpa [loadCells] using this
end

theorem mx_if (a b : Int) : (if a < b then b else a) = max a b := by split <;> omega
theorem mn_if (a b : Int) : (if b < a then b else a) = min a b := by split <;> omega
theorem zc_size : (Tryd.zeroCells110).size = 140 := by kernel_rfl
theorem hO2_store {w : World} {b : Nat} {cs : Array Value} {R : Nat → Nat → Sp} (h : w.heap[b]? = some (.cells cs 110 (0, 0))) (hs : cs.size = 140 := by exact zc_size) :
    (storeCells ⟨b, 0, none⟩ (NV R).toList 0).run Tryd.prog w = .ok () (w.setRow b (NV R)) :=
  run_storeCells_from (P := Tryd.prog) b 110 (NV R).toList 0 cs w h (by simp [NV_size]; omega) (fun v hv => (Array.all_eq_true_iff_forall_mem.1 (NV_ones R)) v (by simpa using hv))
theorem NB_setRow {w : World} {b : Nat} {cs : Array Value} (h : w.heap[b]? = some (.cells cs 110 (0, 0))) (R : Nat → Nat → Sp) : NB (w.setRow b (NV R)) b R := by
  unfold NB
  simp [World.setRow, Array.getElem?_modify, h]
set_option maxRecDepth 100000 in
set_option maxHeartbeats 2000000 in
theorem with_any (R : Nat → Nat → Sp) (i k : Nat) (lo hi : Int) (hi10 : i < 10) (hk7 : k < 7) (w : World) :
    Calls Tryd.prog 57 #[.agg (NV R), .int .i64 i, .int .i64 k, .int .i64 lo, .int .i64 hi] w fun e w' => e = .returned (.agg (NV (putR R i k (max lo (R i k).1, min hi (R i k).2)))) ∧ Below w.heap.size w w' := by
  have i1 : (i : Int) < 10 := by omega
  have k1 : (k : Int) < 7 := by omega
  have i0 : (0 : Int) ≤ (i : Int) := by omega
  have k0 : (0 : Int) ≤ (k : Int) := by omega
  go_enter Tryd.func57, Tryd.ntmps57
  go_wp2_with fail
  have hNB : NB ((w.alloc (.cells (NV R) 110)).alloc (.cells Tryd.zeroCells110 110)) w.heap.size R := by
    unfold NB; rw [heap_lt_alloc' _ _ _ (by simp)]; exact heap_alloc_new w _
  have hO := heap_alloc_new (w.alloc (.cells (NV R) 110)) (.cells Tryd.zeroCells110 110)
  have hB : Below w.heap.size w ((w.alloc (.cells (NV R) 110)).alloc (.cells Tryd.zeroCells110 110)) := ((Below.refl _ _).alloc (Nat.le_refl _) _).alloc (by simp) _
  rw [show (w.alloc (.cells (NV R) 110)).heap.size = w.heap.size + 1 by simp] at hO
  generalize ((w.alloc (.cells (NV R) 110)).alloc (.cells Tryd.zeroCells110 110)) = z at *
  obtain ⟨c0, c1, f0, f1⟩ := hNB.at_ hi10 hk7
  have hNh := Lib.hid hNB
  clear hNB
  go_still_tail 20, (by kernel_rfl)
  change wpList _ _ _ _ _ z.drew
  rw [mx_if, mn_if]
  clear c0 c1 f0 f1
  have hNB : NB z.drew w.heap.size R := hNh.out
  have hO : z.drew.heap[w.heap.size + 1]? = some (.cells Tryd.zeroCells110 110 (0, 0)) := hO
  have hB := hB.drew
  generalize z.drew = y at *
  obtain ⟨c0, c1, f0, f1⟩ := hNB.at_ hi10 hk7
  have hN2 := hNB.put hi10 hk7 (max lo (R i k).1, min hi (R i k).2)
  have hO2 := (Below.heap_setCell (y.setCell ⟨w.heap.size, i * 14 + k * 2, none⟩ (.int .i64 (max lo (R i k).1))) ⟨w.heap.size, i * 14 + k * 2 + 1, none⟩ (.int .i64 (min hi (R i k).2)) (w.heap.size + 1) (by simp)).trans ((Below.heap_setCell y ⟨w.heap.size, i * 14 + k * 2, none⟩ (.int .i64 (max lo (R i k).1)) (w.heap.size + 1) (by simp)).trans hO)
  have hB2 := (hB.setCell (p := ⟨w.heap.size, i * 14 + k * 2, none⟩) (by simp) (.int .i64 (max lo (R i k).1))).setCell (p := ⟨w.heap.size, i * 14 + k * 2 + 1, none⟩) (by simp) (.int .i64 (min hi (R i k).2))
  have hfin := NB_setRow hO2 (putR R i k (max lo (R i k).1, min hi (R i k).2))
  have hB3 := below_setRow hB2 (g := w.heap.size + 1) (by omega) (NV (putR R i k (max lo (R i k).1, min hi (R i k).2)))
  have hN3 := Lib.hid hN2
  have hO3 := Lib.hid hO2
  have hfh := Lib.hid hfin
  have hBh := Lib.hid hB3
  clear hfin hB3 hB hB2 hO hO2 hNB hN2
  go_wp2_with (first | refine wpList_load_row rfl 110 _ rfl w.heap.size rfl _ _ (0, 0) _ hN3.out Tryd.underlying110 rfl (by rw [NV_size]; kernel_rfl) ?_ | refine wpList_store_row rfl 110 _ _ rfl (w.heap.size + 1) (NV (putR R i k (max lo (R i k).1, min hi (R i k).2))) rfl rfl _ _ hO3.out (by rw [NV_size]; kernel_rfl) (by rw [NV_size]; exact zc_size) (NV_ones _) ?_)
  exact bodyPost_ret (v := .agg (NV (putR R i k (max lo (R i k).1, min hi (R i k).2)))) (results_cell_row rfl _ _ (w.heap.size + 1) _ _ (0, 0) _ rfl hfh.out Tryd.underlying110 rfl (by rw [NV_size]; kernel_rfl)) rfl ⟨rfl, hBh.out⟩
end Go.Proofs.YtoakeclpakjbiaaDoor
