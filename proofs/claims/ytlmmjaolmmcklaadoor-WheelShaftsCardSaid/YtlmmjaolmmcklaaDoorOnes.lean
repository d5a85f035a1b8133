/-
  The walk of the function that sets a shaft to work, each stamper counting one.
-/
import Derived.Test.YtlmmjaolmmcklaaDoorRepeat
namespace Go.Proofs.YtlmmjaolmmcklaaDoor
open Go.RowKit
set_option linter.unusedSimpArgs false
set_option linter.unusedVariables false

set_option maxRecDepth 100000 in
set_option maxHeartbeats 1000000 in
theorem ones_any (M : Int) (A : Option Addr) (n c : Nat) (l : List St3) (w : World) (hn : n ≤ 4) (hR : Reads w w.heap.size 3 A n (sts l)) :
    Calls Tryd.prog 63 #[.agg #[.int .i64 M, .slice A n c]] w fun e w' => ∃ v, e = .returned (.agg #[.int .i64 M, .slice A n c, v]) ∧ w'.ownsRow w.heap.size 3 1 v n (ints (l.map (cntO true))) ∧ Below w.heap.size w w' := by
  have hl : l.length = n := hR.st_len
  have hone : Hid (List.replicate n 1 = l.map (cntO true)) := by
    show _ = _
    rw [← hl]
    exact (List.eq_replicate_iff.2 ⟨by simp, fun b hb => by obtain ⟨a, _, rfl⟩ := List.mem_map.1 hb; rfl⟩).symm
  have HW : Hid (Below w.heap.size w ((w.alloc (.cells #[.int .i64 M, .slice A n c] 24)).alloc (.cells #[.int .i64 0, .slice none 0 0, .slice none 0 0] 111))) := ((Below.refl _ _).alloc (Nat.le_refl _) _).alloc (by simp) _
  have k0 : ((w.alloc (.cells #[.int .i64 M, .slice A n c] 24)).alloc (.cells #[.int .i64 0, .slice none 0 0, .slice none 0 0] 111)).heap[w.heap.size]? = some (.cells #[.int .i64 M, .slice A n c] 24 (0, 0)) := by
    rw [heap_lt_alloc' _ _ _ (by simp)]
    exact heap_alloc_new w _
  have k1 : ((w.alloc (.cells #[.int .i64 M, .slice A n c] 24)).alloc (.cells #[.int .i64 0, .slice none 0 0, .slice none 0 0] 111)).heap[w.heap.size + 1]? = some (.cells #[.int .i64 0, .slice none 0 0, .slice none 0 0] 111 (0, 0)) := by
    have := heap_alloc_new (w.alloc (.cells #[.int .i64 M, .slice A n c] 24)) (.cells #[.int .i64 0, .slice none 0 0, .slice none 0 0] 111)
    simpa using this
  have hz : ((w.alloc (.cells #[.int .i64 M, .slice A n c] 24)).alloc (.cells #[.int .i64 0, .slice none 0 0, .slice none 0 0] 111)).heap.size = w.heap.size + 2 := by simp
  clear hR
  go_enter Tryd.func63, Tryd.ntmps63
  go_wp2_with fail
  generalize ((w.alloc (.cells #[.int .i64 M, .slice A n c] 24)).alloc (.cells #[.int .i64 0, .slice none 0 0, .slice none 0 0] 111)) = wz at *
  obtain ⟨S, hS⟩ : ∃ S : World → Prop, S = fun z => (z.cell? ⟨w.heap.size, 0, none⟩ = some (.int .i64 M) ∧ z.cell? ⟨w.heap.size, 1, none⟩ = some (.slice A n c)) ∧ Hid (Below (w.heap.size + 1) wz z) := ⟨_, rfl⟩
  have HS := Lib.hid (fun z (hz' : Below (w.heap.size + 1) wz z) => (by rw [hS]; exact ⟨⟨by rw [hz'.cell (by simp)]; simp [World.cell?, k0], by rw [hz'.cell (by simp)]; simp [World.cell?, k0]⟩, Lib.hid hz'⟩ : S z))
  have hA : Below (w.heap.size + 1) wz (wz.alloc (.cells #[.int .i64 1] 3)).drew := ((Below.refl _ _).alloc (by omega) _).drew
  have hAk : (wz.alloc (.cells #[.int .i64 1] 3)).drew.heap[w.heap.size + 1]? = some (.cells #[.int .i64 0, .slice none 0 0, .slice none 0 0] 111 (0, 0)) := (heap_lt_alloc' wz _ _ (by omega)).trans k1
  have hAs : (wz.alloc (.cells #[.int .i64 1] 3)).drew.heap.size = w.heap.size + 3 := by
    show (wz.alloc (.cells #[.int .i64 1] 3)).heap.size = _
    simp; omega
  have hAc : (wz.alloc (.cells #[.int .i64 1] 3)).drew.cell? ⟨w.heap.size + 2, 0, none⟩ = some (.int .i64 1) := by
    have := cellN wz (.int .i64 1) 3
    rw [hz] at this
    exact this
  have HRp := Lib.hid (repeat_any (w.heap.size + 2) n hn (wz.alloc (.cells #[.int .i64 1] 3)).drew (by rw [hAs]; omega) hAc)
  rw [hAs] at HRp
  clear k0 k1
  refine wp_region_held_drew (S := S) (by kernel_rfl) ?_ (fun hHeld => ?_)
  · exact HS.out _ (Below.refl _ _).drew
  refine tkY (v := ?_) 0 3 rfl rfl (by kernel_rfl) (by kernel_rfl) (by kernel_rfl) (fun _ _ _ h => h) (by kernel_rfl) ?_ (by assumption) ?_
  rotate_left
  · intro w hSw; rw [hS] at hSw; obtain ⟨⟨q0, q1⟩, -⟩ := hSw; go_simp; (try with_reducible rfl)
  try simp only [Act.put, List.setIfInBounds_toArray, List.set_cons_zero, List.set_cons_succ]
  refine tkY (v := ?_) 2 5 rfl rfl (by kernel_rfl) (by kernel_rfl) (by kernel_rfl) (fun _ _ _ h => h) (by kernel_rfl) ?_ (by assumption) ?_
  rotate_left
  · intro w hSw; rw [hS] at hSw; obtain ⟨⟨q0, q1⟩, -⟩ := hSw; go_simp; (try with_reducible rfl)
  try simp only [Act.put, List.setIfInBounds_toArray, List.set_cons_zero, List.set_cons_succ]
  refine tkY (v := ?_) 3 6 rfl rfl (by kernel_rfl) (by kernel_rfl) (by kernel_rfl) (fun _ _ _ h => h) (by kernel_rfl) ?_ (by assumption) ?_
  rotate_left
  · intro w hSw; rw [hS] at hSw; obtain ⟨⟨q0, q1⟩, -⟩ := hSw; go_simp; (try with_reducible rfl)
  try simp only [Act.put, List.setIfInBounds_toArray, List.set_cons_zero, List.set_cons_succ]
  refine tkY (v := ?_) 4 7 rfl rfl (by kernel_rfl) (by kernel_rfl) (by kernel_rfl) (fun _ _ _ h => h) (by kernel_rfl) ?_ (by assumption) ?_
  rotate_left
  · intro w hSw; rw [hS] at hSw; obtain ⟨⟨q0, q1⟩, -⟩ := hSw; go_simp; (try with_reducible rfl)
  try simp only [Act.put, List.setIfInBounds_toArray, List.set_cons_zero, List.set_cons_succ]
  refine wpAnyH_ready (rs := [1]) (by kernel_rfl) (by simp) ?_
  refine AllReadyH.cons (o := _) rfl (fun K hK => ?_) AllReadyH.nil
  go_simp
  refine hK.out _ _ ?_ (fun hHeld => ?_)
  · exact HS.out _ hA
  clear hK K
  try simp only [Act.put, List.setIfInBounds_toArray, List.set_cons_zero, List.set_cons_succ]
  refine wpAnyH_ready (rs := [5]) (by kernel_rfl) (by simp) ?_
  refine AllReadyH.cons (o := _) rfl (fun K hK => ?_) AllReadyH.nil
  go_simp
  refine HRp.out.mono ?_
  rintro e z5 ⟨v, rfl, hv, hb5⟩
  obtain ⟨Av, cv, rfl, -⟩ := own_slice hv
  have hz5 := Lib.hid (hA.trans (hb5.mono (by omega)))
  have hbk : z5.heap[w.heap.size + 1]? = some (.cells #[.int .i64 0, .slice none 0 0, .slice none 0 0] 111 (0, 0)) := (hb5.block _ (by omega)).trans hAk
  have d0 : z5.cell? ⟨w.heap.size + 1, 0, none⟩ = some (.int .i64 0) := by simp [World.cell?, hbk]
  have d1 : z5.cell? ⟨w.heap.size + 1, 1, none⟩ = some (.slice none 0 0) := by simp [World.cell?, hbk]
  have d2 : z5.cell? ⟨w.heap.size + 1, 2, none⟩ = some (.slice none 0 0) := by simp [World.cell?, hbk]
  have f0 : z5.frozen? ⟨w.heap.size + 1, 0, none⟩ = false := by simp [World.frozen?, hbk]
  have f1 : z5.frozen? ⟨w.heap.size + 1, 1, none⟩ = false := by simp [World.frozen?, hbk]
  have f2 : z5.frozen? ⟨w.heap.size + 1, 2, none⟩ = false := by simp [World.frozen?, hbk]
  have hO5 := Lib.hid hv
  have hK5 := Lib.hid hbk
  clear hv hb5 hbk
  refine hK.out _ _ ?_ (fun hHeld => ?_)
  · exact HS.out _ hz5.out
  clear hK K
  try simp only [Act.put, List.setIfInBounds_toArray, List.set_cons_zero, List.set_cons_succ]
  refine tkY (v := ?_) 6 9 rfl rfl (by kernel_rfl) (by kernel_rfl) (by kernel_rfl) (fun _ _ _ h => h) (by kernel_rfl) ?_ (by assumption) ?_
  rotate_left
  · intro w hSw; rw [hS] at hSw; obtain ⟨⟨q0, q1⟩, -⟩ := hSw; go_simp; (try with_reducible rfl)
  try simp only [Act.put, List.setIfInBounds_toArray, List.set_cons_zero, List.set_cons_succ]
  refine wpAnyH_ready (rs := [7]) (by kernel_rfl) (by simp) ?_
  refine AllReadyH.cons (o := _) rfl (fun K hK => ?_) AllReadyH.nil
  go_simp
  refine hK.out _ _ ?_ (fun hHeld => ?_)
  · exact HS.out _ (((hz5.out.setCell (by simp) _).setCell (by simp) _).setCell (by simp) _)
  clear hK K
  try simp only [Act.put, List.setIfInBounds_toArray, List.set_cons_zero, List.set_cons_succ]
  refine wpAnyH_done (by kernel_rfl) ?_ _
  go_wp2
  have hbk : (((z5.setCell ⟨w.heap.size + 1, 0, none⟩ (.int .i64 M)).setCell ⟨w.heap.size + 1, 1, none⟩ (.slice A n c)).setCell ⟨w.heap.size + 1, 2, none⟩ (.slice Av n cv)).heap[w.heap.size + 1]? = some (.cells #[.int .i64 M, .slice A n c, .slice Av n cv] 111 (0, 0)) := by
    simp [World.setCell, Array.getElem?_modify, hK5.out]
  have g0 : (((z5.setCell ⟨w.heap.size + 1, 0, none⟩ (.int .i64 M)).setCell ⟨w.heap.size + 1, 1, none⟩ (.slice A n c)).setCell ⟨w.heap.size + 1, 2, none⟩ (.slice Av n cv)).cell? ⟨w.heap.size + 1, 0, none⟩ = some (.int .i64 M) := by simp only [World.cell?, hbk]; rfl
  have g1 : (((z5.setCell ⟨w.heap.size + 1, 0, none⟩ (.int .i64 M)).setCell ⟨w.heap.size + 1, 1, none⟩ (.slice A n c)).setCell ⟨w.heap.size + 1, 2, none⟩ (.slice Av n cv)).cell? ⟨w.heap.size + 1, 1, none⟩ = some (.slice A n c) := by simp only [World.cell?, hbk]; rfl
  have g2 : (((z5.setCell ⟨w.heap.size + 1, 0, none⟩ (.int .i64 M)).setCell ⟨w.heap.size + 1, 1, none⟩ (.slice A n c)).setCell ⟨w.heap.size + 1, 2, none⟩ (.slice Av n cv)).cell? ⟨w.heap.size + 1, 2, none⟩ = some (.slice Av n cv) := by simp only [World.cell?, hbk]; rfl
  clear hbk hK5
  refine bodyPost_ret (v := .agg #[.int .i64 M, .slice A n c, .slice Av n cv]) (by simp [results, Tryd.results63, go_sem, g0, g1, g2]) rfl ⟨_, rfl, ?_, (((HW.out.trans (hz5.out.mono (by omega))).setCell (by simp) _).setCell (by simp) _).setCell (by simp) _⟩
  rw [← hone.out]
  exact own_mono (own_far (own_far (own_far hO5.out (by simp) _) (by simp) _) (by simp) _) (by omega)
end Go.Proofs.YtlmmjaolmmcklaaDoor
