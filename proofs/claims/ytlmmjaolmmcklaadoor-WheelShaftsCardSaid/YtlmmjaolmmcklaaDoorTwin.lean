/-
  The walks of the copies of a shaft.
-/
import Derived.Test.YtlmmjaolmmcklaaDoorAppend
import Derived.Test.YtlmmjaolmmcklaaDoorShaft
namespace Go.Proofs.YtlmmjaolmmcklaaDoor
open Go.RowKit
set_option linter.unusedVariables false
set_option linter.unusedSimpArgs false

set_option maxHeartbeats 1000000 in
theorem Twin_any (M : Int) (A : Option Addr) (n c : Nat) (l : List (Int × Int × Int)) (w : World) (hn : n ≤ 4096) (hR : Reads w w.heap.size 3 A n (sts l)) :
    Calls Tryd.prog 8 #[.agg #[.int .i64 M, .slice A n c]] w fun e w' => ∃ v, e = .returned (.agg #[.int .i64 M, v]) ∧ w'.ownsRow w.heap.size 27 3 v n (sts l) ∧ Below w.heap.size w w' := by
  obtain ⟨i0, hi, hz0, hz1, hz2⟩ := info_parts info_st
  have HR := Lib.hid hR
  clear hR
  go_enter Tryd.func8, Tryd.ntmps8
  go_wp2_with fail
  have HS : Hid (∀ w', Below (w.heap.size + 1) ((w.alloc (.cells #[.int .i64 M, .slice A n c] 24)).alloc (.cells #[.int .i64 0, .slice none 0 0] 24)) w' →
      (w'.cell? ⟨w.heap.size, 0, none⟩ = some (.int .i64 M) ∧ w'.cell? ⟨w.heap.size, 1, none⟩ = some (.slice A n c) ∧ Hid (Below (w.heap.size + 1) ((w.alloc (.cells #[.int .i64 M, .slice A n c] 24)).alloc (.cells #[.int .i64 0, .slice none 0 0] 24)) w'))) := by
    intro w' hb'
    refine ⟨?_, ?_, hb'⟩
    · rw [hb'.cell (p := ⟨w.heap.size, 0, none⟩) (by simp), World.cell?_alloc_lt _ _ _ (by simp), World.cell?_alloc_at _ _ _ _ rfl]; rfl
    · rw [hb'.cell (p := ⟨w.heap.size, 1, none⟩) (by simp), World.cell?_alloc_lt _ _ _ (by simp), World.cell?_alloc_at _ _ _ _ rfl]; rfl
  generalize hwz : (w.alloc (.cells #[.int .i64 M, .slice A n c] 24)).alloc (.cells #[.int .i64 0, .slice none 0 0] 24) = wz at *
  have HZ : Hid (w.heap.size + 1 ≤ wz.heap.size) := by show _ ≤ _; rw [← hwz]; simp
  have HRd : Hid (∀ w', Hid (Below (w.heap.size + 1) wz w') → Reads w' w.heap.size 3 A n (sts l)) := fun w' hb' => by
    have h1 := (HR.out.alloc (Nat.le_refl _) (.cells #[.int .i64 M, .slice A n c] 24)).alloc (o := .cells #[.int .i64 0, .slice none 0 0] 24) (by simp)
    rw [hwz] at h1
    exact h1.below (hb'.out.mono (by omega))
  have Z0 : Hid (wz.heap[w.heap.size + 1]? = some (.cells #[.int .i64 0, .slice none 0 0] 24 (0, 0))) := by
    show _ = _
    rw [← hwz]
    have := heap_alloc_new (w.alloc (.cells #[.int .i64 M, .slice A n c] 24)) (.cells #[.int .i64 0, .slice none 0 0] 24)
    simpa using this
  have HZ2 : Hid (w.heap.size + 2 ≤ wz.heap.size) := by show _ ≤ _; rw [← hwz]; simp
  have Hwz := Lib.hid hwz
  clear hwz
  have HP : Hid (∀ w', (w'.cell? ⟨w.heap.size, 0, none⟩ = some (.int .i64 M) ∧ w'.cell? ⟨w.heap.size, 1, none⟩ = some (.slice A n c) ∧ Hid (Below (w.heap.size + 1) wz w')) → Hid (Below (w.heap.size + 1) wz w')) := fun w' h => h.2.2
  refine wp_region_held_drew (S := (fun w' => w'.cell? ⟨w.heap.size, 0, none⟩ = some (.int .i64 M) ∧ w'.cell? ⟨w.heap.size, 1, none⟩ = some (.slice A n c) ∧ Hid (Below (w.heap.size + 1) wz w'))) (by kernel_rfl) ?_ (fun hHeld => ?_)
  · exact HS.out _ (Below.refl _ _).drew
  refine tkY (v := ?_) 0 3 rfl rfl (by kernel_rfl) (by kernel_rfl) (by kernel_rfl) (fun _ _ _ h => h) (by kernel_rfl) ?_ (by assumption) ?_
  rotate_left
  · intro w hSw; (try dsimp only at hSw); go_simp; (try with_reducible rfl)
  simp only [Act.put, List.setIfInBounds_toArray, List.set_cons_zero, List.set_cons_succ]
  refine tkY (v := ?_) 1 4 rfl rfl (by kernel_rfl) (by kernel_rfl) (by kernel_rfl) (fun _ _ _ h => h) (by kernel_rfl) ?_ (by assumption) ?_
  rotate_left
  · intro w hSw; (try dsimp only at hSw); go_simp; (try with_reducible rfl)
  simp only [Act.put, List.setIfInBounds_toArray, List.set_cons_zero, List.set_cons_succ]
  refine tkY (v := ?_) 3 6 rfl rfl (by kernel_rfl) (by kernel_rfl) (by kernel_rfl) (fun _ _ _ h => h) (by kernel_rfl) ?_ (by assumption) ?_
  rotate_left
  · intro w hSw; (try dsimp only at hSw); go_simp; (try with_reducible rfl)
  simp only [Act.put, List.setIfInBounds_toArray, List.set_cons_zero, List.set_cons_succ]
  refine tkY (v := ?_) 4 7 rfl rfl (by kernel_rfl) (by kernel_rfl) (by kernel_rfl) (fun _ _ _ h => h) (by kernel_rfl) ?_ (by assumption) ?_
  rotate_left
  · intro w hSw; (try dsimp only at hSw); go_simp; (try with_reducible rfl)
  simp only [Act.put, List.setIfInBounds_toArray, List.set_cons_zero, List.set_cons_succ]
  refine wpAnyH_ready (rs := [2]) (by kernel_rfl) (by simp) ?_
  refine AllReadyH.cons (o := _) rfl (fun K hK => ?_) AllReadyH.nil
  go_simp
  refine hK.out _ _ ?_ (fun hHeld => ?_)
  · first | exact HS.out _ (Below.refl _ _).drew | exact HS.out _ (keepAd (HP.out _ (by assumption)) HZ _) | exact HS.out _ (keepA (HP.out _ (by assumption)) HZ _) | exact HS.out _ (keepG (HP.out _ (by assumption)) HZ (by assumption) (by assumption)) | exact HS.out _ (keepS (Lib.hid (keepS (HP.out _ (by assumption)) (by simp) _)) (by simp) _)
  clear hK K
  try simp only [Act.put, List.setIfInBounds_toArray, List.set_cons_zero, List.set_cons_succ]
  refine wpAnyH_ready (rs := [5]) (by kernel_rfl) (by simp) ?_
  refine AllReadyH.cons (o := _) rfl (fun K hK => ?_) AllReadyH.nil
  refine step_app _ rfl _ _ 22 rfl (w.heap.size + 2) 27 i0 _ 3 24 Tryd.underlying22 hi hz0 hz1 hz2 rfl (by decide) (.slice (some ⟨wz.heap.size, 0, none⟩) 0 0) 0 [] rfl (by exact World.ownsRow_lit _ #[] 0 HZ2.out (by unfold maxLen; omega) rfl) w.heap.size A n c (sts l) rfl (HRd.out _ (HP.out _ (by assumption))) (sts_one _) ?c3 ?c4 ?c5 ?_
  case c3 => unfold maxLen; omega
  case c4 => omega
  case c5 => have := HZ2.out; simp; omega
  intro v' w' hown hgr hat
  have HG := Lib.hid hgr
  have HO := Lib.hid hown
  have hbk : w'.heap[w.heap.size + 1]? = some (.cells #[.int .i64 0, .slice none 0 0] 24 (0, 0)) := (hgr.block (w.heap.size + 1) (by have := HZ2.out; simp; omega) (by have := HZ2.out; simp [Value.ownBlock]; omega)).trans ((Below.heap_alloc wz _ (w.heap.size + 1) (by have := HZ2.out; omega)).trans Z0.out)
  have hc0 : w'.cell? ⟨w.heap.size + 1, 0, none⟩ = some (.int .i64 0) := by simp [World.cell?, hbk]
  have hc1 : w'.cell? ⟨w.heap.size + 1, 1, none⟩ = some (.slice none 0 0) := by simp [World.cell?, hbk]
  have hf0 : w'.frozen? ⟨w.heap.size + 1, 0, none⟩ = false := by simp [World.frozen?, hbk]
  have hf1 : w'.frozen? ⟨w.heap.size + 1, 1, none⟩ = false := by simp [World.frozen?, hbk]
  have HR2 : Hid (∀ k, (Value.slice (some ⟨wz.heap.size, 0, none⟩) 0 0).ownBlock = some k → w.heap.size + 1 ≤ k) := by intro k hk; have := HZ2.out; simp [Value.ownBlock] at hk; omega
  clear hgr hown hbk hat
  obtain ⟨A', c', rfl, hr'⟩ := own_slice HO.out
  refine hK.out _ _ ?_ (fun hHeld => ?_)
  · first | exact HS.out _ (Below.refl _ _).drew | exact HS.out _ (keepAd (HP.out _ (by assumption)) HZ _) | exact HS.out _ (keepA (HP.out _ (by assumption)) HZ _) | exact HS.out _ (keepG (HP.out _ (by assumption)) HZ (by assumption) (by assumption)) | exact HS.out _ (keepS (Lib.hid (keepS (HP.out _ (by assumption)) (by simp) _)) (by simp) _)
  clear hK K
  try simp only [Act.put, List.setIfInBounds_toArray, List.set_cons_zero, List.set_cons_succ]
  refine tkY (v := ?_) 6 9 rfl rfl (by kernel_rfl) (by kernel_rfl) (by kernel_rfl) (fun _ _ _ h => h) (by kernel_rfl) ?_ (by assumption) ?_
  rotate_left
  · intro w hSw; (try dsimp only at hSw); go_simp; (try with_reducible rfl)
  simp only [Act.put, List.setIfInBounds_toArray, List.set_cons_zero, List.set_cons_succ]
  refine wpAnyH_ready (rs := [7]) (by kernel_rfl) (by simp) ?_
  refine AllReadyH.cons (o := _) rfl (fun K hK => ?_) AllReadyH.nil
  go_simp
  refine hK.out _ _ ?_ (fun hHeld => ?_)
  · first | exact HS.out _ (Below.refl _ _).drew | exact HS.out _ (keepAd (HP.out _ (by assumption)) HZ _) | exact HS.out _ (keepA (HP.out _ (by assumption)) HZ _) | exact HS.out _ (keepG (HP.out _ (by assumption)) HZ (by assumption) (by assumption)) | exact HS.out _ (keepS (Lib.hid (keepS (HP.out _ (by assumption)) (by simp) _)) (by simp) _)
  clear hK K
  try simp only [Act.put, List.setIfInBounds_toArray, List.set_cons_zero, List.set_cons_succ]
  refine wpAnyH_done (by kernel_rfl) ?_ _
  go_wp2
  have hW : Below w.heap.size w wz := by rw [← Hwz.out]; exact ((Below.refl _ _).alloc (Nat.le_refl _) _).alloc (by simp) _
  have HP' := HP.out _ (by assumption)
  refine bodyPost_ret (v := .agg #[.int .i64 M, .slice A' (0 + n) c']) (by simp [results, Tryd.results8, go_sem, hc0, hc1]) rfl ⟨_, rfl, ?_, ?_⟩
  · have := own_far (p := ⟨w.heap.size + 1, 1, none⟩) (own_far (p := ⟨w.heap.size + 1, 0, none⟩) HO.out (by simp) (.int .i64 M)) (by simp) (.slice A' (0 + n) c')
    simpa using own_mono this (by omega)
  · exact hW.trans (HP'.out.mono (by omega))
end Go.Proofs.YtlmmjaolmmcklaaDoor
