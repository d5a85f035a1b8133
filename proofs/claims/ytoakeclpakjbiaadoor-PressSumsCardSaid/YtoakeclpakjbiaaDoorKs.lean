/-
  Facts on blocks of some cells, and stores of all their cells.
-/
import Derived.Test.YtoakeclpakjbiaaDoorTk
import Derived.Test.YtoakeclpakjbiaaDoorMill
import Derived.Deep.DeepCutAuto
import Derived.Deep.CutBlock
namespace Go.Proofs.YtoakeclpakjbiaaDoor
open Go.RowKit
set_option linter.unusedVariables false
set_option linter.unusedSimpArgs false
/-- The blocks of a call of rest: its row, what will be returned, the sum so far. -/
structure RF (w : World) (f : Nat → Sp) (s : Sp) (x : World) : Prop where
  b0 : x.heap[w.heap.size]? = some (.cells #[.int .i64 (f 0).1, .int .i64 (f 0).2, .int .i64 (f 1).1, .int .i64 (f 1).2, .int .i64 (f 2).1, .int .i64 (f 2).2, .int .i64 (f 3).1, .int .i64 (f 3).2, .int .i64 (f 4).1, .int .i64 (f 4).2, .int .i64 (f 5).1, .int .i64 (f 5).2, .int .i64 (f 6).1, .int .i64 (f 6).2] 104 (0, 0))
  b1 : x.heap[w.heap.size + 1]? = some (.cells #[.int .i64 0, .int .i64 0] 44 (0, 0))
  b2 : x.heap[w.heap.size + 1 + 1]? = some (.cells #[.int .i64 s.1, .int .i64 s.2] 44 (0, 0))
  bel : Below w.heap.size w x
  size : w.heap.size + 3 ≤ x.heap.size
theorem RF.row {w x : World} {f : Nat → Sp} {s : Sp} (h : RF w f s x) {k : Nat} (hk : k < 7) : x.cell? ⟨w.heap.size, k * 2, none⟩ = some (.int .i64 (f k).1) ∧ x.cell? ⟨w.heap.size, k * 2 + 1, none⟩ = some (.int .i64 (f k).2) := by
  obtain rfl | rfl | rfl | rfl | rfl | rfl | rfl : k = 0 ∨ k = 1 ∨ k = 2 ∨ k = 3 ∨ k = 4 ∨ k = 5 ∨ k = 6 := by omega
  all_goals exact ⟨by simp [World.cell?, h.b0], by simp [World.cell?, h.b0]⟩
theorem RF.s0 {w x : World} {f : Nat → Sp} {s : Sp} (h : RF w f s x) : x.cell? ⟨w.heap.size + 1 + 1, 0, none⟩ = some (.int .i64 s.1) ∧ x.cell? ⟨w.heap.size + 1 + 1, 1, none⟩ = some (.int .i64 s.2) ∧ x.frozen? ⟨w.heap.size + 1 + 1, 0, none⟩ = false ∧ x.frozen? ⟨w.heap.size + 1 + 1, 1, none⟩ = false := by
  exact ⟨by simp [World.cell?, h.b2], by simp [World.cell?, h.b2], by simp [World.frozen?, h.b2], by simp [World.frozen?, h.b2]⟩
theorem RF.next {w x y : World} {f : Nat → Sp} {s : Sp} (h : RF w f s x) (hb : Below x.heap.size x y) (s' : Sp) (hs : ∀ c0 c1, y.heap[w.heap.size + 1 + 1]? = some (.cells #[c0, c1] 44 (0, 0)) → ((y.setCell ⟨w.heap.size + 1 + 1, 0, none⟩ (.int .i64 s'.1)).setCell ⟨w.heap.size + 1 + 1, 1, none⟩ (.int .i64 s'.2)).heap[w.heap.size + 1 + 1]? = some (.cells #[.int .i64 s'.1, .int .i64 s'.2] 44 (0, 0))) :
    RF w f s' ((y.setCell ⟨w.heap.size + 1 + 1, 0, none⟩ (.int .i64 s'.1)).setCell ⟨w.heap.size + 1 + 1, 1, none⟩ (.int .i64 s'.2)) := by
  have hz := h.size
  refine ⟨?_, ?_, hs _ _ ((hb.block _ (by omega)).trans h.b2), ((h.bel.trans (hb.mono (by omega))).setCell (by simp <;> omega) _).setCell (by simp <;> omega) _, by have := hb.size; simp; omega⟩
  · rw [Below.heap_setCell _ _ _ _ (by simp <;> omega), Below.heap_setCell _ _ _ _ (by simp <;> omega), hb.block _ (by omega)]; exact h.b0
  · rw [Below.heap_setCell _ _ _ _ (by simp <;> omega), Below.heap_setCell _ _ _ _ (by simp <;> omega), hb.block _ (by omega)]; exact h.b1
set_option maxRecDepth 100000 in
set_option maxHeartbeats 1000000 in
theorem rest_any (f : Nat → Sp) (hf : SmF f) (w : World) : Calls Tryd.prog 98 #[.agg #[.int .i64 (f 0).1, .int .i64 (f 0).2, .int .i64 (f 1).1, .int .i64 (f 1).2, .int .i64 (f 2).1, .int .i64 (f 2).2, .int .i64 (f 3).1, .int .i64 (f 3).2, .int .i64 (f 4).1, .int .i64 (f 4).2, .int .i64 (f 5).1, .int .i64 (f 5).2, .int .i64 (f 6).1, .int .i64 (f 6).2]] w fun e w' => e = .returned (.agg #[.int .i64 (rest1 f 4).1, .int .i64 (rest1 f 4).2]) ∧ Below w.heap.size w w' := by
  have hH : Hid (RF w f (rest1 f 0) (((w.alloc (.cells #[.int .i64 (f 0).1, .int .i64 (f 0).2, .int .i64 (f 1).1, .int .i64 (f 1).2, .int .i64 (f 2).1, .int .i64 (f 2).2, .int .i64 (f 3).1, .int .i64 (f 3).2, .int .i64 (f 4).1, .int .i64 (f 4).2, .int .i64 (f 5).1, .int .i64 (f 5).2, .int .i64 (f 6).1, .int .i64 (f 6).2] 104)).alloc (.cells #[.int .i64 0, .int .i64 0] 44)).alloc (.cells #[.int .i64 0, .int .i64 0] 44))) := by
    refine ⟨?_, ?_, ?_, (((Below.refl _ _).alloc (Nat.le_refl _) _).alloc (by simp) _).alloc (by simp <;> omega) _, by simp⟩
    · rw [heap_lt_alloc' _ _ _ (by simp <;> omega), heap_lt_alloc' _ _ _ (by simp)]; exact heap_alloc_new w _
    · rw [heap_lt_alloc' _ _ _ (by simp)]
      have := heap_alloc_new (w.alloc (.cells #[.int .i64 (f 0).1, .int .i64 (f 0).2, .int .i64 (f 1).1, .int .i64 (f 1).2, .int .i64 (f 2).1, .int .i64 (f 2).2, .int .i64 (f 3).1, .int .i64 (f 3).2, .int .i64 (f 4).1, .int .i64 (f 4).2, .int .i64 (f 5).1, .int .i64 (f 5).2, .int .i64 (f 6).1, .int .i64 (f 6).2] 104)) (.cells #[.int .i64 0, .int .i64 0] 44)
      simpa using this
    · have := heap_alloc_new ((w.alloc (.cells #[.int .i64 (f 0).1, .int .i64 (f 0).2, .int .i64 (f 1).1, .int .i64 (f 1).2, .int .i64 (f 2).1, .int .i64 (f 2).2, .int .i64 (f 3).1, .int .i64 (f 3).2, .int .i64 (f 4).1, .int .i64 (f 4).2, .int .i64 (f 5).1, .int .i64 (f 5).2, .int .i64 (f 6).1, .int .i64 (f 6).2] 104)).alloc (.cells #[.int .i64 0, .int .i64 0] 44)) (.cells #[.int .i64 0, .int .i64 0] 44)
      simpa [rest1] using this
  have HSM := Lib.hid (fun k (hk : k ≤ 4) => rest1_sml hf k hk)
  have HF := Lib.hid hf
  clear hf
  go_enter Tryd.func98, Tryd.ntmps98
  go_wp2
  generalize (((w.alloc (.cells #[.int .i64 (f 0).1, .int .i64 (f 0).2, .int .i64 (f 1).1, .int .i64 (f 1).2, .int .i64 (f 2).1, .int .i64 (f 2).2, .int .i64 (f 3).1, .int .i64 (f 3).2, .int .i64 (f 4).1, .int .i64 (f 4).2, .int .i64 (f 5).1, .int .i64 (f 5).2, .int .i64 (f 6).1, .int .i64 (f 6).2] 104)).alloc (.cells #[.int .i64 0, .int .i64 0] 44)).alloc (.cells #[.int .i64 0, .int .i64 0] 44)) = wb at *
  go_loopw [4] (fun x wr => ∃ k : Nat, k ≤ 6 ∧ x = .int .i64 k ∧ ∃ j : Nat, Hid (k = j + 2) ∧ Hid (RF w f (rest1 f j) wr)) (fun x _ => 6 - (intOf x).toNat)
  case atStart => exact ⟨2, by omega, rfl, 0, rfl, hH⟩
  case round =>
    clear hH
    obtain ⟨k, hk, rfl, j, hkj, hX⟩ := hrel
    have hj : j ≤ 4 := by have := hkj.out; omega
    by_cases hlt : k < 6
    · have hs1 : Hid (Sml (rest1 f j)) := by have := HSM.out j hj; show Sml _; unfold Sml; omega
      have hs2 : Hid (Sml (f (j + 2))) := by have := HF.out (j + 2) (by have := hkj.out; omega); show Sml _; unfold Sml; omega
      obtain ⟨r0, r1⟩ := hX.out.row (k := j + 2) (by have := hkj.out; omega)
      rw [← hkj.out] at r0 r1 hs2
      have hk7 : (k : Int) < 7 := by omega
      have hk2 : (2 : Int) ≤ (k : Int) := by have := hkj.out; omega
      obtain ⟨s0, s1, f0, f1⟩ := hX.out.s0
      have HN : Hid (∀ y, Below wr.heap.size wr y → RF w f (rest1 f (j + 1)) ((y.setCell ⟨w.heap.size + 1 + 1, 0, none⟩ (.int .i64 (plus (rest1 f j) (f k)).1)).setCell ⟨w.heap.size + 1 + 1, 1, none⟩ (.int .i64 (plus (rest1 f j) (f k)).2))) := by
        show ∀ y, _
        rw [hkj.out]
        exact fun y hy => hX.out.next hy _ (fun c0 c1 h => set_two _ _ _ _ _ _ _ h)
      have hsz := hX.out.size
      clear hX
      go_wp2_with fail
      obtain ⟨S, hSd⟩ : ∃ S : World → Prop, S = fun z => (z.cell? ⟨w.heap.size, k * 2, none⟩ = some (.int .i64 (f k).1) ∧ z.cell? ⟨w.heap.size, k * 2 + 1, none⟩ = some (.int .i64 (f k).2)) ∧ Hid (Below (w.heap.size + 1) wr z) := ⟨_, rfl⟩
      have HS := Lib.hid (fun z (hz : Hid (Below (w.heap.size + 1) wr z)) => (by rw [hSd]; exact ⟨⟨(hz.out.cell (by simp)).trans r0, (hz.out.cell (by simp)).trans r1⟩, hz⟩ : S z))
      refine wp_region_held_drew (S := S) (by kernel_rfl) ?_ (fun hHeld => ?_)
      · exact HS.out _ (Lib.hid (Below.refl _ _).drew)
      refine tY (v := ?_) 1 10 ?_ ?_
      rotate_left
      · intro w hSw; rw [hSd] at hSw; obtain ⟨⟨q0, q1⟩, -⟩ := hSw; go_simp; (try with_reducible rfl)
      try simp only [N0]
      refine tY (v := ?_) 2 11 ?_ ?_
      rotate_left
      · intro w hSw; rw [hSd] at hSw; obtain ⟨⟨q0, q1⟩, -⟩ := hSw; go_simp; (try with_reducible rfl)
      try simp only [N0]
      refine tY (v := ?_) 3 12 ?_ ?_
      rotate_left
      · intro w hSw; rw [hSd] at hSw; obtain ⟨⟨q0, q1⟩, -⟩ := hSw; go_simp; (try with_reducible rfl)
      try simp only [N0]
      refine wpAnyH_ready (rs := [0]) (by kernel_rfl) (by simp) ?_
      refine AllReadyH.cons (o := _) rfl (fun Kq hK => ?_) AllReadyH.nil
      go_simp
      refine hK.out _ _ ?_ (fun hHeld => ?_)
      · exact hHeld
      clear hK Kq
      try simp only [N0]
      refine wpAnyH_ready (rs := [4]) (by kernel_rfl) (by simp) ?_
      refine AllReadyH.cons (o := _) rfl (fun Kq hK => ?_) AllReadyH.nil
      go_simp
      refine (plus_any (rest1 f j) (f k) hs1.out hs2.out _).mono ?_
      rintro e z5 ⟨rfl, hb5⟩
      have hB5 : Hid (Below wr.heap.size wr z5) := Lib.hid ((Below.refl _ wr).drew.trans hb5)
      have g0 : z5.frozen? ⟨w.heap.size + 1 + 1, 0, none⟩ = false := (hb5.frozen (p := ⟨w.heap.size + 1 + 1, 0, none⟩) (by simp <;> omega)).trans f0
      have g1 : z5.frozen? ⟨w.heap.size + 1 + 1, 1, none⟩ = false := (hb5.frozen (p := ⟨w.heap.size + 1 + 1, 1, none⟩) (by simp <;> omega)).trans f1
      have y0 := (hb5.cell (p := ⟨w.heap.size + 1 + 1, 0, none⟩) (by simp <;> omega)).trans s0
      have y1 := (hb5.cell (p := ⟨w.heap.size + 1 + 1, 1, none⟩) (by simp <;> omega)).trans s1
      clear hb5
      try go_simp
      refine hK.out _ _ ?_ (fun hHeld => ?_)
      · exact HS.out _ (Lib.hid (hB5.out.mono (by omega)))
      clear hK Kq
      try simp only [N0]
      refine wpAnyH_ready (rs := [5]) (by kernel_rfl) (by simp) ?_
      refine AllReadyH.cons (o := _) rfl (fun Kq hK => ?_) AllReadyH.nil
      go_simp
      refine hK.out _ _ ?_ (fun hHeld => ?_)
      · exact HS.out _ (Lib.hid (((hB5.out.mono (by omega)).setCell (by simp <;> omega) _).setCell (by simp <;> omega) _))
      clear hK Kq
      try simp only [N0]
      refine wpAnyH_done (by kernel_rfl) ?_ _
      have HX := Lib.hid (HN.out _ hB5.out)
      clear HN HS hB5 y0 y1 g0 g1
      go_wp2
      go_roundw
      case rel => exact ⟨k + 1, by omega, by go_num, j + 1, (by have := hkj.out; show _ = _; omega), HX⟩
      case measure => simp [intOf]; omega
    · have hj4 : j = 4 := by have := hkj.out; omega
      subst hj4
      obtain ⟨s0, s1, f0, f1⟩ := hX.out.s0
      have b1 := hX.out.b1
      have d0 : wr.frozen? ⟨w.heap.size + 1, 0, none⟩ = false := by simp [World.frozen?, b1]
      have d1 : wr.frozen? ⟨w.heap.size + 1, 1, none⟩ = false := by simp [World.frozen?, b1]
      have e0 : wr.cell? ⟨w.heap.size + 1, 0, none⟩ = some (.int .i64 0) := by simp [World.cell?, b1]
      have e1 : wr.cell? ⟨w.heap.size + 1, 1, none⟩ = some (.int .i64 0) := by simp [World.cell?, b1]
      have hb2 := set_two wr _ _ (.int .i64 (rest1 f 4).1) (.int .i64 (rest1 f 4).2) _ _ b1
      have k0 : ((wr.setCell ⟨w.heap.size + 1, 0, none⟩ (.int .i64 (rest1 f 4).1)).setCell ⟨w.heap.size + 1, 1, none⟩ (.int .i64 (rest1 f 4).2)).cell? ⟨w.heap.size + 1, 0, none⟩ = some (.int .i64 (rest1 f 4).1) := by simp only [World.cell?, hb2]; rfl
      have k1 : ((wr.setCell ⟨w.heap.size + 1, 0, none⟩ (.int .i64 (rest1 f 4).1)).setCell ⟨w.heap.size + 1, 1, none⟩ (.int .i64 (rest1 f 4).2)).cell? ⟨w.heap.size + 1, 1, none⟩ = some (.int .i64 (rest1 f 4).2) := by simp only [World.cell?, hb2]; rfl
      have hB := Lib.hid hX.out.bel
      clear hX hb2 b1
      go_wp2
      exact bodyPost_ret (v := .agg #[.int .i64 (rest1 f 4).1, .int .i64 (rest1 f 4).2]) (by simp [results, Tryd.results98, go_sem, k0, k1]) rfl ⟨rfl, (hB.out.setCell (by simp <;> omega) _).setCell (by simp <;> omega) _⟩
end Go.Proofs.YtoakeclpakjbiaaDoor

namespace Go.Proofs.YtoakeclpakjbiaaDoor
open Go.RowKit
set_option linter.unusedVariables false
set_option linter.unusedSimpArgs false
def SmU (U : Nat → Sp) (n : Nat) : Prop := ∀ i, i < n → -100000000000 ≤ (U i).1 ∧ (U i).1 ≤ 100000000000 ∧ -100000000000 ≤ (U i).2 ∧ (U i).2 ≤ 100000000000
end Go.Proofs.YtoakeclpakjbiaaDoor

namespace Go.Proofs.YtoakeclpakjbiaaDoor
open Go.RowKit
set_option linter.unusedVariables false
set_option linter.unusedSimpArgs false
theorem heap_sets2 (w : World) (b k : Nat) (v0 v1 : Value) (h : k ≠ b) : ((w.setCell ⟨b, 0, none⟩ v0).setCell ⟨b, 1, none⟩ v1).heap[k]? = w.heap[k]? := by
  rw [Below.heap_setCell _ _ _ _ (by simpa using h), Below.heap_setCell _ _ _ _ (by simpa using h)]
theorem facts14 {x : World} {b : Nat} {c0 c1 c2 c3 c4 c5 c6 c7 c8 c9 c10 c11 c12 c13 : Value} {t : TypeId} (h : x.heap[b]? = some (.cells #[c0, c1, c2, c3, c4, c5, c6, c7, c8, c9, c10, c11, c12, c13] t (0, 0))) :
    x.cell? ⟨b, 0, none⟩ = some c0 ∧ x.cell? ⟨b, 1, none⟩ = some c1 ∧ x.cell? ⟨b, 2, none⟩ = some c2 ∧ x.cell? ⟨b, 3, none⟩ = some c3 ∧ x.cell? ⟨b, 4, none⟩ = some c4 ∧ x.cell? ⟨b, 5, none⟩ = some c5 ∧ x.cell? ⟨b, 6, none⟩ = some c6 ∧ x.cell? ⟨b, 7, none⟩ = some c7 ∧ x.cell? ⟨b, 8, none⟩ = some c8 ∧ x.cell? ⟨b, 9, none⟩ = some c9 ∧ x.cell? ⟨b, 10, none⟩ = some c10 ∧ x.cell? ⟨b, 11, none⟩ = some c11 ∧ x.cell? ⟨b, 12, none⟩ = some c12 ∧ x.cell? ⟨b, 13, none⟩ = some c13 ∧ x.frozen? ⟨b, 0, none⟩ = false ∧ x.frozen? ⟨b, 1, none⟩ = false ∧ x.frozen? ⟨b, 2, none⟩ = false ∧ x.frozen? ⟨b, 3, none⟩ = false ∧ x.frozen? ⟨b, 4, none⟩ = false ∧ x.frozen? ⟨b, 5, none⟩ = false ∧ x.frozen? ⟨b, 6, none⟩ = false ∧ x.frozen? ⟨b, 7, none⟩ = false ∧ x.frozen? ⟨b, 8, none⟩ = false ∧ x.frozen? ⟨b, 9, none⟩ = false ∧ x.frozen? ⟨b, 10, none⟩ = false ∧ x.frozen? ⟨b, 11, none⟩ = false ∧ x.frozen? ⟨b, 12, none⟩ = false ∧ x.frozen? ⟨b, 13, none⟩ = false :=
  ⟨by simp [World.cell?, h], by simp [World.cell?, h], by simp [World.cell?, h], by simp [World.cell?, h], by simp [World.cell?, h], by simp [World.cell?, h], by simp [World.cell?, h], by simp [World.cell?, h], by simp [World.cell?, h], by simp [World.cell?, h], by simp [World.cell?, h], by simp [World.cell?, h], by simp [World.cell?, h], by simp [World.cell?, h], by simp [World.frozen?, h], by simp [World.frozen?, h], by simp [World.frozen?, h], by simp [World.frozen?, h], by simp [World.frozen?, h], by simp [World.frozen?, h], by simp [World.frozen?, h], by simp [World.frozen?, h], by simp [World.frozen?, h], by simp [World.frozen?, h], by simp [World.frozen?, h], by simp [World.frozen?, h], by simp [World.frozen?, h], by simp [World.frozen?, h]⟩
end Go.Proofs.YtoakeclpakjbiaaDoor
