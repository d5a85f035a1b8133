/-
  The walks of the comparison of presses that are alike, and of the bound on their size.
-/
import Derived.Test.YtoakeclpakjbiaaDoorPRec
import Derived.Laws.StructEq
namespace Go.Proofs.YtoakeclpakjbiaaDoor
open Go.RowKit
set_option linter.unusedVariables false
set_option linter.unusedSimpArgs false
theorem eq_pg (I D P T : Int) (w : World) :
    (Op.equalIn 10000 87 (.agg #[.int .i64 I, .int .i64 D, .int .i64 P, .int .i64 T]) (.agg #[.int .i64 I, .int .i64 D, .int .i64 P, .int .i64 T])).run Tryd.prog w = .ok true w := by
  have z3 := Tryd.sizeOf3
  have a3 := Tryd.isAgg3
  have u3 := Tryd.underlying3
  have hS : Tryd.prog.underlying 87 = some (.struct (Tryd.prog.fieldsOf 87)) := by kernel_rfl
  have hp : Tryd.prog.stoodInHeld 87 = false := by kernel_rfl
  rw [show (10000 : Nat) = 9999 + 1 from rfl, run_equalIn_agg w 9999 87 _ _ hS hp]
  simp only [Program.fieldsOf, Tryd.underlying87]
  go_simp
theorem eq_span (L H : Int) (k : Nat) (w : World) :
    (Op.equalIn (k + 2) 44 (.agg #[.int .i64 L, .int .i64 H]) (.agg #[.int .i64 L, .int .i64 H])).run Tryd.prog w = .ok true w := by
  have z3 := Tryd.sizeOf3
  have a3 := Tryd.isAgg3
  have u3 := Tryd.underlying3
  have hS : Tryd.prog.underlying 44 = some (.struct (Tryd.prog.fieldsOf 44)) := by kernel_rfl
  have hp : Tryd.prog.stoodInHeld 44 = false := by kernel_rfl
  rw [run_equalIn_agg w (k + 1) 44 _ _ hS hp]
  simp only [Program.fieldsOf, Tryd.underlying44]
  go_simp
theorem eq_wg (N P K L H : Int) (w : World) :
    (Op.equalIn 10000 76 (.agg #[.int .i64 N, .int .i64 P, .int .i64 K, .int .i64 L, .int .i64 H]) (.agg #[.int .i64 N, .int .i64 P, .int .i64 K, .int .i64 L, .int .i64 H])).run Tryd.prog w = .ok true w := by
  have z3 := Tryd.sizeOf3
  have a3 := Tryd.isAgg3
  have u3 := Tryd.underlying3
  have z4 := Tryd.sizeOf44
  have a4 := Tryd.isAgg44
  have hE := eq_span L H
  have hS : Tryd.prog.underlying 76 = some (.struct (Tryd.prog.fieldsOf 76)) := by kernel_rfl
  have hp : Tryd.prog.stoodInHeld 76 = false := by kernel_rfl
  rw [show (10000 : Nat) = 9999 + 1 from rfl, run_equalIn_agg w 9999 76 _ _ hS hp]
  simp only [Program.fieldsOf, Tryd.underlying76]
  go_simp
theorem Great_any (A A' : Option Addr) (n c n' c' : Nat) (w : World) :
    Calls Tryd.prog 9 #[.agg #[.slice A n c, .slice A' n' c']] w fun e w' => e = .returned (.bool (decide (20 < n) || decide (50 < n'))) ∧ Below w.heap.size w w' := by
  by_cases h1 : 20 < n
  · have r : (decide (20 < n) || decide (50 < n')) = true := by simp [h1]
    rw [r]
    have g1 : (20 : Int) < (n : Int) := by omega
    clear r h1
    go_enter Tryd.func9, Tryd.ntmps9
    go_wp2
    go_ret
    exact ⟨ret_bool (by simp [g1]), (Below.refl _ _).alloc (Nat.le_refl _) _⟩
  · by_cases h2 : 50 < n'
    · have r : (decide (20 < n) || decide (50 < n')) = true := by simp [h2]
      rw [r]
      have g1 : ¬ (20 : Int) < (n : Int) := by omega
      have g2 : (50 : Int) < (n' : Int) := by omega
      clear r h1 h2
      go_enter Tryd.func9, Tryd.ntmps9
      go_wp2
      go_ret
      exact ⟨ret_bool (by simp [g1, g2]), (Below.refl _ _).alloc (Nat.le_refl _) _⟩
    · have r : (decide (20 < n) || decide (50 < n')) = false := by simp [h1, h2]
      rw [r]
      have g1 : ¬ (20 : Int) < (n : Int) := by omega
      have g2 : ¬ (50 : Int) < (n' : Int) := by omega
      clear r h1 h2
      go_enter Tryd.func9, Tryd.ntmps9
      go_wp2
      go_ret
      exact ⟨ret_bool (by simp [g1, g2]), (Below.refl _ _).alloc (Nat.le_refl _) _⟩
set_option maxRecDepth 100000 in
set_option maxHeartbeats 2000000 in
theorem Same_eq (A A' B B' : Option Addr) (n c n' c' d d' : Nat) (ps : List PR) (ws : List WE) (w : World) (hn : n ≤ maxLen) (hn' : n' ≤ maxLen)
    (h : Reads w w.heap.size 4 A n (pgs ps)) (h' : Reads w w.heap.size 5 A' n' (wgs ws)) (g : Reads w w.heap.size 4 B n (pgs ps)) (g' : Reads w w.heap.size 5 B' n' (wgs ws)) :
    Calls Tryd.prog 16 #[.agg #[.slice A n c, .slice A' n' c'], .agg #[.slice B n d, .slice B' n' d']] w fun e w' => e = .returned (.bool true) ∧ Below w.heap.size w w' := by
  have gEq : Tryd.prog.eqGuardType Tryd.prog.depth 87 = false := by kernel_rfl
  have gEq2 : Tryd.prog.eqGuardType Tryd.prog.depth 76 = false := by kernel_rfl
  unfold maxLen at hn hn'
  have hB0 : Hid (Below w.heap.size w ((w.alloc (.cells #[.slice A n c, .slice A' n' c'] 25)).alloc (.cells #[.slice B n d, .slice B' n' d'] 25))) := ((Below.refl _ _).alloc (Nat.le_refl _) _).alloc (by simp) _
  have h1 := Lib.hid (h.below hB0.out)
  have h2 := Lib.hid (h'.below hB0.out)
  have g1 := Lib.hid (g.below hB0.out)
  have g2 := Lib.hid (g'.below hB0.out)
  have m1 : ((w.alloc (.cells #[.slice A n c, .slice A' n' c'] 25)).alloc (.cells #[.slice B n d, .slice B' n' d'] 25)).cell? ⟨w.heap.size, 0, none⟩ = some (.slice A n c) := by
    rw [World.cell?_alloc_lt _ _ _ (by simp), World.cell?_alloc_at _ _ _ _ rfl]; rfl
  have m2 : ((w.alloc (.cells #[.slice A n c, .slice A' n' c'] 25)).alloc (.cells #[.slice B n d, .slice B' n' d'] 25)).cell? ⟨w.heap.size, 1, none⟩ = some (.slice A' n' c') := by
    rw [World.cell?_alloc_lt _ _ _ (by simp), World.cell?_alloc_at _ _ _ _ rfl]; rfl
  have m3 : ((w.alloc (.cells #[.slice A n c, .slice A' n' c'] 25)).alloc (.cells #[.slice B n d, .slice B' n' d'] 25)).cell? ⟨w.heap.size + 1, 0, none⟩ = some (.slice B n d) := by
    rw [World.cell?_alloc_at _ _ _ _ (by simp)]; rfl
  have m4 : ((w.alloc (.cells #[.slice A n c, .slice A' n' c'] 25)).alloc (.cells #[.slice B n d, .slice B' n' d'] 25)).cell? ⟨w.heap.size + 1, 1, none⟩ = some (.slice B' n' d') := by
    rw [World.cell?_alloc_at _ _ _ _ (by simp)]; rfl
  clear h h' g g'
  go_enter Tryd.func16, Tryd.ntmps16
  go_wp2
  generalize (w.alloc (.cells #[.slice A n c, .slice A' n' c'] 25)).alloc (.cells #[.slice B n d, .slice B' n' d'] 25) = wb at *
  go_loopw [5] (fun x wr => ∃ k : Nat, k ≤ n ∧ x = .int .i64 k ∧ Hid (∃ q, wr = wb.drewN q)) (fun x _ => n - (intOf x).toNat)
  case atStart => exact ⟨0, by omega, rfl, ⟨0, rfl⟩⟩
  case round =>
    obtain ⟨k, hk, rfl, hq⟩ := hrel
    obtain ⟨q, rfl⟩ := hq.out
    clear hq
    by_cases hlt : k < n
    · obtain ⟨b, o, I, D, P, T, rfl, hb, hx, c0, c1, c2, c3⟩ := h1.out.pg hlt
      obtain ⟨b', o', I', D', P', T', rfl, hb', hx', c0', c1', c2', c3'⟩ := g1.out.pg hlt
      rw [hx] at hx'
      simp only [Option.some.injEq, Prod.mk.injEq] at hx'
      obtain ⟨rfl, rfl, rfl, rfl⟩ := hx'
      clear hx
      have hE1 := eq_pg I D P T
      go_wp2
      go_quiet (fail)
      go_wp2
      go_roundw
      case rel => exact ⟨k + 1, by omega, by go_num, (by first | exact ⟨_, rfl⟩ | exact ⟨_, World.drewN_drewN _ _ _⟩)⟩
      case measure => simp [intOf]; omega
    · go_wp2
      go_loopw [6] (fun x wr => ∃ k : Nat, k ≤ n' ∧ x = .int .i64 k ∧ Hid (∃ q, wr = wb.drewN q)) (fun x _ => n' - (intOf x).toNat)
      case atStart => exact ⟨0, by omega, rfl, ⟨_, rfl⟩⟩
      case round =>
        obtain ⟨m, hm, rfl, hq⟩ := hrel
        obtain ⟨q, rfl⟩ := hq.out
        clear hq
        by_cases hmt : m < n'
        · obtain ⟨b, o, N, P, K, L, H, rfl, hb, hx, c0, c1, c2, c3, c4⟩ := h2.out.wg hmt
          obtain ⟨b', o', N', P', K', L', H', rfl, hb', hx', c0', c1', c2', c3', c4'⟩ := g2.out.wg hmt
          rw [hx] at hx'
          simp only [Option.some.injEq, Prod.mk.injEq] at hx'
          obtain ⟨rfl, rfl, rfl, rfl, rfl⟩ := hx'
          clear hx
          have hE2 := eq_wg N P K L H
          go_wp2
          go_quiet (fail)
          go_wp2
          go_roundw
          case rel => exact ⟨m + 1, by omega, by go_num, (by first | exact ⟨_, rfl⟩ | exact ⟨_, World.drewN_drewN _ _ _⟩)⟩
          case measure => simp [intOf]; omega
        · go_wp2
          go_ret
          exact ⟨rfl, below_drewN hB0.out _⟩
end Go.Proofs.YtoakeclpakjbiaaDoor
