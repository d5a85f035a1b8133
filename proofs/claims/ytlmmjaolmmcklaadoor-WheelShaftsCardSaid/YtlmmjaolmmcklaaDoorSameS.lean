/-
  The walks of the comparison of shafts that are alike, and of the bound on their size.
-/
import Derived.Test.YtlmmjaolmmcklaaDoorRec
import Derived.Laws.StructEq
namespace Go.Proofs.YtlmmjaolmmcklaaDoor
open Go.RowKit
set_option linter.unusedVariables false

theorem eq_st (C U P : Int) (w : World) :
    (Op.equalIn 10000 27 (.agg #[.int .i64 C, .int .i64 U, .int .i64 P]) (.agg #[.int .i64 C, .int .i64 U, .int .i64 P])).run Tryd.prog w = .ok true w := by
  have z3 := Tryd.sizeOf3
  have a3 := Tryd.isAgg3
  have u3 := Tryd.underlying3
  have hS : Tryd.prog.underlying 27 = some (.struct (Tryd.prog.fieldsOf 27)) := by kernel_rfl
  have hp : Tryd.prog.stoodInHeld 27 = false := by kernel_rfl
  rw [show (10000 : Nat) = 9999 + 1 from rfl, run_equalIn_agg w 9999 27 _ _ hS hp]
  simp only [Program.fieldsOf, Tryd.underlying27]
  go_simp

theorem Same_eq (M : Int) (A A' : Option Addr) (n c c' : Nat) (l : List (Int × Int × Int)) (w : World) (hn : n ≤ maxLen) (h : Reads w w.heap.size 3 A n (sts l)) (h' : Reads w w.heap.size 3 A' n (sts l)) :
    Calls Tryd.prog 14 #[.agg #[.int .i64 M, .slice A n c], .agg #[.int .i64 M, .slice A' n c']] w fun e w' => e = .returned (.bool true) ∧ Below w.heap.size w w' := by
  have hE := eq_st
  have gEq : Tryd.prog.eqGuardType Tryd.prog.depth 27 = false := by kernel_rfl
  unfold maxLen at hn
  have hB0 : Hid (Below w.heap.size w ((w.alloc (.cells #[.int .i64 M, .slice A n c] 24)).alloc (.cells #[.int .i64 M, .slice A' n c'] 24))) := ((Below.refl _ _).alloc (Nat.le_refl _) _).alloc (by simp) _
  have h1 := Lib.hid ((h.alloc (Nat.le_refl _) (.cells #[.int .i64 M, .slice A n c] 24)).alloc (o := .cells #[.int .i64 M, .slice A' n c'] 24) (by simp))
  have h1' := Lib.hid ((h'.alloc (Nat.le_refl _) (.cells #[.int .i64 M, .slice A n c] 24)).alloc (o := .cells #[.int .i64 M, .slice A' n c'] 24) (by simp))
  have m1 : ((w.alloc (.cells #[.int .i64 M, .slice A n c] 24)).alloc (.cells #[.int .i64 M, .slice A' n c'] 24)).cell? ⟨w.heap.size, 1, none⟩ = some (.slice A n c) := by
    rw [World.cell?_alloc_lt _ _ _ (by simp), World.cell?_alloc_at _ _ _ _ rfl]; rfl
  have m2 : ((w.alloc (.cells #[.int .i64 M, .slice A n c] 24)).alloc (.cells #[.int .i64 M, .slice A' n c'] 24)).cell? ⟨w.heap.size + 1, 1, none⟩ = some (.slice A' n c') := by
    rw [World.cell?_alloc_at _ _ _ _ (by simp)]; rfl
  clear h h'
  go_enter Tryd.func14, Tryd.ntmps14
  go_wp2
  generalize (w.alloc (.cells #[.int .i64 M, .slice A n c] 24)).alloc (.cells #[.int .i64 M, .slice A' n c'] 24) = wb at *
  go_loopw [5] (fun x wr => ∃ k : Nat, k ≤ n ∧ x = .int .i64 k ∧ Hid (∃ q, wr = wb.drewN q)) (fun x _ => n - (intOf x).toNat)
  case atStart => exact ⟨0, by omega, rfl, ⟨0, rfl⟩⟩
  case round =>
    obtain ⟨k, hk, rfl, hq⟩ := hrel
    obtain ⟨q, rfl⟩ := hq.out
    clear hq
    by_cases hlt : k < n
    · obtain ⟨b, o, C, U, P, rfl, hb, hx, c0, c1, c2⟩ := h1.out.st hlt
      obtain ⟨b', o', C', U', P', rfl, hb', hx', c0', c1', c2'⟩ := h1'.out.st hlt
      rw [hx] at hx'
      simp only [Option.some.injEq, Prod.mk.injEq] at hx'
      obtain ⟨rfl, rfl, rfl⟩ := hx'
      clear hx
      have hE1 := hE C U P
      clear hE
      go_wp2
      go_quiet (fail)
      go_wp2
      go_roundw
      case rel => exact ⟨k + 1, by omega, by go_num, (by first | exact ⟨_, rfl⟩ | exact ⟨_, World.drewN_drewN _ _ _⟩)⟩
      case measure => simp [intOf]; omega
    · clear hE
      go_wp2
      go_ret
      exact ⟨rfl, below_drewN hB0.out _⟩

theorem Great_any (M : Int) (A : Option Addr) (n c : Nat) (w : World) :
    Calls Tryd.prog 7 #[.agg #[.int .i64 M, .slice A n c]] w fun e w' => e = .returned (.bool (decide (10 < n))) ∧ Below w.heap.size w w' := by
  go_enter Tryd.func7, Tryd.ntmps7
  go_wp2
  go_ret
  exact ⟨ret_bool (by simp; omega), (Below.refl _ _).alloc (Nat.le_refl _) _⟩
end Go.Proofs.YtlmmjaolmmcklaaDoor
