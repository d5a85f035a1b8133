/-
  The reference compares trains that are alike.
-/
import Derived.Test.YtjmegnbjacndpaaSameW
import Derived.Laws.StructEq
namespace Go.Proofs.Ytjmegnbjacndpaa
open Go.RowKit Go.Maps
theorem eq_pr (C U : Int) (w : World) :
    (Op.equalIn 10000 72 (.agg #[.int .i64 C, .int .i64 U]) (.agg #[.int .i64 C, .int .i64 U])).run Try.prog w = .ok true w := by
  have z3 := Try.sizeOf3
  have a3 := Try.isAgg3
  have u3 := Try.underlying3
  have hS : Try.prog.underlying 72 = some (.struct (Try.prog.fieldsOf 72)) := by kernel_rfl
  have hp : Try.prog.stoodInHeld 72 = false := by kernel_rfl
  rw [show (10000 : Nat) = 9999 + 1 from rfl, run_equalIn_agg w 9999 72 _ _ hS hp]
  simp only [Program.fieldsOf, Try.underlying72]
  go_simp
theorem SameTrains_eq (A A' : Option Addr) (n c c' : Nat) (l : List (Int × Int)) (w : World) (hn : n ≤ maxLen) (h : Reads w w.heap.size 2 A n (prs l)) (h' : Reads w w.heap.size 2 A' n (prs l)) :
    Calls Try.prog 12 #[.slice A n c, .slice A' n c'] w fun e w' => e = .returned (.bool true) ∧ Below w.heap.size w w' := by
  have hE := eq_pr
  have gEq : Try.prog.eqGuardType Try.prog.depth 72 = false := by kernel_rfl
  unfold maxLen at hn
  have h1 := Lib.hid h
  have h1' := Lib.hid h'
  clear h h'
  go_enter Try.func12, Try.ntmps12
  go_wp2
  go_loopw [5] (fun x wr => ∃ k : Nat, k ≤ n ∧ x = .int .i64 k ∧ Hid (∃ q, wr = w.drewN q)) (fun x _ => n - (intOf x).toNat)
  case atStart => exact ⟨0, by omega, rfl, ⟨0, rfl⟩⟩
  case round =>
    obtain ⟨k, hk, rfl, hq⟩ := hrel
    obtain ⟨q, rfl⟩ := hq.out
    clear hq
    by_cases hlt : k < n
    · obtain ⟨b, o, C, U, rfl, hb, hx, c0, c1⟩ := h1.out.pr hlt
      obtain ⟨b', o', C', U', rfl, hb', hx', c0', c1'⟩ := h1'.out.pr hlt
      rw [hx] at hx'
      simp only [Option.some.injEq, Prod.mk.injEq] at hx'
      obtain ⟨rfl, rfl⟩ := hx'
      clear hx
      have hE1 := hE C U
      clear hE
      go_wp2
      go_quiet (fail)
      go_wp2
      go_roundw
      case rel => exact ⟨k + 1, by omega, by go_num, (by first | exact ⟨_, rfl⟩ | exact ⟨_, World.drewN_drewN _ _ _⟩)⟩
      case measure => simp [intOf]; omega
    · clear hE
      go_wp2
      go_ret
      exact ⟨rfl, below_drewN (Below.refl _ _) _⟩
end Go.Proofs.Ytjmegnbjacndpaa
