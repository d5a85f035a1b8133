/-
  The walk of the program's question whether a shaft is valid: over its table of checks.
-/
import Derived.Test.YtlmmjaolmmcklaaDoorSound
import Derived.Laws.EntriesVeiled
import Derived.Laws.Rows
namespace Go.Proofs.YtlmmjaolmmcklaaDoor
open Go.RowKit
set_option linter.unusedVariables false

/-- The table of checks lies in memory as its initialiser lays it. -/
def Laid (w : World) : Prop := w.cell? ⟨0, 0, none⟩ = some (.func (.func 122) #[] #[]) ∧ w.cell? ⟨0, 1, none⟩ = some (.func (.func 123) #[] #[]) ∧ 0 < w.heap.size

theorem Laid.below {B : Nat} {w w' : World} (h : Laid w) (hb : Below B w w') (hB : 0 < B) : Laid w' :=
  ⟨(hb.cell (p := ⟨0, 0, none⟩) hB).trans h.1, (hb.cell (p := ⟨0, 1, none⟩) hB).trans h.2.1, Nat.lt_of_lt_of_le h.2.2 hb.size⟩

def soundS (M : Int) (l : List (Int × Int × Int)) : Int := if shaftB M l then 0 else 102

set_option maxHeartbeats 1000000 in
theorem Sound_any (M : Int) (A : Option Addr) (n c : Nat) (l : List (Int × Int × Int)) (w : World) (hn : n ≤ maxLen) (hR : Reads w w.heap.size 3 A n (sts l)) (hL : Laid w) :
    Calls Tryd.prog 32 #[.agg #[.int .i64 M, .slice A n c]] w fun e w' => e = .returned (.int .i64 (soundS M l)) ∧ Below w.heap.size w w' := by
  have i0 : ∀ w, (Instr.index 117 (.agg #[.func (.func 122) #[] #[], .func (.func 123) #[] #[]]) (.int .i64 0)).run Tryd.prog w = .ok (.agg #[.func (.func 122) #[] #[]]) w := fun _ => by kernel_rfl
  have i1 : ∀ w, (Instr.index 117 (.agg #[.func (.func 122) #[] #[], .func (.func 123) #[] #[]]) (.int .i64 1)).run Tryd.prog w = .ok (.agg #[.func (.func 123) #[] #[]]) w := fun _ => by kernel_rfl
  obtain ⟨L0, L1, L2⟩ := hL
  have hB0 : Hid (Below w.heap.size w (w.alloc (.cells #[.int .i64 M, .slice A n c] 24))) := (Below.refl _ _).alloc (Nat.le_refl _) _
  have hB0s : Hid ((w.alloc (.cells #[.int .i64 M, .slice A n c] 24)).heap.size = w.heap.size + 1) := by show _ = _; simp
  have hl := Lib.hid hR.st_len
  have hR1 := Lib.hid (hR.alloc (Nat.le_refl _) (.cells #[.int .i64 M, .slice A n c] 24))
  have HM0 : Hid ((w.alloc (.cells #[.int .i64 M, .slice A n c] 24)).cell? ⟨w.heap.size, 0, none⟩ = some (.int .i64 M)) := by show _ = _; rw [World.cell?_alloc_at _ _ _ _ rfl]; rfl
  have HM1 : Hid ((w.alloc (.cells #[.int .i64 M, .slice A n c] 24)).cell? ⟨w.heap.size, 1, none⟩ = some (.slice A n c)) := by show _ = _; rw [World.cell?_alloc_at _ _ _ _ rfl]; rfl
  clear hR
  cases h1 : ((decide (1 ≤ M) && decide (M ≤ 12)) && decide (n ≤ 4))
  · have hf : Hid (soundS M l = 102) := by show soundS M l = 102; unfold soundS shaftB; rw [hl.out, h1]; rfl
    have h1' := Lib.hid h1
    clear h1
    go_enter Tryd.func32, Tryd.ntmps32
    go_wp2_with fail
    refine wp_loop_rounds 3 ?_
    rw [rounds_succ]
    go_wp2_with fail
    refine (check1_any M A n c _).mono ?_
    rw [h1'.out]
    rintro e w1 ⟨rfl, hb⟩
    have HB := Lib.hid hb
    clear hb
    go_wp2
    go_ret
    exact ⟨ret_int hf.out.symm, (hB0.out.alloc (by rw [hB0s.out]; omega) _).trans (HB.out.mono (by simp; omega))⟩
  · have hM : (decide (1 ≤ M) && decide (M ≤ 12)) = true := by simp at h1; simp; omega
    have hM1 : 1 ≤ M := by simp at hM; omega
    have hM2 : M ≤ 12 := by simp at hM; omega
    have h1' := Lib.hid h1
    have hs : Hid (soundS M l = if l.all (okSt M) then 0 else 102) := by show soundS M l = _; unfold soundS shaftB; rw [hl.out, h1, Bool.true_and]
    clear h1 hM
    go_enter Tryd.func32, Tryd.ntmps32
    go_wp2_with fail
    refine wp_loop_rounds 3 ?_
    rw [rounds_succ]
    go_wp2_with fail
    refine (check1_any M A n c _).mono ?_
    rw [h1'.out]
    rintro e w1 ⟨rfl, hb⟩
    have m0 : w1.cell? ⟨w.heap.size, 0, none⟩ = some (.int .i64 M) := (hb.cell (p := ⟨w.heap.size, 0, none⟩) (by first | omega | (simp; omega) | simp)).trans ((World.cell?_alloc_lt _ _ _ (by simp)).trans HM0.out)
    have m1 : w1.cell? ⟨w.heap.size, 1, none⟩ = some (.slice A n c) := (hb.cell (p := ⟨w.heap.size, 1, none⟩) (by first | omega | (simp; omega) | simp)).trans ((World.cell?_alloc_lt _ _ _ (by simp)).trans HM1.out)
    have m0' : ∀ o, (w1.alloc o).cell? ⟨w.heap.size, 0, none⟩ = some (.int .i64 M) := fun o => (World.cell?_alloc_lt _ _ _ (by have := hb.size; simp at this ⊢; omega)).trans m0
    have m1' : ∀ o, (w1.alloc o).cell? ⟨w.heap.size, 1, none⟩ = some (.slice A n c) := fun o => (World.cell?_alloc_lt _ _ _ (by have := hb.size; simp at this ⊢; omega)).trans m1
    have hz : w.heap.size + 1 + 1 ≤ w1.heap.size := by have := hb.size; simpa using this
    have HB := Lib.hid ((hB0.out.alloc (by rw [hB0s.out]; omega) _).trans (hb.mono (by first | omega | (simp; omega) | simp)))
    have hRw := Lib.hid ((((hR1.out.alloc (by rw [hB0s.out]; omega) _).below (hb.mono (by first | omega | (simp; omega) | simp))).alloc (by omega) (.cells #[.func (.func 123) #[] #[]] 116)).more (B' := (w1.alloc (.cells #[.func (.func 123) #[] #[]] 116)).heap.size) (by first | omega | (simp; omega) | simp))
    have C2 := check2_any M A n c l _ hn hM1 hM2 hRw.out
    have C2' := Lib.hid C2
    clear C2 hb
    cases h2 : l.all (okSt M)
    · rw [h2] at C2' hs
      have hs' : Hid (soundS M l = 102) := hs
      clear h2 hs
      go_wp2_with fail
      rw [rounds_succ]
      go_wp2_with fail
      refine C2'.out.mono ?_
      rintro e w2 ⟨rfl, hb2⟩
      have HB2 := Lib.hid hb2
      clear hb2
      go_wp2
      go_ret
      exact ⟨ret_int hs'.out.symm, below_in HB.out (by omega) HB2.out⟩
    · rw [h2] at C2' hs
      have hs' : Hid (soundS M l = 0) := hs
      clear h2 hs
      go_wp2_with fail
      rw [rounds_succ]
      go_wp2_with fail
      refine C2'.out.mono ?_
      rintro e w2 ⟨rfl, hb2⟩
      have HB2 := Lib.hid hb2
      clear hb2
      go_wp2_with fail
      rw [rounds_succ]
      go_wp2
      go_ret
      exact ⟨ret_int hs'.out.symm, below_in HB.out (by omega) HB2.out⟩
end Go.Proofs.YtlmmjaolmmcklaaDoor
