/-
  The walk of the program's best setting.
-/
import Derived.Test.YtlmmjaolmmcklaaDoorTry
namespace Go.Proofs.YtlmmjaolmmcklaaDoor
open Go.RowKit
set_option linter.unusedSimpArgs false
set_option linter.unusedVariables false

set_option maxRecDepth 100000 in
set_option maxHeartbeats 1000000 in
theorem best_any (m : Nat) (cnt : St3 → Int) (A Ac : Option Addr) (n c cc : Nat) (l : List St3) (w : World) (hR : Reads w w.heap.size 3 A n (sts l)) (hC : Reads w w.heap.size 1 Ac n (ints (l.map cnt))) (hv : shaftB m l = true) (hc : ∀ x ∈ l, 0 ≤ cnt x ∧ cnt x ≤ 500) :
    Calls Tryd.prog 61 #[.agg #[.int .i64 m, .slice A n c, .slice Ac n cc]] w fun e w' =>
      ∃ Av cv, e = .returned (.tuple #[.slice Av (bestS (mostL m cnt l) (places m l)).1.length cv, .int .i64 (bestS (mostL m cnt l) (places m l)).2]) ∧ Reads w' w'.heap.size 1 Av (bestS (mostL m cnt l) (places m l)).1.length (ints (bestS (mostL m cnt l) (places m l)).1) ∧ Below w.heap.size w w' := by
  have hl : l.length = n := hR.st_len
  have hmono : ∀ s t, mostL m cnt l s ≤ mostL m cnt l (s ++ t) := fun s t => mostL_more (fun x hx => (hc x hx).1)
  have hbest : Hid (tryS (mostL m cnt l) (places m l) [] ([], -1) = bestS (mostL m cnt l) (places m l)) := tryS_best _ hmono _
  have hB4 : Below w.heap.size w ((((w.alloc (.cells #[.int .i64 m, .slice A n c, .slice Ac n cc] 111)).alloc (.cells #[.slice none 0 0] 25)).alloc (.cells #[.int .i64 (-1)] 3)).alloc (.cells #[.func (.func 80) #[] #[.pointer (some ⟨w.heap.size, 0, none⟩), .pointer (some ⟨w.heap.size + 1 + 1, 0, none⟩), .pointer (some ⟨w.heap.size + 1, 0, none⟩), .pointer (some ⟨w.heap.size + 1 + 1 + 1, 0, none⟩)]] 138)) := ((((Below.refl _ _).alloc (Nat.le_refl _) _).alloc (by simp) _).alloc (by simp <;> omega) _).alloc (by simp <;> omega) _
  have hT : TF w w.heap.size (w.heap.size + 1) (w.heap.size + 1 + 1) (w.heap.size + 1 + 1 + 1) m A n c Ac cc l cnt ([], -1) ((((w.alloc (.cells #[.int .i64 m, .slice A n c, .slice Ac n cc] 111)).alloc (.cells #[.slice none 0 0] 25)).alloc (.cells #[.int .i64 (-1)] 3)).alloc (.cells #[.func (.func 80) #[] #[.pointer (some ⟨w.heap.size, 0, none⟩), .pointer (some ⟨w.heap.size + 1 + 1, 0, none⟩), .pointer (some ⟨w.heap.size + 1, 0, none⟩), .pointer (some ⟨w.heap.size + 1 + 1 + 1, 0, none⟩)]] 138)) := by
    refine ⟨Nat.le_refl _, by omega, by omega, by omega, ?_, ⟨none, 0, ?_, Reads.none_, fun h => absurd h (by simp)⟩, ?_, ?_, hR.below hB4, hC.below hB4, hB4⟩
    · rw [heap_lt_alloc' _ _ _ (by simp <;> omega), heap_lt_alloc' _ _ _ (by simp <;> omega), heap_lt_alloc' _ _ _ (by simp)]
      exact heap_alloc_new w _
    · rw [heap_lt_alloc' _ _ _ (by simp <;> omega), heap_lt_alloc' _ _ _ (by simp)]
      have := heap_alloc_new (w.alloc (.cells #[.int .i64 m, .slice A n c, .slice Ac n cc] 111)) (.cells #[.slice none 0 0] 25)
      simpa using this
    · rw [heap_lt_alloc' _ _ _ (by simp)]
      have := heap_alloc_new ((w.alloc (.cells #[.int .i64 m, .slice A n c, .slice Ac n cc] 111)).alloc (.cells #[.slice none 0 0] 25)) (.cells #[.int .i64 (-1)] 3)
      simpa using this
    · have := heap_alloc_new (((w.alloc (.cells #[.int .i64 m, .slice A n c, .slice Ac n cc] 111)).alloc (.cells #[.slice none 0 0] 25)).alloc (.cells #[.int .i64 (-1)] 3)) (.cells #[.func (.func 80) #[] #[.pointer (some ⟨w.heap.size, 0, none⟩), .pointer (some ⟨w.heap.size + 1 + 1, 0, none⟩), .pointer (some ⟨w.heap.size + 1, 0, none⟩), .pointer (some ⟨w.heap.size + 1 + 1 + 1, 0, none⟩)]] 138)
      simpa using this
  have H := try_any w w.heap.size (w.heap.size + 1) (w.heap.size + 1 + 1) (w.heap.size + 1 + 1 + 1) m A n c Ac cc l cnt hl hv hc (places m l) [] 0 none 0 ([], -1) _ rfl (by simp) (by omega) hT Reads.none_ (fun h => absurd h (by omega)) ⟨by simp, fun k x y hx hy => by simp at hy⟩
  rw [hbest.out] at H
  have H' := Lib.hid H
  obtain ⟨res, hres⟩ : ∃ res, bestS (mostL m cnt l) (places m l) = res := ⟨_, rfl⟩
  rw [hres] at H' ⊢
  clear H hT hB4 hmono hbest hR hC hc hv hres
  go_enter Tryd.func61, Tryd.ntmps61
  go_wp2_with fail
  refine H'.out.mono ?_
  rintro e w1 ⟨rfl, hT1, -⟩
  obtain ⟨Ab, cb, cb1, hr1⟩ := hT1.cb
  have cl1 := hT1.cl
  have hr1' := Lib.hid hr1
  have hB1 := Lib.hid hT1.bel
  clear hT1 hr1 H'
  go_wp2_with fail
  go_quiet (fail)
  go_wp2
  go_ret2
  exact ⟨_, _, rfl, hr1'.out, below_drewN hB1.out _⟩
end Go.Proofs.YtlmmjaolmmcklaaDoor
