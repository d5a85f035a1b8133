/-
  What the row's condition gives: the table of checks lies in memory as its initialiser lays it.
-/
import Derived.Test.YtlmmjaolmmcklaaDoorSound2
import Derived.Test.YtlmmjaolmmcklaaDoorOpen
import Derived.LaidMore
import Derived.Stop.Joined
namespace Go.Proofs.YtlmmjaolmmcklaaDoor
open Go.RowKit Go.WideShapes Go.ChangeShapes Go.ChangeAt
set_option linter.unusedVariables false

theorem gChecks : Tryd.prog.globalNamed "oilcake/wheel.checks" = some 0 := by kernel_rfl
theorem tChecks : (Tryd.prog.globals[0]?).map (·.type) = some 117 := by kernel_rfl
theorem cChecks : Tryd.prog.cellsOf 116 = 1 := by kernel_rfl
theorem cFn : Tryd.prog.cellsOf 28 = 1 := by kernel_rfl
theorem c2Checks : Tryd.prog.cellsOf 117 = 2 := by kernel_rfl

theorem list2 {α : Type} {l : List α} (h : l.length = 2) : ∃ a b, l = [a, b] := by
  match l, h with
  | [a, b], _ => exact ⟨a, b, rfl⟩

abbrev laidList : List (String × DataW Unit) := [("oilcake/wheel.checks", Rows.laid_oilcake_wheel_checks)]

theorem door_met (os : Os) (args : Array Value) : laidMetH Tryd.prog laidList ((World.doorLaid Tryd.prog 25 os).forCall (fun _ _ => 0) ⟨#[], args, []⟩).memory :=
  laidMetH_of_parts3 (fuel := 8) (laidMet_of_run' 8 (by kernel_rfl) (by kernel_rfl)) (by kernel_rfl) (by kernel_rfl)

theorem one_fn {W : World} {n : Nat} {v : Value} {ps : List MemPlace} {b : UInt8} {r : List UInt8} {f0 : FuncId}
    (hone : ((List.range Tryd.prog.funcs.size).filter fun f => (Tryd.prog.funcs[f]?).any (·.name.toUTF8.data.toList == b :: r)) = [f0])
    (h : DataW.trod (funcToken Tryd.prog) Tryd.prog W 0 (fun _ => true) true n 116 [v] = some (.agg [.held (b :: r)], ps)) : v = .func (.func f0) #[] #[] := by
  obtain ⟨y0, m, hx, hl, h0⟩ := trod_struct1 Tryd.underlying116 h
  simp only [Prod.mk.injEq, DataW.agg.injEq, List.cons.injEq, and_true] at hx
  obtain ⟨hy, -⟩ := hx
  obtain ⟨y1, y2⟩ := y0
  simp only at hy
  subst hy
  simp only [cFn, List.drop_zero, List.take_succ_cons, List.take_zero] at h0
  exact func_of_trod Tryd.underlying28 hone h0

theorem laid_of {W : World} (h : laidMetH Tryd.prog laidList W) : Laid W := by
  obtain ⟨g, t, cs, fuel, p, hg, ht, hv, hd⟩ := h.funcs (List.mem_singleton.2 rfl)
  obtain rfl := Option.some.inj (gChecks.symm.trans hg)
  obtain rfl := Option.some.inj (tChecks.symm.trans ht)
  have hd' : DataW.trod (funcToken Tryd.prog) Tryd.prog W 0 (fun _ => true) true fuel 117 cs.toList = some (.agg [.agg [.held [111, 105, 108, 99, 97, 107, 101, 47, 119, 104, 101, 101, 108, 46, 99, 104, 101, 99, 107, 115, 36, 49]], .agg [.held [111, 105, 108, 99, 97, 107, 101, 47, 119, 104, 101, 101, 108, 46, 99, 104, 101, 99, 107, 115, 36, 50]]], p) := hd
  obtain ⟨xs, m, _, hx, hl, hxl, hi⟩ := DataW.trod_array Tryd.underlying117 hd'
  rw [c2Checks] at hl
  obtain ⟨l⟩ := cs
  obtain ⟨v0, v1, rfl⟩ := list2 hl
  obtain ⟨y0, y1, rfl⟩ := list2 hxl
  clear hd hl hxl
  simp only [Prod.mk.injEq, List.map_cons, List.map_nil, DataW.agg.injEq, List.cons.injEq, and_true] at hx
  obtain ⟨⟨e0, e1⟩, -⟩ := hx
  have h0 := hi 0 (by omega)
  have h1 := hi 1 (by omega)
  obtain ⟨a0, a1⟩ := y0
  obtain ⟨b0, b1⟩ := y1
  simp only at e0 e1
  subst e0 e1
  simp only [cChecks, Nat.zero_mul, Nat.one_mul, List.drop_zero, List.drop_succ_cons, List.take_succ_cons, List.take_zero, List.getElem?_cons_zero, List.getElem?_cons_succ] at h0 h1
  have w0 := one_fn (f0 := 122) (by kernel_rfl) h0
  have w1 := one_fn (f0 := 123) (by kernel_rfl) h1
  have c0 := World.var?_cell hg hv 0
  have c1 := World.var?_cell hg hv 1
  rw [w0] at c0
  rw [w1] at c1
  exact ⟨by simpa using c0, by simpa using c1, cell_lt c0⟩
end Go.Proofs.YtlmmjaolmmcklaaDoor
