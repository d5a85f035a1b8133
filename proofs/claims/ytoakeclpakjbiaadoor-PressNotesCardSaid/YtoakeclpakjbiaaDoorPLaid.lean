/-
  What the row's condition gives: the table of checks lies in memory as its initialiser lays it.
-/
import Derived.Test.YtoakeclpakjbiaaDoorPChk4
import Derived.Test.YtoakeclpakjbiaaDoorPOpen
import Derived.LaidMore
import Derived.Stop.Joined
namespace Go.Proofs.YtoakeclpakjbiaaDoor
open Go.RowKit Go.WideShapes Go.ChangeShapes Go.ChangeAt
set_option linter.unusedVariables false

theorem gChecks : Tryd.prog.globalNamed "oilcake/press.checks" = some 0 := by kernel_rfl
theorem tChecks : (Tryd.prog.globals[0]?).map (·.type) = some 124 := by kernel_rfl
theorem cChecks : Tryd.prog.cellsOf 123 = 1 := by kernel_rfl
theorem cFn : Tryd.prog.cellsOf 27 = 1 := by kernel_rfl
theorem c3Checks : Tryd.prog.cellsOf 124 = 3 := by kernel_rfl

theorem list3 {α : Type} {l : List α} (h : l.length = 3) : ∃ a b c, l = [a, b, c] := by
  match l, h with
  | [a, b, c], _ => exact ⟨a, b, c, rfl⟩

abbrev laidList : List (String × DataW Unit) := [("oilcake/press.checks", Rows.laid_oilcake_press_checks)]

theorem door_met (os : Os) (args : Array Value) : laidMetH Tryd.prog laidList ((World.doorLaid Tryd.prog 25 os).forCall (fun _ _ => 0) ⟨#[], args, []⟩).memory :=
  laidMetH_of_parts3 (fuel := 8) (laidMet_of_run' 8 (by kernel_rfl) (by kernel_rfl)) (by kernel_rfl) (by kernel_rfl)

theorem one_fn {W : World} {n : Nat} {v : Value} {ps : List MemPlace} {b : UInt8} {r : List UInt8} {f0 : FuncId}
    (hone : ((List.range Tryd.prog.funcs.size).filter fun f => (Tryd.prog.funcs[f]?).any (·.name.toUTF8.data.toList == b :: r)) = [f0])
    (h : DataW.trod (funcToken Tryd.prog) Tryd.prog W 0 (fun _ => true) true n 123 [v] = some (.agg [.held (b :: r)], ps)) : v = .func (.func f0) #[] #[] := by
  obtain ⟨y0, m, hx, hl, h0⟩ := trod_struct1 Tryd.underlying123 h
  simp only [Prod.mk.injEq, DataW.agg.injEq, List.cons.injEq, and_true] at hx
  obtain ⟨hy, -⟩ := hx
  obtain ⟨y1, y2⟩ := y0
  simp only at hy
  subst hy
  simp only [cFn, List.drop_zero, List.take_succ_cons, List.take_zero] at h0
  exact func_of_trod Tryd.underlying27 hone h0

theorem laid_of {W : World} (h : laidMetH Tryd.prog laidList W) : Laid W := by
  obtain ⟨g, t, cs, fuel, p, hg, ht, hv, hd⟩ := h.funcs (List.mem_singleton.2 rfl)
  obtain rfl := Option.some.inj (gChecks.symm.trans hg)
  obtain rfl := Option.some.inj (tChecks.symm.trans ht)
  have hd' : DataW.trod (funcToken Tryd.prog) Tryd.prog W 0 (fun _ => true) true fuel 124 cs.toList = some (.agg [.agg [.held [111, 105, 108, 99, 97, 107, 101, 47, 112, 114, 101, 115, 115, 46, 99, 104, 101, 99, 107, 115, 36, 49]], .agg [.held [111, 105, 108, 99, 97, 107, 101, 47, 112, 114, 101, 115, 115, 46, 99, 104, 101, 99, 107, 115, 36, 50]], .agg [.held [111, 105, 108, 99, 97, 107, 101, 47, 112, 114, 101, 115, 115, 46, 99, 104, 101, 99, 107, 115, 36, 51]]], p) := hd
  obtain ⟨xs, m, _, hx, hl, hxl, hi⟩ := DataW.trod_array Tryd.underlying124 hd'
  rw [c3Checks] at hl
  obtain ⟨l⟩ := cs
  obtain ⟨v0, v1, v2, rfl⟩ := list3 hl
  obtain ⟨y0, y1, y2, rfl⟩ := list3 hxl
  clear hd hl hxl
  simp only [Prod.mk.injEq, List.map_cons, List.map_nil, DataW.agg.injEq, List.cons.injEq, and_true] at hx
  obtain ⟨⟨e0, e1, e2⟩, -⟩ := hx
  have h0 := hi 0 (by omega)
  have h1 := hi 1 (by omega)
  have h2 := hi 2 (by omega)
  obtain ⟨a0, a1⟩ := y0
  obtain ⟨b0, b1⟩ := y1
  obtain ⟨d0, d1⟩ := y2
  simp only at e0 e1 e2
  subst e0 e1 e2
  simp only [cChecks, Nat.mul_one, List.drop_zero, List.drop_succ_cons, List.take_succ_cons, List.take_zero, List.getElem?_cons_zero, List.getElem?_cons_succ] at h0 h1 h2
  have w0 := one_fn (f0 := 151) (by kernel_rfl) h0
  have w1 := one_fn (f0 := 152) (by kernel_rfl) h1
  have w2 := one_fn (f0 := 153) (by kernel_rfl) h2
  have c0 := World.var?_cell hg hv 0
  have c1 := World.var?_cell hg hv 1
  have c2 := World.var?_cell hg hv 2
  rw [w0] at c0
  rw [w1] at c1
  rw [w2] at c2
  exact ⟨by simpa using c0, by simpa using c1, by simpa using c2, cell_lt c0⟩
end Go.Proofs.YtoakeclpakjbiaaDoor
