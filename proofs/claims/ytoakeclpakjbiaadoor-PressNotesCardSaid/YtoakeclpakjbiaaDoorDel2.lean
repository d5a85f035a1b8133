/-
  The walk of the library's strike of some weighings in place, in a row that the call itself made.
-/
import Derived.Test.YtoakeclpakjbiaaDoorDel
namespace Go.Proofs.YtoakeclpakjbiaaDoor
open Go.RowKit
set_option linter.unusedVariables false
set_option linter.unusedSimpArgs false

section
variable {w : World} {gb cap n : Nat} {ty : TypeId} {F : Nat → WE}
theorem row5 (h : RowOf w gb ty 5 cap wgc n F) (hn : n ≤ cap) {k : Nat} (hk : k < n) :
    w.cell? ⟨gb, k * 5, none⟩ = some (.int .i64 (F k).1) ∧ w.cell? ⟨gb, k * 5 + 1, none⟩ = some (.int .i64 (F k).2.1) ∧ w.cell? ⟨gb, k * 5 + 2, none⟩ = some (.int .i64 (F k).2.2.1) ∧
    w.cell? ⟨gb, k * 5 + 3, none⟩ = some (.int .i64 (F k).2.2.2.1) ∧ w.cell? ⟨gb, k * 5 + 4, none⟩ = some (.int .i64 (F k).2.2.2.2) :=
  ⟨h.cell (fun _ => rfl) hn (t := 0) hk rfl, h.cell (fun _ => rfl) hn (t := 1) hk rfl, h.cell (fun _ => rfl) hn (t := 2) hk rfl, h.cell (fun _ => rfl) hn (t := 3) hk rfl, h.cell (fun _ => rfl) hn (t := 4) hk rfl⟩
theorem put5 (h : RowOf w gb ty 5 cap wgc n F) (i : Nat) (x : WE) :
    RowOf (((((w.setCell ⟨gb, i * 5, none⟩ (.int .i64 x.1)).setCell ⟨gb, i * 5 + 1, none⟩ (.int .i64 x.2.1)).setCell ⟨gb, i * 5 + 2, none⟩ (.int .i64 x.2.2.1)).setCell ⟨gb, i * 5 + 3, none⟩ (.int .i64 x.2.2.2.1)).setCell ⟨gb, i * 5 + 4, none⟩ (.int .i64 x.2.2.2.2)) gb ty 5 cap wgc n (fun k => if k = i then x else F k) :=
  h.put (fun _ => rfl) i x
end

/-- Those that are kept of the first ones stand ahead, those that were not looked at where they stood. -/
structure Kept (p : WE → Bool) (ws : List WE) (i j : Nat) (F : Nat → WE) : Prop where
  len : ((ws.take j).filter fun x => !p x).length = i
  ahead : ∀ k x, ((ws.take j).filter fun x => !p x)[k]? = some x → F k = x
  behind : ∀ k x, j ≤ k → ws[k]? = some x → F k = x
  lt : i < j
section
variable {p : WE → Bool} {ws : List WE} {i j : Nat} {F : Nat → WE} {x : WE}
theorem Kept.skip (h : Kept p ws i j F) (hx : ws[j]? = some x) (hp : p x = true) : Kept p ws i (j + 1) F := by
  have e : (ws.take (j + 1)).filter (fun x => !p x) = (ws.take j).filter fun x => !p x := by
    rw [List.take_add_one, hx, List.filter_append]; simp [hp]
  have := h.lt
  exact ⟨by rw [e]; exact h.len, fun k y hy => h.ahead k y (by rw [← e]; exact hy), fun k y hk => h.behind k y (by omega), by omega⟩
theorem Kept.keep (h : Kept p ws i j F) (hx : ws[j]? = some x) (hp : p x = false) : Kept p ws (i + 1) (j + 1) (fun k => if k = i then x else F k) := by
  have e : (ws.take (j + 1)).filter (fun x => !p x) = ((ws.take j).filter fun x => !p x) ++ [x] := by
    rw [List.take_add_one, hx, List.filter_append]; simp [hp]
  have hl := h.lt
  have hlen := h.len
  refine ⟨by rw [e]; simp [hlen], fun k y hy => ?_, fun k y hk hy => ?_, by omega⟩
  · rw [e] at hy
    by_cases hki : k = i
    · subst hki
      rw [List.getElem?_append_right (by omega), hlen] at hy
      simp at hy
      simp [hy]
    · have hk : k < ((ws.take j).filter fun x => !p x).length := by
        have := (List.getElem?_eq_some_iff.1 hy).1
        simp at this; omega
      rw [List.getElem?_append_left hk] at hy
      simp only [hki, if_false]
      exact h.ahead k y hy
  · have : k ≠ i := by omega
    simp only [this, if_false]
    exact h.behind k y (by omega) hy
theorem Kept.start {k0 : Nat} (hno : ∀ j y, j < k0 → ws[j]? = some y → p y = false) (hx : ws[k0]? = some x) (hp : p x = true) (hF : ∀ k y, ws[k]? = some y → F k = y) : Kept p ws k0 (k0 + 1) F := by
  have hk := (List.getElem?_eq_some_iff.1 hx).1
  have e0 : (ws.take k0).filter (fun x => !p x) = ws.take k0 := by
    rw [List.filter_eq_self]
    intro y hy
    obtain ⟨j, hj⟩ := List.getElem?_of_mem hy
    have hjk : j < k0 := by have := (List.getElem?_eq_some_iff.1 hj).1; simp at this; omega
    rw [List.getElem?_take_of_lt hjk] at hj
    simp [hno j y hjk hj]
  have e : (ws.take (k0 + 1)).filter (fun x => !p x) = ws.take k0 := by
    rw [List.take_add_one, hx, List.filter_append, e0]; simp [hp]
  refine ⟨by rw [e]; simp; omega, fun k y hy => ?_, fun k y hk hy => hF k y hy, by omega⟩
  rw [e] at hy
  have hjk : k < k0 := by have := (List.getElem?_eq_some_iff.1 hy).1; simp at this; omega
  rw [List.getElem?_take_of_lt hjk] at hy
  exact hF k y hy
end

theorem run_clear5 {P : Program} (w : World) (t e ty : TypeId) (z : Value) (size : Nat) (ht : P.underlying t = some (.slice e)) (hv : ∀ w, (zeroValue e).run P w = .ok z w) (hz : z.cells.size = size) (h1 : ∀ v ∈ z.cells, v.oneCell' = true) (b o n c : Nat) (hn : 0 < n)
    (hc : ∀ j, j < n * size → (w.cell? ⟨b, o + j, none⟩).isSome = true) (hf : ∀ j, j < n * size → w.frozen? ⟨b, o + j, none⟩ = false) :
    (Builtin.clear_ #[t] ty #[.slice (some ⟨b, o, none⟩) n c]).run P w = .ok (.tuple #[]) (w.setCells b o (Builtin.zeroCells z.cells n).toList) := by
  have hs : (Builtin.zeroCells z.cells n).toList.length = n * size := by simp [Builtin.zeroCells, hz]
  have hst := run_storeCells_cells (P := P) b o (Builtin.zeroCells z.cells n).toList 0 w (by rw [hs]; simpa using hc) (by rw [hs]; simpa using hf) (by
    intro v hv'
    simp only [Builtin.zeroCells, Array.toList_map, List.mem_map] at hv'
    obtain ⟨j, hj, rfl⟩ := hv'
    have hj' : j < n * z.cells.size := by simpa using hj
    have hpos : 0 < z.cells.size := by
      rcases Nat.eq_zero_or_pos z.cells.size with h0 | h0
      · rw [h0] at hj'; omega
      · exact h0
    rw [getElem!_pos z.cells _ (Nat.mod_lt _ hpos)]
    exact h1 _ (Array.getElem_mem _))
  simp only [Nat.add_zero] at hst
  obtain ⟨m, rfl⟩ : ∃ m, n = m + 1 := ⟨n - 1, by omega⟩
  simp [Builtin.clear_, run_underlying ht, hv, hst]

theorem zeroW (w : World) : (zeroValue 76).run Tryd.prog w = .ok (.agg #[.int .i64 0, .int .i64 0, .int .i64 0, .int .i64 0, .int .i64 0]) w := by kernel_rfl

set_option maxRecDepth 100000 in
set_option maxHeartbeats 2000000 in
theorem deleteW_any (p : WE → Bool) (g : Nat) (lb : Array Value) (gb n c base : Nat) (ws : List WE) (w : World)
    (eg : ∀ args w, (callFunc g args).run Tryd.prog w = .ok (.enter g args) w) (hown : w.ownsRow base 76 5 (.slice (some ⟨gb, 0, none⟩) n c) n (wgs ws))
    (hf : ∀ (x : WE) w1, Kp w.heap.size [gb] w w1 → Calls Tryd.prog g (#[.agg #[.int .i64 x.1, .int .i64 x.2.1, .int .i64 x.2.2.1, .int .i64 x.2.2.2.1, .int .i64 x.2.2.2.2]] ++ lb) w1 fun e w' => e = .returned (.bool (p x)) ∧ Below w1.heap.size w1 w') :
    Calls Tryd.prog 113 #[.slice (some ⟨gb, 0, none⟩) n c, .func (.func g) #[] lb] w fun e w' => ∃ m, e = .returned (.slice (some ⟨gb, 0, none⟩) m c) ∧
      w'.ownsRow base 76 5 (.slice (some ⟨gb, 0, none⟩) m c) m (wgs (ws.filter fun x => !p x)) ∧ Kp w.heap.size [gb] w w' := by
  have hR := Reads.of_own hown
  have hl := hR.wg_len
  obtain ⟨-, hnc, hcm, hbg, hrow⟩ := RowOf.from (f := wgc) (fun _ => rfl) (by omega) hown
  have hgl := hrow.lt
  have hnm : n ≤ maxLen := Nat.le_trans hnc hcm
  have hI := Lib.hid (indexW_any p g lb _ n c ws w hnm eg hR (fun x w1 hb => hf x w1 (.of_below hb)))
  have HO := Lib.hid hown
  have HF := Lib.hid hf
  have hF0 : ∀ k y, ws[k]? = some y → (fun k => ws.getD k default) k = y := fun k y hy => by simp [hy]
  cases hfi : ws.findIdx? p with
  | none =>
    have hi : Hid (idxW p ws = -1) := by show _ = _; unfold idxW; rw [hfi]
    have hfl : Hid (ws.filter (fun x => !p x) = ws) := by
      show _ = _
      rw [List.filter_eq_self]
      intro x hx
      rw [List.findIdx?_eq_none_iff] at hfi
      simp [hfi x hx]
    rw [hi.out] at hI
    rw [hfl.out]
    clear hown hf hfi hF0 hrow hR hbg hcm hnm
    go_enter Tryd.func113, Tryd.ntmps113
    go_wp2_with fail
    refine hI.out.mono ?_
    rintro e w1 ⟨rfl, hb1⟩
    have HB1 := Lib.hid hb1
    clear hb1
    go_wp2
    go_ret
    refine ⟨n, rfl, ?_, .of_below HB1.out⟩
    refine ⟨HO.out.1, ?_⟩
    rcases HO.out.2 with h0 | ⟨g1, cap', cur, h1, h2, h3, h4⟩
    · exact .inl h0
    · refine .inr ⟨g1, cap', cur, h1, h2, (HB1.out.block g1 ?_).trans h3, h4⟩
      exact (Array.getElem?_eq_some_iff.1 h3).1
  | some k0 =>
    have hi : Hid (idxW p ws = k0) := by show _ = _; unfold idxW; rw [hfi]
    rw [List.findIdx?_eq_some_iff_getElem] at hfi
    obtain ⟨hk0, hpk, hno⟩ := hfi
    have HK0 := Lib.hid (Kept.start (p := p) (F := fun k => ws.getD k default) (x := ws[k0]) (fun j y hj hy => by
      have hj' := (List.getElem?_eq_some_iff.1 hy).2
      have := hno j hj
      rw [hj'] at this
      simpa using this) (List.getElem?_eq_getElem hk0) hpk hF0)
    have hne : ((k0 : Int) == -1) = false := beq_eq_false_iff_ne.2 (by omega)
    rw [hi.out] at hI
    have hk0n : k0 < n := by omega
    have HL := Lib.hid hl
    have HR := Lib.hid hrow
    have HG := Lib.hid hgl
    have HX := Lib.hid (And.intro hcm hbg)
    unfold maxLen at hnm hcm
    clear hown hf hF0 hrow hR hbg hno hpk hl hi hk0
    go_enter Tryd.func113, Tryd.ntmps113
    go_wp2_with fail
    refine hI.out.mono ?_
    rintro e w1 ⟨rfl, hb1⟩
    have HB1 : Hid (Kp w.heap.size [gb] w w1) := .of_below hb1
    have HR1 := Lib.hid (HR.out.of_block (hb1.block gb HG.out))
    clear hb1 hne
    have hne : ((k0 : Int) == -1) = false := beq_eq_false_iff_ne.2 (by omega)
    go_wp2
    go_loopw [5, 6] (fun s5 s6 wr => ∃ i j : Nat, i < j ∧ j ≤ n ∧ s5 = .int .i64 i ∧ s6 = .int .i64 j ∧ ∃ F : Nat → WE, Hid (RowOf wr gb 76 5 c wgc n F) ∧ Hid (Kp w.heap.size [gb] w wr) ∧ Hid (Kept p ws i j F)) (fun _ s6 _ => n - (intOf s6).toNat)
    case atStart => exact ⟨k0, k0 + 1, by omega, by omega, rfl, by go_num, _, HR1, HB1, HK0⟩
    case round =>
      clear HR1 HB1 HK0
      obtain ⟨i, j, hij, hjn, rfl, rfl, F, hRow, hKp, hKept⟩ := hrel
      have hsz : w.heap.size ≤ wr.heap.size := hKp.out.size
      have HGr := Lib.hid (Nat.lt_of_lt_of_le HG.out hsz)
      by_cases hlt : j < n
      · obtain ⟨c0, c1, c2, c3, c4⟩ := row5 hRow.out hnc hlt
        have hjl : ws[j]? = some (ws[j]'(by have := HL.out; omega)) := List.getElem?_eq_getElem _
        obtain ⟨x, hx⟩ : ∃ x, ws[j]? = some x := ⟨_, hjl⟩
        rw [hKept.out.behind j x (Nat.le_refl _) hx] at c0 c1 c2 c3 c4
        have Hx := Lib.hid hx
        clear hx hjl
        obtain ⟨N, P, K, L, H⟩ := x
        simp only at c0 c1 c2 c3 c4
        have hKa := Lib.hid (hKp.out.alloc hsz (.cells #[.int .i64 N, .int .i64 P, .int .i64 K, .int .i64 L, .int .i64 H] 76))
        have hRa := Lib.hid (hRow.out.of_block (heap_lt_alloc' wr (.cells #[.int .i64 N, .int .i64 P, .int .i64 K, .int .i64 L, .int .i64 H] 76) gb HGr.out))
        have hF := Lib.hid (HF.out (N, P, K, L, H) _ hKa.out)
        have hOa := Lib.hid (heap_alloc_new wr (.cells #[.int .i64 N, .int .i64 P, .int .i64 K, .int .i64 L, .int .i64 H] 76))
        have hza : wr.heap.size < (wr.alloc (.cells #[.int .i64 N, .int .i64 P, .int .i64 K, .int .i64 L, .int .i64 H] 76)).heap.size := by simp
        have hza' := Lib.hid hza
        clear hza
        cases hp : p (N, P, K, L, H)
        · rw [hp] at hF
          have HP := Lib.hid hp
          clear hp
          go_wp2_with fail
          refine hF.out.mono ?_
          rintro e w2 ⟨rfl, hb2⟩
          have hO2 := hb2.block wr.heap.size hza'.out |>.trans hOa.out
          have v0 : w2.cell? ⟨wr.heap.size, 0, none⟩ = some (.int .i64 N) := by simp [World.cell?, hO2]
          have v1 : w2.cell? ⟨wr.heap.size, 1, none⟩ = some (.int .i64 P) := by simp [World.cell?, hO2]
          have v2 : w2.cell? ⟨wr.heap.size, 2, none⟩ = some (.int .i64 K) := by simp [World.cell?, hO2]
          have v3 : w2.cell? ⟨wr.heap.size, 3, none⟩ = some (.int .i64 L) := by simp [World.cell?, hO2]
          have v4 : w2.cell? ⟨wr.heap.size, 4, none⟩ = some (.int .i64 H) := by simp [World.cell?, hO2]
          have hR2 := Lib.hid (hRa.out.of_block (hb2.block gb (Nat.lt_trans HGr.out hza'.out)))
          obtain ⟨o0, o1, o2, o3, o4⟩ := row5 hR2.out hnc (k := i) (by omega)
          have f0 := hR2.out.frozen (i * 5)
          have f1 := hR2.out.frozen (i * 5 + 1)
          have f2 := hR2.out.frozen (i * 5 + 2)
          have f3 := hR2.out.frozen (i * 5 + 3)
          have f4 := hR2.out.frozen (i * 5 + 4)
          have HB2 := Lib.hid (hKa.out.call (Nat.le_trans hsz (Nat.le_of_lt hza'.out)) hb2)
          clear hb2 hO2 c0 c1 c2 c3 c4 hF
          have hin : (i : Int) < (n : Int) := by omega
          go_wp2
          go_roundw
          case rel => exact ⟨i + 1, j + 1, by omega, by omega, by go_num, by go_num, _, Lib.hid (put5 hR2.out i (N, P, K, L, H)), Lib.hid (((((HB2.out.set (by simp) _).set (by simp) _).set (by simp) _).set (by simp) _).set (by simp) _), Lib.hid (hKept.out.keep Hx.out HP.out)⟩
          case measure => simp [intOf]; omega
        · rw [hp] at hF
          have HP := Lib.hid hp
          clear hp
          go_wp2_with fail
          refine hF.out.mono ?_
          rintro e w2 ⟨rfl, hb2⟩
          have hR2 := Lib.hid (hRa.out.of_block (hb2.block gb (Nat.lt_trans HGr.out hza'.out)))
          have HB2 := Lib.hid (hKa.out.call (Nat.le_trans hsz (Nat.le_of_lt hza'.out)) hb2)
          clear hb2 c0 c1 c2 c3 c4 hF
          go_wp2
          go_roundw
          case rel => exact ⟨i, j + 1, by omega, by omega, rfl, by go_num, _, hR2, HB2, Lib.hid (hKept.out.skip Hx.out HP.out)⟩
          case measure => simp [intOf]; omega
      · obtain rfl : j = n := by omega
        have hci : ¬ c = i := by omega
        have hcl : ∀ ty, (Builtin.clear_ #[23] ty #[.slice (some ⟨gb, i * 5, none⟩) (j - i) (c - i)]).run Tryd.prog wr = .ok (.tuple #[]) (wr.setCells gb (i * 5) (Builtin.zeroCells #[.int .i64 0, .int .i64 0, .int .i64 0, .int .i64 0, .int .i64 0] (j - i)).toList) := fun ty =>
          run_clear5 wr 23 76 ty _ 5 Tryd.underlying23 zeroW rfl (by intro v hv; simp [Value.cells] at hv; subst hv; rfl) gb (i * 5) (j - i) (c - i) (by omega)
            (fun t ht => hRow.out.there (by have : (j - i) * 5 = j * 5 - i * 5 := by rw [Nat.sub_mul]
                                            have h2 : i * 5 ≤ j * 5 := Nat.mul_le_mul_right _ (by omega)
                                            have h3 : j * 5 ≤ c * 5 := Nat.mul_le_mul_right _ hnc
                                            omega)) (fun t ht => hRow.out.frozen _)
        have hil : i ≤ j := by omega
        have hfin : Hid ((ws.filter fun x => !p x).length = i ∧ ∀ k x, (ws.filter fun x => !p x)[k]? = some x → F k = x) := by
          have h1 := hKept.out.len
          have h2 := hKept.out.ahead
          have e : ws.take j = ws := List.take_of_length_le (by have := HL.out; omega)
          rw [e] at h1 h2
          exact ⟨h1, h2⟩
        clear hKept
        go_wp2
        go_ret
        obtain ⟨q1, q2⟩ := hfin.out
        have hL := hRow.out.lose (fun _ => rfl) i (by omega) (Builtin.zeroCells #[.int .i64 0, .int .i64 0, .int .i64 0, .int .i64 0, .int .i64 0] (j - i)).toList
        refine ⟨i, rfl, ?_, kp_sets (by simp) _ _ _ hKp.out⟩
        have := RowOf.own hL (fun _ => rfl) (base := base) (l := ws.filter fun x => !p x) (by omega) (by omega) HX.out.1 HX.out.2 q2
        rw [q1] at this
        exact this
end Go.Proofs.YtoakeclpakjbiaaDoor
