/-
  The walk of what goes into a pressing, and all of it but its oil, by the reference.
-/
import Derived.Test.YtoakeclpakjbiaaDoorTk
import Derived.Test.YtoakeclpakjbiaaDoorRAsk
import Derived.Test.YtoakeclpakjbiaaDoorSides
namespace Go.Proofs.YtoakeclpakjbiaaDoor
open Go.RowKit
set_option linter.unusedVariables false
set_option linter.unusedSimpArgs false

theorem exec_load_row {P : Program} {o : Oper} {a : Act} {w : World} (ty : TypeId) (x : Operand) (ho : o.op = .load ty x)
    (g : Nat) (hx : a.eval x = .pointer (some ⟨g, 0, none⟩)) (t : TypeId) (cs : Array Value) (fr : Nat × Nat) (d : TypeDesc) (hg : w.heap[g]? = some (.cells cs t fr))
    (hu : P.underlying ty = some d) (hd : (match d with | .struct _ | .array _ _ => true | _ => false) = true) (hi : (P.info? ty).map (·.size) = some cs.size) :
    (execOp a.eval o).run P w = .ok (.value (.agg cs)) w := by
  unfold execOp
  simp only [ho, hx, Instr.loadAt, Instr.sureAddr, Sem.run_bind, Sem.run_pure, Result.andThen_ok, run_loadVar_row w g t ty cs fr d hg hu hd hi]
theorem exec_load_row2 {P : Program} {o : Oper} {a : Act} {w : World} (ty : TypeId) (x : Operand)
    (g : Nat) (t : TypeId) (cs : Array Value) (fr : Nat × Nat) (d : TypeDesc) (hg : w.heap[g]? = some (.cells cs t fr))
    (hu : P.underlying ty = some d) (hd : (match d with | .struct _ | .array _ _ => true | _ => false) = true) (hi : (P.info? ty).map (·.size) = some cs.size) (ho : o.op = .load ty x) (hx : a.eval x = .pointer (some ⟨g, 0, none⟩)) :
    (execOp a.eval o).run P w = .ok (.value (.agg cs)) w := exec_load_row ty x ho g hx t cs fr d hg hu hd hi
/-- The state while both sides are searched. -/
structure SD (w : World) (A A' : Option Addr) (n c n' c' : Nat) (ps : List PR) (ws : List WE) (nb ob : Nat) (x0 x1 x2 x3 : Value) (z : World) : Prop where
  b0 : z.heap[w.heap.size]? = some (.cells #[.slice A n c, .slice A' n' c'] 25 (0, 0))
  b1 : z.heap[w.heap.size + 1]? = some (.cells #[.int .i64 0, .int .i64 0] 44 (0, 0))
  b2 : z.heap[w.heap.size + 2]? = some (.cells #[.int .i64 0, .int .i64 0] 44 (0, 0))
  nt : NB z nb (notesR ps ws)
  ot : z.heap[ob]? = some (.cells #[x0, x1, x2, x3] 168 (0, 0))
  bel : Below w.heap.size w z
  ln : w.heap.size + 3 ≤ nb
  lo : w.heap.size + 3 ≤ ob
  ne : nb ≠ ob
section
variable {w z y : World} {A A' : Option Addr} {n c n' c' : Nat} {ps : List PR} {ws : List WE} {nb ob : Nat} {x0 x1 x2 x3 : Value}
theorem SD.size (h : SD w A A' n c n' c' ps ws nb ob x0 x1 x2 x3 z) : w.heap.size + 3 ≤ z.heap.size := (Array.getElem?_eq_some_iff.1 h.b2).1
theorem SD.below (h : SD w A A' n c n' c' ps ws nb ob x0 x1 x2 x3 z) (hb : Below z.heap.size z y) : SD w A A' n c n' c' ps ws nb ob x0 x1 x2 x3 y :=
  ⟨keepO hb h.b0, keepO hb h.b1, keepO hb h.b2, h.nt.below hb, keepO hb h.ot, below_via h.bel (by have := h.size; omega) hb, h.ln, h.lo, h.ne⟩
theorem SD.drew (h : SD w A A' n c n' c' ps ws nb ob x0 x1 x2 x3 z) : SD w A A' n c n' c' ps ws nb ob x0 x1 x2 x3 z.drew := h.below (Below.refl _ _).drew
theorem SD.cells (h : SD w A A' n c n' c' ps ws nb ob x0 x1 x2 x3 z) : z.cell? ⟨w.heap.size, 0, none⟩ = some (.slice A n c) ∧ z.cell? ⟨w.heap.size, 1, none⟩ = some (.slice A' n' c') := by
  obtain ⟨a, b, -, -⟩ := two_facts h.b0
  exact ⟨a, b⟩
theorem SD.os (h : SD w A A' n c n' c' ps ws nb ob x0 x1 x2 x3 z) : z.cell? ⟨ob, 0, none⟩ = some x0 ∧ z.cell? ⟨ob, 1, none⟩ = some x1 ∧ z.cell? ⟨ob, 2, none⟩ = some x2 ∧ z.cell? ⟨ob, 3, none⟩ = some x3 ∧
    z.frozen? ⟨ob, 0, none⟩ = false ∧ z.frozen? ⟨ob, 1, none⟩ = false ∧ z.frozen? ⟨ob, 2, none⟩ = false ∧ z.frozen? ⟨ob, 3, none⟩ = false := by
  have h1 := h.ot
  refine ⟨?_, ?_, ?_, ?_, ?_, ?_, ?_, ?_⟩ <;> simp [World.cell?, World.frozen?, h1]
theorem SD.st0 {x0 x1 x2 x3 : Value} (h : SD w A A' n c n' c' ps ws nb ob x0 x1 x2 x3 z) (u : Value) : SD w A A' n c n' c' ps ws nb ob u x1 x2 x3 (z.setCell ⟨ob, 0, none⟩ u) := by
  have h1 := h.lo
  have h2 := h.ne
  refine ⟨?_, ?_, ?_, ?_, ?_, h.bel.setCell (by simp only; omega) _, h.ln, h.lo, h.ne⟩
  · rw [Below.heap_setCell _ _ _ _ (by simp only; omega)]; exact h.b0
  · rw [Below.heap_setCell _ _ _ _ (by simp only; omega)]; exact h.b1
  · rw [Below.heap_setCell _ _ _ _ (by simp only; omega)]; exact h.b2
  · unfold NB; rw [Below.heap_setCell _ _ _ _ (by simp only; omega)]; exact h.nt
  · simp [World.setCell, Array.getElem?_modify, h.ot]
theorem SD.st1 {x0 x1 x2 x3 : Value} (h : SD w A A' n c n' c' ps ws nb ob x0 x1 x2 x3 z) (u : Value) : SD w A A' n c n' c' ps ws nb ob x0 u x2 x3 (z.setCell ⟨ob, 1, none⟩ u) := by
  have h1 := h.lo
  have h2 := h.ne
  refine ⟨?_, ?_, ?_, ?_, ?_, h.bel.setCell (by simp only; omega) _, h.ln, h.lo, h.ne⟩
  · rw [Below.heap_setCell _ _ _ _ (by simp only; omega)]; exact h.b0
  · rw [Below.heap_setCell _ _ _ _ (by simp only; omega)]; exact h.b1
  · rw [Below.heap_setCell _ _ _ _ (by simp only; omega)]; exact h.b2
  · unfold NB; rw [Below.heap_setCell _ _ _ _ (by simp only; omega)]; exact h.nt
  · simp [World.setCell, Array.getElem?_modify, h.ot]
theorem SD.st2 {x0 x1 x2 x3 : Value} (h : SD w A A' n c n' c' ps ws nb ob x0 x1 x2 x3 z) (u : Value) : SD w A A' n c n' c' ps ws nb ob x0 x1 u x3 (z.setCell ⟨ob, 2, none⟩ u) := by
  have h1 := h.lo
  have h2 := h.ne
  refine ⟨?_, ?_, ?_, ?_, ?_, h.bel.setCell (by simp only; omega) _, h.ln, h.lo, h.ne⟩
  · rw [Below.heap_setCell _ _ _ _ (by simp only; omega)]; exact h.b0
  · rw [Below.heap_setCell _ _ _ _ (by simp only; omega)]; exact h.b1
  · rw [Below.heap_setCell _ _ _ _ (by simp only; omega)]; exact h.b2
  · unfold NB; rw [Below.heap_setCell _ _ _ _ (by simp only; omega)]; exact h.nt
  · simp [World.setCell, Array.getElem?_modify, h.ot]
theorem SD.st3 {x0 x1 x2 x3 : Value} (h : SD w A A' n c n' c' ps ws nb ob x0 x1 x2 x3 z) (u : Value) : SD w A A' n c n' c' ps ws nb ob x0 x1 x2 u (z.setCell ⟨ob, 3, none⟩ u) := by
  have h1 := h.lo
  have h2 := h.ne
  refine ⟨?_, ?_, ?_, ?_, ?_, h.bel.setCell (by simp only; omega) _, h.ln, h.lo, h.ne⟩
  · rw [Below.heap_setCell _ _ _ _ (by simp only; omega)]; exact h.b0
  · rw [Below.heap_setCell _ _ _ _ (by simp only; omega)]; exact h.b1
  · rw [Below.heap_setCell _ _ _ _ (by simp only; omega)]; exact h.b2
  · unfold NB; rw [Below.heap_setCell _ _ _ _ (by simp only; omega)]; exact h.nt
  · simp [World.setCell, Array.getElem?_modify, h.ot]
end

set_option maxRecDepth 100000 in
set_option maxHeartbeats 8000000 in
theorem rsides_any (A A' : Option Addr) (n c n' c' : Nat) (ps : List PR) (ws : List WE) (i : Nat) (L0 H0 L1 H1 : Int) (w : World) (hR : Reads w w.heap.size 4 A n (pgs ps)) (hW : Reads w w.heap.size 5 A' n' (wgs ws)) (hv : validP ps ws = true) (hin : i < n)
    (hr0 : 0 ≤ L0 ∧ L0 ≤ 10000000 ∧ 0 ≤ H0 ∧ H0 ≤ 10000000) (hr1 : 0 ≤ L1 ∧ L1 ≤ 10000000 ∧ 0 ≤ H1 ∧ H1 ≤ 10000000)
    (hLo0 : ∀ mid : Int, 0 ≤ mid → mid < 10000000 → holdsR (toT ps) (notesR ps ws) (i : Int) (0, mid) (0, 10000000) n = decide (L0 ≤ mid))
    (hHi0 : ∀ mid : Int, 0 < mid → mid ≤ 10000000 → holdsR (toT ps) (notesR ps ws) (i : Int) (mid, 10000000) (0, 10000000) n = decide (mid ≤ H0))
    (hLo1 : ∀ mid : Int, 0 ≤ mid → mid < 10000000 → holdsR (toT ps) (notesR ps ws) (i : Int) (0, 10000000) (0, mid) n = decide (L1 ≤ mid))
    (hHi1 : ∀ mid : Int, 0 < mid → mid ≤ 10000000 → holdsR (toT ps) (notesR ps ws) (i : Int) (0, 10000000) (mid, 10000000) n = decide (mid ≤ H1)) :
    Calls Tryd.prog 64 #[.agg #[.slice A n c, .slice A' n' c'], .int .i64 i] w fun e w' => e = .returned (.tuple #[.agg #[.int .i64 L0, .int .i64 H0], .agg #[.int .i64 L1, .int .i64 H1]]) ∧ Below w.heap.size w w' := by
  have hVF := valid_facts hv
  have hRb : Hid (∀ i, i < n → ∀ q, q < 7 → Bd 10000000 (notesR ps ws i q)) := fun i _ q _ => notesR_bd hVF i q
  have HRd := Lib.hid (fun z (hz : Below w.heap.size w z) => (hR.below hz).more hz.size)
  have HWd := Lib.hid (fun z (hz : Below w.heap.size w z) => (hW.below hz).more hz.size)
  have hv := Lib.hid hv
  have hLo0 := Lib.hid hLo0
  have hHi0 := Lib.hid hHi0
  have hLo1 := Lib.hid hLo1
  have hHi1 := Lib.hid hHi1
  have k0 := heap_alloc_new w (.cells #[.slice A n c, .slice A' n' c'] 25)
  have k1 := heap_alloc_new (w.alloc (.cells #[.slice A n c, .slice A' n' c'] 25)) (.cells #[.int .i64 0, .int .i64 0] 44)
  have k2 := heap_alloc_new ((w.alloc (.cells #[.slice A n c, .slice A' n' c'] 25)).alloc (.cells #[.int .i64 0, .int .i64 0] 44)) (.cells #[.int .i64 0, .int .i64 0] 44)
  simp only [World.size_alloc] at k1 k2
  have hB : Below w.heap.size w (((((w.alloc (.cells #[.slice A n c, .slice A' n' c'] 25)).alloc (.cells #[.int .i64 0, .int .i64 0] 44)).alloc (.cells #[.int .i64 0, .int .i64 0] 44)))) := (((Below.refl _ _).alloc (Nat.le_refl _) _).alloc (by simp) _).alloc (by simp <;> omega) _
  have k0 : ((((((w.alloc (.cells #[.slice A n c, .slice A' n' c'] 25)).alloc (.cells #[.int .i64 0, .int .i64 0] 44)).alloc (.cells #[.int .i64 0, .int .i64 0] 44))))).heap[w.heap.size]? = some (.cells #[.slice A n c, .slice A' n' c'] 25 (0, 0)) := by rw [heap_lt_alloc' _ _ _ (by simp <;> omega), heap_lt_alloc' _ _ _ (by simp)]; exact k0
  have k1 : ((((((w.alloc (.cells #[.slice A n c, .slice A' n' c'] 25)).alloc (.cells #[.int .i64 0, .int .i64 0] 44)).alloc (.cells #[.int .i64 0, .int .i64 0] 44))))).heap[w.heap.size + 1]? = some (.cells #[.int .i64 0, .int .i64 0] 44 (0, 0)) := by rw [heap_lt_alloc' _ _ _ (by simp <;> omega)]; exact k1
  clear hR hW hVF
  go_enter Tryd.func64, Tryd.ntmps64
  obtain ⟨p0, p1, -, -⟩ := two_facts k0
  go_wp2_with fail
  refine (noted_any A A' n c n' c' ps ws _ (HRd.out _ hB) (HWd.out _ hB) hv.out).mono ?_
  rintro e z1 ⟨rfl, hb1⟩
  have g0 := keepO hb1 k0
  have g1 := keepO hb1 k1
  have g2 := keepO hb1 k2
  have hB1 := below_via hB hB.size hb1
  have hz1 : w.heap.size + 3 ≤ z1.heap.size := (Array.getElem?_eq_some_iff.1 g2).1
  clear hb1 k0 k1 k2 hB p0 p1
  have hN := heap_alloc_new z1 (.cells (NV (notesR ps ws)) 110)
  have hO := heap_alloc_new (z1.alloc (.cells (NV (notesR ps ws)) 110)) (.cells #[.int .i64 0, .int .i64 0, .int .i64 0, .int .i64 0] 168)
  have hPs : Hid (SD w A A' n c n' c' ps ws z1.heap.size (z1.heap.size + 1) (.int .i64 0) (.int .i64 0) (.int .i64 0) (.int .i64 0) ((z1.alloc (.cells (NV (notesR ps ws)) 110)).alloc (.cells #[.int .i64 0, .int .i64 0, .int .i64 0, .int .i64 0] 168))) := by
    have hb : Below z1.heap.size z1 ((z1.alloc (.cells (NV (notesR ps ws)) 110)).alloc (.cells #[.int .i64 0, .int .i64 0, .int .i64 0, .int .i64 0] 168)) := ((Below.refl _ _).alloc (Nat.le_refl _) _).alloc (by simp) _
    refine ⟨keepO hb g0, keepO hb g1, keepO hb g2, ?_, by simpa using hO, below_via hB1 hB1.size hb, hz1, by omega, by omega⟩
    unfold NB; rw [heap_lt_alloc' _ _ _ (by simp)]; exact hN
  clear g0 g1 g2 hB1 hN hO
  obtain ⟨zc, hzc⟩ : ∃ zc, zc = z1.alloc (.cells Tryd.zeroCells110 110) := ⟨_, rfl⟩
  have hZC := heap_alloc_new z1 (.cells Tryd.zeroCells110 110)
  go_wp2_with (refine wpList_store_row rfl 110 _ _ rfl z1.heap.size (NV (notesR ps ws)) rfl rfl _ _ hZC (by rw [NV_size]; kernel_rfl) (by rw [NV_size]; exact zc_size) (NV_ones _) ?_)
  rw [World.setRow_alloc_new]
  generalize ((z1.alloc (.cells (NV (notesR ps ws)) 110)).alloc (.cells #[.int .i64 0, .int .i64 0, .int .i64 0, .int .i64 0] 168)) = wb at *
  generalize z1.heap.size + 1 = ob at *
  generalize z1.heap.size = nb at *
  clear hzc hZC
  go_loopw [8] (fun v wq => ∃ sd : Nat, sd ≤ 2 ∧ v = .int .i64 sd ∧ (sd = 0 → Hid (SD w A A' n c n' c' ps ws nb ob (.int .i64 0) (.int .i64 0) (.int .i64 0) (.int .i64 0) wq)) ∧ (sd = 1 → Hid (SD w A A' n c n' c' ps ws nb ob (.int .i64 L0) (.int .i64 H0) (.int .i64 0) (.int .i64 0) wq)) ∧ (sd = 2 → Hid (SD w A A' n c n' c' ps ws nb ob (.int .i64 L0) (.int .i64 H0) (.int .i64 L1) (.int .i64 H1) wq))) (fun v _ => 2 - (intOf v).toNat)
  case atStart => exact ⟨0, by omega, rfl, fun _ => hPs, fun h => absurd h (by omega), fun h => absurd h (by omega)⟩
  case round =>
    clear hPs
    obtain ⟨sd, hsd, rfl, hP0, hP1, hP2⟩ := hrel
    rcases (by omega : sd = 0 ∨ sd = 1 ∨ sd = 2) with rfl | rfl | rfl
    · have hPs := hP0 rfl
      clear hP0 hP1 hP2
      rw [show ((0 : Nat) : Int) = 0 from rfl]
      go_wp2_with fail
      go_loopw [9, 10] (fun v u wq => ∃ wl, wl = wq ∧ ∃ a b : Nat, (a : Int) ≤ L0 ∧ L0 ≤ (b : Int) ∧ b ≤ 10000000 ∧ v = .int .i64 a ∧ u = .int .i64 b ∧ Hid (SD w A A' n c n' c' ps ws nb ob (.int .i64 0) (.int .i64 0) (.int .i64 0) (.int .i64 0) wq)) (fun v u _ => (intOf u).toNat - (intOf v).toNat)
      case atStart => exact ⟨_, rfl, 0, 10000000, by omega, by omega, by omega, rfl, rfl, hPs⟩
      case round =>
        clear hPs
        obtain ⟨wq, rfl, a, b, haL, hLb, hb1, rfl, rfl, hPm⟩ := hrel
        by_cases hab : a < b
        · have habi : (a : Int) < (b : Int) := by omega
          obtain ⟨mid, hmid⟩ : ∃ mid, mid = (a + b) / 2 := ⟨_, rfl⟩
          have m1 : a ≤ mid := by omega
          have m2 : mid < b := by omega
          have e1 : IntKind.i64.wrap ((a : Int) + (b : Int)) = (a : Int) + (b : Int) := IntWalk.i64_in _ (by omega)
          have e2 : Int.tdiv ((a : Int) + (b : Int)) 2 = (mid : Int) := by rw [Int.tdiv_eq_ediv_of_nonneg (by omega)]; omega
          have e3 : IntKind.i64.wrap (mid : Int) = (mid : Int) := IntWalk.i64_in _ (by omega)
          have e4 : IntKind.i64.wrap ((mid : Int) + 1) = ((mid + 1 : Nat) : Int) := by rw [IntWalk.i64_in _ (by omega)]; omega
          clear hmid
          go_wp2_with fail
          by_cases hd : L0 ≤ (mid : Int)
          · skip
            have hans : Hid (holdsR (toT ps) (notesR ps ws) (i : Int) (0, (mid : Int)) (0, 10000000) n = true) := by show _ = _; rw [hLo0.out mid (by omega) (by omega)]; exact decide_eq_true hd
            have hP := hPm.out
            have hbz : w.heap.size + 3 ≤ wq.heap.size := hP.size
            have hnz : nb < wq.heap.size := (Array.getElem?_eq_some_iff.1 hP.nt).1
            obtain ⟨p0, p1⟩ := hP.cells
            have hnt := hP.nt
            have HQ := Lib.hid (fun w' (hz : Hid (Kp wq.heap.size [] wq w')) => (⟨(hz.out.cell (by simp only; omega) (by simp; try omega)).trans p0, (hz.out.cell (by simp only; omega) (by simp; try omega)).trans p1, (hz.out.block nb hnz (by simp)).trans hnt⟩ : w'.cell? ⟨w.heap.size, 0, none⟩ = some (.slice A n c) ∧ w'.cell? ⟨w.heap.size, 1, none⟩ = some (.slice A' n' c') ∧ NB w' nb (notesR ps ws)))
            obtain ⟨S, hSd⟩ : ∃ S : World → Prop, S = fun w' => (w'.cell? ⟨w.heap.size, 0, none⟩ = some (.slice A n c) ∧ w'.cell? ⟨w.heap.size, 1, none⟩ = some (.slice A' n' c') ∧ NB w' nb (notesR ps ws)) ∧ Hid (Kp wq.heap.size [] wq w') := ⟨_, rfl⟩
            have HS := Lib.hid (fun w' (hz : Hid (Kp wq.heap.size [] wq w')) => (by rw [hSd]; exact ⟨HQ.out w' hz, hz⟩ : S w'))
            clear p0 p1 hPm hnt
            refine wp_region_held_drew (S := S) (by kernel_rfl) ?_ (fun hHeld => ?_)
            · exact HS.out _ (Lib.hid (Kp.refl _ _ _).drew)
            have hKyd : Hid (Kp wq.heap.size [] wq wq.drew) := Lib.hid (Kp.refl _ _ _).drew
            have hSyd : wq.heap.size ≤ wq.drew.heap.size := Nat.le_refl _
            have hP := hP.drew
            generalize wq.drew = yd at *
            refine tY (v := ?_) 0 26 ?_ ?_
            rotate_left
            · intro w hSw; rw [hSd] at hSw; obtain ⟨⟨q0, q1, -⟩, -⟩ := hSw; go_simp; (try with_reducible rfl)
            try simp only [N0]
            refine tY (v := ?_) 1 27 ?_ ?_
            rotate_left
            · intro w hSw; rw [hSd] at hSw; obtain ⟨⟨q0, q1, -⟩, -⟩ := hSw; go_simp; (try with_reducible rfl)
            try simp only [N0]
            refine tY (v := ?_) 2 28 ?_ ?_
            rotate_left
            · intro w hSw; rw [hSd] at hSw; obtain ⟨⟨q0, q1, -⟩, -⟩ := hSw; go_simp; (try with_reducible rfl)
            try simp only [N0]
            refine tY (v := ?_) 3 29 ?_ ?_
            rotate_left
            · intro w hSw; rw [hSd] at hSw; obtain ⟨⟨q0, q1, -⟩, -⟩ := hSw; go_simp; (try with_reducible rfl)
            try simp only [N0]
            refine tY (v := .agg (NV (notesR ps ws))) 4 30 ?_ ?_
            · intro w hSw; rw [hSd] at hSw; exact exec_load_row2 110 (.tmp 6) nb 110 (NV (notesR ps ws)) (0, 0) _ hSw.1.2.2 Tryd.underlying110 rfl (by rw [NV_size]; kernel_rfl) rfl rfl
            try simp only [N0]
            refine tY (v := ?_) 5 31 ?_ ?_
            rotate_left
            · intro w hSw; rw [hSd] at hSw; obtain ⟨⟨q0, q1, -⟩, -⟩ := hSw; go_simp; (try with_reducible rfl)
            try simp only [N0]
            refine tY (v := ?_) 6 32 ?_ ?_
            rotate_left
            · intro w hSw; rw [hSd] at hSw; obtain ⟨⟨q0, q1, -⟩, -⟩ := hSw; go_simp; (try with_reducible rfl)
            try simp only [N0]
            refine tY (v := ?_) 7 33 ?_ ?_
            rotate_left
            · intro w hSw; rw [hSd] at hSw; obtain ⟨⟨q0, q1, -⟩, -⟩ := hSw; go_simp; (try with_reducible rfl)
            try simp only [N0]
            refine wpAnyH_ready (rs := [8]) (by kernel_rfl) (by simp) ?_
            refine AllReadyH.cons (o := _) rfl (fun Kq hK => ?_) AllReadyH.nil
            go_simp
            refine (wide_any yd).mono ?_
            rintro e c8yd ⟨rfl, hb⟩
            have hKc8yd := Lib.hid (hKyd.out.call hSyd hb)
            have hSc8yd := Nat.le_trans hSyd hb.size
            have hP := hP.below hb
            clear hb
            try go_simp
            refine hK.out _ _ ?_ (fun hHeld => ?_)
            · exact HS.out _ hKc8yd
            clear hK Kq
            try simp only [N0]
            refine wpAnyH_ready (rs := [9]) (by kernel_rfl) (by simp) ?_
            refine AllReadyH.cons (o := _) rfl (fun Kq hK => ?_) AllReadyH.nil
            go_simp
            refine (rholds_any A A' n c n' c' ps ws (notesR ps ws) (i : Int) (0, (mid : Int)) (0, 10000000) c8yd (HRd.out c8yd hP.bel) hv.out hRb.out (by simp [Bd] <;> omega) (by simp [Bd] <;> omega)).mono ?_
            rintro e c9c8yd ⟨rfl, hb⟩
            have hKc9c8yd := Lib.hid (hKc8yd.out.call hSc8yd hb)
            have hSc9c8yd := Nat.le_trans hSc8yd hb.size
            have hP := hP.below hb
            rw [hans.out]
            clear hb
            try go_simp
            refine hK.out _ _ ?_ (fun hHeld => ?_)
            · exact HS.out _ hKc9c8yd
            clear hK Kq
            try simp only [N0]
            refine tY (v := ?_) 10 36 ?_ ?_
            rotate_left
            · intro w hSw; rw [hSd] at hSw; obtain ⟨⟨q0, q1, -⟩, -⟩ := hSw; go_simp; (try with_reducible rfl)
            try simp only [N0]
            refine tY (v := ?_) 11 37 ?_ ?_
            rotate_left
            · intro w hSw; rw [hSd] at hSw; obtain ⟨⟨q0, q1, -⟩, -⟩ := hSw; go_simp; (try with_reducible rfl)
            try simp only [N0]
            refine tN 12 38 ?_
            try simp only [N0]
            refine tN 13 39 ?_
            try simp only [N0]
            refine tN 14 40 ?_
            try simp only [N0]
            refine tN 15 41 ?_
            try simp only [N0]
            refine tN 16 42 ?_
            try simp only [N0]
            refine tN 17 43 ?_
            try simp only [N0]
            refine tN 18 44 ?_
            try simp only [N0]
            refine tN 19 45 ?_
            try simp only [N0]
            refine tN 20 46 ?_
            try simp only [N0]
            refine tN 21 47 ?_
            try simp only [N0]
            refine tN 22 48 ?_
            try simp only [N0]
            refine tY (v := ?_) 23 49 ?_ ?_
            rotate_left
            · intro w hSw; rw [hSd] at hSw; obtain ⟨⟨q0, q1, -⟩, -⟩ := hSw; go_simp; (try with_reducible rfl)
            try simp only [N0]
            refine wpAnyH_done (by kernel_rfl) ?_ _
            clear HS HQ
            have hPn := Lib.hid hP
            clear hP
            clear hKc9c8yd
            go_wp2
            go_roundw
            case rel => exact ⟨_, rfl, a, mid, by omega, by omega, by omega, by go_num, by go_num, hPn⟩
            case measure => simp [intOf] <;> omega
          · skip
            have hans : Hid (holdsR (toT ps) (notesR ps ws) (i : Int) (0, (mid : Int)) (0, 10000000) n = false) := by show _ = _; rw [hLo0.out mid (by omega) (by omega)]; exact decide_eq_false hd
            have hP := hPm.out
            have hbz : w.heap.size + 3 ≤ wq.heap.size := hP.size
            have hnz : nb < wq.heap.size := (Array.getElem?_eq_some_iff.1 hP.nt).1
            obtain ⟨p0, p1⟩ := hP.cells
            have hnt := hP.nt
            have HQ := Lib.hid (fun w' (hz : Hid (Kp wq.heap.size [] wq w')) => (⟨(hz.out.cell (by simp only; omega) (by simp; try omega)).trans p0, (hz.out.cell (by simp only; omega) (by simp; try omega)).trans p1, (hz.out.block nb hnz (by simp)).trans hnt⟩ : w'.cell? ⟨w.heap.size, 0, none⟩ = some (.slice A n c) ∧ w'.cell? ⟨w.heap.size, 1, none⟩ = some (.slice A' n' c') ∧ NB w' nb (notesR ps ws)))
            obtain ⟨S, hSd⟩ : ∃ S : World → Prop, S = fun w' => (w'.cell? ⟨w.heap.size, 0, none⟩ = some (.slice A n c) ∧ w'.cell? ⟨w.heap.size, 1, none⟩ = some (.slice A' n' c') ∧ NB w' nb (notesR ps ws)) ∧ Hid (Kp wq.heap.size [] wq w') := ⟨_, rfl⟩
            have HS := Lib.hid (fun w' (hz : Hid (Kp wq.heap.size [] wq w')) => (by rw [hSd]; exact ⟨HQ.out w' hz, hz⟩ : S w'))
            clear p0 p1 hPm hnt
            refine wp_region_held_drew (S := S) (by kernel_rfl) ?_ (fun hHeld => ?_)
            · exact HS.out _ (Lib.hid (Kp.refl _ _ _).drew)
            have hKyd : Hid (Kp wq.heap.size [] wq wq.drew) := Lib.hid (Kp.refl _ _ _).drew
            have hSyd : wq.heap.size ≤ wq.drew.heap.size := Nat.le_refl _
            have hP := hP.drew
            generalize wq.drew = yd at *
            refine tY (v := ?_) 0 26 ?_ ?_
            rotate_left
            · intro w hSw; rw [hSd] at hSw; obtain ⟨⟨q0, q1, -⟩, -⟩ := hSw; go_simp; (try with_reducible rfl)
            try simp only [N0]
            refine tY (v := ?_) 1 27 ?_ ?_
            rotate_left
            · intro w hSw; rw [hSd] at hSw; obtain ⟨⟨q0, q1, -⟩, -⟩ := hSw; go_simp; (try with_reducible rfl)
            try simp only [N0]
            refine tY (v := ?_) 2 28 ?_ ?_
            rotate_left
            · intro w hSw; rw [hSd] at hSw; obtain ⟨⟨q0, q1, -⟩, -⟩ := hSw; go_simp; (try with_reducible rfl)
            try simp only [N0]
            refine tY (v := ?_) 3 29 ?_ ?_
            rotate_left
            · intro w hSw; rw [hSd] at hSw; obtain ⟨⟨q0, q1, -⟩, -⟩ := hSw; go_simp; (try with_reducible rfl)
            try simp only [N0]
            refine tY (v := .agg (NV (notesR ps ws))) 4 30 ?_ ?_
            · intro w hSw; rw [hSd] at hSw; exact exec_load_row2 110 (.tmp 6) nb 110 (NV (notesR ps ws)) (0, 0) _ hSw.1.2.2 Tryd.underlying110 rfl (by rw [NV_size]; kernel_rfl) rfl rfl
            try simp only [N0]
            refine tY (v := ?_) 5 31 ?_ ?_
            rotate_left
            · intro w hSw; rw [hSd] at hSw; obtain ⟨⟨q0, q1, -⟩, -⟩ := hSw; go_simp; (try with_reducible rfl)
            try simp only [N0]
            refine tY (v := ?_) 6 32 ?_ ?_
            rotate_left
            · intro w hSw; rw [hSd] at hSw; obtain ⟨⟨q0, q1, -⟩, -⟩ := hSw; go_simp; (try with_reducible rfl)
            try simp only [N0]
            refine tY (v := ?_) 7 33 ?_ ?_
            rotate_left
            · intro w hSw; rw [hSd] at hSw; obtain ⟨⟨q0, q1, -⟩, -⟩ := hSw; go_simp; (try with_reducible rfl)
            try simp only [N0]
            refine wpAnyH_ready (rs := [8]) (by kernel_rfl) (by simp) ?_
            refine AllReadyH.cons (o := _) rfl (fun Kq hK => ?_) AllReadyH.nil
            go_simp
            refine (wide_any yd).mono ?_
            rintro e c8yd ⟨rfl, hb⟩
            have hKc8yd := Lib.hid (hKyd.out.call hSyd hb)
            have hSc8yd := Nat.le_trans hSyd hb.size
            have hP := hP.below hb
            clear hb
            try go_simp
            refine hK.out _ _ ?_ (fun hHeld => ?_)
            · exact HS.out _ hKc8yd
            clear hK Kq
            try simp only [N0]
            refine wpAnyH_ready (rs := [9]) (by kernel_rfl) (by simp) ?_
            refine AllReadyH.cons (o := _) rfl (fun Kq hK => ?_) AllReadyH.nil
            go_simp
            refine (rholds_any A A' n c n' c' ps ws (notesR ps ws) (i : Int) (0, (mid : Int)) (0, 10000000) c8yd (HRd.out c8yd hP.bel) hv.out hRb.out (by simp [Bd] <;> omega) (by simp [Bd] <;> omega)).mono ?_
            rintro e c9c8yd ⟨rfl, hb⟩
            have hKc9c8yd := Lib.hid (hKc8yd.out.call hSc8yd hb)
            have hSc9c8yd := Nat.le_trans hSc8yd hb.size
            have hP := hP.below hb
            rw [hans.out]
            clear hb
            try go_simp
            refine hK.out _ _ ?_ (fun hHeld => ?_)
            · exact HS.out _ hKc9c8yd
            clear hK Kq
            try simp only [N0]
            refine tY (v := ?_) 10 36 ?_ ?_
            rotate_left
            · intro w hSw; rw [hSd] at hSw; obtain ⟨⟨q0, q1, -⟩, -⟩ := hSw; go_simp; (try with_reducible rfl)
            try simp only [N0]
            refine tY (v := ?_) 11 37 ?_ ?_
            rotate_left
            · intro w hSw; rw [hSd] at hSw; obtain ⟨⟨q0, q1, -⟩, -⟩ := hSw; go_simp; (try with_reducible rfl)
            try simp only [N0]
            refine tY (v := ?_) 12 38 ?_ ?_
            rotate_left
            · intro w hSw; rw [hSd] at hSw; obtain ⟨⟨q0, q1, -⟩, -⟩ := hSw; go_simp; (try with_reducible rfl)
            try simp only [N0]
            refine tY (v := ?_) 13 39 ?_ ?_
            rotate_left
            · intro w hSw; rw [hSd] at hSw; obtain ⟨⟨q0, q1, -⟩, -⟩ := hSw; go_simp; (try with_reducible rfl)
            try simp only [N0]
            refine tY (v := ?_) 14 40 ?_ ?_
            rotate_left
            · intro w hSw; rw [hSd] at hSw; obtain ⟨⟨q0, q1, -⟩, -⟩ := hSw; go_simp; (try with_reducible rfl)
            try simp only [N0]
            refine tN 15 41 ?_
            try simp only [N0]
            refine tN 16 42 ?_
            try simp only [N0]
            refine tN 17 43 ?_
            try simp only [N0]
            refine tN 18 44 ?_
            try simp only [N0]
            refine tN 19 45 ?_
            try simp only [N0]
            refine tN 20 46 ?_
            try simp only [N0]
            refine tN 21 47 ?_
            try simp only [N0]
            refine tY (v := ?_) 22 48 ?_ ?_
            rotate_left
            · intro w hSw; rw [hSd] at hSw; obtain ⟨⟨q0, q1, -⟩, -⟩ := hSw; go_simp; (try with_reducible rfl)
            try simp only [N0]
            refine tY (v := ?_) 23 49 ?_ ?_
            rotate_left
            · intro w hSw; rw [hSd] at hSw; obtain ⟨⟨q0, q1, -⟩, -⟩ := hSw; go_simp; (try with_reducible rfl)
            try simp only [N0]
            refine wpAnyH_done (by kernel_rfl) ?_ _
            clear HS HQ
            have hPn := Lib.hid hP
            clear hP
            clear hKc9c8yd
            go_wp2
            go_roundw
            case rel => exact ⟨_, rfl, mid + 1, b, by omega, by omega, by omega, by go_num, by go_num, hPn⟩
            case measure => simp [intOf] <;> omega
        · obtain rfl : a = b := by omega
          have hnab : ¬ ((a : Int) < (a : Int)) := by omega
          obtain rfl : L0 = (a : Int) := by omega
          obtain ⟨l0, hl0⟩ : ∃ l0 : Nat, l0 = a := ⟨_, rfl⟩
          subst hl0
          have hPx := hPm.out
          obtain ⟨o0, o1, o2, o3, f0, f1, f2, f3⟩ := hPx.os
          have hPs := Lib.hid (hPx.st0 (.int .i64 (l0 : Int)))
          clear hPx hPm
          go_wp2_with fail
          go_loopw [9, 10] (fun v u wq => ∃ wl, wl = wq ∧ ∃ a b : Nat, (a : Int) ≤ H0 ∧ H0 ≤ (b : Int) ∧ b ≤ 10000000 ∧ v = .int .i64 a ∧ u = .int .i64 b ∧ Hid (SD w A A' n c n' c' ps ws nb ob (.int .i64 (l0 : Int)) (.int .i64 0) (.int .i64 0) (.int .i64 0) wq)) (fun v u _ => (intOf u).toNat - (intOf v).toNat)
          case atStart => exact ⟨_, rfl, 0, 10000000, by omega, by omega, by omega, rfl, rfl, hPs⟩
          case round =>
            clear hPs
            obtain ⟨wq, rfl, a, b, haL, hLb, hb1, rfl, rfl, hPm⟩ := hrel
            by_cases hab : a < b
            · have habi : (a : Int) < (b : Int) := by omega
              obtain ⟨mid, hmid⟩ : ∃ mid, mid = (a + b + 1) / 2 := ⟨_, rfl⟩
              have m1 : a < mid := by omega
              have m2 : mid ≤ b := by omega
              have e1 : IntKind.i64.wrap ((a : Int) + (b : Int)) = (a : Int) + (b : Int) := IntWalk.i64_in _ (by omega)
              have e0 : IntKind.i64.wrap ((a : Int) + (b : Int) + 1) = (a : Int) + (b : Int) + 1 := IntWalk.i64_in _ (by omega)
              have e2 : Int.tdiv ((a : Int) + (b : Int) + 1) 2 = (mid : Int) := by rw [Int.tdiv_eq_ediv_of_nonneg (by omega)]; omega
              have e3 : IntKind.i64.wrap (mid : Int) = (mid : Int) := IntWalk.i64_in _ (by omega)
              clear hmid
              go_wp2_with fail
              by_cases hd : (mid : Int) ≤ H0
              · skip
                have hans : Hid (holdsR (toT ps) (notesR ps ws) (i : Int) ((mid : Int), 10000000) (0, 10000000) n = true) := by show _ = _; rw [hHi0.out mid (by omega) (by omega)]; exact decide_eq_true hd
                have hP := hPm.out
                have hbz : w.heap.size + 3 ≤ wq.heap.size := hP.size
                have hnz : nb < wq.heap.size := (Array.getElem?_eq_some_iff.1 hP.nt).1
                obtain ⟨p0, p1⟩ := hP.cells
                have hnt := hP.nt
                have HQ := Lib.hid (fun w' (hz : Hid (Kp wq.heap.size [] wq w')) => (⟨(hz.out.cell (by simp only; omega) (by simp; try omega)).trans p0, (hz.out.cell (by simp only; omega) (by simp; try omega)).trans p1, (hz.out.block nb hnz (by simp)).trans hnt⟩ : w'.cell? ⟨w.heap.size, 0, none⟩ = some (.slice A n c) ∧ w'.cell? ⟨w.heap.size, 1, none⟩ = some (.slice A' n' c') ∧ NB w' nb (notesR ps ws)))
                obtain ⟨S, hSd⟩ : ∃ S : World → Prop, S = fun w' => (w'.cell? ⟨w.heap.size, 0, none⟩ = some (.slice A n c) ∧ w'.cell? ⟨w.heap.size, 1, none⟩ = some (.slice A' n' c') ∧ NB w' nb (notesR ps ws)) ∧ Hid (Kp wq.heap.size [] wq w') := ⟨_, rfl⟩
                have HS := Lib.hid (fun w' (hz : Hid (Kp wq.heap.size [] wq w')) => (by rw [hSd]; exact ⟨HQ.out w' hz, hz⟩ : S w'))
                clear p0 p1 hPm hnt
                refine wp_region_held_drew (S := S) (by kernel_rfl) ?_ (fun hHeld => ?_)
                · exact HS.out _ (Lib.hid (Kp.refl _ _ _).drew)
                have hKyd : Hid (Kp wq.heap.size [] wq wq.drew) := Lib.hid (Kp.refl _ _ _).drew
                have hSyd : wq.heap.size ≤ wq.drew.heap.size := Nat.le_refl _
                have hP := hP.drew
                generalize wq.drew = yd at *
                refine tY (v := ?_) 0 65 ?_ ?_
                rotate_left
                · intro w hSw; rw [hSd] at hSw; obtain ⟨⟨q0, q1, -⟩, -⟩ := hSw; go_simp; (try with_reducible rfl)
                try simp only [N0]
                refine tY (v := ?_) 1 66 ?_ ?_
                rotate_left
                · intro w hSw; rw [hSd] at hSw; obtain ⟨⟨q0, q1, -⟩, -⟩ := hSw; go_simp; (try with_reducible rfl)
                try simp only [N0]
                refine tY (v := ?_) 2 67 ?_ ?_
                rotate_left
                · intro w hSw; rw [hSd] at hSw; obtain ⟨⟨q0, q1, -⟩, -⟩ := hSw; go_simp; (try with_reducible rfl)
                try simp only [N0]
                refine tY (v := ?_) 3 68 ?_ ?_
                rotate_left
                · intro w hSw; rw [hSd] at hSw; obtain ⟨⟨q0, q1, -⟩, -⟩ := hSw; go_simp; (try with_reducible rfl)
                try simp only [N0]
                refine tY (v := .agg (NV (notesR ps ws))) 4 69 ?_ ?_
                · intro w hSw; rw [hSd] at hSw; exact exec_load_row2 110 (.tmp 6) nb 110 (NV (notesR ps ws)) (0, 0) _ hSw.1.2.2 Tryd.underlying110 rfl (by rw [NV_size]; kernel_rfl) rfl rfl
                try simp only [N0]
                refine tY (v := ?_) 5 70 ?_ ?_
                rotate_left
                · intro w hSw; rw [hSd] at hSw; obtain ⟨⟨q0, q1, -⟩, -⟩ := hSw; go_simp; (try with_reducible rfl)
                try simp only [N0]
                refine tY (v := ?_) 6 71 ?_ ?_
                rotate_left
                · intro w hSw; rw [hSd] at hSw; obtain ⟨⟨q0, q1, -⟩, -⟩ := hSw; go_simp; (try with_reducible rfl)
                try simp only [N0]
                refine tY (v := ?_) 7 72 ?_ ?_
                rotate_left
                · intro w hSw; rw [hSd] at hSw; obtain ⟨⟨q0, q1, -⟩, -⟩ := hSw; go_simp; (try with_reducible rfl)
                try simp only [N0]
                refine wpAnyH_ready (rs := [8]) (by kernel_rfl) (by simp) ?_
                refine AllReadyH.cons (o := _) rfl (fun Kq hK => ?_) AllReadyH.nil
                go_simp
                refine (wide_any yd).mono ?_
                rintro e c8yd ⟨rfl, hb⟩
                have hKc8yd := Lib.hid (hKyd.out.call hSyd hb)
                have hSc8yd := Nat.le_trans hSyd hb.size
                have hP := hP.below hb
                clear hb
                try go_simp
                refine hK.out _ _ ?_ (fun hHeld => ?_)
                · exact HS.out _ hKc8yd
                clear hK Kq
                try simp only [N0]
                refine wpAnyH_ready (rs := [9]) (by kernel_rfl) (by simp) ?_
                refine AllReadyH.cons (o := _) rfl (fun Kq hK => ?_) AllReadyH.nil
                go_simp
                refine (rholds_any A A' n c n' c' ps ws (notesR ps ws) (i : Int) ((mid : Int), 10000000) (0, 10000000) c8yd (HRd.out c8yd hP.bel) hv.out hRb.out (by simp [Bd] <;> omega) (by simp [Bd] <;> omega)).mono ?_
                rintro e c9c8yd ⟨rfl, hb⟩
                have hKc9c8yd := Lib.hid (hKc8yd.out.call hSc8yd hb)
                have hSc9c8yd := Nat.le_trans hSc8yd hb.size
                have hP := hP.below hb
                rw [hans.out]
                clear hb
                try go_simp
                refine hK.out _ _ ?_ (fun hHeld => ?_)
                · exact HS.out _ hKc9c8yd
                clear hK Kq
                try simp only [N0]
                refine tY (v := ?_) 10 75 ?_ ?_
                rotate_left
                · intro w hSw; rw [hSd] at hSw; obtain ⟨⟨q0, q1, -⟩, -⟩ := hSw; go_simp; (try with_reducible rfl)
                try simp only [N0]
                refine tY (v := ?_) 11 76 ?_ ?_
                rotate_left
                · intro w hSw; rw [hSd] at hSw; obtain ⟨⟨q0, q1, -⟩, -⟩ := hSw; go_simp; (try with_reducible rfl)
                try simp only [N0]
                refine tN 12 77 ?_
                try simp only [N0]
                refine tN 13 78 ?_
                try simp only [N0]
                refine tN 14 79 ?_
                try simp only [N0]
                refine tN 15 80 ?_
                try simp only [N0]
                refine tN 16 81 ?_
                try simp only [N0]
                refine tN 17 82 ?_
                try simp only [N0]
                refine tN 18 83 ?_
                try simp only [N0]
                refine tN 19 84 ?_
                try simp only [N0]
                refine tN 20 85 ?_
                try simp only [N0]
                refine tN 21 86 ?_
                try simp only [N0]
                refine tN 22 87 ?_
                try simp only [N0]
                refine tY (v := ?_) 23 88 ?_ ?_
                rotate_left
                · intro w hSw; rw [hSd] at hSw; obtain ⟨⟨q0, q1, -⟩, -⟩ := hSw; go_simp; (try with_reducible rfl)
                try simp only [N0]
                refine wpAnyH_done (by kernel_rfl) ?_ _
                clear HS HQ
                have hPn := Lib.hid hP
                clear hP
                clear hKc9c8yd
                go_wp2
                go_roundw
                case rel => exact ⟨_, rfl, mid, b, by omega, by omega, by omega, by go_num, by go_num, hPn⟩
                case measure => simp [intOf] <;> omega
              · skip
                have hans : Hid (holdsR (toT ps) (notesR ps ws) (i : Int) ((mid : Int), 10000000) (0, 10000000) n = false) := by show _ = _; rw [hHi0.out mid (by omega) (by omega)]; exact decide_eq_false hd
                have hP := hPm.out
                have hbz : w.heap.size + 3 ≤ wq.heap.size := hP.size
                have hnz : nb < wq.heap.size := (Array.getElem?_eq_some_iff.1 hP.nt).1
                obtain ⟨p0, p1⟩ := hP.cells
                have hnt := hP.nt
                have HQ := Lib.hid (fun w' (hz : Hid (Kp wq.heap.size [] wq w')) => (⟨(hz.out.cell (by simp only; omega) (by simp; try omega)).trans p0, (hz.out.cell (by simp only; omega) (by simp; try omega)).trans p1, (hz.out.block nb hnz (by simp)).trans hnt⟩ : w'.cell? ⟨w.heap.size, 0, none⟩ = some (.slice A n c) ∧ w'.cell? ⟨w.heap.size, 1, none⟩ = some (.slice A' n' c') ∧ NB w' nb (notesR ps ws)))
                obtain ⟨S, hSd⟩ : ∃ S : World → Prop, S = fun w' => (w'.cell? ⟨w.heap.size, 0, none⟩ = some (.slice A n c) ∧ w'.cell? ⟨w.heap.size, 1, none⟩ = some (.slice A' n' c') ∧ NB w' nb (notesR ps ws)) ∧ Hid (Kp wq.heap.size [] wq w') := ⟨_, rfl⟩
                have HS := Lib.hid (fun w' (hz : Hid (Kp wq.heap.size [] wq w')) => (by rw [hSd]; exact ⟨HQ.out w' hz, hz⟩ : S w'))
                clear p0 p1 hPm hnt
                refine wp_region_held_drew (S := S) (by kernel_rfl) ?_ (fun hHeld => ?_)
                · exact HS.out _ (Lib.hid (Kp.refl _ _ _).drew)
                have hKyd : Hid (Kp wq.heap.size [] wq wq.drew) := Lib.hid (Kp.refl _ _ _).drew
                have hSyd : wq.heap.size ≤ wq.drew.heap.size := Nat.le_refl _
                have hP := hP.drew
                generalize wq.drew = yd at *
                refine tY (v := ?_) 0 65 ?_ ?_
                rotate_left
                · intro w hSw; rw [hSd] at hSw; obtain ⟨⟨q0, q1, -⟩, -⟩ := hSw; go_simp; (try with_reducible rfl)
                try simp only [N0]
                refine tY (v := ?_) 1 66 ?_ ?_
                rotate_left
                · intro w hSw; rw [hSd] at hSw; obtain ⟨⟨q0, q1, -⟩, -⟩ := hSw; go_simp; (try with_reducible rfl)
                try simp only [N0]
                refine tY (v := ?_) 2 67 ?_ ?_
                rotate_left
                · intro w hSw; rw [hSd] at hSw; obtain ⟨⟨q0, q1, -⟩, -⟩ := hSw; go_simp; (try with_reducible rfl)
                try simp only [N0]
                refine tY (v := ?_) 3 68 ?_ ?_
                rotate_left
                · intro w hSw; rw [hSd] at hSw; obtain ⟨⟨q0, q1, -⟩, -⟩ := hSw; go_simp; (try with_reducible rfl)
                try simp only [N0]
                refine tY (v := .agg (NV (notesR ps ws))) 4 69 ?_ ?_
                · intro w hSw; rw [hSd] at hSw; exact exec_load_row2 110 (.tmp 6) nb 110 (NV (notesR ps ws)) (0, 0) _ hSw.1.2.2 Tryd.underlying110 rfl (by rw [NV_size]; kernel_rfl) rfl rfl
                try simp only [N0]
                refine tY (v := ?_) 5 70 ?_ ?_
                rotate_left
                · intro w hSw; rw [hSd] at hSw; obtain ⟨⟨q0, q1, -⟩, -⟩ := hSw; go_simp; (try with_reducible rfl)
                try simp only [N0]
                refine tY (v := ?_) 6 71 ?_ ?_
                rotate_left
                · intro w hSw; rw [hSd] at hSw; obtain ⟨⟨q0, q1, -⟩, -⟩ := hSw; go_simp; (try with_reducible rfl)
                try simp only [N0]
                refine tY (v := ?_) 7 72 ?_ ?_
                rotate_left
                · intro w hSw; rw [hSd] at hSw; obtain ⟨⟨q0, q1, -⟩, -⟩ := hSw; go_simp; (try with_reducible rfl)
                try simp only [N0]
                refine wpAnyH_ready (rs := [8]) (by kernel_rfl) (by simp) ?_
                refine AllReadyH.cons (o := _) rfl (fun Kq hK => ?_) AllReadyH.nil
                go_simp
                refine (wide_any yd).mono ?_
                rintro e c8yd ⟨rfl, hb⟩
                have hKc8yd := Lib.hid (hKyd.out.call hSyd hb)
                have hSc8yd := Nat.le_trans hSyd hb.size
                have hP := hP.below hb
                clear hb
                try go_simp
                refine hK.out _ _ ?_ (fun hHeld => ?_)
                · exact HS.out _ hKc8yd
                clear hK Kq
                try simp only [N0]
                refine wpAnyH_ready (rs := [9]) (by kernel_rfl) (by simp) ?_
                refine AllReadyH.cons (o := _) rfl (fun Kq hK => ?_) AllReadyH.nil
                go_simp
                refine (rholds_any A A' n c n' c' ps ws (notesR ps ws) (i : Int) ((mid : Int), 10000000) (0, 10000000) c8yd (HRd.out c8yd hP.bel) hv.out hRb.out (by simp [Bd] <;> omega) (by simp [Bd] <;> omega)).mono ?_
                rintro e c9c8yd ⟨rfl, hb⟩
                have hKc9c8yd := Lib.hid (hKc8yd.out.call hSc8yd hb)
                have hSc9c8yd := Nat.le_trans hSc8yd hb.size
                have hP := hP.below hb
                rw [hans.out]
                clear hb
                try go_simp
                refine hK.out _ _ ?_ (fun hHeld => ?_)
                · exact HS.out _ hKc9c8yd
                clear hK Kq
                try simp only [N0]
                refine tY (v := ?_) 10 75 ?_ ?_
                rotate_left
                · intro w hSw; rw [hSd] at hSw; obtain ⟨⟨q0, q1, -⟩, -⟩ := hSw; go_simp; (try with_reducible rfl)
                try simp only [N0]
                refine tY (v := ?_) 11 76 ?_ ?_
                rotate_left
                · intro w hSw; rw [hSd] at hSw; obtain ⟨⟨q0, q1, -⟩, -⟩ := hSw; go_simp; (try with_reducible rfl)
                try simp only [N0]
                refine tY (v := ?_) 12 77 ?_ ?_
                rotate_left
                · intro w hSw; rw [hSd] at hSw; obtain ⟨⟨q0, q1, -⟩, -⟩ := hSw; go_simp; (try with_reducible rfl)
                try simp only [N0]
                refine tY (v := ?_) 13 78 ?_ ?_
                rotate_left
                · intro w hSw; rw [hSd] at hSw; obtain ⟨⟨q0, q1, -⟩, -⟩ := hSw; go_simp; (try with_reducible rfl)
                try simp only [N0]
                refine tY (v := ?_) 14 79 ?_ ?_
                rotate_left
                · intro w hSw; rw [hSd] at hSw; obtain ⟨⟨q0, q1, -⟩, -⟩ := hSw; go_simp; (try with_reducible rfl)
                try simp only [N0]
                refine tN 15 80 ?_
                try simp only [N0]
                refine tN 16 81 ?_
                try simp only [N0]
                refine tN 17 82 ?_
                try simp only [N0]
                refine tN 18 83 ?_
                try simp only [N0]
                refine tN 19 84 ?_
                try simp only [N0]
                refine tN 20 85 ?_
                try simp only [N0]
                refine tN 21 86 ?_
                try simp only [N0]
                refine tY (v := ?_) 22 87 ?_ ?_
                rotate_left
                · intro w hSw; rw [hSd] at hSw; obtain ⟨⟨q0, q1, -⟩, -⟩ := hSw; go_simp; (try with_reducible rfl)
                try simp only [N0]
                refine tY (v := ?_) 23 88 ?_ ?_
                rotate_left
                · intro w hSw; rw [hSd] at hSw; obtain ⟨⟨q0, q1, -⟩, -⟩ := hSw; go_simp; (try with_reducible rfl)
                try simp only [N0]
                refine wpAnyH_done (by kernel_rfl) ?_ _
                clear HS HQ
                have hPn := Lib.hid hP
                clear hP
                clear hKc9c8yd
                obtain ⟨m1', hm1⟩ : ∃ m1, mid = m1 + 1 := ⟨mid - 1, by omega⟩
                have ew : IntKind.i64.wrap ((mid : Int) - 1) = (m1' : Int) := by rw [IntWalk.i64_in _ (by omega)]; omega
                go_wp2
                go_roundw
                case rel => exact ⟨_, rfl, a, m1', by omega, by omega, by omega, by go_num, by go_num, hPn⟩
                case measure => simp [intOf] <;> omega
            · obtain rfl : a = b := by omega
              have hnab : ¬ ((a : Int) < (a : Int)) := by omega
              obtain rfl : H0 = (a : Int) := by omega
              obtain ⟨h0, hl0⟩ : ∃ l0 : Nat, l0 = a := ⟨_, rfl⟩
              subst hl0
              have hPx := hPm.out
              obtain ⟨o0, o1, o2, o3, f0, f1, f2, f3⟩ := hPx.os
              have hPs := Lib.hid (hPx.st1 (.int .i64 (h0 : Int)))
              clear hPx hPm
              go_wp2
              go_roundw
              case rel => exact ⟨1, by omega, rfl, fun h => absurd h (by omega), fun _ => hPs, fun h => absurd h (by omega)⟩
              case measure => simp [intOf]
    · have hPs := hP1 rfl
      clear hP0 hP1 hP2
      rw [show ((1 : Nat) : Int) = 1 from rfl]
      go_wp2_with fail
      go_loopw [9, 10] (fun v u wq => ∃ wl, wl = wq ∧ ∃ a b : Nat, (a : Int) ≤ L1 ∧ L1 ≤ (b : Int) ∧ b ≤ 10000000 ∧ v = .int .i64 a ∧ u = .int .i64 b ∧ Hid (SD w A A' n c n' c' ps ws nb ob (.int .i64 L0) (.int .i64 H0) (.int .i64 0) (.int .i64 0) wq)) (fun v u _ => (intOf u).toNat - (intOf v).toNat)
      case atStart => exact ⟨_, rfl, 0, 10000000, by omega, by omega, by omega, rfl, rfl, hPs⟩
      case round =>
        clear hPs
        obtain ⟨wq, rfl, a, b, haL, hLb, hb1, rfl, rfl, hPm⟩ := hrel
        by_cases hab : a < b
        · have habi : (a : Int) < (b : Int) := by omega
          obtain ⟨mid, hmid⟩ : ∃ mid, mid = (a + b) / 2 := ⟨_, rfl⟩
          have m1 : a ≤ mid := by omega
          have m2 : mid < b := by omega
          have e1 : IntKind.i64.wrap ((a : Int) + (b : Int)) = (a : Int) + (b : Int) := IntWalk.i64_in _ (by omega)
          have e2 : Int.tdiv ((a : Int) + (b : Int)) 2 = (mid : Int) := by rw [Int.tdiv_eq_ediv_of_nonneg (by omega)]; omega
          have e3 : IntKind.i64.wrap (mid : Int) = (mid : Int) := IntWalk.i64_in _ (by omega)
          have e4 : IntKind.i64.wrap ((mid : Int) + 1) = ((mid + 1 : Nat) : Int) := by rw [IntWalk.i64_in _ (by omega)]; omega
          clear hmid
          go_wp2_with fail
          by_cases hd : L1 ≤ (mid : Int)
          · skip
            have hans : Hid (holdsR (toT ps) (notesR ps ws) (i : Int) (0, 10000000) (0, (mid : Int)) n = true) := by show _ = _; rw [hLo1.out mid (by omega) (by omega)]; exact decide_eq_true hd
            have hP := hPm.out
            have hbz : w.heap.size + 3 ≤ wq.heap.size := hP.size
            have hnz : nb < wq.heap.size := (Array.getElem?_eq_some_iff.1 hP.nt).1
            obtain ⟨p0, p1⟩ := hP.cells
            have hnt := hP.nt
            have HQ := Lib.hid (fun w' (hz : Hid (Kp wq.heap.size [] wq w')) => (⟨(hz.out.cell (by simp only; omega) (by simp; try omega)).trans p0, (hz.out.cell (by simp only; omega) (by simp; try omega)).trans p1, (hz.out.block nb hnz (by simp)).trans hnt⟩ : w'.cell? ⟨w.heap.size, 0, none⟩ = some (.slice A n c) ∧ w'.cell? ⟨w.heap.size, 1, none⟩ = some (.slice A' n' c') ∧ NB w' nb (notesR ps ws)))
            obtain ⟨S, hSd⟩ : ∃ S : World → Prop, S = fun w' => (w'.cell? ⟨w.heap.size, 0, none⟩ = some (.slice A n c) ∧ w'.cell? ⟨w.heap.size, 1, none⟩ = some (.slice A' n' c') ∧ NB w' nb (notesR ps ws)) ∧ Hid (Kp wq.heap.size [] wq w') := ⟨_, rfl⟩
            have HS := Lib.hid (fun w' (hz : Hid (Kp wq.heap.size [] wq w')) => (by rw [hSd]; exact ⟨HQ.out w' hz, hz⟩ : S w'))
            clear p0 p1 hPm hnt
            refine wp_region_held_drew (S := S) (by kernel_rfl) ?_ (fun hHeld => ?_)
            · exact HS.out _ (Lib.hid (Kp.refl _ _ _).drew)
            have hKyd : Hid (Kp wq.heap.size [] wq wq.drew) := Lib.hid (Kp.refl _ _ _).drew
            have hSyd : wq.heap.size ≤ wq.drew.heap.size := Nat.le_refl _
            have hP := hP.drew
            generalize wq.drew = yd at *
            refine tY (v := ?_) 0 26 ?_ ?_
            rotate_left
            · intro w hSw; rw [hSd] at hSw; obtain ⟨⟨q0, q1, -⟩, -⟩ := hSw; go_simp; (try with_reducible rfl)
            try simp only [N0]
            refine tY (v := ?_) 1 27 ?_ ?_
            rotate_left
            · intro w hSw; rw [hSd] at hSw; obtain ⟨⟨q0, q1, -⟩, -⟩ := hSw; go_simp; (try with_reducible rfl)
            try simp only [N0]
            refine tY (v := ?_) 2 28 ?_ ?_
            rotate_left
            · intro w hSw; rw [hSd] at hSw; obtain ⟨⟨q0, q1, -⟩, -⟩ := hSw; go_simp; (try with_reducible rfl)
            try simp only [N0]
            refine tN 3 29 ?_
            try simp only [N0]
            refine tN 4 30 ?_
            try simp only [N0]
            refine tN 5 31 ?_
            try simp only [N0]
            refine tN 6 32 ?_
            try simp only [N0]
            refine tN 7 33 ?_
            try simp only [N0]
            refine tN 8 34 ?_
            try simp only [N0]
            refine tN 9 35 ?_
            try simp only [N0]
            refine tY (v := ?_) 10 36 ?_ ?_
            rotate_left
            · intro w hSw; rw [hSd] at hSw; obtain ⟨⟨q0, q1, -⟩, -⟩ := hSw; go_simp; (try with_reducible rfl)
            try simp only [N0]
            refine tY (v := ?_) 11 37 ?_ ?_
            rotate_left
            · intro w hSw; rw [hSd] at hSw; obtain ⟨⟨q0, q1, -⟩, -⟩ := hSw; go_simp; (try with_reducible rfl)
            try simp only [N0]
            refine tY (v := ?_) 12 38 ?_ ?_
            rotate_left
            · intro w hSw; rw [hSd] at hSw; obtain ⟨⟨q0, q1, -⟩, -⟩ := hSw; go_simp; (try with_reducible rfl)
            try simp only [N0]
            refine tY (v := ?_) 13 39 ?_ ?_
            rotate_left
            · intro w hSw; rw [hSd] at hSw; obtain ⟨⟨q0, q1, -⟩, -⟩ := hSw; go_simp; (try with_reducible rfl)
            try simp only [N0]
            refine tY (v := ?_) 14 40 ?_ ?_
            rotate_left
            · intro w hSw; rw [hSd] at hSw; obtain ⟨⟨q0, q1, -⟩, -⟩ := hSw; go_simp; (try with_reducible rfl)
            try simp only [N0]
            refine tY (v := ?_) 15 41 ?_ ?_
            rotate_left
            · intro w hSw; rw [hSd] at hSw; obtain ⟨⟨q0, q1, -⟩, -⟩ := hSw; go_simp; (try with_reducible rfl)
            try simp only [N0]
            refine tY (v := .agg (NV (notesR ps ws))) 16 42 ?_ ?_
            · intro w hSw; rw [hSd] at hSw; exact exec_load_row2 110 (.tmp 6) nb 110 (NV (notesR ps ws)) (0, 0) _ hSw.1.2.2 Tryd.underlying110 rfl (by rw [NV_size]; kernel_rfl) rfl rfl
            try simp only [N0]
            refine tY (v := ?_) 17 43 ?_ ?_
            rotate_left
            · intro w hSw; rw [hSd] at hSw; obtain ⟨⟨q0, q1, -⟩, -⟩ := hSw; go_simp; (try with_reducible rfl)
            try simp only [N0]
            refine tY (v := ?_) 19 45 ?_ ?_
            rotate_left
            · intro w hSw; rw [hSd] at hSw; obtain ⟨⟨q0, q1, -⟩, -⟩ := hSw; go_simp; (try with_reducible rfl)
            try simp only [N0]
            refine tY (v := ?_) 20 46 ?_ ?_
            rotate_left
            · intro w hSw; rw [hSd] at hSw; obtain ⟨⟨q0, q1, -⟩, -⟩ := hSw; go_simp; (try with_reducible rfl)
            try simp only [N0]
            refine wpAnyH_ready (rs := [18]) (by kernel_rfl) (by simp) ?_
            refine AllReadyH.cons (o := _) rfl (fun Kq hK => ?_) AllReadyH.nil
            go_simp
            refine (wide_any yd).mono ?_
            rintro e c18yd ⟨rfl, hb⟩
            have hKc18yd := Lib.hid (hKyd.out.call hSyd hb)
            have hSc18yd := Nat.le_trans hSyd hb.size
            have hP := hP.below hb
            clear hb
            try go_simp
            refine hK.out _ _ ?_ (fun hHeld => ?_)
            · exact HS.out _ hKc18yd
            clear hK Kq
            try simp only [N0]
            refine wpAnyH_ready (rs := [21]) (by kernel_rfl) (by simp) ?_
            refine AllReadyH.cons (o := _) rfl (fun Kq hK => ?_) AllReadyH.nil
            go_simp
            refine (rholds_any A A' n c n' c' ps ws (notesR ps ws) (i : Int) (0, 10000000) (0, (mid : Int)) c18yd (HRd.out c18yd hP.bel) hv.out hRb.out (by simp [Bd] <;> omega) (by simp [Bd] <;> omega)).mono ?_
            rintro e c21c18yd ⟨rfl, hb⟩
            have hKc21c18yd := Lib.hid (hKc18yd.out.call hSc18yd hb)
            have hSc21c18yd := Nat.le_trans hSc18yd hb.size
            have hP := hP.below hb
            rw [hans.out]
            clear hb
            try go_simp
            refine hK.out _ _ ?_ (fun hHeld => ?_)
            · exact HS.out _ hKc21c18yd
            clear hK Kq
            try simp only [N0]
            refine tY (v := ?_) 22 48 ?_ ?_
            rotate_left
            · intro w hSw; rw [hSd] at hSw; obtain ⟨⟨q0, q1, -⟩, -⟩ := hSw; go_simp; (try with_reducible rfl)
            try simp only [N0]
            refine tY (v := ?_) 23 49 ?_ ?_
            rotate_left
            · intro w hSw; rw [hSd] at hSw; obtain ⟨⟨q0, q1, -⟩, -⟩ := hSw; go_simp; (try with_reducible rfl)
            try simp only [N0]
            refine wpAnyH_done (by kernel_rfl) ?_ _
            clear HS HQ
            have hPn := Lib.hid hP
            clear hP
            clear hKc21c18yd
            go_wp2
            go_roundw
            case rel => exact ⟨_, rfl, a, mid, by omega, by omega, by omega, by go_num, by go_num, hPn⟩
            case measure => simp [intOf] <;> omega
          · skip
            have hans : Hid (holdsR (toT ps) (notesR ps ws) (i : Int) (0, 10000000) (0, (mid : Int)) n = false) := by show _ = _; rw [hLo1.out mid (by omega) (by omega)]; exact decide_eq_false hd
            have hP := hPm.out
            have hbz : w.heap.size + 3 ≤ wq.heap.size := hP.size
            have hnz : nb < wq.heap.size := (Array.getElem?_eq_some_iff.1 hP.nt).1
            obtain ⟨p0, p1⟩ := hP.cells
            have hnt := hP.nt
            have HQ := Lib.hid (fun w' (hz : Hid (Kp wq.heap.size [] wq w')) => (⟨(hz.out.cell (by simp only; omega) (by simp; try omega)).trans p0, (hz.out.cell (by simp only; omega) (by simp; try omega)).trans p1, (hz.out.block nb hnz (by simp)).trans hnt⟩ : w'.cell? ⟨w.heap.size, 0, none⟩ = some (.slice A n c) ∧ w'.cell? ⟨w.heap.size, 1, none⟩ = some (.slice A' n' c') ∧ NB w' nb (notesR ps ws)))
            obtain ⟨S, hSd⟩ : ∃ S : World → Prop, S = fun w' => (w'.cell? ⟨w.heap.size, 0, none⟩ = some (.slice A n c) ∧ w'.cell? ⟨w.heap.size, 1, none⟩ = some (.slice A' n' c') ∧ NB w' nb (notesR ps ws)) ∧ Hid (Kp wq.heap.size [] wq w') := ⟨_, rfl⟩
            have HS := Lib.hid (fun w' (hz : Hid (Kp wq.heap.size [] wq w')) => (by rw [hSd]; exact ⟨HQ.out w' hz, hz⟩ : S w'))
            clear p0 p1 hPm hnt
            refine wp_region_held_drew (S := S) (by kernel_rfl) ?_ (fun hHeld => ?_)
            · exact HS.out _ (Lib.hid (Kp.refl _ _ _).drew)
            have hKyd : Hid (Kp wq.heap.size [] wq wq.drew) := Lib.hid (Kp.refl _ _ _).drew
            have hSyd : wq.heap.size ≤ wq.drew.heap.size := Nat.le_refl _
            have hP := hP.drew
            generalize wq.drew = yd at *
            refine tY (v := ?_) 0 26 ?_ ?_
            rotate_left
            · intro w hSw; rw [hSd] at hSw; obtain ⟨⟨q0, q1, -⟩, -⟩ := hSw; go_simp; (try with_reducible rfl)
            try simp only [N0]
            refine tY (v := ?_) 1 27 ?_ ?_
            rotate_left
            · intro w hSw; rw [hSd] at hSw; obtain ⟨⟨q0, q1, -⟩, -⟩ := hSw; go_simp; (try with_reducible rfl)
            try simp only [N0]
            refine tY (v := ?_) 2 28 ?_ ?_
            rotate_left
            · intro w hSw; rw [hSd] at hSw; obtain ⟨⟨q0, q1, -⟩, -⟩ := hSw; go_simp; (try with_reducible rfl)
            try simp only [N0]
            refine tN 3 29 ?_
            try simp only [N0]
            refine tN 4 30 ?_
            try simp only [N0]
            refine tN 5 31 ?_
            try simp only [N0]
            refine tN 6 32 ?_
            try simp only [N0]
            refine tN 7 33 ?_
            try simp only [N0]
            refine tN 8 34 ?_
            try simp only [N0]
            refine tN 9 35 ?_
            try simp only [N0]
            refine tY (v := ?_) 10 36 ?_ ?_
            rotate_left
            · intro w hSw; rw [hSd] at hSw; obtain ⟨⟨q0, q1, -⟩, -⟩ := hSw; go_simp; (try with_reducible rfl)
            try simp only [N0]
            refine tY (v := ?_) 11 37 ?_ ?_
            rotate_left
            · intro w hSw; rw [hSd] at hSw; obtain ⟨⟨q0, q1, -⟩, -⟩ := hSw; go_simp; (try with_reducible rfl)
            try simp only [N0]
            refine tY (v := ?_) 12 38 ?_ ?_
            rotate_left
            · intro w hSw; rw [hSd] at hSw; obtain ⟨⟨q0, q1, -⟩, -⟩ := hSw; go_simp; (try with_reducible rfl)
            try simp only [N0]
            refine tY (v := ?_) 13 39 ?_ ?_
            rotate_left
            · intro w hSw; rw [hSd] at hSw; obtain ⟨⟨q0, q1, -⟩, -⟩ := hSw; go_simp; (try with_reducible rfl)
            try simp only [N0]
            refine tY (v := ?_) 14 40 ?_ ?_
            rotate_left
            · intro w hSw; rw [hSd] at hSw; obtain ⟨⟨q0, q1, -⟩, -⟩ := hSw; go_simp; (try with_reducible rfl)
            try simp only [N0]
            refine tY (v := ?_) 15 41 ?_ ?_
            rotate_left
            · intro w hSw; rw [hSd] at hSw; obtain ⟨⟨q0, q1, -⟩, -⟩ := hSw; go_simp; (try with_reducible rfl)
            try simp only [N0]
            refine tY (v := .agg (NV (notesR ps ws))) 16 42 ?_ ?_
            · intro w hSw; rw [hSd] at hSw; exact exec_load_row2 110 (.tmp 6) nb 110 (NV (notesR ps ws)) (0, 0) _ hSw.1.2.2 Tryd.underlying110 rfl (by rw [NV_size]; kernel_rfl) rfl rfl
            try simp only [N0]
            refine tY (v := ?_) 17 43 ?_ ?_
            rotate_left
            · intro w hSw; rw [hSd] at hSw; obtain ⟨⟨q0, q1, -⟩, -⟩ := hSw; go_simp; (try with_reducible rfl)
            try simp only [N0]
            refine tY (v := ?_) 19 45 ?_ ?_
            rotate_left
            · intro w hSw; rw [hSd] at hSw; obtain ⟨⟨q0, q1, -⟩, -⟩ := hSw; go_simp; (try with_reducible rfl)
            try simp only [N0]
            refine tY (v := ?_) 20 46 ?_ ?_
            rotate_left
            · intro w hSw; rw [hSd] at hSw; obtain ⟨⟨q0, q1, -⟩, -⟩ := hSw; go_simp; (try with_reducible rfl)
            try simp only [N0]
            refine wpAnyH_ready (rs := [18]) (by kernel_rfl) (by simp) ?_
            refine AllReadyH.cons (o := _) rfl (fun Kq hK => ?_) AllReadyH.nil
            go_simp
            refine (wide_any yd).mono ?_
            rintro e c18yd ⟨rfl, hb⟩
            have hKc18yd := Lib.hid (hKyd.out.call hSyd hb)
            have hSc18yd := Nat.le_trans hSyd hb.size
            have hP := hP.below hb
            clear hb
            try go_simp
            refine hK.out _ _ ?_ (fun hHeld => ?_)
            · exact HS.out _ hKc18yd
            clear hK Kq
            try simp only [N0]
            refine wpAnyH_ready (rs := [21]) (by kernel_rfl) (by simp) ?_
            refine AllReadyH.cons (o := _) rfl (fun Kq hK => ?_) AllReadyH.nil
            go_simp
            refine (rholds_any A A' n c n' c' ps ws (notesR ps ws) (i : Int) (0, 10000000) (0, (mid : Int)) c18yd (HRd.out c18yd hP.bel) hv.out hRb.out (by simp [Bd] <;> omega) (by simp [Bd] <;> omega)).mono ?_
            rintro e c21c18yd ⟨rfl, hb⟩
            have hKc21c18yd := Lib.hid (hKc18yd.out.call hSc18yd hb)
            have hSc21c18yd := Nat.le_trans hSc18yd hb.size
            have hP := hP.below hb
            rw [hans.out]
            clear hb
            try go_simp
            refine hK.out _ _ ?_ (fun hHeld => ?_)
            · exact HS.out _ hKc21c18yd
            clear hK Kq
            try simp only [N0]
            refine tY (v := ?_) 22 48 ?_ ?_
            rotate_left
            · intro w hSw; rw [hSd] at hSw; obtain ⟨⟨q0, q1, -⟩, -⟩ := hSw; go_simp; (try with_reducible rfl)
            try simp only [N0]
            refine tY (v := ?_) 23 49 ?_ ?_
            rotate_left
            · intro w hSw; rw [hSd] at hSw; obtain ⟨⟨q0, q1, -⟩, -⟩ := hSw; go_simp; (try with_reducible rfl)
            try simp only [N0]
            refine wpAnyH_done (by kernel_rfl) ?_ _
            clear HS HQ
            have hPn := Lib.hid hP
            clear hP
            clear hKc21c18yd
            go_wp2
            go_roundw
            case rel => exact ⟨_, rfl, mid + 1, b, by omega, by omega, by omega, by go_num, by go_num, hPn⟩
            case measure => simp [intOf] <;> omega
        · obtain rfl : a = b := by omega
          have hnab : ¬ ((a : Int) < (a : Int)) := by omega
          obtain rfl : L1 = (a : Int) := by omega
          obtain ⟨l1, hl0⟩ : ∃ l0 : Nat, l0 = a := ⟨_, rfl⟩
          subst hl0
          have hPx := hPm.out
          obtain ⟨o0, o1, o2, o3, f0, f1, f2, f3⟩ := hPx.os
          have hPs := Lib.hid (hPx.st2 (.int .i64 (l1 : Int)))
          clear hPx hPm
          go_wp2_with fail
          go_loopw [9, 10] (fun v u wq => ∃ wl, wl = wq ∧ ∃ a b : Nat, (a : Int) ≤ H1 ∧ H1 ≤ (b : Int) ∧ b ≤ 10000000 ∧ v = .int .i64 a ∧ u = .int .i64 b ∧ Hid (SD w A A' n c n' c' ps ws nb ob (.int .i64 L0) (.int .i64 H0) (.int .i64 (l1 : Int)) (.int .i64 0) wq)) (fun v u _ => (intOf u).toNat - (intOf v).toNat)
          case atStart => exact ⟨_, rfl, 0, 10000000, by omega, by omega, by omega, rfl, rfl, hPs⟩
          case round =>
            clear hPs
            obtain ⟨wq, rfl, a, b, haL, hLb, hb1, rfl, rfl, hPm⟩ := hrel
            by_cases hab : a < b
            · have habi : (a : Int) < (b : Int) := by omega
              obtain ⟨mid, hmid⟩ : ∃ mid, mid = (a + b + 1) / 2 := ⟨_, rfl⟩
              have m1 : a < mid := by omega
              have m2 : mid ≤ b := by omega
              have e1 : IntKind.i64.wrap ((a : Int) + (b : Int)) = (a : Int) + (b : Int) := IntWalk.i64_in _ (by omega)
              have e0 : IntKind.i64.wrap ((a : Int) + (b : Int) + 1) = (a : Int) + (b : Int) + 1 := IntWalk.i64_in _ (by omega)
              have e2 : Int.tdiv ((a : Int) + (b : Int) + 1) 2 = (mid : Int) := by rw [Int.tdiv_eq_ediv_of_nonneg (by omega)]; omega
              have e3 : IntKind.i64.wrap (mid : Int) = (mid : Int) := IntWalk.i64_in _ (by omega)
              clear hmid
              go_wp2_with fail
              by_cases hd : (mid : Int) ≤ H1
              · skip
                have hans : Hid (holdsR (toT ps) (notesR ps ws) (i : Int) (0, 10000000) ((mid : Int), 10000000) n = true) := by show _ = _; rw [hHi1.out mid (by omega) (by omega)]; exact decide_eq_true hd
                have hP := hPm.out
                have hbz : w.heap.size + 3 ≤ wq.heap.size := hP.size
                have hnz : nb < wq.heap.size := (Array.getElem?_eq_some_iff.1 hP.nt).1
                obtain ⟨p0, p1⟩ := hP.cells
                have hnt := hP.nt
                have HQ := Lib.hid (fun w' (hz : Hid (Kp wq.heap.size [] wq w')) => (⟨(hz.out.cell (by simp only; omega) (by simp; try omega)).trans p0, (hz.out.cell (by simp only; omega) (by simp; try omega)).trans p1, (hz.out.block nb hnz (by simp)).trans hnt⟩ : w'.cell? ⟨w.heap.size, 0, none⟩ = some (.slice A n c) ∧ w'.cell? ⟨w.heap.size, 1, none⟩ = some (.slice A' n' c') ∧ NB w' nb (notesR ps ws)))
                obtain ⟨S, hSd⟩ : ∃ S : World → Prop, S = fun w' => (w'.cell? ⟨w.heap.size, 0, none⟩ = some (.slice A n c) ∧ w'.cell? ⟨w.heap.size, 1, none⟩ = some (.slice A' n' c') ∧ NB w' nb (notesR ps ws)) ∧ Hid (Kp wq.heap.size [] wq w') := ⟨_, rfl⟩
                have HS := Lib.hid (fun w' (hz : Hid (Kp wq.heap.size [] wq w')) => (by rw [hSd]; exact ⟨HQ.out w' hz, hz⟩ : S w'))
                clear p0 p1 hPm hnt
                refine wp_region_held_drew (S := S) (by kernel_rfl) ?_ (fun hHeld => ?_)
                · exact HS.out _ (Lib.hid (Kp.refl _ _ _).drew)
                have hKyd : Hid (Kp wq.heap.size [] wq wq.drew) := Lib.hid (Kp.refl _ _ _).drew
                have hSyd : wq.heap.size ≤ wq.drew.heap.size := Nat.le_refl _
                have hP := hP.drew
                generalize wq.drew = yd at *
                refine tY (v := ?_) 0 65 ?_ ?_
                rotate_left
                · intro w hSw; rw [hSd] at hSw; obtain ⟨⟨q0, q1, -⟩, -⟩ := hSw; go_simp; (try with_reducible rfl)
                try simp only [N0]
                refine tY (v := ?_) 1 66 ?_ ?_
                rotate_left
                · intro w hSw; rw [hSd] at hSw; obtain ⟨⟨q0, q1, -⟩, -⟩ := hSw; go_simp; (try with_reducible rfl)
                try simp only [N0]
                refine tY (v := ?_) 2 67 ?_ ?_
                rotate_left
                · intro w hSw; rw [hSd] at hSw; obtain ⟨⟨q0, q1, -⟩, -⟩ := hSw; go_simp; (try with_reducible rfl)
                try simp only [N0]
                refine tN 3 68 ?_
                try simp only [N0]
                refine tN 4 69 ?_
                try simp only [N0]
                refine tN 5 70 ?_
                try simp only [N0]
                refine tN 6 71 ?_
                try simp only [N0]
                refine tN 7 72 ?_
                try simp only [N0]
                refine tN 8 73 ?_
                try simp only [N0]
                refine tN 9 74 ?_
                try simp only [N0]
                refine tY (v := ?_) 10 75 ?_ ?_
                rotate_left
                · intro w hSw; rw [hSd] at hSw; obtain ⟨⟨q0, q1, -⟩, -⟩ := hSw; go_simp; (try with_reducible rfl)
                try simp only [N0]
                refine tY (v := ?_) 11 76 ?_ ?_
                rotate_left
                · intro w hSw; rw [hSd] at hSw; obtain ⟨⟨q0, q1, -⟩, -⟩ := hSw; go_simp; (try with_reducible rfl)
                try simp only [N0]
                refine tY (v := ?_) 12 77 ?_ ?_
                rotate_left
                · intro w hSw; rw [hSd] at hSw; obtain ⟨⟨q0, q1, -⟩, -⟩ := hSw; go_simp; (try with_reducible rfl)
                try simp only [N0]
                refine tY (v := ?_) 13 78 ?_ ?_
                rotate_left
                · intro w hSw; rw [hSd] at hSw; obtain ⟨⟨q0, q1, -⟩, -⟩ := hSw; go_simp; (try with_reducible rfl)
                try simp only [N0]
                refine tY (v := ?_) 14 79 ?_ ?_
                rotate_left
                · intro w hSw; rw [hSd] at hSw; obtain ⟨⟨q0, q1, -⟩, -⟩ := hSw; go_simp; (try with_reducible rfl)
                try simp only [N0]
                refine tY (v := ?_) 15 80 ?_ ?_
                rotate_left
                · intro w hSw; rw [hSd] at hSw; obtain ⟨⟨q0, q1, -⟩, -⟩ := hSw; go_simp; (try with_reducible rfl)
                try simp only [N0]
                refine tY (v := .agg (NV (notesR ps ws))) 16 81 ?_ ?_
                · intro w hSw; rw [hSd] at hSw; exact exec_load_row2 110 (.tmp 6) nb 110 (NV (notesR ps ws)) (0, 0) _ hSw.1.2.2 Tryd.underlying110 rfl (by rw [NV_size]; kernel_rfl) rfl rfl
                try simp only [N0]
                refine tY (v := ?_) 17 82 ?_ ?_
                rotate_left
                · intro w hSw; rw [hSd] at hSw; obtain ⟨⟨q0, q1, -⟩, -⟩ := hSw; go_simp; (try with_reducible rfl)
                try simp only [N0]
                refine tY (v := ?_) 19 84 ?_ ?_
                rotate_left
                · intro w hSw; rw [hSd] at hSw; obtain ⟨⟨q0, q1, -⟩, -⟩ := hSw; go_simp; (try with_reducible rfl)
                try simp only [N0]
                refine tY (v := ?_) 20 85 ?_ ?_
                rotate_left
                · intro w hSw; rw [hSd] at hSw; obtain ⟨⟨q0, q1, -⟩, -⟩ := hSw; go_simp; (try with_reducible rfl)
                try simp only [N0]
                refine wpAnyH_ready (rs := [18]) (by kernel_rfl) (by simp) ?_
                refine AllReadyH.cons (o := _) rfl (fun Kq hK => ?_) AllReadyH.nil
                go_simp
                refine (wide_any yd).mono ?_
                rintro e c18yd ⟨rfl, hb⟩
                have hKc18yd := Lib.hid (hKyd.out.call hSyd hb)
                have hSc18yd := Nat.le_trans hSyd hb.size
                have hP := hP.below hb
                clear hb
                try go_simp
                refine hK.out _ _ ?_ (fun hHeld => ?_)
                · exact HS.out _ hKc18yd
                clear hK Kq
                try simp only [N0]
                refine wpAnyH_ready (rs := [21]) (by kernel_rfl) (by simp) ?_
                refine AllReadyH.cons (o := _) rfl (fun Kq hK => ?_) AllReadyH.nil
                go_simp
                refine (rholds_any A A' n c n' c' ps ws (notesR ps ws) (i : Int) (0, 10000000) ((mid : Int), 10000000) c18yd (HRd.out c18yd hP.bel) hv.out hRb.out (by simp [Bd] <;> omega) (by simp [Bd] <;> omega)).mono ?_
                rintro e c21c18yd ⟨rfl, hb⟩
                have hKc21c18yd := Lib.hid (hKc18yd.out.call hSc18yd hb)
                have hSc21c18yd := Nat.le_trans hSc18yd hb.size
                have hP := hP.below hb
                rw [hans.out]
                clear hb
                try go_simp
                refine hK.out _ _ ?_ (fun hHeld => ?_)
                · exact HS.out _ hKc21c18yd
                clear hK Kq
                try simp only [N0]
                refine tY (v := ?_) 22 87 ?_ ?_
                rotate_left
                · intro w hSw; rw [hSd] at hSw; obtain ⟨⟨q0, q1, -⟩, -⟩ := hSw; go_simp; (try with_reducible rfl)
                try simp only [N0]
                refine tY (v := ?_) 23 88 ?_ ?_
                rotate_left
                · intro w hSw; rw [hSd] at hSw; obtain ⟨⟨q0, q1, -⟩, -⟩ := hSw; go_simp; (try with_reducible rfl)
                try simp only [N0]
                refine wpAnyH_done (by kernel_rfl) ?_ _
                clear HS HQ
                have hPn := Lib.hid hP
                clear hP
                clear hKc21c18yd
                go_wp2
                go_roundw
                case rel => exact ⟨_, rfl, mid, b, by omega, by omega, by omega, by go_num, by go_num, hPn⟩
                case measure => simp [intOf] <;> omega
              · skip
                have hans : Hid (holdsR (toT ps) (notesR ps ws) (i : Int) (0, 10000000) ((mid : Int), 10000000) n = false) := by show _ = _; rw [hHi1.out mid (by omega) (by omega)]; exact decide_eq_false hd
                have hP := hPm.out
                have hbz : w.heap.size + 3 ≤ wq.heap.size := hP.size
                have hnz : nb < wq.heap.size := (Array.getElem?_eq_some_iff.1 hP.nt).1
                obtain ⟨p0, p1⟩ := hP.cells
                have hnt := hP.nt
                have HQ := Lib.hid (fun w' (hz : Hid (Kp wq.heap.size [] wq w')) => (⟨(hz.out.cell (by simp only; omega) (by simp; try omega)).trans p0, (hz.out.cell (by simp only; omega) (by simp; try omega)).trans p1, (hz.out.block nb hnz (by simp)).trans hnt⟩ : w'.cell? ⟨w.heap.size, 0, none⟩ = some (.slice A n c) ∧ w'.cell? ⟨w.heap.size, 1, none⟩ = some (.slice A' n' c') ∧ NB w' nb (notesR ps ws)))
                obtain ⟨S, hSd⟩ : ∃ S : World → Prop, S = fun w' => (w'.cell? ⟨w.heap.size, 0, none⟩ = some (.slice A n c) ∧ w'.cell? ⟨w.heap.size, 1, none⟩ = some (.slice A' n' c') ∧ NB w' nb (notesR ps ws)) ∧ Hid (Kp wq.heap.size [] wq w') := ⟨_, rfl⟩
                have HS := Lib.hid (fun w' (hz : Hid (Kp wq.heap.size [] wq w')) => (by rw [hSd]; exact ⟨HQ.out w' hz, hz⟩ : S w'))
                clear p0 p1 hPm hnt
                refine wp_region_held_drew (S := S) (by kernel_rfl) ?_ (fun hHeld => ?_)
                · exact HS.out _ (Lib.hid (Kp.refl _ _ _).drew)
                have hKyd : Hid (Kp wq.heap.size [] wq wq.drew) := Lib.hid (Kp.refl _ _ _).drew
                have hSyd : wq.heap.size ≤ wq.drew.heap.size := Nat.le_refl _
                have hP := hP.drew
                generalize wq.drew = yd at *
                refine tY (v := ?_) 0 65 ?_ ?_
                rotate_left
                · intro w hSw; rw [hSd] at hSw; obtain ⟨⟨q0, q1, -⟩, -⟩ := hSw; go_simp; (try with_reducible rfl)
                try simp only [N0]
                refine tY (v := ?_) 1 66 ?_ ?_
                rotate_left
                · intro w hSw; rw [hSd] at hSw; obtain ⟨⟨q0, q1, -⟩, -⟩ := hSw; go_simp; (try with_reducible rfl)
                try simp only [N0]
                refine tY (v := ?_) 2 67 ?_ ?_
                rotate_left
                · intro w hSw; rw [hSd] at hSw; obtain ⟨⟨q0, q1, -⟩, -⟩ := hSw; go_simp; (try with_reducible rfl)
                try simp only [N0]
                refine tN 3 68 ?_
                try simp only [N0]
                refine tN 4 69 ?_
                try simp only [N0]
                refine tN 5 70 ?_
                try simp only [N0]
                refine tN 6 71 ?_
                try simp only [N0]
                refine tN 7 72 ?_
                try simp only [N0]
                refine tN 8 73 ?_
                try simp only [N0]
                refine tN 9 74 ?_
                try simp only [N0]
                refine tY (v := ?_) 10 75 ?_ ?_
                rotate_left
                · intro w hSw; rw [hSd] at hSw; obtain ⟨⟨q0, q1, -⟩, -⟩ := hSw; go_simp; (try with_reducible rfl)
                try simp only [N0]
                refine tY (v := ?_) 11 76 ?_ ?_
                rotate_left
                · intro w hSw; rw [hSd] at hSw; obtain ⟨⟨q0, q1, -⟩, -⟩ := hSw; go_simp; (try with_reducible rfl)
                try simp only [N0]
                refine tY (v := ?_) 12 77 ?_ ?_
                rotate_left
                · intro w hSw; rw [hSd] at hSw; obtain ⟨⟨q0, q1, -⟩, -⟩ := hSw; go_simp; (try with_reducible rfl)
                try simp only [N0]
                refine tY (v := ?_) 13 78 ?_ ?_
                rotate_left
                · intro w hSw; rw [hSd] at hSw; obtain ⟨⟨q0, q1, -⟩, -⟩ := hSw; go_simp; (try with_reducible rfl)
                try simp only [N0]
                refine tY (v := ?_) 14 79 ?_ ?_
                rotate_left
                · intro w hSw; rw [hSd] at hSw; obtain ⟨⟨q0, q1, -⟩, -⟩ := hSw; go_simp; (try with_reducible rfl)
                try simp only [N0]
                refine tY (v := ?_) 15 80 ?_ ?_
                rotate_left
                · intro w hSw; rw [hSd] at hSw; obtain ⟨⟨q0, q1, -⟩, -⟩ := hSw; go_simp; (try with_reducible rfl)
                try simp only [N0]
                refine tY (v := .agg (NV (notesR ps ws))) 16 81 ?_ ?_
                · intro w hSw; rw [hSd] at hSw; exact exec_load_row2 110 (.tmp 6) nb 110 (NV (notesR ps ws)) (0, 0) _ hSw.1.2.2 Tryd.underlying110 rfl (by rw [NV_size]; kernel_rfl) rfl rfl
                try simp only [N0]
                refine tY (v := ?_) 17 82 ?_ ?_
                rotate_left
                · intro w hSw; rw [hSd] at hSw; obtain ⟨⟨q0, q1, -⟩, -⟩ := hSw; go_simp; (try with_reducible rfl)
                try simp only [N0]
                refine tY (v := ?_) 19 84 ?_ ?_
                rotate_left
                · intro w hSw; rw [hSd] at hSw; obtain ⟨⟨q0, q1, -⟩, -⟩ := hSw; go_simp; (try with_reducible rfl)
                try simp only [N0]
                refine tY (v := ?_) 20 85 ?_ ?_
                rotate_left
                · intro w hSw; rw [hSd] at hSw; obtain ⟨⟨q0, q1, -⟩, -⟩ := hSw; go_simp; (try with_reducible rfl)
                try simp only [N0]
                refine wpAnyH_ready (rs := [18]) (by kernel_rfl) (by simp) ?_
                refine AllReadyH.cons (o := _) rfl (fun Kq hK => ?_) AllReadyH.nil
                go_simp
                refine (wide_any yd).mono ?_
                rintro e c18yd ⟨rfl, hb⟩
                have hKc18yd := Lib.hid (hKyd.out.call hSyd hb)
                have hSc18yd := Nat.le_trans hSyd hb.size
                have hP := hP.below hb
                clear hb
                try go_simp
                refine hK.out _ _ ?_ (fun hHeld => ?_)
                · exact HS.out _ hKc18yd
                clear hK Kq
                try simp only [N0]
                refine wpAnyH_ready (rs := [21]) (by kernel_rfl) (by simp) ?_
                refine AllReadyH.cons (o := _) rfl (fun Kq hK => ?_) AllReadyH.nil
                go_simp
                refine (rholds_any A A' n c n' c' ps ws (notesR ps ws) (i : Int) (0, 10000000) ((mid : Int), 10000000) c18yd (HRd.out c18yd hP.bel) hv.out hRb.out (by simp [Bd] <;> omega) (by simp [Bd] <;> omega)).mono ?_
                rintro e c21c18yd ⟨rfl, hb⟩
                have hKc21c18yd := Lib.hid (hKc18yd.out.call hSc18yd hb)
                have hSc21c18yd := Nat.le_trans hSc18yd hb.size
                have hP := hP.below hb
                rw [hans.out]
                clear hb
                try go_simp
                refine hK.out _ _ ?_ (fun hHeld => ?_)
                · exact HS.out _ hKc21c18yd
                clear hK Kq
                try simp only [N0]
                refine tY (v := ?_) 22 87 ?_ ?_
                rotate_left
                · intro w hSw; rw [hSd] at hSw; obtain ⟨⟨q0, q1, -⟩, -⟩ := hSw; go_simp; (try with_reducible rfl)
                try simp only [N0]
                refine tY (v := ?_) 23 88 ?_ ?_
                rotate_left
                · intro w hSw; rw [hSd] at hSw; obtain ⟨⟨q0, q1, -⟩, -⟩ := hSw; go_simp; (try with_reducible rfl)
                try simp only [N0]
                refine wpAnyH_done (by kernel_rfl) ?_ _
                clear HS HQ
                have hPn := Lib.hid hP
                clear hP
                clear hKc21c18yd
                obtain ⟨m1', hm1⟩ : ∃ m1, mid = m1 + 1 := ⟨mid - 1, by omega⟩
                have ew : IntKind.i64.wrap ((mid : Int) - 1) = (m1' : Int) := by rw [IntWalk.i64_in _ (by omega)]; omega
                go_wp2
                go_roundw
                case rel => exact ⟨_, rfl, a, m1', by omega, by omega, by omega, by go_num, by go_num, hPn⟩
                case measure => simp [intOf] <;> omega
            · obtain rfl : a = b := by omega
              have hnab : ¬ ((a : Int) < (a : Int)) := by omega
              obtain rfl : H1 = (a : Int) := by omega
              obtain ⟨h1, hl0⟩ : ∃ l0 : Nat, l0 = a := ⟨_, rfl⟩
              subst hl0
              have hPx := hPm.out
              obtain ⟨o0, o1, o2, o3, f0, f1, f2, f3⟩ := hPx.os
              have hPs := Lib.hid (hPx.st3 (.int .i64 (h1 : Int)))
              clear hPx hPm
              go_wp2
              go_roundw
              case rel => exact ⟨2, by omega, rfl, fun h => absurd h (by omega), fun h => absurd h (by omega), fun _ => hPs⟩
              case measure => simp [intOf]
    · have hPs := hP2 rfl
      clear hP0 hP1 hP2
      rw [show ((2 : Nat) : Int) = 2 from rfl]
      go_wp2_with fail
      have hPx := hPs.out
      clear hPs
      obtain ⟨wq, hwq⟩ : ∃ wq, wq = wr := ⟨_, rfl⟩
      rw [← hwq] at hPx ⊢
      clear hwq
      have hbz : w.heap.size + 3 ≤ wq.heap.size := hPx.size
      have hol := hPx.lo
      have hoz : ob < wq.heap.size := (Array.getElem?_eq_some_iff.1 hPx.ot).1
      obtain ⟨o0, o1, o2, o3, -, -, -, -⟩ := hPx.os
      have k1 := hPx.b1
      have k2 := hPx.b2
      have hBl := hPx.bel
      have HQ := Lib.hid (fun w' (hz : Hid (Kp wq.heap.size [w.heap.size + 1, w.heap.size + 2] wq w')) => (⟨(hz.out.cell (by simp only; omega) (by simp <;> omega)).trans o0, (hz.out.cell (by simp only; omega) (by simp <;> omega)).trans o1, (hz.out.cell (by simp only; omega) (by simp <;> omega)).trans o2, (hz.out.cell (by simp only; omega) (by simp <;> omega)).trans o3⟩ : w'.cell? ⟨ob, 0, none⟩ = some (.int .i64 L0) ∧ w'.cell? ⟨ob, 1, none⟩ = some (.int .i64 H0) ∧ w'.cell? ⟨ob, 2, none⟩ = some (.int .i64 L1) ∧ w'.cell? ⟨ob, 3, none⟩ = some (.int .i64 H1)))
      obtain ⟨S, hSd⟩ : ∃ S : World → Prop, S = fun w' => (w'.cell? ⟨ob, 0, none⟩ = some (.int .i64 L0) ∧ w'.cell? ⟨ob, 1, none⟩ = some (.int .i64 H0) ∧ w'.cell? ⟨ob, 2, none⟩ = some (.int .i64 L1) ∧ w'.cell? ⟨ob, 3, none⟩ = some (.int .i64 H1)) ∧ Hid (Kp wq.heap.size [w.heap.size + 1, w.heap.size + 2] wq w') := ⟨_, rfl⟩
      have HS := Lib.hid (fun w' (hz : Hid (Kp wq.heap.size [w.heap.size + 1, w.heap.size + 2] wq w')) => (by rw [hSd]; exact ⟨HQ.out w' hz, hz⟩ : S w'))
      clear o0 o1 o2 o3 hPx
      refine wp_region_held_drew (S := S) (by kernel_rfl) ?_ (fun hHeld => ?_)
      · exact HS.out _ (Lib.hid (Kp.refl _ _ _).drew)
      have hKyd : Hid (Kp wq.heap.size [w.heap.size + 1, w.heap.size + 2] wq wq.drew) := Lib.hid (Kp.refl _ _ _).drew
      have hSyd : wq.heap.size ≤ wq.drew.heap.size := Nat.le_refl _
      have k1 := keepO (Below.refl wq.heap.size wq).drew k1
      have k2 := keepO (Below.refl wq.heap.size wq).drew k2
      have hBl := hBl.drew
      generalize wq.drew = yd at *
      refine tY (v := ?_) 0 96 ?_ ?_
      rotate_left
      · intro w hSw; rw [hSd] at hSw; obtain ⟨⟨q0, q1, q2, q3⟩, -⟩ := hSw; go_simp; (try with_reducible rfl)
      try simp only [N0]
      refine tY (v := ?_) 1 97 ?_ ?_
      rotate_left
      · intro w hSw; rw [hSd] at hSw; obtain ⟨⟨q0, q1, q2, q3⟩, -⟩ := hSw; go_simp; (try with_reducible rfl)
      try simp only [N0]
      refine tY (v := ?_) 2 98 ?_ ?_
      rotate_left
      · intro w hSw; rw [hSd] at hSw; obtain ⟨⟨q0, q1, q2, q3⟩, -⟩ := hSw; go_simp; (try with_reducible rfl)
      try simp only [N0]
      refine tY (v := ?_) 3 99 ?_ ?_
      rotate_left
      · intro w hSw; rw [hSd] at hSw; obtain ⟨⟨q0, q1, q2, q3⟩, -⟩ := hSw; go_simp; (try with_reducible rfl)
      try simp only [N0]
      refine wpAnyH_ready (rs := [4]) (by kernel_rfl) (by simp) ?_
      refine AllReadyH.cons (o := _) rfl (fun Kq hK => ?_) AllReadyH.nil
      obtain ⟨g0, g1, f0, f1⟩ := two_facts k1
      go_simp
      obtain ⟨s4yd, hz_⟩ : ∃ z, z = ((yd.setCell ⟨w.heap.size + 1, 0, none⟩ (.int .i64 L0)).setCell ⟨w.heap.size + 1, 1, none⟩ (.int .i64 H0)) := ⟨_, rfl⟩
      rw [← hz_]
      have k1 := set_two _ (w.heap.size + 1) _ (.int .i64 L0) (.int .i64 H0) _ _ k1
      rw [← hz_] at k1
      have k2 := (heap_sets2 _ (w.heap.size + 1) _ (.int .i64 L0) (.int .i64 H0) (by omega)).trans k2
      rw [← hz_] at k2
      have hBl := below_two hBl (b := w.heap.size + 1) (by omega) (.int .i64 L0) (.int .i64 H0)
      rw [← hz_] at hBl
      clear g0 g1 f0 f1
      have hKs4yd := Lib.hid ((hKyd.out.set (p := ⟨w.heap.size + 1, 0, none⟩) (Or.inl (by simp)) (.int .i64 L0)).set (p := ⟨w.heap.size + 1, 1, none⟩) (Or.inl (by simp)) (.int .i64 H0))
      rw [← hz_] at hKs4yd
      have hSs4yd := Nat.le_trans hSyd (show yd.heap.size ≤ s4yd.heap.size by rw [hz_]; simp)
      clear hz_
      refine hK.out _ _ ?_ (fun hHeld => ?_)
      · exact HS.out _ hKs4yd
      clear hK Kq
      try simp only [N0]
      refine wpAnyH_ready (rs := [5]) (by kernel_rfl) (by simp) ?_
      refine AllReadyH.cons (o := _) rfl (fun Kq hK => ?_) AllReadyH.nil
      obtain ⟨g0, g1, f0, f1⟩ := two_facts k2
      go_simp
      obtain ⟨s5s4yd, hz_⟩ : ∃ z, z = ((s4yd.setCell ⟨w.heap.size + 2, 0, none⟩ (.int .i64 L1)).setCell ⟨w.heap.size + 2, 1, none⟩ (.int .i64 H1)) := ⟨_, rfl⟩
      rw [← hz_]
      have k2 := set_two _ (w.heap.size + 2) _ (.int .i64 L1) (.int .i64 H1) _ _ k2
      rw [← hz_] at k2
      have k1 := (heap_sets2 _ (w.heap.size + 2) _ (.int .i64 L1) (.int .i64 H1) (by omega)).trans k1
      rw [← hz_] at k1
      have hBl := below_two hBl (b := w.heap.size + 2) (by omega) (.int .i64 L1) (.int .i64 H1)
      rw [← hz_] at hBl
      clear g0 g1 f0 f1
      have hKs5s4yd := Lib.hid ((hKs4yd.out.set (p := ⟨w.heap.size + 2, 0, none⟩) (Or.inl (by simp)) (.int .i64 L1)).set (p := ⟨w.heap.size + 2, 1, none⟩) (Or.inl (by simp)) (.int .i64 H1))
      rw [← hz_] at hKs5s4yd
      have hSs5s4yd := Nat.le_trans hSs4yd (show s4yd.heap.size ≤ s5s4yd.heap.size by rw [hz_]; simp)
      clear hz_
      refine hK.out _ _ ?_ (fun hHeld => ?_)
      · exact HS.out _ hKs5s4yd
      clear hK Kq
      try simp only [N0]
      refine wpAnyH_done (by kernel_rfl) ?_ _
      clear HS HQ hSd
      obtain ⟨r0, r1, -, -⟩ := two_facts k1
      obtain ⟨r2, r3, -, -⟩ := two_facts k2
      go_wp2
      exact bodyPost_ret (v := .tuple #[.agg #[.int .i64 L0, .int .i64 H0], .agg #[.int .i64 L1, .int .i64 H1]]) (by simp [results, Tryd.results64, go_sem, r0, r1, r2, r3]) rfl ⟨rfl, hBl⟩
end Go.Proofs.YtoakeclpakjbiaaDoor
