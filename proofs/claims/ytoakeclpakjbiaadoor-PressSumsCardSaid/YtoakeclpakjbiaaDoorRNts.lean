/-
  The walk of what all notes leave, by the reference.
-/
import Derived.Test.YtoakeclpakjbiaaDoorTk
import Derived.Test.YtoakeclpakjbiaaDoorRNt
namespace Go.Proofs.YtoakeclpakjbiaaDoor
open Go.RowKit
set_option linter.unusedVariables false
set_option linter.unusedSimpArgs false
/-- What all notes leave, by places and kinds. -/
def notesR (ps : List PR) (ws : List WE) : Nat → Nat → Sp := fun a b => if a < ps.length ∧ 1 ≤ b ∧ b ≤ 6 then rowsT ps ws a b else (0, 0)
def pR (ps : List PR) (ws : List WE) (i k : Nat) : Nat → Nat → Sp := fun a b => if 1 ≤ b ∧ b ≤ 6 ∧ (a < i ∨ a = i ∧ b < k) then rowsT ps ws a b else (0, 0)
theorem pR_put (ps : List PR) (ws : List WE) (i k : Nat) (h1 : 1 ≤ k) (h6 : k ≤ 6) : putR (pR ps ws i k) i k (rowsT ps ws i k) = pR ps ws i (k + 1) := by
  funext a b
  unfold putR pR
  by_cases h : a = i ∧ b = k
  · obtain ⟨rfl, rfl⟩ := h
    rw [if_pos ⟨rfl, rfl⟩, if_pos (by omega)]
  · rw [if_neg h]
    by_cases h2 : 1 ≤ b ∧ b ≤ 6 ∧ (a < i ∨ a = i ∧ b < k)
    · rw [if_pos h2, if_pos (by omega)]
    · rw [if_neg h2, if_neg (by omega)]
theorem pR_row (ps : List PR) (ws : List WE) (i : Nat) : pR ps ws i 7 = pR ps ws (i + 1) 1 := by
  funext a b
  unfold pR
  by_cases h2 : 1 ≤ b ∧ b ≤ 6 ∧ (a < i ∨ a = i ∧ b < 7)
  · rw [if_pos h2, if_pos (by omega)]
  · rw [if_neg h2, if_neg (by omega)]
theorem pR_all (ps : List PR) (ws : List WE) : pR ps ws ps.length 1 = notesR ps ws := by
  funext a b
  unfold pR notesR
  by_cases h2 : a < ps.length ∧ 1 ≤ b ∧ b ≤ 6
  · rw [if_pos h2, if_pos (by omega)]
  · rw [if_neg h2, if_neg (by omega)]
theorem pR_0 (ps : List PR) (ws : List WE) : pR ps ws 0 1 = fun _ _ => (0, 0) := by
  funext a b
  unfold pR
  rw [if_neg (by omega)]
theorem zc_nv : Tryd.zeroCells110 = NV (fun _ _ => ((0, 0) : Sp)) := by kernel_rfl
/-- The state while all notes are gathered. -/
structure NA (w : World) (A A' : Option Addr) (n c n' c' : Nat) (R : Nat → Nat → Sp) (z : World) : Prop where
  b0 : z.heap[w.heap.size]? = some (.cells #[.slice A n c, .slice A' n' c'] 25 (0, 0))
  b1 : z.heap[w.heap.size + 1]? = some (.cells Tryd.zeroCells110 110 (0, 0))
  nb : NB z (w.heap.size + 2) R
  bel : Below w.heap.size w z
section
variable {w z y : World} {A A' : Option Addr} {n c n' c' : Nat} {R : Nat → Nat → Sp}
theorem NA.below (h : NA w A A' n c n' c' R z) (hb : Below z.heap.size z y) : NA w A A' n c n' c' R y :=
  ⟨keepO hb h.b0, keepO hb h.b1, h.nb.below hb, below_via h.bel (by have := (Array.getElem?_eq_some_iff.1 h.b0).1; omega) hb⟩
theorem NA.drew (h : NA w A A' n c n' c' R z) : NA w A A' n c n' c' R z.drew := h.below (Below.refl _ _).drew
theorem NA.rw_ (h : NA w A A' n c n' c' R z) {R' : Nat → Nat → Sp} (e : R = R') : NA w A A' n c n' c' R' z := e ▸ h
theorem NA.put (h : NA w A A' n c n' c' R z) {i k : Nat} (hi : i < 10) (hk : k < 7) (s : Sp) :
    NA w A A' n c n' c' (putR R i k s) ((z.setCell ⟨w.heap.size + 2, i * 14 + k * 2, none⟩ (.int .i64 s.1)).setCell ⟨w.heap.size + 2, i * 14 + k * 2 + 1, none⟩ (.int .i64 s.2)) := by
  refine ⟨?_, ?_, h.nb.put hi hk s, (h.bel.setCell (by simp) _).setCell (by simp) _⟩
  · rw [Below.heap_setCell _ _ _ _ (by simp), Below.heap_setCell _ _ _ _ (by simp)]; exact h.b0
  · rw [Below.heap_setCell _ _ _ _ (by simp), Below.heap_setCell _ _ _ _ (by simp)]; exact h.b1
theorem NA.cells (h : NA w A A' n c n' c' R z) : z.cell? ⟨w.heap.size, 0, none⟩ = some (.slice A n c) ∧ z.cell? ⟨w.heap.size, 1, none⟩ = some (.slice A' n' c') := by
  obtain ⟨a, b, -, -⟩ := two_facts h.b0
  exact ⟨a, b⟩
theorem NA.start (w : World) (A A' : Option Addr) (n c n' c' : Nat) : NA w A A' n c n' c' (fun _ _ => (0, 0)) (((w.alloc (.cells #[.slice A n c, .slice A' n' c'] 25)).alloc (.cells Tryd.zeroCells110 110)).alloc (.cells Tryd.zeroCells110 110)) := by
  have h2 := heap_alloc_new ((w.alloc (.cells #[.slice A n c, .slice A' n' c'] 25)).alloc (.cells Tryd.zeroCells110 110)) (.cells Tryd.zeroCells110 110)
  have h1 := heap_alloc_new (w.alloc (.cells #[.slice A n c, .slice A' n' c'] 25)) (.cells Tryd.zeroCells110 110)
  simp only [World.size_alloc] at h1 h2
  refine ⟨?_, ?_, by rw [show NB _ _ _ = _ from rfl, NB, ← zc_nv]; exact h2, (((Below.refl _ _).alloc (Nat.le_refl _) _).alloc (by simp) _).alloc (by simp; omega) _⟩
  · rw [heap_lt_alloc' _ _ _ (by simp; omega), heap_lt_alloc' _ _ _ (by simp)]; exact heap_alloc_new w _
  · rw [heap_lt_alloc' _ _ _ (by simp)]; exact h1
end
set_option maxRecDepth 100000 in
set_option maxHeartbeats 4000000 in
theorem noted_any (A A' : Option Addr) (n c n' c' : Nat) (ps : List PR) (ws : List WE) (w : World) (hR : Reads w w.heap.size 4 A n (pgs ps)) (hW : Reads w w.heap.size 5 A' n' (wgs ws)) (hv : validP ps ws = true) :
    Calls Tryd.prog 55 #[.agg #[.slice A n c, .slice A' n' c']] w fun e w' => e = .returned (.agg (NV (notesR ps ws))) ∧ Below w.heap.size w w' := by
  have hVF := Lib.hid (valid_facts hv)
  have hl : ps.length = n := hR.pg_len
  have hn : n ≤ 10 := by have := hVF.out.n10; omega
  have HRd := Lib.hid (fun z (hz : Below w.heap.size w z) => (hR.below hz).more hz.size)
  have HWd := Lib.hid (fun z (hz : Below w.heap.size w z) => (hW.below hz).more hz.size)
  have hv := Lib.hid hv
  have hS0 : Hid (NA w A A' n c n' c' (pR ps ws 0 1) (((w.alloc (.cells #[.slice A n c, .slice A' n' c'] 25)).alloc (.cells Tryd.zeroCells110 110)).alloc (.cells Tryd.zeroCells110 110))) := by rw [pR_0]; exact NA.start w A A' n c n' c'
  clear hR hW
  go_enter Tryd.func55, Tryd.ntmps55
  go_wp2_with fail
  generalize (((w.alloc (.cells #[.slice A n c, .slice A' n' c'] 25)).alloc (.cells Tryd.zeroCells110 110)).alloc (.cells Tryd.zeroCells110 110)) = wb at *
  go_loopw [4] (fun v wq => ∃ i : Nat, i ≤ n ∧ v = .int .i64 i ∧ Hid (NA w A A' n c n' c' (pR ps ws i 1) wq)) (fun v _ => n - (intOf v).toNat)
  case atStart => exact ⟨0, by omega, rfl, hS0⟩
  case round =>
    clear hS0
    obtain ⟨i, hi, rfl, hNr⟩ := hrel
    obtain ⟨p0, p1⟩ := hNr.out.cells
    by_cases hin : i < n
    · have hii : (i : Int) < (n : Int) := by omega
      have i0 : (0 : Int) ≤ (i : Int) := by omega
      have hi10 : i < 10 := by omega
      have i10 : (i : Int) < 10 := by omega
      go_wp2_with fail
      clear p0 p1
      go_loopw [5] (fun v wq => ∃ wl, wl = wq ∧ ∃ k : Nat, 1 ≤ k ∧ k ≤ 7 ∧ v = .int .i64 k ∧ Hid (NA w A A' n c n' c' (pR ps ws i k) wq)) (fun v _ => 7 - (intOf v).toNat)
      case atStart => exact ⟨_, rfl, 1, by omega, by omega, rfl, hNr⟩
      case round =>
        clear hNr
        obtain ⟨wq, rfl, k, hk1, hk7', rfl, hNk⟩ := hrel
        by_cases hk6 : k ≤ 6
        · have hki : (k : Int) ≤ 6 := by omega
          have hk7 : k < 7 := by omega
          have k7 : (k : Int) < 7 := by omega
          have k0 : (0 : Int) ≤ (k : Int) := by omega
          have hN := hNk.out
          obtain ⟨p0, p1⟩ := hN.cells
          have hbz : w.heap.size + 2 < wq.heap.size := (Array.getElem?_eq_some_iff.1 hN.nb).1
          go_wp2_with fail
          have HQ := Lib.hid (fun w' (hz : Hid (Kp wq.heap.size [w.heap.size + 2] wq w')) => (⟨(hz.out.cell (by simp only; omega) (by simp; try omega)).trans p0, (hz.out.cell (by simp only; omega) (by simp; try omega)).trans p1⟩ : w'.cell? ⟨w.heap.size, 0, none⟩ = some (.slice A n c) ∧ w'.cell? ⟨w.heap.size, 1, none⟩ = some (.slice A' n' c')))
          obtain ⟨S, hSd⟩ : ∃ S : World → Prop, S = fun w' => (w'.cell? ⟨w.heap.size, 0, none⟩ = some (.slice A n c) ∧ w'.cell? ⟨w.heap.size, 1, none⟩ = some (.slice A' n' c')) ∧ Hid (Kp wq.heap.size [w.heap.size + 2] wq w') := ⟨_, rfl⟩
          have HS := Lib.hid (fun w' (hz : Hid (Kp wq.heap.size [w.heap.size + 2] wq w')) => (by rw [hSd]; exact ⟨HQ.out w' hz, hz⟩ : S w'))
          clear p0 p1 hNk
          refine wp_region_held_drew (S := S) (by kernel_rfl) ?_ (fun hHeld => ?_)
          · exact HS.out _ (Lib.hid (Kp.refl _ _ _).drew)
          have hKyd : Hid (Kp wq.heap.size [w.heap.size + 2] wq wq.drew) := Lib.hid (Kp.refl _ _ _).drew
          have hSyd : wq.heap.size ≤ wq.drew.heap.size := Nat.le_refl _
          have hN := hN.drew
          generalize wq.drew = yd at *
          refine tY (v := ?_) 0 17 ?_ ?_
          rotate_left
          · intro w hSw; rw [hSd] at hSw; obtain ⟨⟨q0, q1⟩, -⟩ := hSw; go_simp; (try with_reducible rfl)
          try simp only [N0]
          refine tY (v := ?_) 1 18 ?_ ?_
          rotate_left
          · intro w hSw; rw [hSd] at hSw; obtain ⟨⟨q0, q1⟩, -⟩ := hSw; go_simp; (try with_reducible rfl)
          try simp only [N0]
          refine tY (v := ?_) 2 19 ?_ ?_
          rotate_left
          · intro w hSw; rw [hSd] at hSw; obtain ⟨⟨q0, q1⟩, -⟩ := hSw; go_simp; (try with_reducible rfl)
          try simp only [N0]
          refine tY (v := ?_) 3 20 ?_ ?_
          rotate_left
          · intro w hSw; rw [hSd] at hSw; obtain ⟨⟨q0, q1⟩, -⟩ := hSw; go_simp; (try with_reducible rfl)
          try simp only [N0]
          refine tY (v := ?_) 4 21 ?_ ?_
          rotate_left
          · intro w hSw; rw [hSd] at hSw; obtain ⟨⟨q0, q1⟩, -⟩ := hSw; go_simp; (try with_reducible rfl)
          try simp only [N0]
          refine tY (v := ?_) 6 23 ?_ ?_
          rotate_left
          · intro w hSw; rw [hSd] at hSw; obtain ⟨⟨q0, q1⟩, -⟩ := hSw; go_simp; (try with_reducible rfl)
          try simp only [N0]
          refine wpAnyH_ready (rs := [5]) (by kernel_rfl) (by simp) ?_
          refine AllReadyH.cons (o := _) rfl (fun Kq hK => ?_) AllReadyH.nil
          go_simp
          refine (Noted_any A A' n c n' c' ps ws i k yd (HRd.out yd hN.bel) (HWd.out yd hN.bel) hv.out hin hk7).mono ?_
          rintro e c5yd ⟨rfl, hb⟩
          have hKc5yd := Lib.hid (hKyd.out.call hSyd hb)
          have hSc5yd := Nat.le_trans hSyd hb.size
          have hN := hN.below hb
          clear hb
          try go_simp
          refine hK.out _ _ ?_ (fun hHeld => ?_)
          · exact HS.out _ hKc5yd
          clear hK Kq
          try simp only [N0]
          refine wpAnyH_ready (rs := [7]) (by kernel_rfl) (by simp) ?_
          refine AllReadyH.cons (o := _) rfl (fun Kq hK => ?_) AllReadyH.nil
          go_simp
          refine hK.out _ _ ?_ (fun hHeld => ?_)
          · exact HS.out _ hKc5yd
          clear hK Kq
          try simp only [N0]
          refine wpAnyH_ready (rs := [8]) (by kernel_rfl) (by simp) ?_
          refine AllReadyH.cons (o := _) rfl (fun Kq hK => ?_) AllReadyH.nil
          obtain ⟨i0', i1', g0', g1'⟩ := hN.nb.at_ hi10 hk7
          go_simp
          obtain ⟨s8c5yd, hz_⟩ : ∃ z, z = ((c5yd.setCell ⟨w.heap.size + 2, i * 14 + k * 2, none⟩ (.int .i64 (rowsT ps ws i k).1)).setCell ⟨w.heap.size + 2, i * 14 + k * 2 + 1, none⟩ (.int .i64 (rowsT ps ws i k).2)) := ⟨_, rfl⟩
          rw [← hz_]
          have hN := hN.put hi10 hk7 (rowsT ps ws i k)
          rw [← hz_] at hN
          have hKs8c5yd := Lib.hid ((hKc5yd.out.set (p := ⟨w.heap.size + 2, i * 14 + k * 2, none⟩) (Or.inl (by simp)) (.int .i64 (rowsT ps ws i k).1)).set (p := ⟨w.heap.size + 2, i * 14 + k * 2 + 1, none⟩) (Or.inl (by simp)) (.int .i64 (rowsT ps ws i k).2))
          rw [← hz_] at hKs8c5yd
          have hSs8c5yd := Nat.le_trans hSc5yd (show c5yd.heap.size ≤ s8c5yd.heap.size by rw [hz_]; simp)
          clear hz_
          refine hK.out _ _ ?_ (fun hHeld => ?_)
          · exact HS.out _ hKs8c5yd
          clear hK Kq
          try simp only [N0]
          refine wpAnyH_done (by kernel_rfl) ?_ _
          have hX := Lib.hid (hN.rw_ (pR_put ps ws i k hk1 hk6))
          clear HS HQ hN
          go_wp2
          go_roundw
          case rel => exact ⟨_, rfl, k + 1, by omega, by omega, by go_num, hX⟩
          case measure => simp [intOf]; omega
        · obtain rfl : k = 7 := by omega
          have hX := Lib.hid (hNk.out.rw_ (pR_row ps ws i))
          clear hNk
          go_wp2
          go_roundw
          case rel => exact ⟨i + 1, by omega, by go_num, hX⟩
          case measure => simp [intOf]; omega
    · obtain rfl : i = n := by omega
      have hX : NA w A A' i c n' c' (notesR ps ws) wr := hNr.out.rw_ (by rw [← hl]; exact pR_all ps ws)
      have hii : ¬ ((i : Int) < (i : Int)) := by omega
      have hN3 := Lib.hid hX.nb
      have hO3 := Lib.hid hX.b1
      have hfh := Lib.hid (NB_setRow hX.b1 (notesR ps ws))
      have hBh := Lib.hid (below_setRow hX.bel (g := w.heap.size + 1) (by omega) (NV (notesR ps ws)))
      clear hX hNr
      go_wp2_with (first | refine wpList_load_row rfl 110 _ rfl (w.heap.size + 2) rfl _ _ (0, 0) _ hN3.out Tryd.underlying110 rfl (by rw [NV_size]; kernel_rfl) ?_ | refine wpList_store_row rfl 110 _ _ rfl (w.heap.size + 1) (NV (notesR ps ws)) rfl rfl _ _ hO3.out (by rw [NV_size]; kernel_rfl) (by rw [NV_size]; exact zc_size) (NV_ones _) ?_)
      exact bodyPost_ret (v := .agg (NV (notesR ps ws))) (results_cell_row rfl _ _ (w.heap.size + 1) _ _ (0, 0) _ rfl hfh.out Tryd.underlying110 rfl (by rw [NV_size]; kernel_rfl)) rfl ⟨rfl, hBh.out⟩
end Go.Proofs.YtoakeclpakjbiaaDoor
