/-
  The walk of whether a press has a truth, by the reference.
-/
import Derived.Test.YtoakeclpakjbiaaDoorTk
import Derived.Test.YtoakeclpakjbiaaDoorRHo
import Derived.Test.YtoakeclpakjbiaaDoorAsk
namespace Go.Proofs.YtoakeclpakjbiaaDoor
open Go.RowKit
set_option linter.unusedVariables false
set_option linter.unusedSimpArgs false
theorem wide_any (w : World) : Calls Tryd.prog 104 #[] w fun e w' => e = .returned (.agg #[.int .i64 0, .int .i64 10000000]) ∧ Below w.heap.size w w' := by
  go_enter Tryd.func104, Tryd.ntmps104
  go_wp2
  have hO := heap_alloc_new w (.cells #[.int .i64 0, .int .i64 10000000] 44)
  obtain ⟨e0, e1, -, -⟩ := two_facts hO
  exact bodyPost_ret (v := .agg #[.int .i64 0, .int .i64 10000000]) (by simp [results, Tryd.results104, go_sem, e0, e1]) rfl ⟨rfl, (Below.refl _ _).alloc (Nat.le_refl _) _⟩
theorem ValidF.in_ {ps : List PR} {ws : List WE} (h : ValidF ps ws) (i k : Nat) : 0 ≤ (rowsT ps ws i k).1 ∧ (rowsT ps ws i k).1 ≤ 1000000 ∧ 0 ≤ (rowsT ps ws i k).2 ∧ (rowsT ps ws i k).2 ≤ 1000000 := by
  have := h.inr ws.length i k
  rwa [List.take_length] at this
theorem notesR_bd {ps : List PR} {ws : List WE} (h : ValidF ps ws) (i q : Nat) : Bd 10000000 (notesR ps ws i q) := by
  unfold notesR
  have := h.in_ i q
  unfold Bd
  split
  · omega
  · simp
theorem rows_zero {ps : List PR} {ws : List WE} (h : ValidF ps ws) (i : Nat) : ∀ m, rowsT ps (ws.take m) i 0 = (0, 1000000)
  | 0 => by
    show base ps i 0 = _
    unfold base
    rw [if_neg (by omega)]
  | m + 1 => by
    cases hx : ws[m]? with
    | none =>
      have hl := List.getElem?_eq_none_iff.1 hx
      have ih := rows_zero h i m
      rw [List.take_of_length_le (by omega)]
      rw [List.take_of_length_le (by omega)] at ih
      exact ih
    | some x =>
      rw [rowsT_take hx]
      unfold note1
      rw [if_neg (fun hh => by have := h.w_ m x hx; omega)]
      exact rows_zero h i m
section
variable {t : Nat → Option Nat} {R R' : Nat → Nat → Sp} {at_ : Int} {inn rst : Sp} {n : Nat}
theorem st6_congr (f f' : Nat → Sp) (i : Nat) (h : ∀ k, 1 ≤ k → k ≤ 6 → R i k = R' i k) (hf : ∀ j, j < i → f j = f' j) :
    st0 t R at_ inn f i = st0 t R' at_ inn f' i ∧ st2 t R at_ inn rst f i = st2 t R' at_ inn rst f' i ∧ st3 t R at_ inn rst f i = st3 t R' at_ inn rst f' i ∧ st4 t R at_ inn rst f i = st4 t R' at_ inn rst f' i ∧ st5 t R at_ inn rst f i = st5 t R' at_ inn rst f' i ∧ st6 t R at_ inn rst f i = st6 t R' at_ inn rst f' i := by
  have e1 : st1 t R f i = st1 t R' f' i := by unfold st1; rw [feed_congr (U := f) (U' := f') i i (fun j hj _ => hf j hj), h 1 (by omega) (by omega)]
  have e0 : st0 t R at_ inn f i = st0 t R' at_ inn f' i := by unfold st0; rw [e1]
  have e2 : st2 t R at_ inn rst f i = st2 t R' at_ inn rst f' i := by unfold st2; rw [e0, h 2 (by omega) (by omega)]
  have e3 : st3 t R at_ inn rst f i = st3 t R' at_ inn rst f' i := by unfold st3; rw [e2, h 3 (by omega) (by omega)]
  have e4 : st4 t R at_ inn rst f i = st4 t R' at_ inn rst f' i := by unfold st4; rw [e3, h 4 (by omega) (by omega)]
  have e5 : st5 t R at_ inn rst f i = st5 t R' at_ inn rst f' i := by unfold st5; rw [e4, h 5 (by omega) (by omega)]
  exact ⟨e0, e2, e3, e4, e5, by unfold st6; rw [e5, h 6 (by omega) (by omega)]⟩
theorem upR_congr (h : ∀ i, i < n → ∀ k, 1 ≤ k → k ≤ 6 → R i k = R' i k) : ∀ i, i < n → upR t R at_ inn rst i = upR t R' at_ inn rst i := by
  intro i
  induction i using Nat.strongRecOn with
  | _ i ih =>
    intro hi
    rw [upR_eq, upR_eq]
    exact (st6_congr _ _ i (h i hi) (fun j hj => ih j hj (by omega))).2.2.2.2.2
theorem okI_congr (h : ∀ i, i < n → ∀ k, 1 ≤ k → k ≤ 6 → R i k = R' i k) {i : Nat} (hi : i < n) : okI t R at_ inn rst (upR t R at_ inn rst) i ↔ okI t R' at_ inn rst (upR t R' at_ inn rst) i := by
  obtain ⟨e0, e2, e3, e4, e5, e6⟩ := st6_congr (t := t) (at_ := at_) (inn := inn) (rst := rst) (upR t R at_ inn rst) (upR t R' at_ inn rst) i (h i hi) (fun j hj => upR_congr h j (by omega))
  unfold okI
  rw [e0, e2, e3, e4, e5, e6, h i hi 1 (by omega) (by omega), h i hi 2 (by omega) (by omega), h i hi 3 (by omega) (by omega), h i hi 4 (by omega) (by omega), h i hi 5 (by omega) (by omega)]
theorem holdsR_congr (h : ∀ i, i < n → ∀ k, 1 ≤ k → k ≤ 6 → R i k = R' i k) : holdsR t R at_ inn rst n = holdsR t R' at_ inn rst n := by
  unfold holdsR
  rw [Bool.eq_iff_iff, decide_eq_true_iff, decide_eq_true_iff]
  exact ⟨fun hh i hi => (okI_congr h hi).1 (hh i hi), fun hh i hi => (okI_congr h hi).2 (hh i hi)⟩
end
theorem notes_rows (ps : List PR) (ws : List WE) : ∀ i, i < ps.length → ∀ k, 1 ≤ k → k ≤ 6 → notesR ps ws i k = rowsT ps ws i k := by
  intro i hi k h1 h6
  unfold notesR
  rw [if_pos ⟨hi, h1, h6⟩]
theorem holdsB_P (t : Nat → Option Nat) (R : Nat → Nat → Sp) (n : Nat) : holdsB R (upP t R) n = holdsP t R n := by
  unfold holdsB holdsP
  rw [Bool.eq_iff_iff, decide_eq_true_iff, decide_eq_true_iff]
  have hN : ∀ s : Sp, noneB s = false ↔ Ne s := by intro s; unfold noneB Ne; rw [decide_eq_false_iff_not]; omega
  have hB : ∀ f : Nat → Sp, rowBad f = false ↔ ∀ k, k < 7 → Ne (f k) := by
    intro f
    rw [← Bool.not_eq_true, rowBad_iff]
    constructor
    · intro h k hk
      exact (hN _).1 (by cases hb : noneB (f k); · rfl
                         · exact absurd ⟨k, hk, hb⟩ h)
    · rintro h ⟨k, hk, hb⟩
      rw [(hN _).2 (h k hk)] at hb
      cases hb
  constructor
  · intro h i hi
    exact ⟨(hB _).1 (h i hi).2, (hN _).1 (h i hi).1⟩
  · intro h i hi
    exact ⟨(hN _).2 (h i hi).2, (hB _).2 (h i hi).1⟩
/-- The reference's answer is the program's. -/
theorem has_same {ps : List PR} {ws : List WE} (h : ValidF ps ws) (inn rst : Sp) : holdsR (toT ps) (notesR ps ws) (-1) inn rst ps.length = hasT ps ws := by
  rw [holdsR_congr (notes_rows ps ws)]
  unfold hasT
  rw [holdsB_P]
  refine holds_same (by decide) (fun i hi => ?_)
  have := rows_zero h i ws.length
  rw [List.take_length] at this
  rw [this]
  simp [Ne]
set_option maxRecDepth 100000 in
set_option maxHeartbeats 4000000 in
theorem RTrue_any (A A' : Option Addr) (n c n' c' : Nat) (ps : List PR) (ws : List WE) (w : World) (hR : Reads w w.heap.size 4 A n (pgs ps)) (hW : Reads w w.heap.size 5 A' n' (wgs ws)) (hv : validP ps ws = true) :
    Calls Tryd.prog 54 #[.agg #[.slice A n c, .slice A' n' c']] w fun e w' => e = .returned (.bool (hasT ps ws)) ∧ Below w.heap.size w w' := by
  have hVF := Lib.hid (valid_facts hv)
  have hl : ps.length = n := hR.pg_len
  have hsame := has_same hVF.out (0, 10000000) (0, 10000000)
  rw [hl] at hsame
  rw [← hsame]
  have hRb : Hid (∀ i, i < n → ∀ q, q < 7 → Bd 10000000 (notesR ps ws i q)) := fun i _ q _ => notesR_bd hVF.out i q
  have HRd := Lib.hid (fun z (hz : Below w.heap.size w z) => (hR.below hz).more hz.size)
  have HWd := Lib.hid (fun z (hz : Below w.heap.size w z) => (hW.below hz).more hz.size)
  have hv := Lib.hid hv
  have hO := heap_alloc_new w (.cells #[.slice A n c, .slice A' n' c'] 25)
  have hB : Below w.heap.size w (w.alloc (.cells #[.slice A n c, .slice A' n' c'] 25)) := (Below.refl _ _).alloc (Nat.le_refl _) _
  clear hR hW hsame hVF
  go_enter Tryd.func54, Tryd.ntmps54
  go_wp2_with fail
  generalize (w.alloc (.cells #[.slice A n c, .slice A' n' c'] 25)) = wq at *
  obtain ⟨p0, p1, -, -⟩ := two_facts hO
  have hbz : w.heap.size < wq.heap.size := (Array.getElem?_eq_some_iff.1 hO).1
  have HQ := Lib.hid (fun w' (hz : Hid (Kp wq.heap.size [] wq w')) => (⟨(hz.out.cell (by simp only; omega) (by simp; try omega)).trans p0, (hz.out.cell (by simp only; omega) (by simp; try omega)).trans p1⟩ : w'.cell? ⟨w.heap.size, 0, none⟩ = some (.slice A n c) ∧ w'.cell? ⟨w.heap.size, 1, none⟩ = some (.slice A' n' c')))
  obtain ⟨S, hSd⟩ : ∃ S : World → Prop, S = fun w' => (w'.cell? ⟨w.heap.size, 0, none⟩ = some (.slice A n c) ∧ w'.cell? ⟨w.heap.size, 1, none⟩ = some (.slice A' n' c')) ∧ Hid (Kp wq.heap.size [] wq w') := ⟨_, rfl⟩
  have HS := Lib.hid (fun w' (hz : Hid (Kp wq.heap.size [] wq w')) => (by rw [hSd]; exact ⟨HQ.out w' hz, hz⟩ : S w'))
  clear p0 p1 hO
  refine wp_region_held_drew (S := S) (by kernel_rfl) ?_ (fun hHeld => ?_)
  · exact HS.out _ (Lib.hid (Kp.refl _ _ _).drew)
  have hKyd : Hid (Kp wq.heap.size [] wq wq.drew) := Lib.hid (Kp.refl _ _ _).drew
  have hSyd : wq.heap.size ≤ wq.drew.heap.size := Nat.le_refl _
  have hB := hB.drew
  generalize wq.drew = yd at *
  refine tY (v := ?_) 0 3 ?_ ?_
  rotate_left
  · intro w hSw; rw [hSd] at hSw; obtain ⟨⟨q0, q1⟩, -⟩ := hSw; go_simp; (try with_reducible rfl)
  try simp only [N0]
  refine tY (v := ?_) 1 4 ?_ ?_
  rotate_left
  · intro w hSw; rw [hSd] at hSw; obtain ⟨⟨q0, q1⟩, -⟩ := hSw; go_simp; (try with_reducible rfl)
  try simp only [N0]
  refine wpAnyH_ready (rs := [2]) (by kernel_rfl) (by simp) ?_
  refine AllReadyH.cons (o := _) rfl (fun Kq hK => ?_) AllReadyH.nil
  go_simp
  refine (noted_any A A' n c n' c' ps ws yd (HRd.out yd hB) (HWd.out yd hB) hv.out).mono ?_
  rintro e c2yd ⟨rfl, hb⟩
  have hKc2yd := Lib.hid (hKyd.out.call hSyd hb)
  have hSc2yd := Nat.le_trans hSyd hb.size
  have hB := hB.trans (hb.mono hB.size)
  clear hb
  try go_simp
  refine hK.out _ _ ?_ (fun hHeld => ?_)
  · exact HS.out _ hKc2yd
  clear hK Kq
  try simp only [N0]
  refine wpAnyH_ready (rs := [3]) (by kernel_rfl) (by simp) ?_
  refine AllReadyH.cons (o := _) rfl (fun Kq hK => ?_) AllReadyH.nil
  go_simp
  refine (wide_any c2yd).mono ?_
  rintro e c3c2yd ⟨rfl, hb⟩
  have hKc3c2yd := Lib.hid (hKc2yd.out.call hSc2yd hb)
  have hSc3c2yd := Nat.le_trans hSc2yd hb.size
  have hB := hB.trans (hb.mono hB.size)
  clear hb
  try go_simp
  refine hK.out _ _ ?_ (fun hHeld => ?_)
  · exact HS.out _ hKc3c2yd
  clear hK Kq
  try simp only [N0]
  refine wpAnyH_ready (rs := [4]) (by kernel_rfl) (by simp) ?_
  refine AllReadyH.cons (o := _) rfl (fun Kq hK => ?_) AllReadyH.nil
  go_simp
  refine (wide_any c3c2yd).mono ?_
  rintro e c4c3c2yd ⟨rfl, hb⟩
  have hKc4c3c2yd := Lib.hid (hKc3c2yd.out.call hSc3c2yd hb)
  have hSc4c3c2yd := Nat.le_trans hSc3c2yd hb.size
  have hB := hB.trans (hb.mono hB.size)
  clear hb
  try go_simp
  refine hK.out _ _ ?_ (fun hHeld => ?_)
  · exact HS.out _ hKc4c3c2yd
  clear hK Kq
  try simp only [N0]
  refine wpAnyH_ready (rs := [5]) (by kernel_rfl) (by simp) ?_
  refine AllReadyH.cons (o := _) rfl (fun Kq hK => ?_) AllReadyH.nil
  go_simp
  refine (rholds_any A A' n c n' c' ps ws (notesR ps ws) (-1) (0, 10000000) (0, 10000000) c4c3c2yd (HRd.out c4c3c2yd hB) hv.out hRb.out (by simp [Bd]) (by simp [Bd])).mono ?_
  rintro e c5c4c3c2yd ⟨rfl, hb⟩
  have hKc5c4c3c2yd := Lib.hid (hKc4c3c2yd.out.call hSc4c3c2yd hb)
  have hSc5c4c3c2yd := Nat.le_trans hSc4c3c2yd hb.size
  have hB := hB.trans (hb.mono hB.size)
  clear hb
  try go_simp
  refine hK.out _ _ ?_ (fun hHeld => ?_)
  · exact HS.out _ hKc5c4c3c2yd
  clear hK Kq
  try simp only [N0]
  refine wpAnyH_ready (rs := [6]) (by kernel_rfl) (by simp) ?_
  refine AllReadyH.cons (o := _) rfl (fun Kq hK => ?_) AllReadyH.nil
  go_simp
  refine hK.out _ _ ?_ (fun hHeld => ?_)
  · exact HS.out _ hKc5c4c3c2yd
  clear hK Kq
  try simp only [N0]
  refine wpAnyH_done (by kernel_rfl) ?_ _
  clear HS HQ hSd
  go_wp2
  go_ret
  exact ⟨ret_bool rfl, hB⟩
end Go.Proofs.YtoakeclpakjbiaaDoor
