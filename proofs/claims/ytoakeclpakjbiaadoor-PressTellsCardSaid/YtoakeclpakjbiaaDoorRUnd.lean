/-
  The walk of whose parings come to a pressing, by the reference.
-/
import Derived.Test.YtoakeclpakjbiaaDoorTk
import Derived.Test.YtoakeclpakjbiaaDoorRAsk
namespace Go.Proofs.YtoakeclpakjbiaaDoor
open Go.RowKit
set_option linter.unusedVariables false
set_option linter.unusedSimpArgs false

/-- Whether parings get from place i to place k. -/
def ldF (t : Nat → Option Nat) (k : Nat) : Nat → Nat → Bool
  | 0, _ => false
  | f + 1, i => match t i with
    | none => false
    | some j => decide (j = k) || ldF t k f j
def ldN (n : Nat) (t : Nat → Option Nat) (k i : Nat) : Bool := ldF t k (n - i) i
section
variable {n : Nat} {t : Nat → Option Nat} {k : Nat}
theorem ldF_more (hF : Fwd n t) : ∀ f f' i, i < n → n - i ≤ f → n - i ≤ f' → ldF t k f i = ldF t k f' i
  | 0, _, i, h, h1, _ => by omega
  | _, 0, i, h, _, h2 => by omega
  | f + 1, f' + 1, i, h, h1, h2 => by
    simp only [ldF]
    cases ht : t i with
    | none => rfl
    | some j =>
      obtain ⟨a, b⟩ := hF i j h ht
      simp only
      rw [ldF_more hF f f' j b (by omega) (by omega)]
theorem ldN_none {i : Nat} (hi : i < n) (ht : t i = none) : ldN n t k i = false := by
  unfold ldN
  obtain ⟨f, hf⟩ : ∃ f, n - i = f + 1 := ⟨n - i - 1, by omega⟩
  rw [hf]
  simp only [ldF, ht]
theorem ldN_some (hF : Fwd n t) {i j : Nat} (hi : i < n) (ht : t i = some j) : ldN n t k i = (decide (j = k) || ldN n t k j) := by
  obtain ⟨a, b⟩ := hF i j hi ht
  unfold ldN
  obtain ⟨f, hf⟩ : ∃ f, n - i = f + 1 := ⟨n - i - 1, by omega⟩
  rw [hf]
  simp only [ldF, ht]
  rw [ldF_more hF f (n - j) j b (by omega) (by omega)]
theorem ldN_past (hF : Fwd n t) : ∀ d i, n - i ≤ d → i < n → k ≤ i → ldN n t k i = false
  | 0, i, h, hi, _ => by omega
  | d + 1, i, h, hi, hk => by
    cases ht : t i with
    | none => exact ldN_none hi ht
    | some j =>
      obtain ⟨a, b⟩ := hF i j hi ht
      rw [ldN_some hF hi ht, ldN_past hF d j (by omega) b (by omega)]
      simp; omega
end
def idAt (ps : List PR) (i : Nat) : Int := match ps[i]? with | some x => x.1 | none => 0
/-- The numbers of those ahead of place m whose parings get to place k. -/
def undL (ps : List PR) (k m : Nat) : List Int := ((List.range m).filter fun i => ldN ps.length (toT ps) k i).map (idAt ps)
theorem undL_len (ps : List PR) (k m : Nat) : (undL ps k m).length ≤ m := by
  unfold undL
  rw [List.length_map]
  exact Nat.le_trans (List.length_filter_le _ _) (by simp)
theorem undL_yes (ps : List PR) {k m : Nat} (h : ldN ps.length (toT ps) k m = true) : undL ps k (m + 1) = undL ps k m ++ [idAt ps m] := by
  unfold undL
  simp [List.range_succ, List.filter_append, h]
theorem undL_no (ps : List PR) {k m : Nat} (h : ldN ps.length (toT ps) k m = false) : undL ps k (m + 1) = undL ps k m := by
  unfold undL
  simp [List.range_succ, List.filter_append, h]
theorem undL_past {ps : List PR} {ws : List WE} (h : ValidF ps ws) {k : Nat} : ∀ d, k + d ≤ ps.length → undL ps k (k + d) = undL ps k k
  | 0, _ => rfl
  | d + 1, hd => by
    rw [← undL_past h d (by omega)]
    exact undL_no ps (ldN_past h.fwd ps.length (k + d) (by omega) (by omega) (by omega))
def undE (ps : List PR) (ws : List WE) (id : Int) : Int := if validP ps ws then if idxP ps id < 0 then 6 else 0 else 20
def undS (ps : List PR) (ws : List WE) (id : Int) : List Int := if validP ps ws then if idxP ps id < 0 then [] else undL ps (idxP ps id).toNat ps.length else []
/-- A list of numbers of the call's own, and an error, are returned. -/
def UndR (base : Nat) (l : List Int) (er : Int) (e : Ending) (w' : World) : Prop := ∃ A m c, e = .returned (.tuple #[.slice A m c, .int .i64 er]) ∧ w'.ownsRow base 3 1 (.slice A m c) m (ints l)

set_option maxRecDepth 100000 in
set_option maxHeartbeats 4000000 in
theorem leads_any (A A' : Option Addr) (n c n' c' : Nat) (ps : List PR) (ws : List WE) (i k : Nat) (w : World) (hnm : n ≤ maxLen) (hR : Reads w w.heap.size 4 A n (pgs ps)) (hv : validP ps ws = true) (hin : i < n) :
    Calls Tryd.prog 66 #[.agg #[.slice A n c, .slice A' n' c'], .int .i64 i, .int .i64 k] w fun e w' => e = .returned (.bool (ldN n (toT ps) k i)) ∧ Below w.heap.size w w' := by
  have hVF := valid_facts hv
  have hl : ps.length = n := hR.pg_len
  have hFw := hVF.fwd
  rw [hl] at hFw
  have hVh := Lib.hid hVF
  have hFh := Lib.hid hFw
  have HRd := Lib.hid (fun z (hz : Below w.heap.size w z) => (hR.below hz).more hz.size)
  have hO0 := Lib.hid (heap_alloc_new w (.cells #[.slice A n c, .slice A' n' c'] 25))
  have hB0 : Hid (Below w.heap.size w (w.alloc (.cells #[.slice A n c, .slice A' n' c'] 25))) := (Below.refl _ _).alloc (Nat.le_refl _) _
  obtain ⟨bp, op, I0, D0, P0, T0, rfl, -⟩ := (HRd.out _ hB0.out).pg hin
  clear hR hv hVF hFw
  go_enter Tryd.func66, Tryd.ntmps66
  go_wp2_with fail
  generalize (w.alloc (.cells #[.slice (some ⟨bp, op, none⟩) n c, .slice A' n' c'] 25)) = wb at *
  go_loopw [1] (fun v wq => ∃ wl, wl = wq ∧ ∃ j : Nat, j < n ∧ v = .int .i64 j ∧ Hid (ldN n (toT ps) k j = ldN n (toT ps) k i) ∧ Hid (wl.heap[w.heap.size]? = some (.cells #[.slice (some ⟨bp, op, none⟩) n c, .slice A' n' c'] 25 (0, 0))) ∧ Hid (Below w.heap.size w wl)) (fun v _ => n - (intOf v).toNat)
  case atStart => exact ⟨_, rfl, i, hin, rfl, rfl, hO0, hB0⟩
  case round =>
    clear hO0 hB0
    obtain ⟨wq, rfl, j, hjn, rfl, hjl, hOj, hBj⟩ := hrel
    have hji : (j : Int) < (n : Int) := by omega
    have j0 : (0 : Int) ≤ (j : Int) := by omega
    obtain ⟨bp2, op2, I, D, P, T, hA2, hbp, hx, -, -, -, y3⟩ := (HRd.out _ hBj.out).pg hjn
    simp only [Option.some.injEq, Addr.mk.injEq, and_true] at hA2
    obtain ⟨rfl, rfl⟩ := hA2
    have htv := toV_idx hVh.out hx
    have htv2 := toV_toT hVh.out hx
    simp only at htv htv2
    obtain ⟨p0, p1, -, -⟩ := two_facts hOj.out
    by_cases hT : T = 0
    · subst hT
      have ht : toT ps j = none := by
        simp only [if_true] at htv2
        unfold toV at htv2
        cases h : toT ps j with
        | none => rfl
        | some q => rw [h] at htv2; simp only at htv2; omega
      have hres : Hid (ldN n (toT ps) k i = false) := by show _ = _; rw [← hjl.out]; exact ldN_none hjn ht
      clear htv htv2 ht hx
      go_wp2
      go_ret
      exact ⟨ret_bool hres.out.symm, hBj.out⟩
    · have hTb : (T == 0) = false := by simpa using hT
      obtain ⟨q, hq, hqi⟩ : ∃ q : Nat, toT ps j = some q ∧ idxP ps T = (q : Int) := by
        unfold toT
        rw [hx]
        simp only [hT, if_false]
        have := hVh.out.to_ j _ hx
        simp only [hT, false_or] at this
        exact ⟨_, rfl, by omega⟩
      obtain ⟨hjq, hqn⟩ := hFh.out j q hjn hq
      have hst := Lib.hid (ldN_some (k := k) hFh.out hjn hq)
      have hqi := Lib.hid hqi
      have hbz : w.heap.size < wq.heap.size := (Array.getElem?_eq_some_iff.1 hOj.out).1
      have hO := hOj.out
      have hBq := hBj.out
      clear htv htv2 hx hq hOj hBj
      go_wp2_with fail
      have HQ := Lib.hid (fun w' (hz : Hid (Kp wq.heap.size [] wq w')) => (⟨(hz.out.cell (by simp only; omega) (by simp; try omega)).trans p0, (hz.out.cell (by simp only; omega) (by simp; try omega)).trans p1, (hz.out.cell (by simp only; omega) (by simp; try omega)).trans y3⟩ : w'.cell? ⟨w.heap.size, 0, none⟩ = some (.slice (some ⟨bp, op, none⟩) n c) ∧ w'.cell? ⟨w.heap.size, 1, none⟩ = some (.slice A' n' c') ∧ w'.cell? ⟨bp, op + j * 4 + 3, none⟩ = some (.int .i64 T)))
      obtain ⟨S, hSd⟩ : ∃ S : World → Prop, S = fun w' => (w'.cell? ⟨w.heap.size, 0, none⟩ = some (.slice (some ⟨bp, op, none⟩) n c) ∧ w'.cell? ⟨w.heap.size, 1, none⟩ = some (.slice A' n' c') ∧ w'.cell? ⟨bp, op + j * 4 + 3, none⟩ = some (.int .i64 T)) ∧ Hid (Kp wq.heap.size [] wq w') := ⟨_, rfl⟩
      have HS := Lib.hid (fun w' (hz : Hid (Kp wq.heap.size [] wq w')) => (by rw [hSd]; exact ⟨HQ.out w' hz, hz⟩ : S w'))
      clear p0 p1 y3
      refine wp_region_held_drew (S := S) (by kernel_rfl) ?_ (fun hHeld => ?_)
      · exact HS.out _ (Lib.hid (Kp.refl _ _ _).drew)
      have hKyd : Hid (Kp wq.heap.size [] wq wq.drew) := Lib.hid (Kp.refl _ _ _).drew
      have hSyd : wq.heap.size ≤ wq.drew.heap.size := Nat.le_refl _
      have hBq := hBq.drew
      have hO := keepO (Below.refl wq.heap.size wq).drew hO
      generalize wq.drew = yd at *
      refine tY (v := ?_) 0 14 ?_ ?_
      rotate_left
      · intro w hSw; rw [hSd] at hSw; obtain ⟨⟨q0, q1, q2⟩, -⟩ := hSw; go_simp; (try with_reducible rfl)
      try simp only [N0]
      refine tY (v := ?_) 1 15 ?_ ?_
      rotate_left
      · intro w hSw; rw [hSd] at hSw; obtain ⟨⟨q0, q1, q2⟩, -⟩ := hSw; go_simp; (try with_reducible rfl)
      try simp only [N0]
      refine tY (v := ?_) 2 16 ?_ ?_
      rotate_left
      · intro w hSw; rw [hSd] at hSw; obtain ⟨⟨q0, q1, q2⟩, -⟩ := hSw; go_simp; (try with_reducible rfl)
      try simp only [N0]
      refine tY (v := ?_) 3 17 ?_ ?_
      rotate_left
      · intro w hSw; rw [hSd] at hSw; obtain ⟨⟨q0, q1, q2⟩, -⟩ := hSw; go_simp; (try with_reducible rfl)
      try simp only [N0]
      refine tY (v := ?_) 4 18 ?_ ?_
      rotate_left
      · intro w hSw; rw [hSd] at hSw; obtain ⟨⟨q0, q1, q2⟩, -⟩ := hSw; go_simp; (try with_reducible rfl)
      try simp only [N0]
      refine tY (v := ?_) 5 19 ?_ ?_
      rotate_left
      · intro w hSw; rw [hSd] at hSw; obtain ⟨⟨q0, q1, q2⟩, -⟩ := hSw; go_simp; (try with_reducible rfl)
      try simp only [N0]
      refine tY (v := ?_) 6 20 ?_ ?_
      rotate_left
      · intro w hSw; rw [hSd] at hSw; obtain ⟨⟨q0, q1, q2⟩, -⟩ := hSw; go_simp; (try with_reducible rfl)
      try simp only [N0]
      refine wpAnyH_ready (rs := [7]) (by kernel_rfl) (by simp) ?_
      refine AllReadyH.cons (o := _) rfl (fun Kq hK => ?_) AllReadyH.nil
      go_simp
      refine (Pressing_any (some ⟨bp, op, none⟩) A' n c n' c' ps T yd hnm (HRd.out yd hBq)).mono ?_
      rintro e c7yd ⟨rfl, hb⟩
      have hKc7yd := Lib.hid (hKyd.out.call hSyd hb)
      have hSc7yd := Nat.le_trans hSyd hb.size
      have hBq := hBq.trans (hb.mono hBq.size)
      have hO := keepO hb hO
      rw [hqi.out]
      clear hb
      try go_simp
      refine hK.out _ _ ?_ (fun hHeld => ?_)
      · exact HS.out _ hKc7yd
      clear hK Kq
      try simp only [N0]
      refine wpAnyH_ready (rs := [8]) (by kernel_rfl) (by simp) ?_
      refine AllReadyH.cons (o := _) rfl (fun Kq hK => ?_) AllReadyH.nil
      go_simp
      refine hK.out _ _ ?_ (fun hHeld => ?_)
      · exact HS.out _ hKc7yd
      clear hK Kq
      try simp only [N0]
      refine wpAnyH_done (by kernel_rfl) ?_ _
      clear HS HQ
      have hOh := Lib.hid hO
      have hBh := Lib.hid hBq
      clear hO hBq
      by_cases hqk : q = k
      · subst hqk
        go_wp2
        go_ret
        exact ⟨ret_bool (by rw [← hjl.out, hst.out]; simp), hBh.out⟩
      · have hqb : ((q : Int) == (k : Int)) = false := by simp; omega
        go_wp2
        go_roundw
        case rel => exact ⟨_, rfl, q, hqn, by go_num, by show _ = _; rw [← hjl.out, hst.out]; simp [hqk], hOh, hBh⟩
        case measure => simp [intOf] <;> omega

set_option maxRecDepth 100000 in
set_option maxHeartbeats 4000000 in
theorem rUnder_any (A A' : Option Addr) (n c n' c' : Nat) (ps : List PR) (ws : List WE) (id : Int) (w : World) (hnm : n ≤ maxLen) (hnm' : n' ≤ maxLen) (hR : Reads w w.heap.size 4 A n (pgs ps)) (hW : Reads w w.heap.size 5 A' n' (wgs ws)) :
    Calls Tryd.prog 24 #[.agg #[.slice A n c, .slice A' n' c'], .int .i64 id] w fun e w' => UndR w.heap.size (undS ps ws id) (undE ps ws id) e w' ∧ Below w.heap.size w w' := by
  have hl : ps.length = n := hR.pg_len
  have HRd := Lib.hid (fun z (hz : Below w.heap.size w z) => (hR.below hz).more hz.size)
  have HWd := Lib.hid (fun z (hz : Below w.heap.size w z) => (hW.below hz).more hz.size)
  have hO := Lib.hid (heap_alloc_new w (.cells #[.slice A n c, .slice A' n' c'] 25))
  have hB0 : Hid (Below w.heap.size w (w.alloc (.cells #[.slice A n c, .slice A' n' c'] 25))) := (Below.refl _ _).alloc (Nat.le_refl _) _
  obtain ⟨i0, hi, hz0, hz1, hz2⟩ := info_parts info_int
  clear hR hW
  go_enter Tryd.func24, Tryd.ntmps24
  go_wp2_with fail
  refine (Press_any A A' n c n' c' ps ws _ hnm hnm' (HRd.out _ hB0.out) (HWd.out _ hB0.out)).mono ?_
  rintro e z1 ⟨rfl, hb1⟩
  have hO1 := Lib.hid (keepO hb1 hO.out)
  have hB1 := Lib.hid (below_via hB0.out hB0.out.size hb1)
  clear hb1
  cases hv : validP ps ws
  · have hs : Hid (undS ps ws id = [] ∧ undE ps ws id = 20) := by show _ ∧ _; unfold undS undE; rw [hv]; exact ⟨rfl, rfl⟩
    clear hv hl
    go_wp2
    exact bodyPost_ret (v := .tuple #[.slice none 0 0, .int .i64 20]) (by simp [results, Tryd.results24, go_sem]) rfl ⟨⟨none, 0, 0, by rw [hs.out.2], by rw [hs.out.1]; exact World.ownsRow_nil _ _ _ _⟩, hB1.out⟩
  · have hvh := Lib.hid hv
    obtain ⟨p0, p1, -, -⟩ := two_facts hO1.out
    go_wp2_with fail
    refine (Pressing_any A A' n c n' c' ps id z1 hnm (HRd.out _ hB1.out)).mono ?_
    rintro e zq ⟨rfl, hb2⟩
    have hO2 := Lib.hid (keepO hb2 hO1.out)
    have hB2 := Lib.hid (below_via hB1.out hB1.out.size hb2)
    clear hb2 p0 p1
    by_cases hj : idxP ps id < 0
    · have hs : Hid (undS ps ws id = [] ∧ undE ps ws id = 6) := by show _ ∧ _; unfold undS undE; rw [hv, if_pos rfl, if_pos rfl, if_pos hj, if_pos hj]; exact ⟨rfl, rfl⟩
      generalize idxP ps id = jx at *
      clear hv hl
      go_wp2
      exact bodyPost_ret (v := .tuple #[.slice none 0 0, .int .i64 6]) (by simp [results, Tryd.results24, go_sem]) rfl ⟨⟨none, 0, 0, by rw [hs.out.2], by rw [hs.out.1]; exact World.ownsRow_nil _ _ _ _⟩, hB2.out⟩
    · obtain ⟨at_, hat⟩ : ∃ at_ : Nat, idxP ps id = at_ := ⟨(idxP ps id).toNat, by omega⟩
      have hs : Hid (undS ps ws id = undL ps at_ n ∧ undE ps ws id = 0) := by
        show _ ∧ _; unfold undS undE; rw [hv, if_pos rfl, if_pos rfl, if_neg hj, if_neg hj, hat, hl]; exact ⟨rfl, rfl⟩
      have hn : n ≤ 10 := by have := (valid_facts hv).n10; omega
      have hlh := Lib.hid hl
      rw [hat]
      clear hj hat hv hl
      go_wp2_with fail
      go_loopw [7, 8] (fun v u wq => ∃ wl, wl = wq ∧ ∃ i m : Nat, i ≤ n ∧ m ≤ i ∧ u = .int .i64 i ∧ Hid (wl.ownsRow w.heap.size 3 1 v m (ints (undL ps at_ i))) ∧ Hid (wl.heap[w.heap.size]? = some (.cells #[.slice A n c, .slice A' n' c'] 25 (0, 0))) ∧ Hid (Below w.heap.size w wl)) (fun _ u _ => n - (intOf u).toNat)
      case atStart => exact ⟨_, rfl, 0, 0, by omega, by omega, rfl, World.ownsRow_nil _ _ _ _, hO2, hB2⟩
      case round =>
        clear hO2 hB2 hO1 hB1 hO hB0
        obtain ⟨wq, rfl, i, m, hin', hmi, rfl, HOw, hOi, hBi⟩ := hrel
        obtain ⟨Ao, co, rfl⟩ := ownR_val HOw.out
        obtain ⟨p0, p1, -, -⟩ := two_facts hOi.out
        by_cases hin : i < n
        · have hii : (i : Int) < (n : Int) := by omega
          have ii0 : (0 : Int) ≤ (i : Int) := by omega
          go_wp2_with fail
          refine (leads_any A A' n c n' c' ps ws i at_ wq hnm (HRd.out _ hBi.out) hvh.out hin).mono ?_
          rintro e z2 ⟨rfl, hb⟩
          have hO2 := keepO hb hOi.out
          have hB2 := below_via hBi.out hBi.out.size hb
          have how2 := ownR_below HOw.out hb
          clear hb p0 p1 hOi hBi HOw
          cases hld : ldN n (toT ps) at_ i
          · have hno : Hid (undL ps at_ (i + 1) = undL ps at_ i) := undL_no ps (by rw [hlh.out]; exact hld)
            have HO2 := Lib.hid hO2
            have HB2 := Lib.hid hB2
            have HOw := Lib.hid how2
            clear hO2 hB2 how2 hld
            go_wp2
            go_roundw
            case rel => exact ⟨_, rfl, i + 1, m, by omega, by omega, by go_num, by rw [hno.out]; exact HOw, HO2, HB2⟩
            case measure => simp [intOf] <;> omega
          · have hyes : Hid (undL ps at_ (i + 1) = undL ps at_ i ++ [idAt ps i]) := undL_yes ps (by rw [hlh.out]; exact hld)
            obtain ⟨bp, op, I, D, P, T, rfl, hbp, hx, y0, -, -, -⟩ := (HRd.out _ hB2).pg hin
            have hI : Hid (idAt ps i = I) := by show _ = _; unfold idAt; rw [hx]
            obtain ⟨p0, p1, -, -⟩ := two_facts hO2
            have hsz : w.heap.size < z2.heap.size := (Array.getElem?_eq_some_iff.1 hO2).1
            have hL := heap_alloc_new z2 (.cells #[.int .i64 I] 3)
            have hbA := (Below.refl z2.heap.size z2).alloc (Nat.le_refl _) (.cells #[.int .i64 I] 3)
            have HO3 := Lib.hid (keepO hbA hO2)
            have HB3 := Lib.hid (below_via hB2 hB2.size hbA)
            have HOw := Lib.hid (ownR_below how2 hbA)
            have HL := Lib.hid (rd_one (t := 3) hL)
            clear hO2 hB2 how2 hld hx hbA hL
            go_wp2_with (first | (at_builtin; refine wpList_app _ rfl _ _ 51 rfl w.heap.size 3 i0 _ 1 8 Tryd.underlying51 hi hz0 hz1 hz2 rfl (by decide) (.slice Ao m co) m (ints (undL ps at_ i)) rfl HOw.out _ (some ⟨z2.heap.size, 0, none⟩) 1 1 (ints [I]) rfl HL.out (ints_one _) ?c3 ?c4 ?c5 ?_))
            case c3 => unfold maxLen; omega
            case c4 => omega
            case c5 => simp; omega
            intro v' z4 hown hgr hatv
            have hO4 := Lib.hid ((hgr.block w.heap.size (by simp; omega) (fun e => ownR_ne HOw.out HO3.out (by decide) _ e.symm rfl)).trans HO3.out)
            have hB4 := Lib.hid (HB3.out.grown hgr HB3.out.size (fun q hq => (ownR_lt HOw.out hq).1))
            have hxs : Hid (z4.ownsRow w.heap.size 3 1 v' (m + 1) (ints (undL ps at_ (i + 1)))) := by
              show World.ownsRow _ _ _ _ _ _ _
              rw [hyes.out, hI.out, show ints (undL ps at_ i ++ [I]) = ints (undL ps at_ i) ++ ints [I] by simp [ints]]
              exact hown
            clear hown hgr hatv HOw HO3 HB3 HL p0 p1 y0
            obtain ⟨A4, c4, rfl⟩ := ownR_val hxs.out
            go_wp2
            go_roundw
            case rel => exact ⟨_, rfl, i + 1, m + 1, by omega, by omega, by go_num, hxs, hO4, hB4⟩
            case measure => simp [intOf] <;> omega
        · obtain rfl : i = n := by omega
          have hnn : ¬ ((i : Int) < (i : Int)) := by omega
          go_wp2
          exact bodyPost_ret (v := .tuple #[.slice Ao m co, .int .i64 0]) (by simp [results, Tryd.results24, go_sem]) rfl ⟨⟨Ao, m, co, by rw [hs.out.2], by rw [hs.out.1]; exact HOw.out⟩, hBi.out⟩
end Go.Proofs.YtoakeclpakjbiaaDoor
