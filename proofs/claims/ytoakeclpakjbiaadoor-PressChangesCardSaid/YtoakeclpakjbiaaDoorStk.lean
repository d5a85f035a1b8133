/-
  The walk of a press without some weighings that it has.
-/
import Derived.Test.YtoakeclpakjbiaaDoorLead
import Derived.Test.YtoakeclpakjbiaaDoorKeys
namespace Go.Proofs.YtoakeclpakjbiaaDoor
open Go.RowKit Go.Maps
set_option linter.unusedVariables false
set_option linter.unusedSimpArgs false

def numW (ws : List WE) (j : Int) : Bool := ws.any fun x => decide (j = x.1)
def incB (l : List Int) : Bool := (List.range l.length).all fun i => match i with | 0 => true | i + 1 => decide (l[i]?.getD 0 < l[i + 1]?.getD 0)
def strikeS (ps : List PR) (ws : List WE) (l : List Int) : (List PR × List WE) × Int :=
  if validP ps ws then if incB l && l.all (numW ws) then ((ps, lessW ws l), 0) else (([], []), 21) else (([], []), 20)
def IncTo (l : List Int) (k : Nat) : Prop := ∀ i, i + 1 < k → l[i]?.getD 0 < l[i + 1]?.getD 0
theorem incB_true {l : List Int} (h : IncTo l l.length) : incB l = true := by
  unfold incB
  rw [List.all_eq_true]
  intro i hi
  rw [List.mem_range] at hi
  cases i with
  | zero => rfl
  | succ i => simpa using h i hi
theorem incB_false {l : List Int} {k : Nat} (hk : k + 1 < l.length) (h : l[k + 1]?.getD 0 ≤ l[k]?.getD 0) : incB l = false := by
  unfold incB
  rw [List.all_eq_false]
  exact ⟨k + 1, List.mem_range.2 hk, by simpa using h⟩
theorem hasI_snoc {l : List Int} {k : Nat} (hk : k < l.length) (j : Int) : hasI (l.take (k + 1)) j = (decide (j = l[k]?.getD 0) || hasI (l.take k) j) := by
  unfold hasI
  rw [List.take_succ_eq_append_getElem hk, List.any_append, List.getElem?_eq_getElem hk, Bool.or_comm]
  congr 1
  simp only [List.any_cons, List.any_nil, Bool.or_false, Option.getD_some]
  rw [Bool.eq_iff_iff]; simp
theorem numW_snoc {ws : List WE} {k : Nat} {x : WE} (hx : ws[k]? = some x) (j : Int) : numW (ws.take (k + 1)) j = (decide (j = x.1) || numW (ws.take k) j) := by
  unfold numW
  rw [List.take_add_one, hx, List.any_append, Bool.or_comm]
  simp
theorem strike_last {l : List Int} {ws : List WE} {c : Nat} (h : c = 0 ↔ ∀ k, (hasI l k && !numW ws k) = false) : (c = 0 ↔ l.all (numW ws) = true) := by
  rw [h, List.all_eq_true]
  constructor
  · intro H x hx
    have h1 := H x
    have h2 : hasI l x = true := by unfold hasI; rw [List.any_eq_true]; exact ⟨x, hx, by simp⟩
    rw [h2] at h1
    simpa using h1
  · intro H k
    by_cases hk : hasI l k = true
    · have h0 := hk
      unfold hasI at hk
      rw [List.any_eq_true] at hk
      obtain ⟨x, hx, hxk⟩ := hk
      have : k = x := by simpa using hxk
      subst this
      rw [H k hx]; simp
    · simp at hk; rw [hk]; rfl

theorem allW_num {ps : List PR} : ∀ {ws : List WE} {last : Int}, allW ps last ws = true → ∀ (k : Nat) (x : WE), ws[k]? = some x → last < x.1 ∧ 1 ≤ x.1 ∧ x.1 ≤ 9999
  | [], last, _, k, x, hx => by simp at hx
  | y :: r, last, h, k, x, hx => by
    simp only [allW, Bool.and_eq_true] at h
    obtain ⟨h1, h2⟩ := h
    simp only [okW, rng, Bool.and_eq_true, decide_eq_true_eq] at h1
    cases k with
    | zero => simp at hx; subst hx; omega
    | succ k =>
      have := allW_num h2 k x (by simpa using hx)
      omega
theorem valid_num {ps : List PR} {ws : List WE} (h : validP ps ws = true) : ∀ (k : Nat) (x : WE), ws[k]? = some x → 1 ≤ x.1 ∧ x.1 ≤ 9999 := by
  simp only [validP, Bool.and_eq_true] at h
  intro k x hx
  have := allW_num h.2 k x hx
  omega

set_option maxRecDepth 100000 in
set_option maxHeartbeats 2000000 in
theorem strike_any (A A' : Option Addr) (n c n' c' : Nat) (ps : List PR) (ws : List WE) (Al : Option Addr) (nl cl : Nat) (l : List Int) (w : World) (hnm : n ≤ maxLen) (hnm' : n' ≤ maxLen) (hnl : nl ≤ 4096) (hwf : ∀ x ∈ l, (Lit.int .i64 x).wf = true)
    (hR : Reads w w.heap.size 4 A n (pgs ps)) (hW : Reads w w.heap.size 5 A' n' (wgs ws)) (hLr : Reads w w.heap.size 1 Al nl (ints l)) (hL : Laid w) :
    Calls Tryd.prog 38 #[.agg #[.slice A n c, .slice A' n' c'], .slice Al nl cl] w fun e w' => Res w.heap.size (strikeS ps ws l) e w' ∧ Below w.heap.size w w' := by
  have hl := hR.pg_len
  have hl' := hW.wg_len
  have hll : l.length = nl := by simpa using hLr.len
  obtain ⟨wb, hwb⟩ : ∃ wb, wb = (w.alloc (.cells #[.slice A n c, .slice A' n' c'] 25)).alloc (.cells #[.slice none 0 0, .slice none 0 0] 25) := ⟨_, rfl⟩
  have HP0 := Lib.hid (PB.start hwb hR hW hL)
  have HCk := Lib.hid (fun z (hz : PB w wb A A' n c n' c' ps ws z) => Check_any A A' n c n' c' ps ws z hz.rp hz.rw_ hz.laid)
  have HLr := Lib.hid (fun z (hz : PB w wb A A' n c n' c' ps ws z) => (hLr.below hz.bel).more hz.bel.size)
  clear hR hW hL hLr
  cases hv : validP ps ws
  · have hc : Hid (checkS ps ws = 20) := by show _ = _; unfold checkS; rw [hv]; rfl
    have hs : Hid (strikeS ps ws l = (([], []), 20)) := by show _ = _; unfold strikeS; rw [hv]; rfl
    rw [hc.out] at HCk
    clear hv hl hl' hll
    go_enter Tryd.func38, Tryd.ntmps38
    go_wp2_with fail
    rw [← hwb]
    clear hwb
    refine (HCk.out _ HP0.out).mono ?_
    rintro e z1 ⟨rfl, hb1⟩
    have HP1 := Lib.hid (HP0.out.below hb1)
    clear hb1
    obtain ⟨g0, g1, f0, f1⟩ := two_facts HP1.out.b1
    go_wp2
    obtain ⟨e0, e1⟩ := set_back HP1.out.b1 (.slice none 0 0) (.slice none 0 0)
    exact bodyPost_ret (v := .tuple #[.agg #[.slice none 0 0, .slice none 0 0], .int .i64 20]) (by simp [results, Tryd.results38, go_sem, e0, e1]) rfl ⟨Res.nil hs.out, below_two HP1.out.bel (by omega) _ _⟩
  · have hc : Hid (checkS ps ws = 0) := by show _ = _; unfold checkS; rw [hv]; rfl
    rw [hc.out] at HCk
    have hn : n ≤ 10 := by
      have h := hv
      simp only [validP, Bool.and_eq_true, decide_eq_true_eq] at h
      omega
    have hn' : n' ≤ 30 := by
      have h := hv
      simp only [validP, Bool.and_eq_true, decide_eq_true_eq] at h
      omega
    have hwn : Hid (∀ (k : Nat) (x : WE), ws[k]? = some x → 1 ≤ x.1 ∧ x.1 ≤ 9999) := valid_num hv
    have HS : Hid (strikeS ps ws l = if incB l && l.all (numW ws) then ((ps, lessW ws l), 0) else (([], []), 21)) := by
      show _ = _; unfold strikeS; rw [hv, if_pos rfl]
    have HWo := Lib.hid (fun z (hz : PB w wb A A' n c n' c' ps ws z) => without_any A A' n c n' c' ps ws Al nl cl l z (by omega) (by omega) (by unfold maxLen; omega) hz.rp hz.rw_ (HLr.out z hz))
    have hmm := @run_makeMap Tryd.prog
    have HL := Lib.hid hll
    have HL' := Lib.hid hl'
    have HWF := Lib.hid hwf
    clear hv hl hl' hll hwf
    go_enter Tryd.func38, Tryd.ntmps38
    go_wp2_with fail
    rw [← hwb]
    clear hwb
    refine (HCk.out _ HP0.out).mono ?_
    rintro e z1 ⟨rfl, hb1⟩
    have HP1 := Lib.hid (HP0.out.below hb1)
    clear hb1
    have HM0 := Lib.hid (OwnsKeys.made z1)
    go_wp2
    go_loopw [21] (fun x wr => ∃ k : Nat, k ≤ nl ∧ x = .int .i64 k ∧ Hid (OwnsKeys wr z1.heap.size k (hasI (l.take k))) ∧ Hid (IncTo l k) ∧ Hid (Below z1.heap.size z1 wr)) (fun x _ => nl - (intOf x).toNat)
    case atStart => exact ⟨0, by omega, rfl, Lib.hid (HM0.out.ext (fun k => rfl)), fun i hi => absurd hi (by omega), Lib.hid ((Below.refl _ _).alloc (Nat.le_refl _) _)⟩
    case round =>
      obtain ⟨k, hk, rfl, hK, hI, hB⟩ := hrel
      have HPr := Lib.hid (HP1.out.below hB.out)
      by_cases hlt : k < nl
      · obtain ⟨b, o, rfl, hbb, hc0⟩ := (HLr.out wr HPr.out).int hlt
        have hwk : Hid ((Lit.int .i64 (l[k]?.getD 0)).wf = true) := HWF.out _ (by rw [List.getElem?_eq_getElem (by have := HL.out; omega)]; exact List.getElem_mem _)
        have hsn := Lib.hid (hasI_snoc (l := l) (k := k) (by have := HL.out; omega))
        rcases k with _ | k
        · rw [show ((0 : Nat) : Int) = 0 from rfl]
          simp only [Nat.add_zero] at hc0
          go_wp2_with (at_mapUpdate; refine put_key rfl _ _ _ rfl z1.heap.size 0 (hasI (l.take 0)) _ rfl hK.out (by unfold maxLen; omega) rfl hwk.out rfl ?_; intro w1 hown1 hg1; replace hown1 := Lib.hid hown1; replace hg1 := Lib.hid hg1)
          go_roundw
          case rel => exact ⟨1, by omega, by go_num, Lib.hid (hown1.out.ext (fun j => (hsn.out j).symm)), fun i hi => absurd hi (by omega), Lib.hid (hB.out.grown hg1.out hB.out.size (fun j hj => by cases hj; omega))⟩
          case measure => simp [intOf]; omega
        · obtain ⟨b', o', e2, hbb', hc1⟩ := (HLr.out wr HPr.out).int (k := k) (by omega)
          simp only [Option.some.injEq, Addr.mk.injEq, and_true] at e2
          obtain ⟨rfl, rfl⟩ := e2
          have hkp : (0 : Int) < ((k + 1 : Nat) : Int) := by omega
          have hk0 : k ≤ 4096 := by omega
          have hw1 := pw1 hk0
          have hw2 := pw2 hk0
          have hkn : (k : Int) < (nl : Int) := by omega
          have hk9 : (0 : Int) ≤ (k : Int) := by omega
          by_cases hle : l[k + 1]?.getD 0 ≤ l[k]?.getD 0
          · have hs : Hid (strikeS ps ws l = (([], []), 21)) := by
              show _ = _
              rw [HS.out, incB_false (by have := HL.out; omega) hle]; rfl
            have hle' : decide (l[k + 1]?.getD 0 ≤ l[k]?.getD 0) = true := by simpa using hle
            obtain ⟨g0, g1, f0, f1⟩ := two_facts HPr.out.b1
            clear hle
            go_wp2
            obtain ⟨e0, e1⟩ := set_back HPr.out.b1 (.slice none 0 0) (.slice none 0 0)
            exact bodyPost_ret (v := .tuple #[.agg #[.slice none 0 0, .slice none 0 0], .int .i64 21]) (by simp [results, Tryd.results38, go_sem, e0, e1]) rfl ⟨Res.nil hs.out, below_two HPr.out.bel (by omega) _ _⟩
          · have hle' : decide (l[k + 1]?.getD 0 ≤ l[k]?.getD 0) = false := by simpa using hle
            have hI' : Hid (IncTo l (k + 2)) := fun i hi => by
              by_cases hik : i = k
              · subst hik; omega
              · exact hI.out i (by omega)
            clear hle
            go_wp2_with (at_mapUpdate; refine put_key rfl _ _ _ rfl z1.heap.size (k + 1) (hasI (l.take (k + 1))) _ rfl hK.out (by unfold maxLen; omega) rfl hwk.out rfl ?_; intro w1 hown1 hg1; replace hown1 := Lib.hid hown1; replace hg1 := Lib.hid hg1)
            go_roundw
            case rel => exact ⟨k + 1 + 1, by omega, by go_num, Lib.hid (hown1.out.ext (fun j => (hsn.out j).symm)), hI', Lib.hid (hB.out.grown hg1.out hB.out.size (fun j hj => by cases hj; omega))⟩
            case measure => simp [intOf]; omega
      · obtain rfl : k = nl := by omega
        have hinc : Hid (incB l = true) := incB_true (by rw [HL.out]; exact hI.out)
        have hK' : Hid (OwnsKeys wr z1.heap.size k (fun j => hasI l j && !numW (ws.take 0) j)) := hK.out.ext (fun j => by
          rw [List.take_of_length_le (by have := HL.out; omega)]; simp [numW])
        obtain ⟨p0, p1, -, -⟩ := two_facts HPr.out.b0
        clear hK hI hlt
        have hlt : ¬ ((k : Int) < (k : Int)) := by omega
        go_wp2
        go_loopw [44] (fun x wq => ∃ m : Nat, m ≤ n' ∧ x = .int .i64 m ∧ Hid (OwnsKeys wq z1.heap.size k (fun j => hasI l j && !numW (ws.take m) j)) ∧ Hid (Below z1.heap.size z1 wq)) (fun x _ => n' - (intOf x).toNat)
        case atStart => exact ⟨0, by omega, rfl, hK', hB⟩
        case round =>
          clear hK' hB
          obtain ⟨m, hm, rfl, hK, hB⟩ := hrel
          have HPq := Lib.hid (HP1.out.below hB.out)
          clear p0 p1
          by_cases hmt : m < n'
          · obtain ⟨b, o, N, P, K, L, H, rfl, hbb, hx, c0, c1, c2, c3, c4⟩ := HPq.out.rw_.wg hmt
            have hN := hwn.out _ _ hx
            have hns := Lib.hid (numW_snoc hx)
            clear hx
            simp only at hN
            have hKa := Lib.hid (hK.out.of_block (heap_lt_alloc' wr (.cells #[.int .i64 N, .int .i64 P, .int .i64 K, .int .i64 L, .int .i64 H] 76) _ hK.out.lt))
            go_wp2_with (at_delete; refine del_key rfl _ _ rfl z1.heap.size k _ N rfl hKa.out rfl (WalkArith.wf_i64 (by omega)) ?_; intro w1 hown1 hg1; replace hown1 := Lib.hid hown1; replace hg1 := Lib.hid hg1)
            go_roundw
            case rel => exact ⟨m + 1, by omega, by go_num, Lib.hid (hown1.out.ext (fun j => by rw [hns.out j]; cases decide (j = N) <;> simp)), Lib.hid ((hB.out.alloc hB.out.size _).grown hg1.out (by have := hB.out.size; simp; omega) (fun j hj => by cases hj; omega))⟩
            case measure => simp [intOf]; omega
          · obtain rfl : m = n' := by omega
            have hKe : Hid (OwnsKeys wr z1.heap.size k (fun j => hasI l j && !numW ws j)) := hK.out.ext (fun j => by rw [List.take_of_length_le (by have := HL'.out; omega)])
            clear hK
            obtain ⟨g0, g1, f0, f1⟩ := two_facts HPq.out.b1
            by_cases hall : l.all (numW ws) = true
            · have hs : Hid (strikeS ps ws l = ((ps, lessW ws l), 0)) := by show _ = _; rw [HS.out, hinc.out, hall]; rfl
              have HA := Lib.hid hall
              obtain ⟨p0, p1, -, -⟩ := two_facts HPq.out.b0
              clear hall
              go_wp2_with (first | (at_len; refine len_key rfl _ rfl z1.heap.size k _ rfl hKe.out ?_; intro cc hcc hc0; obtain rfl : cc = 0 := (strike_last hc0).2 HA.out; clear hc0 hcc) | fail)
              refine (HWo.out _ HPq.out).mono ?_
              rintro e z4 ⟨A1, c1, A2, m2, c2, rfl, ho1, ho2, hb4⟩
              have HP4 := Lib.hid (HPq.out.below hb4)
              have HO1 := Lib.hid ho1
              have HO2 := Lib.hid ho2
              clear hb4 ho1 ho2 g0 g1 f0 f1
              obtain ⟨g0, g1, f0, f1⟩ := two_facts HP4.out.b1
              go_wp2
              obtain ⟨e0, e1⟩ := set_back HP4.out.b1 (.slice A1 n c1) (.slice A2 m2 c2)
              refine bodyPost_ret (v := .tuple #[.agg #[.slice A1 n c1, .slice A2 m2 c2], .int .i64 0]) (by simp [results, Tryd.results38, go_sem, e0, e1]) rfl ⟨?_, below_two HP4.out.bel (by omega) _ _⟩
              rw [hs.out]
              have hq := HPq.out.size
              exact ⟨_, _, _, _, _, _, rfl, own_mono (own_far (p := ⟨w.heap.size + 1, 1, none⟩) (own_far (p := ⟨w.heap.size + 1, 0, none⟩) HO1.out (by simp only; omega) _) (by simp only; omega) _) (by omega),
                own_mono (own_far (p := ⟨w.heap.size + 1, 1, none⟩) (own_far (p := ⟨w.heap.size + 1, 0, none⟩) HO2.out (by simp only; omega) _) (by simp only; omega) _) (by omega)⟩
            · have hs : Hid (strikeS ps ws l = (([], []), 21)) := by
                show _ = _
                rw [HS.out, hinc.out]
                simp [hall]
              have HA := Lib.hid hall
              clear hall
              go_wp2_with (first | (at_len; refine len_key rfl _ rfl z1.heap.size k _ rfl hKe.out ?_; intro cc hcc hc0; have hcp : 0 < (cc : Int) := (by have := mt (strike_last hc0).1 ; have : cc ≠ 0 := fun e => HA.out ((strike_last hc0).1 e); omega); clear hc0 hcc) | fail)
              obtain ⟨e0, e1⟩ := set_back HPq.out.b1 (.slice none 0 0) (.slice none 0 0)
              exact bodyPost_ret (v := .tuple #[.agg #[.slice none 0 0, .slice none 0 0], .int .i64 21]) (by simp [results, Tryd.results38, go_sem, e0, e1]) rfl ⟨Res.nil hs.out, below_two HPq.out.bel (by omega) _ _⟩
end Go.Proofs.YtoakeclpakjbiaaDoor
