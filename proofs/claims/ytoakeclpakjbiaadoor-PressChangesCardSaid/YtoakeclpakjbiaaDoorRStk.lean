/-
  The walk of the reference's press without some weighings that it has.
-/
import Derived.Test.YtoakeclpakjbiaaDoorRWo
import Derived.Test.YtoakeclpakjbiaaDoorScan
import Derived.Test.YtoakeclpakjbiaaDoorPPress
namespace Go.Proofs.YtoakeclpakjbiaaDoor
open Go.RowKit
set_option linter.unusedVariables false
set_option linter.unusedSimpArgs false

set_option maxRecDepth 100000 in
set_option maxHeartbeats 2000000 in
theorem rstrike_any (A A' : Option Addr) (n c n' c' : Nat) (ps : List PR) (ws : List WE) (Al : Option Addr) (nl cl : Nat) (l : List Int) (w : World) (hnm : n ≤ maxLen) (hnm' : n' ≤ maxLen) (hnl : nl ≤ 4096)
    (hR : Reads w w.heap.size 4 A n (pgs ps)) (hW : Reads w w.heap.size 5 A' n' (wgs ws)) (hLr : Reads w w.heap.size 1 Al nl (ints l)) (hL : Laid w) :
    Calls Tryd.prog 39 #[.agg #[.slice A n c, .slice A' n' c'], .slice Al nl cl] w fun e w' => Res w.heap.size (strikeS ps ws l) e w' ∧ Below w.heap.size w w' := by
  have hl := hR.pg_len
  have hl' := hW.wg_len
  have hll : l.length = nl := by simpa using hLr.len
  obtain ⟨wb, hwb⟩ : ∃ wb, wb = (w.alloc (.cells #[.slice A n c, .slice A' n' c'] 25)).alloc (.cells #[.slice none 0 0, .slice none 0 0] 25) := ⟨_, rfl⟩
  have HP0 := Lib.hid (PB.start hwb hR hW hL)
  have HCk := Lib.hid (fun z (hz : PB w wb A A' n c n' c' ps ws z) => Press_any A A' n c n' c' ps ws z hnm hnm' hz.rp hz.rw_)
  have HLr := Lib.hid (fun z (hz : PB w wb A A' n c n' c' ps ws z) => (hLr.below hz.bel).more hz.bel.size)
  clear hR hW hL hLr
  cases hv : validP ps ws
  · have hs : Hid (strikeS ps ws l = (([], []), 20)) := by show _ = _; unfold strikeS; rw [hv]; rfl
    rw [hv] at HCk
    clear hv hl hl' hll
    go_enter Tryd.func39, Tryd.ntmps39
    go_wp2_with fail
    rw [← hwb]
    clear hwb
    refine (HCk.out _ HP0.out).mono ?_
    rintro e z1 ⟨rfl, hb1⟩
    have HP1 := Lib.hid (HP0.out.below hb1)
    clear hb1
    obtain ⟨g0, g1, f0, f1⟩ := two_facts HP1.out.b1
    go_wp2
    obtain ⟨e0, e1⟩ := set_back HP1.out.b1 (.slice none 0 0) (.slice none 0 0)
    exact bodyPost_ret (v := .tuple #[.agg #[.slice none 0 0, .slice none 0 0], .int .i64 20]) (by simp [results, Tryd.results39, go_sem, e0, e1]) rfl ⟨Res.nil hs.out, below_two HP1.out.bel (by omega) _ _⟩
  · rw [hv] at HCk
    have hn : n ≤ 10 := by
      have h := hv
      simp only [validP, Bool.and_eq_true, decide_eq_true_eq] at h
      omega
    have hn' : n' ≤ 30 := by
      have h := hv
      simp only [validP, Bool.and_eq_true, decide_eq_true_eq] at h
      omega
    have hrise : Rise ws := by
      have h := hv
      simp only [validP, Bool.and_eq_true] at h
      exact (allW_rise h.2).1
    have HS : Hid (strikeS ps ws l = if scanK l ws = l.length then ((ps, lessW ws l), 0) else (([], []), 21)) := by
      show _ = _; unfold strikeS; rw [hv, if_pos rfl, scan_all hrise]
      by_cases h : scanK l ws = l.length <;> simp [h]
    have HWo := Lib.hid (fun z (hz : PB w wb A A' n c n' c' ps ws z) => rwithout_any A A' n c n' c' ps ws Al nl cl l z (by omega) (by omega) hnl hz.rp hz.rw_ (HLr.out z hz) hz.laid)
    have HL := Lib.hid hll
    have HL' := Lib.hid hl'
    clear hv hl hl' hll hrise
    go_enter Tryd.func39, Tryd.ntmps39
    go_wp2_with fail
    rw [← hwb]
    clear hwb
    refine (HCk.out _ HP0.out).mono ?_
    rintro e z1 ⟨rfl, hb1⟩
    have HP1 := Lib.hid (HP0.out.below hb1)
    clear hb1
    obtain ⟨p0, p1, -, -⟩ := two_facts HP1.out.b0
    go_wp2
    go_loopw [6, 16] (fun s6 x wr => ∃ m : Nat, m ≤ n' ∧ x = .int .i64 m ∧ ∃ k : Nat, k ≤ nl ∧ s6 = .int .i64 k ∧ Hid (scanK l (ws.take m) = k) ∧ Hid (Below z1.heap.size z1 wr)) (fun _ x _ => n' - (intOf x).toNat)
    case atStart => exact ⟨0, by omega, rfl, 0, by omega, rfl, rfl, Below.refl _ _⟩
    case round =>
      clear p0 p1
      obtain ⟨m, hm, rfl, k, hk, rfl, hsk, hB⟩ := hrel
      have HPr := Lib.hid (HP1.out.below hB.out)
      by_cases hmt : m < n'
      · obtain ⟨b, o, N, P, K, L, H, rfl, hbb, hx, c0, c1, c2, c3, c4⟩ := HPr.out.rw_.wg hmt
        have hsn := Lib.hid (scanK_snoc (l := l) hx)
        obtain ⟨wx, hwx⟩ : ∃ wx, wx = wr.alloc (.cells #[.int .i64 N, .int .i64 P, .int .i64 K, .int .i64 L, .int .i64 H] 76) := ⟨_, rfl⟩
        have hbx : Below wr.heap.size wr wx := by rw [hwx]; exact (Below.refl _ _).alloc (Nat.le_refl _) _
        have HPx := Lib.hid (HPr.out.below hbx)
        have HBx := Lib.hid (below_via hB.out hB.out.size hbx)
        have hxb : wx.heap[wr.heap.size]? = some (.cells #[.int .i64 N, .int .i64 P, .int .i64 K, .int .i64 L, .int .i64 H] 76 (0, 0)) := by rw [hwx]; exact heap_alloc_new wr _
        obtain ⟨x0, -, -, -, -⟩ := five_facts hxb
        clear hx hbx hxb
        go_wp2
        rw [← hwx]
        clear hwx c0 c1 c2 c3 c4
        by_cases hkt : k < nl
        · obtain ⟨b', o', rfl, hbb', hc0⟩ := (HLr.out wx HPx.out).int hkt
          have hki : (k : Int) < (nl : Int) := by omega
          have hk0 : (0 : Int) ≤ (k : Int) := by omega
          have hd : decide ((k : Int) < (nl : Int)) = true := by simpa using hkt
          by_cases he : l[k]?.getD 0 = N
          · have he' : (l[k]?.getD 0 == N) = true := by simpa using he
            have hnx : Hid (scanK l (ws.take (m + 1)) = k + 1) := by
              show _ = _
              rw [hsn.out, hsk.out]; unfold scanStep
              rw [if_pos ⟨by have := HL.out; omega, he⟩]
            clear he
            go_quiet (fail)
            go_wp2
            go_roundw
            case rel => exact ⟨m + 1, by omega, by go_num, k + 1, by omega, by go_num, hnx, Lib.hid (below_drewN HBx.out _)⟩
            case measure => simp [intOf]; omega
          · have he' : (l[k]?.getD 0 == N) = false := by simpa using he
            have hnx : Hid (scanK l (ws.take (m + 1)) = k) := by
              show _ = _
              rw [hsn.out, hsk.out]; unfold scanStep
              rw [if_neg (fun h => he h.2)]
            clear he
            go_quiet (fail)
            go_wp2
            go_roundw
            case rel => exact ⟨m + 1, by omega, by go_num, k, by omega, rfl, hnx, Lib.hid (below_drewN HBx.out _)⟩
            case measure => simp [intOf]; omega
        · have hd : decide ((k : Int) < (nl : Int)) = false := by simp; omega
          have hki : ¬ (k : Int) < (nl : Int) := by omega
          have hnx : Hid (scanK l (ws.take (m + 1)) = k) := by
            show _ = _
            rw [hsn.out, hsk.out]; unfold scanStep
            rw [if_neg (fun h => by have := HL.out; omega)]
          go_quiet (fail)
          go_wp2
          go_roundw
          case rel => exact ⟨m + 1, by omega, by go_num, k, by omega, rfl, hnx, Lib.hid (below_drewN HBx.out _)⟩
          case measure => simp [intOf]; omega
      · obtain rfl : m = n' := by omega
        have hsf : Hid (scanK l ws = k) := by
          show _ = _
          have := hsk.out
          rwa [List.take_of_length_le (by have := HL'.out; omega)] at this
        clear hsk
        by_cases hkt : k < nl
        · have hs : Hid (strikeS ps ws l = (([], []), 21)) := by show _ = _; rw [HS.out, hsf.out, if_neg (by have := HL.out; omega)]
          have hki : (k : Int) < (nl : Int) := by omega
          obtain ⟨g0, g1, f0, f1⟩ := two_facts HPr.out.b1
          go_wp2
          obtain ⟨e0, e1⟩ := set_back HPr.out.b1 (.slice none 0 0) (.slice none 0 0)
          exact bodyPost_ret (v := .tuple #[.agg #[.slice none 0 0, .slice none 0 0], .int .i64 21]) (by simp [results, Tryd.results39, go_sem, e0, e1]) rfl ⟨Res.nil hs.out, below_two HPr.out.bel (by omega) _ _⟩
        · have hs : Hid (strikeS ps ws l = ((ps, lessW ws l), 0)) := by show _ = _; rw [HS.out, hsf.out, if_pos (by have := HL.out; omega)]
          have hki : ¬ (k : Int) < (nl : Int) := by omega
          obtain ⟨p0, p1, -, -⟩ := two_facts HPr.out.b0
          go_wp2_with fail
          refine (HWo.out _ HPr.out).mono ?_
          rintro e z4 ⟨A1, c1, A2, m2, c2, rfl, ho1, ho2, hb4⟩
          have HP4 := Lib.hid (HPr.out.below hb4)
          have HO1 := Lib.hid ho1
          have HO2 := Lib.hid ho2
          clear hb4 ho1 ho2
          obtain ⟨g0, g1, f0, f1⟩ := two_facts HP4.out.b1
          go_wp2
          obtain ⟨e0, e1⟩ := set_back HP4.out.b1 (.slice A1 n c1) (.slice A2 m2 c2)
          refine bodyPost_ret (v := .tuple #[.agg #[.slice A1 n c1, .slice A2 m2 c2], .int .i64 0]) (by simp [results, Tryd.results39, go_sem, e0, e1]) rfl ⟨?_, below_two HP4.out.bel (by omega) _ _⟩
          rw [hs.out]
          have hq := HPr.out.size
          exact ⟨_, _, _, _, _, _, rfl, own_mono (own_far (p := ⟨w.heap.size + 1, 1, none⟩) (own_far (p := ⟨w.heap.size + 1, 0, none⟩) HO1.out (by simp only; omega) _) (by simp only; omega) _) (by omega),
            own_mono (own_far (p := ⟨w.heap.size + 1, 1, none⟩) (own_far (p := ⟨w.heap.size + 1, 0, none⟩) HO2.out (by simp only; omega) _) (by simp only; omega) _) (by omega)⟩
end Go.Proofs.YtoakeclpakjbiaaDoor
