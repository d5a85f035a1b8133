/-
  The walk of the reference's least sum of prices, of what all of a kind can be, and of what proves it.
-/
import Derived.Test.YtoakeclpakjbiaaDoorRPri
import Derived.Test.YtoakeclpakjbiaaDoorCut
import Derived.Test.YtoakeclpakjbiaaDoorRTr
import Derived.Test.YtoakeclpakjbiaaDoorApp0
namespace Go.Proofs.YtoakeclpakjbiaaDoor
open Go.RowKit
set_option linter.unusedVariables false
set_option linter.unusedSimpArgs false
def prF (ps : List PR) (ws : List WE) (K : Nat) (price one : Int) (s : Nat) : Int := priS (toT ps) (rowsT ps ws) K one (yBit price s) ps.length
def idF (ps : List PR) (price : Int) (s : Nat) : List Int := idsY (idQ ps) (yBit price s) ps.length
def lstR (ps : List PR) (ws : List WE) (K : Nat) (price one : Int) (s : Nat) : Int × List Int := leastR (prF ps ws K price one) (idF ps price) s
theorem lst_take {ps : List PR} {ws : List WE} {K : Nat} {price one : Int} {s : Nat} (h : s = 0 ∨ prF ps ws K price one s < (lstR ps ws K price one s).1 ∨ prF ps ws K price one s = (lstR ps ws K price one s).1 ∧ shB (idF ps price s) (lstR ps ws K price one s).2 = true) :
    lstR ps ws K price one (s + 1) = (prF ps ws K price one s, idF ps price s) := by
  exact if_pos h
theorem lst_keep {ps : List PR} {ws : List WE} {K : Nat} {price one : Int} {s : Nat} (h0 : s ≠ 0) (h1 : ¬ prF ps ws K price one s < (lstR ps ws K price one s).1) (h2 : prF ps ws K price one s = (lstR ps ws K price one s).1 → shB (idF ps price s) (lstR ps ws K price one s).2 = false) :
    lstR ps ws K price one (s + 1) = lstR ps ws K price one s := by
  refine if_neg ?_
  rintro (h | h | ⟨h, h'⟩)
  · exact h0 h
  · exact h1 h
  · have := h2 h; unfold lstR at this; rw [this] at h'; cases h'
theorem idsY_yes {ids : Nat → Int} {y : Nat → Int} {k : Nat} (h : y k ≠ 0) : idsY ids y (k + 1) = idsY ids y k ++ [ids k] := by
  show (if _ then _ else _) = _
  rw [if_pos h]
theorem idsY_no {ids : Nat → Int} {y : Nat → Int} {k : Nat} (h : y k = 0) : idsY ids y (k + 1) = idsY ids y k := by
  show (if _ then _ else _) = _
  rw [if_neg (by simpa using h)]
set_option maxRecDepth 100000 in
set_option maxHeartbeats 4000000 in
theorem least_any (A A' : Option Addr) (n c n' c' : Nat) (ps : List PR) (ws : List WE) (K : Nat) (price one : Int) (w : World) (hnm : n ≤ maxLen) (hR : Reads w w.heap.size 4 A n (pgs ps)) (hW : Reads w w.heap.size 5 A' n' (wgs ws)) (hv : validP ps ws = true) (hK : K ≤ 5) (hp : price = 1 ∨ price = -1) (ho : one = 1 ∨ one = -1) :
    Calls Tryd.prog 86 #[.agg #[.slice A n c, .slice A' n' c'], .int .i64 K, .int .i64 price, .int .i64 one] w fun e w' => (∃ Ab mb cb, e = .returned (.tuple #[.int .i64 (lstR ps ws K price one (2 ^ n)).1, .slice Ab mb cb]) ∧ mb ≤ 10 ∧ Reads w' w'.heap.size 1 Ab mb (ints (lstR ps ws K price one (2 ^ n)).2)) ∧ Below w.heap.size w w' := by
  have hl : ps.length = n := hR.pg_len
  have hn : n ≤ 10 := by have := (valid_facts hv).n10; omega
  obtain ⟨i0, hi, hz0, hz1, hz2⟩ := info_parts info_int
  obtain ⟨NN, hNN⟩ : ∃ x : Nat, x = 2 ^ n := ⟨_, rfl⟩
  have hN10 : NN ≤ 1024 := by rw [hNN]; exact Nat.le_trans (Nat.pow_le_pow_right (by decide) hn) (by decide)
  have hpw : IntKind.i64.wrap ((2 : Int) ^ n) = (NN : Int) := by
    have e : ((2 : Int) ^ n) = (NN : Int) := by rw [hNN]; simp
    rw [e, IntWalk.i64_in _ (by omega)]
  rw [← hNN]
  have hpr := Lib.hid (fun s (hs : s < NN) (z : World) (hz : Below w.heap.size w z) => prices_any A A' n c n' c' ps ws K s price one z hnm ((hR.below hz).more hz.size) ((hW.below hz).more hz.size) hv hK (hNN ▸ hs) hp ho)
  have HRd := Lib.hid (fun z (hz : Below w.heap.size w z) => (hR.below hz).more hz.size)
  have hO0 := heap_alloc_new w (.cells #[.slice A n c, .slice A' n' c'] 25)
  have HB0 := Lib.hid ((Below.refl w.heap.size w).alloc (Nat.le_refl _) (.cells #[.slice A n c, .slice A' n' c'] 25))
  have HOp := Lib.hid (fun z (hz : Below (w.alloc (.cells #[.slice A n c, .slice A' n' c'] 25)).heap.size (w.alloc (.cells #[.slice A n c, .slice A' n' c'] 25)) z) => keepO hz hO0)
  have hprF := Lib.hid (fun s => (show priS (toT ps) (rowsT ps ws) K one (yBit price s) n = prF ps ws K price one s by rw [← hl]; rfl))
  have hidF := Lib.hid (fun s => (show idsY (idQ ps) (yBit price s) n = idF ps price s by rw [← hl]; rfl))
  have hNh := Lib.hid hNN
  have hph := Lib.hid hp
  have hn60 : ∀ s, s < NN → s < 2 ^ 60 := fun s hs => by omega
  have hn60h := Lib.hid hn60
  clear hR hW hO0 hl hNN hv hp ho hn60
  go_enter Tryd.func86, Tryd.ntmps86
  go_wp2_with fail
  generalize hwb : (w.alloc (.cells #[.slice A n c, .slice A' n' c'] 25)) = wb at *
  clear hwb
  go_loopw [10, 11, 12] (fun v u t wr => ∃ wl, wl = wr ∧ ∃ s : Nat, s ≤ NN ∧ t = .int .i64 s ∧ v = .int .i64 (lstR ps ws K price one s).1 ∧ (∃ Ab mb cb, u = .slice Ab mb cb ∧ mb ≤ n ∧ Hid (Reads wl wl.heap.size 1 Ab mb (ints (lstR ps ws K price one s).2))) ∧ Hid (Below wb.heap.size wb wl)) (fun _ _ t _ => NN - (intOf t).toNat)
  case atStart => exact ⟨_, rfl, 0, Nat.zero_le _, rfl, rfl, ⟨none, 0, 0, rfl, Nat.zero_le _, Lib.hid Reads.none_⟩, Lib.hid (Below.refl _ _)⟩
  case round =>
    obtain ⟨wq, rfl, s, hs, rfl, rfl, ⟨Ab, mb, cb, rfl, hmb, Hb⟩, HBb⟩ := hrel
    obtain ⟨p0, p1, -, -⟩ := two_facts (HOp.out _ HBb.out)
    have HBr := Lib.hid (below_via HB0.out HB0.out.size HBb.out)
    by_cases hsn : s < NN
    · have hsi : (s : Int) < (NN : Int) := by omega
      have hs0 : (0 : Int) ≤ (s : Int) := by omega
      go_wp2_with fail
      go_loopw [13, 14] (fun v u wr => ∃ wl, wl = wr ∧ ∃ i m : Nat, i ≤ n ∧ m ≤ i ∧ u = .int .i64 i ∧ Hid (wl.ownsRow wq.heap.size 3 1 v m (ints (idsY (idQ ps) (yBit price s) i))) ∧ Hid (Below wq.heap.size wq wl)) (fun _ u _ => n - (intOf u).toNat)
      case atStart => exact ⟨_, rfl, 0, 0, by omega, by omega, rfl, Lib.hid (World.ownsRow_nil _ _ _ _), Lib.hid (Below.refl _ _)⟩
      case round =>
        obtain ⟨wj, rfl, i, m, hi_, hmi, rfl, HOw, HBj⟩ := hrel
        obtain ⟨Al, cl, rfl⟩ := ownR_val HOw.out
        have HBx := Lib.hid (below_via HBb.out HBb.out.size HBj.out)
        have HBy := Lib.hid (below_via HB0.out HB0.out.size HBx.out)
        obtain ⟨p0, p1, -, -⟩ := two_facts (HOp.out _ HBx.out)
        by_cases hin : i < n
        · have hii : (i : Int) < (n : Int) := by omega
          have ii0 : (0 : Int) ≤ (i : Int) := by omega
          obtain ⟨bi, hbi_⟩ : ∃ x : Int, x = (bitN s i : Int) := ⟨_, rfl⟩
          have hbit : bits .and .i64 ((s : Int) / 2 ^ i) 1 = bi := by rw [hbi_]; exact band_bit (hn60h.out s hsn)
          rcases bitN_01 s i with h01 | h01
          · have hy := Lib.hid (idsY_no (ids := idQ ps) (y := yBit price s) (k := i) (by unfold yBit; rw [h01]; simp))
            have hb1 : (bi == 1) = false := by rw [hbi_, h01]; rfl
            clear hbi_ h01
            go_wp2
            go_roundw
            case rel => exact ⟨_, rfl, i + 1, m, by omega, by omega, by go_num, by rw [hy.out]; exact HOw, HBj⟩
            case measure => simp [intOf]; omega
          · have hy := Lib.hid (idsY_yes (ids := idQ ps) (y := yBit price s) (k := i) (by unfold yBit; rw [h01]; rcases hph.out with h | h <;> rw [h] <;> decide))
            have hb1 : (bi == 1) = true := by rw [hbi_, h01]; rfl
            obtain ⟨bp, op, I, D, P, T, rfl, hbp, hx, y0, y1, y2, y3⟩ := (HRd.out _ HBy.out).pg hin
            have hI : Hid (idQ ps i = I) := by show _ = _; unfold idQ; rw [hx]
            have hL := heap_alloc_new wj (.cells #[.int .i64 I] 3)
            have hbA := (Below.refl wj.heap.size wj).alloc (Nat.le_refl _) (.cells #[.int .i64 I] 3)
            have HOw3 := Lib.hid (ownR_below HOw.out hbA)
            have HL := Lib.hid (rd_one (t := 3) hL)
            have HB3 := Lib.hid (below_via HBj.out HBj.out.size hbA)
            have hlw := HBj.out.size
            clear hbi_ h01 hx hL hbA HOw y1 y2 y3
            go_wp2_with (first
              | (at_builtin; refine wpList_app _ rfl _ _ 51 rfl wq.heap.size 3 i0 _ 1 8 Tryd.underlying51 hi hz0 hz1 hz2 rfl (by decide) (.slice Al m cl) m (ints (idsY (idQ ps) (yBit price s) i)) rfl HOw3.out _ (some ⟨wj.heap.size, 0, none⟩) 1 1 (ints [I]) rfl HL.out (ints_one _) ?c3 ?c4 ?c5 ?_))
            case c3 => unfold maxLen; omega
            case c4 => omega
            case c5 => first | omega | (simp <;> omega)
            intro v' z4 hown hgr hatv
            have HB4 := Lib.hid (HB3.out.grown hgr HB3.out.size (fun k hk => (ownR_lt HOw3.out hk).1))
            have hxs : Hid (z4.ownsRow wq.heap.size 3 1 v' (m + 1) (ints (idsY (idQ ps) (yBit price s) (i + 1)))) := by
              show World.ownsRow _ _ _ _ _ _ _
              rw [hy.out, hI.out, show ∀ l, ints (l ++ [I]) = ints l ++ ints [I] from fun l => by simp [ints]]
              exact hown
            clear hown hgr hatv HOw3 HB3 HL p0 p1 y0 hbit hb1
            obtain ⟨A4, c4, rfl⟩ := ownR_val hxs.out
            go_wp2
            go_roundw
            case rel => exact ⟨_, rfl, i + 1, m + 1, by omega, by omega, by go_num, hxs, HB4⟩
            case measure => simp [intOf]; omega
        · obtain rfl : i = n := by omega
          have hii : ¬ (i : Int) < (i : Int) := by omega
          have hcall := Lib.hid (hpr.out s hsn wj HBy.out)
          have hlenl := HOw.out.1
          have HlR := Lib.hid (Reads.of_own HOw.out)
          have HbR := Lib.hid ((Hb.out.below HBj.out).more HBj.out.size)
          clear HOw Hb
          go_wp2_with fail
          refine hcall.out.mono ?_
          rintro e wp ⟨rfl, hb⟩
          have HBp := Lib.hid (below_via HBx.out HBx.out.size hb)
          have HlP := Lib.hid ((HlR.out.below hb).more hb.size)
          have HbP := Lib.hid ((HbR.out.below hb).more hb.size)
          rw [hprF.out s]
          rw [hidF.out s] at HlP
          clear hb hcall HlR HbR p0 p1 hlenl
          have hsh := Lib.hid (shorter_any Al Ab m mb cl cb _ _ wp (by unfold maxLen; omega) (by unfold maxLen; omega) HlP.out HbP.out)
          have htk := Lib.hid (fun h => lst_take (ps := ps) (ws := ws) (K := K) (price := price) (one := one) (s := s) h)
          have hkp := Lib.hid (fun h0 h1 h2 => lst_keep (ps := ps) (ws := ws) (K := K) (price := price) (one := one) (s := s) h0 h1 h2)
          generalize prF ps ws K price one s = f at *
          generalize idF ps price s = g at *
          by_cases h0 : s = 0
          · have hst := Lib.hid (htk.out (.inl h0))
            have hb0 : ((s : Int) == 0) = true := by simp [h0]
            have hb0' : (s == 0) = true := by simp [h0]
            clear h0 htk hkp hsh
            go_wp2
            go_roundw
            case rel => exact ⟨_, rfl, s + 1, by omega, by go_num, by rw [hst.out], ⟨Al, m, cl, rfl, by omega, by rw [hst.out]; exact HlP⟩, HBp⟩
            case measure => simp [intOf]; omega
          · have hb0 : ((s : Int) == 0) = false := by simp [h0]
            have hb0' : (s == 0) = false := by simp [h0]
            by_cases h1 : f < (lstR ps ws K price one s).1
            · have hst := Lib.hid (htk.out (.inr (.inl h1)))
              clear h0 htk hkp hsh
              go_wp2
              go_roundw
              case rel => exact ⟨_, rfl, s + 1, by omega, by go_num, by rw [hst.out], ⟨Al, m, cl, rfl, by omega, by rw [hst.out]; exact HlP⟩, HBp⟩
              case measure => simp [intOf]; omega
            · have h1d : decide (f < (lstR ps ws K price one s).1) = false := decide_eq_false h1
              have h1h := Lib.hid h1
              clear h1
              by_cases h2 : f = (lstR ps ws K price one s).1
              · have hb2 : (f == (lstR ps ws K price one s).1) = true := by simpa using h2
                cases h3 : shB g (lstR ps ws K price one s).2
                · rw [h3] at hsh
                  have hst := Lib.hid (hkp.out h0 h1h.out (fun _ => h3))
                  clear h0 htk hkp h2 h3
                  go_wp2_with fail
                  refine hsh.out.mono ?_
                  rintro e wz ⟨rfl, hb⟩
                  replace HbP := Lib.hid ((HbP.out.below hb).more hb.size)
                  replace HBp := Lib.hid (below_via HBp.out HBp.out.size hb)
                  clear hb hsh
                  go_wp2
                  go_roundw
                  case rel => exact ⟨_, rfl, s + 1, by omega, by go_num, by rw [hst.out], ⟨Ab, mb, cb, rfl, hmb, by rw [hst.out]; exact HbP⟩, HBp⟩
                  case measure => simp [intOf]; omega
                · rw [h3] at hsh
                  have hst := Lib.hid (htk.out (.inr (.inr ⟨h2, h3⟩)))
                  clear h0 htk hkp h2 h3
                  go_wp2_with fail
                  refine hsh.out.mono ?_
                  rintro e wz ⟨rfl, hb⟩
                  replace HlP := Lib.hid ((HlP.out.below hb).more hb.size)
                  replace HBp := Lib.hid (below_via HBp.out HBp.out.size hb)
                  clear hb hsh
                  go_wp2
                  go_roundw
                  case rel => exact ⟨_, rfl, s + 1, by omega, by go_num, by rw [hst.out], ⟨Al, m, cl, rfl, by omega, by rw [hst.out]; exact HlP⟩, HBp⟩
                  case measure => simp [intOf]; omega
              · have hb2 : (f == (lstR ps ws K price one s).1) = false := by simpa using h2
                have hst := Lib.hid (hkp.out h0 h1h.out (fun h => absurd h h2))
                clear h0 htk hkp h2 hsh
                go_wp2
                go_roundw
                case rel => exact ⟨_, rfl, s + 1, by omega, by go_num, by rw [hst.out], ⟨Ab, mb, cb, rfl, hmb, by rw [hst.out]; exact HbP⟩, HBp⟩
                case measure => simp [intOf]; omega
    · obtain rfl : s = NN := by omega
      have hsi : ¬ (s : Int) < (s : Int) := by omega
      go_wp2
      refine bodyPost_ret (v := .tuple #[.int .i64 (lstR ps ws K price one s).1, .slice Ab mb cb]) (by simp [results, Tryd.results86, go_sem]) rfl ?_
      have hfin : (∃ Ab' mb' cb', Ending.returned (.tuple #[.int .i64 (lstR ps ws K price one s).1, .slice Ab mb cb]) = .returned (.tuple #[.int .i64 (lstR ps ws K price one s).1, .slice Ab' mb' cb']) ∧ mb' ≤ 10 ∧ Reads wq wq.heap.size 1 Ab' mb' (ints (lstR ps ws K price one s).2)) ∧ Below w.heap.size w wq := ⟨⟨Ab, mb, cb, rfl, by omega, Hb.out⟩, HBr.out⟩
      first | exact hfin | simpa using hfin
end Go.Proofs.YtoakeclpakjbiaaDoor
