/-
  The walk of the law on sums: it returns true, whatever the input.
-/
import Derived.Test.YtoakeclpakjbiaaDoorSameM
import Derived.Test.YtoakeclpakjbiaaDoorPAll
import Derived.Test.YtoakeclpakjbiaaDoorRAll
import Derived.Test.YtoakeclpakjbiaaDoorPPf
import Derived.Test.YtoakeclpakjbiaaDoorPGon
import Derived.Test.YtoakeclpakjbiaaDoorRGon
import Derived.Test.YtoakeclpakjbiaaDoorSameI
namespace Go.Proofs.YtoakeclpakjbiaaDoor
open Go.RowKit
set_option linter.unusedVariables false
set_option linter.unusedSimpArgs false
/-- What every question reads: the argument, and the argument's copy. -/
structure LN (w : World) (ob : Nat) (A A' : Option Addr) (n c n' c' : Nat) (ps : List PR) (ws : List WE) (A1 A2 : Option Addr) (c1 c2 : Nat) (z : World) : Prop where
  b0 : z.heap[w.heap.size]? = some (.cells #[.slice A n c, .slice A' n' c'] 25 (0, 0))
  bo : z.heap[ob]? = some (.cells #[.slice A1 n c1, .slice A2 n' c2] 25 (0, 0))
  bel : Below w.heap.size w z
  r1 : Reads z z.heap.size 4 A n (pgs ps)
  r2 : Reads z z.heap.size 5 A' n' (wgs ws)
  r3 : Reads z z.heap.size 4 A1 n (pgs ps)
  r4 : Reads z z.heap.size 5 A2 n' (wgs ws)
  laid : Laid z
section
variable {w z y : World} {ob : Nat} {A A' : Option Addr} {n c n' c' : Nat} {ps : List PR} {ws : List WE} {A1 A2 : Option Addr} {c1 c2 : Nat}
theorem LN.below (h : LN w ob A A' n c n' c' ps ws A1 A2 c1 c2 z) (hb : Below z.heap.size z y) : LN w ob A A' n c n' c' ps ws A1 A2 c1 c2 y := by
  have hs2 := hb.size
  have h0 := (Array.getElem?_eq_some_iff.1 h.b0).1
  exact ⟨keepO hb h.b0, keepO hb h.bo, below_via h.bel (by omega) hb, (h.r1.below hb).more hs2, (h.r2.below hb).more hs2, (h.r3.below hb).more hs2, (h.r4.below hb).more hs2, h.laid.below hb h.laid.2.2.2⟩
theorem LN.own (h : LN w ob A A' n c n' c' ps ws A1 A2 c1 c2 z) : z.cell? ⟨ob, 0, none⟩ = some (.slice A1 n c1) ∧ z.cell? ⟨ob, 1, none⟩ = some (.slice A2 n' c2) := by
  obtain ⟨a, b, -, -⟩ := two_facts h.bo
  exact ⟨a, b⟩
theorem LN.arg (h : LN w ob A A' n c n' c' ps ws A1 A2 c1 c2 z) : z.cell? ⟨w.heap.size, 0, none⟩ = some (.slice A n c) ∧ z.cell? ⟨w.heap.size, 1, none⟩ = some (.slice A' n' c') := by
  obtain ⟨a, b, -, -⟩ := two_facts h.b0
  exact ⟨a, b⟩
end
set_option maxRecDepth 100000 in
set_option maxHeartbeats 4000000 in
theorem law_sums (A A' : Option Addr) (n c n' c' : Nat) (ps : List PR) (ws : List WE) (kind : Int) (w : World) (hnm : n ≤ maxLen) (hnm' : n' ≤ maxLen)
    (hR : Reads w w.heap.size 4 A n (pgs ps)) (hW : Reads w w.heap.size 5 A' n' (wgs ws)) (hL : Laid w) :
    Calls Tryd.prog 8 #[.agg #[.slice A n c, .slice A' n' c'], .int .i64 kind] w fun e w' => e = .returned (.bool true) ∧ Below w.heap.size w w' := by
  have gEq : Tryd.prog.eqGuardType Tryd.prog.depth 44 = false := by kernel_rfl
  have hO0 := Lib.hid (heap_alloc_new w (.cells #[.slice A n c, .slice A' n' c'] 25))
  have hB0 : Hid (Below w.heap.size w (w.alloc (.cells #[.slice A n c, .slice A' n' c'] 25))) := Lib.hid ((Below.refl _ _).alloc (Nat.le_refl _) _)
  have HGr := Lib.hid (fun z => Great_any A A' n c n' c' z)
  by_cases hg : (decide (20 < n) || decide (50 < n')) = true
  · rw [hg] at HGr
    clear hR hW hL hg
    go_enter Tryd.func8, Tryd.ntmps8
    go_wp2_with fail
    refine (HGr.out _).mono ?_
    rintro e w1 ⟨rfl, hb1⟩
    have HB1 := Lib.hid (below_via hB0.out hB0.out.size hb1)
    clear hb1
    go_wp2
    go_ret
    exact ⟨rfl, HB1.out⟩
  have hg' : (decide (20 < n) || decide (50 < n')) = false := by simpa using hg
  rw [hg'] at HGr
  have hn20 : n ≤ 20 ∧ n' ≤ 50 := by simp at hg'; omega
  clear hg hg'
  have HR0 := Lib.hid (And.intro hR (And.intro hW hL))
  have HTw := Lib.hid (fun z (hz : Below w.heap.size w z) => Twin_any A A' n c n' c' ps ws z (by omega) (by omega) ((hR.below hz).more hz.size) ((hW.below hz).more hz.size))
  clear hR hW hL
  go_enter Tryd.func8, Tryd.ntmps8
  go_wp2_with fail
  refine (HGr.out _).mono ?_
  rintro e w1 ⟨rfl, hb1⟩
  have HB1 := Lib.hid (below_via hB0.out hB0.out.size hb1)
  have HO1 := Lib.hid (keepO hb1 hO0.out)
  clear hb1
  obtain ⟨p0, p1, -, -⟩ := two_facts HO1.out
  go_wp2_with fail
  clear p0 p1
  refine (HTw.out _ HB1.out).mono ?_
  rintro e w3 ⟨A1, c1, A2, c2, rfl, ho1, ho2, hb2⟩
  have HB3 := Lib.hid (below_via HB1.out HB1.out.size hb2)
  have HO3 := Lib.hid (keepO hb2 HO1.out)
  obtain ⟨wl, hwl⟩ : ∃ wl, wl = w3.alloc (.cells #[.slice A1 n c1, .slice A2 n' c2] 25) := ⟨_, rfl⟩
  have hbl : Below w3.heap.size w3 wl := by rw [hwl]; exact (Below.refl _ _).alloc (Nat.le_refl _) _
  have HTwl : Hid (LN w w3.heap.size A A' n c n' c' ps ws A1 A2 c1 c2 wl) := by
    have hbw : Below w.heap.size w wl := below_via HB3.out HB3.out.size hbl
    obtain ⟨q1, q2, q4⟩ := HR0.out
    exact ⟨keepO hbl HO3.out, by rw [hwl]; exact heap_alloc_new _ _, hbw, (q1.below hbw).more hbw.size, (q2.below hbw).more hbw.size, Reads.of_own (own_below ho1 hbl), Reads.of_own (own_below ho2 hbl), q4.below hbw q4.2.2.2⟩
  have hwl' := Lib.hid hwl
  clear hwl hbl ho1 ho2 hb2 HB1 HO1 HB3 HO3 hO0 hB0 HGr HTw
  have HC1 := Lib.hid (fun z (K : LN w w3.heap.size A A' n c n' c' ps ws A1 A2 c1 c2 z) => pAll_any A1 A2 n c1 n' c2 ps ws kind z hnm K.r3 K.r4 K.laid)
  have HC2 := Lib.hid (fun z (K : LN w w3.heap.size A A' n c n' c' ps ws A1 A2 c1 c2 z) => rAll_any A A' n c n' c' ps ws kind z hnm hnm' K.r1 K.r2)
  have HC3 := Lib.hid (fun z (K : LN w w3.heap.size A A' n c n' c' ps ws A1 A2 c1 c2 z) => pProof_any A1 A2 n c1 n' c2 ps ws kind z hnm K.r3 K.r4 K.laid)
  rw [prp_prf] at HC3
  have HC4 := Lib.hid (fun z (K : LN w w3.heap.size A A' n c n' c' ps ws A1 A2 c1 c2 z) => rProof_any A A' n c n' c' ps ws kind z hnm hnm' K.r1 K.r2)
  have HC5 := Lib.hid (fun z (K : LN w w3.heap.size A A' n c n' c' ps ws A1 A2 c1 c2 z) => pGone_any A1 A2 n c1 n' c2 ps ws z hnm K.r3 K.r4 K.laid)
  have HC6 := Lib.hid (fun z (K : LN w w3.heap.size A A' n c n' c' ps ws A1 A2 c1 c2 z) => rGone_any A A' n c n' c' ps ws z hnm hnm' K.r1 K.r2)
  generalize allS ps ws kind = sA at *
  generalize allE ps ws kind = eA at *
  generalize prfL ps ws kind = lA at *
  generalize gonS ps ws = gS at *
  generalize gonE ps ws = gE at *
  generalize gonL ps ws = lB at *
  obtain ⟨ob, hob_⟩ : ∃ ob, ob = w3.heap.size := ⟨_, rfl⟩
  rw [← hob_] at HTwl HC1 HC2 HC3 HC4 HC5 HC6
  have hobh := Lib.hid hob_
  clear hob_
  obtain ⟨o0, o1⟩ := HTwl.out.own
  rw [hwl'.out, hobh.out] at o0 o1
  go_wp2_with fail
  rw [← hwl'.out, ← hobh.out]
  clear o0 o1 hwl' hobh
  refine (HC1.out wl HTwl.out).mono ?_
  rintro e z1 ⟨rfl, hb⟩
  have HTz1 := Lib.hid (HTwl.out.below hb)
  clear hb
  obtain ⟨y1, hy1⟩ : ∃ y1, y1 = z1.alloc (.cells #[.int .i64 sA.1, .int .i64 sA.2] 44) := ⟨_, rfl⟩
  have hb : Below z1.heap.size z1 y1 := by rw [hy1]; exact (Below.refl _ _).alloc (Nat.le_refl _) _
  have HTy1 := Lib.hid (HTz1.out.below hb)
  have XA0 : Hid (y1.heap[z1.heap.size]? = some (.cells #[.int .i64 sA.1, .int .i64 sA.2] 44 (0, 0))) := by show _ = _; rw [hy1]; exact heap_alloc_new _ _
  have hy1' := Lib.hid hy1
  clear hb hy1
  obtain ⟨o0, o1⟩ := HTy1.out.arg
  rw [hy1'.out] at o0 o1
  go_wp2_with fail
  clear o0 o1
  rw [← hy1'.out]
  clear hy1'
  refine (HC2.out y1 HTy1.out).mono ?_
  rintro e z2 ⟨rfl, hb⟩
  have HTz2 := Lib.hid (HTy1.out.below hb)
  replace XA0 := Lib.hid (keepO hb XA0.out)
  clear hb
  obtain ⟨y2, hy2⟩ : ∃ y2, y2 = z2.alloc (.cells #[.int .i64 sA.1, .int .i64 sA.2] 44) := ⟨_, rfl⟩
  have hb : Below z2.heap.size z2 y2 := by rw [hy2]; exact (Below.refl _ _).alloc (Nat.le_refl _) _
  have HTy2 := Lib.hid (HTz2.out.below hb)
  replace XA0 := Lib.hid (keepO hb XA0.out)
  have XA1 : Hid (y2.heap[z2.heap.size]? = some (.cells #[.int .i64 sA.1, .int .i64 sA.2] 44 (0, 0))) := by show _ = _; rw [hy2]; exact heap_alloc_new _ _
  have hy2' := Lib.hid hy2
  clear hb hy2
  obtain ⟨o0, o1⟩ := HTy2.out.own
  rw [hy2'.out] at o0 o1
  go_wp2_with fail
  clear o0 o1
  rw [← hy2'.out]
  clear hy2'
  refine (HC3.out y2 HTy2.out).mono ?_
  rintro e z3 ⟨⟨Aq2, mq2, cq2, rfl, hm2, hq2⟩, hb⟩
  have HTz3 := Lib.hid (HTy2.out.below hb)
  have HQ2 := Lib.hid hq2
  clear hq2
  replace XA0 := Lib.hid (keepO hb XA0.out)
  replace XA1 := Lib.hid (keepO hb XA1.out)
  clear hb
  obtain ⟨o0, o1⟩ := HTz3.out.arg
  go_wp2_with fail
  clear o0 o1
  refine (HC4.out z3 HTz3.out).mono ?_
  rintro e z4 ⟨⟨Aq3, mq3, cq3, rfl, hm3, hq3⟩, hb⟩
  have HTz4 := Lib.hid (HTz3.out.below hb)
  have HQ3 := Lib.hid hq3
  clear hq3
  replace XA0 := Lib.hid (keepO hb XA0.out)
  replace XA1 := Lib.hid (keepO hb XA1.out)
  replace HQ2 := Lib.hid ((HQ2.out.below hb).more hb.size)
  clear hb
  obtain ⟨o0, o1⟩ := HTz4.out.own
  go_wp2_with fail
  clear o0 o1
  refine (HC5.out z4 HTz4.out).mono ?_
  rintro e z5 ⟨⟨Aq4, mq4, cq4, rfl, hm4, hq4⟩, hb⟩
  have HTz5 := Lib.hid (HTz4.out.below hb)
  have HQ4 := Lib.hid hq4
  clear hq4
  replace XA0 := Lib.hid (keepO hb XA0.out)
  replace XA1 := Lib.hid (keepO hb XA1.out)
  replace HQ2 := Lib.hid ((HQ2.out.below hb).more hb.size)
  replace HQ3 := Lib.hid ((HQ3.out.below hb).more hb.size)
  clear hb
  obtain ⟨o0, o1⟩ := HTz5.out.arg
  go_wp2_with fail
  clear o0 o1
  refine (HC6.out z5 HTz5.out).mono ?_
  rintro e z6 ⟨⟨Aq5, mq5, cq5, rfl, hm5, hq5⟩, hb⟩
  have HTz6 := Lib.hid (HTz5.out.below hb)
  have HQ5 := Lib.hid hq5
  clear hq5
  replace XA0 := Lib.hid (keepO hb XA0.out)
  replace XA1 := Lib.hid (keepO hb XA1.out)
  replace HQ2 := Lib.hid ((HQ2.out.below hb).more hb.size)
  replace HQ3 := Lib.hid ((HQ3.out.below hb).more hb.size)
  replace HQ4 := Lib.hid ((HQ4.out.below hb).more hb.size)
  clear hb
  obtain ⟨m00, m01, -, -⟩ := two_facts XA0.out
  obtain ⟨m10, m11, -, -⟩ := two_facts XA1.out
  go_wp2_with fail
  clear m00 m01 m10 m11 XA0 XA1
  refine (sameInts_any Aq2 Aq3 mq2 mq3 cq2 cq3 lA lA z6 (by unfold maxLen; omega) (by unfold maxLen; omega) HQ2.out HQ3.out).mono ?_
  rintro e z7 ⟨rfl, kq, hzq⟩
  have hb : Below z6.heap.size z6 z7 := by rw [hzq]; exact below_drewN (Below.refl _ _) kq
  clear hzq
  rw [decide_eq_true (rfl : lA = lA)]
  have HTz7 := Lib.hid (HTz6.out.below hb)
  replace HQ2 := Lib.hid ((HQ2.out.below hb).more hb.size)
  replace HQ3 := Lib.hid ((HQ3.out.below hb).more hb.size)
  replace HQ4 := Lib.hid ((HQ4.out.below hb).more hb.size)
  replace HQ5 := Lib.hid ((HQ5.out.below hb).more hb.size)
  clear hb
  go_wp2_with fail
  refine (sameMissing_eq Aq4 Aq5 mq4 mq5 cq4 cq5 lB z7 hm4 HQ4.out HQ5.out).mono ?_
  rintro e z8 ⟨rfl, kq, hzq⟩
  have hb : Below z7.heap.size z7 z8 := by rw [hzq]; exact below_drewN (Below.refl _ _) kq
  clear hzq
  have HTz8 := Lib.hid (HTz7.out.below hb)
  replace HQ2 := Lib.hid ((HQ2.out.below hb).more hb.size)
  replace HQ3 := Lib.hid ((HQ3.out.below hb).more hb.size)
  replace HQ4 := Lib.hid ((HQ4.out.below hb).more hb.size)
  replace HQ5 := Lib.hid ((HQ5.out.below hb).more hb.size)
  clear hb
  obtain ⟨o0, o1⟩ := HTz8.out.own
  obtain ⟨p0, p1⟩ := HTz8.out.arg
  go_wp2_with fail
  clear o0 o1 p0 p1
  refine (Same_eq A1 A2 A A' n c1 n' c2 c c' ps ws z8 hnm hnm' HTz8.out.r3 HTz8.out.r4 HTz8.out.r1 HTz8.out.r2).mono ?_
  rintro e z9 ⟨rfl, hb⟩
  have HTz9 := Lib.hid (HTz8.out.below hb)
  clear hb
  go_wp2
  go_ret
  exact ⟨rfl, HTz9.out.bel⟩
end Go.Proofs.YtoakeclpakjbiaaDoor
