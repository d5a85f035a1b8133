/-
  The walk of the law on the first truth: it returns true, whatever the input.
-/
import Derived.Test.YtoakeclpakjbiaaDoorPv
import Derived.Test.YtoakeclpakjbiaaDoorRFir
import Derived.Test.YtoakeclpakjbiaaDoorPSame
namespace Go.Proofs.YtoakeclpakjbiaaDoor
open Go.RowKit
set_option linter.unusedVariables false
set_option linter.unusedSimpArgs false

theorem own_maxT {w : World} {base n size : Nat} {t : TypeId} {v : Value} {xs : List Value} (h : w.ownsRow base t size v n xs) : n ≤ maxLen := by
  rcases h.2 with ⟨-, h0⟩ | ⟨g1, cap', cur, h1, h2, h3, h4, h5, -⟩
  · rw [h0]; unfold maxLen; omega
  · omega
theorem wds_one (l : List (Nat → Int)) : ∀ u ∈ wds l, u.oneCell' = true := by
  intro u hu
  simp only [wds, List.mem_flatMap] at hu
  obtain ⟨a, _, h⟩ := hu
  exact wdc_one a u h
/-- What every question reads: the argument and its copy, the list and its copy. -/
structure LF (w : World) (ob : Nat) (A A' : Option Addr) (n c n' c' : Nat) (ps : List PR) (ws : List WE) (A1 A2 : Option Addr) (c1 c2 : Nat) (Al Ak : Option Addr) (m : Nat) (l : List (Nat → Int)) (z : World) : Prop where
  b0 : z.heap[w.heap.size]? = some (.cells #[.slice A n c, .slice A' n' c'] 25 (0, 0))
  bo : z.heap[ob]? = some (.cells #[.slice A1 n c1, .slice A2 n' c2] 25 (0, 0))
  bel : Below w.heap.size w z
  r1 : Reads z z.heap.size 4 A n (pgs ps)
  r2 : Reads z z.heap.size 5 A' n' (wgs ws)
  r3 : Reads z z.heap.size 4 A1 n (pgs ps)
  r4 : Reads z z.heap.size 5 A2 n' (wgs ws)
  rl : Reads z z.heap.size 8 Al m (wds l)
  rk : Reads z z.heap.size 8 Ak m (wds l)
  laid : Laid z
section
variable {w z y : World} {ob : Nat} {A A' : Option Addr} {n c n' c' : Nat} {ps : List PR} {ws : List WE} {A1 A2 : Option Addr} {c1 c2 : Nat} {Al Ak : Option Addr} {m : Nat} {l : List (Nat → Int)}
theorem LF.below (h : LF w ob A A' n c n' c' ps ws A1 A2 c1 c2 Al Ak m l z) (hb : Below z.heap.size z y) : LF w ob A A' n c n' c' ps ws A1 A2 c1 c2 Al Ak m l y := by
  have hs2 := hb.size
  have h0 := (Array.getElem?_eq_some_iff.1 h.b0).1
  exact ⟨keepO hb h.b0, keepO hb h.bo, below_via h.bel (by omega) hb, (h.r1.below hb).more hs2, (h.r2.below hb).more hs2, (h.r3.below hb).more hs2, (h.r4.below hb).more hs2, (h.rl.below hb).more hs2, (h.rk.below hb).more hs2, h.laid.below hb h.laid.2.2.2⟩
theorem LF.own (h : LF w ob A A' n c n' c' ps ws A1 A2 c1 c2 Al Ak m l z) : z.cell? ⟨ob, 0, none⟩ = some (.slice A1 n c1) ∧ z.cell? ⟨ob, 1, none⟩ = some (.slice A2 n' c2) := by
  obtain ⟨a, b, -, -⟩ := two_facts h.bo
  exact ⟨a, b⟩
theorem LF.arg (h : LF w ob A A' n c n' c' ps ws A1 A2 c1 c2 Al Ak m l z) : z.cell? ⟨w.heap.size, 0, none⟩ = some (.slice A n c) ∧ z.cell? ⟨w.heap.size, 1, none⟩ = some (.slice A' n' c') := by
  obtain ⟨a, b, -, -⟩ := two_facts h.b0
  exact ⟨a, b⟩
end

set_option maxRecDepth 100000 in
set_option maxHeartbeats 8000000 in
theorem law_first (A A' Al : Option Addr) (n c n' c' m cl : Nat) (ps : List PR) (ws : List WE) (l : List (Nat → Int)) (w : World) (hnm : n ≤ maxLen) (hnm' : n' ≤ maxLen) (hmm : m ≤ maxLen)
    (hR : Reads w w.heap.size 4 A n (pgs ps)) (hW : Reads w w.heap.size 5 A' n' (wgs ws)) (hLr : Reads w w.heap.size 8 Al m (wds l)) (hL : Laid w) :
    Calls Tryd.prog 3 #[.agg #[.slice A n c, .slice A' n' c'], .slice Al m cl] w fun e w' => e = .returned (.bool true) ∧ Below w.heap.size w w' := by
  have hO0 := Lib.hid (heap_alloc_new w (.cells #[.slice A n c, .slice A' n' c'] 25))
  have hB0 : Hid (Below w.heap.size w (w.alloc (.cells #[.slice A n c, .slice A' n' c'] 25))) := (Below.refl _ _).alloc (Nat.le_refl _) _
  have hZ0 : Hid ((w.alloc (.cells #[.slice A n c, .slice A' n' c'] 25)).heap.size = w.heap.size + 1) := by show _ = _; simp
  have HGr := Lib.hid (fun z => Great_any A A' n c n' c' z)
  by_cases hg : (decide (20 < n) || decide (50 < n')) = true
  · rw [hg] at HGr
    clear hR hW hL hLr hg
    go_enter Tryd.func3, Tryd.ntmps3
    go_wp2_with fail
    refine (HGr.out _).mono ?_
    rintro e w1 ⟨rfl, hb1⟩
    have HB1 := Lib.hid (below_via hB0.out hB0.out.size hb1)
    clear hb1
    go_wp2
    go_ret
    exact ⟨rfl, HB1.out⟩
  have hg' : (decide (20 < n) || decide (50 < n')) = false := by simpa using hg
  rw [hg'] at HGr
  have hn20 : n ≤ 20 ∧ n' ≤ 50 := by simp at hg'; omega
  clear hg hg'
  by_cases hm20 : 20 < m
  · have hmi : (m : Int) > 20 := by omega
    clear hR hW hL hLr hm20
    unfold maxLen at hmm
    go_enter Tryd.func3, Tryd.ntmps3
    go_wp2_with fail
    refine (HGr.out _).mono ?_
    rintro e w1 ⟨rfl, hb1⟩
    have HB1 := Lib.hid (below_via hB0.out hB0.out.size hb1)
    clear hb1
    go_wp2
    go_ret
    exact ⟨rfl, HB1.out⟩
  have hmi : ¬ (m : Int) > 20 := by omega
  have HR0 := Lib.hid (And.intro hR (And.intro hW (And.intro hLr hL)))
  have HTw := Lib.hid (fun z (hz : Below w.heap.size w z) => Twin_any A A' n c n' c' ps ws z (by omega) (by omega) ((hR.below hz).more hz.size) ((hW.below hz).more hz.size))
  obtain ⟨iw, hiw, hw0, hw1, hw2⟩ := info_parts info_wd
  clear hR hW hL hLr
  go_enter Tryd.func3, Tryd.ntmps3
  go_wp2_with fail
  refine (HGr.out _).mono ?_
  rintro e w1 ⟨rfl, hb1⟩
  have HB1 := Lib.hid (below_via hB0.out hB0.out.size hb1)
  have HO1 := Lib.hid (keepO hb1 hO0.out)
  clear hb1
  obtain ⟨p0, p1, -, -⟩ := two_facts HO1.out
  go_wp2_with fail
  clear p0 p1
  refine (HTw.out _ HB1.out).mono ?_
  rintro e w3 ⟨A1, c1, A2, c2, rfl, ho1, ho2, hb2⟩
  have HB3 := Lib.hid (below_via HB1.out HB1.out.size hb2)
  have HO3 := Lib.hid (keepO hb2 HO1.out)
  have HOw := Lib.hid (And.intro ho1 ho2)
  clear ho1 ho2 hb2
  have HL3 : Hid (Reads (w3.alloc (.cells #[] 101)) w3.heap.size 8 Al m (wds l)) := (((HR0.out.2.2.1.below HB3.out).more HB3.out.size)).alloc (Nat.le_refl _) _
  go_wp2_with (at_builtin; refine wpList_app _ rfl _ _ 26 rfl w3.heap.size 101 iw _ 8 64 Tryd.underlying26 hiw hw0 hw1 hw2 rfl (by decide) _ _ _ rfl (World.ownsRow_lit w3 #[] 0 (Nat.le_refl _) (by unfold maxLen; omega) rfl) w3.heap.size Al m cl (wds l) rfl HL3.out (wds_one _) ?c3 ?c4 ?c5 ?_)
  case c3 => unfold maxLen; omega
  case c4 => omega
  case c5 => simp
  intro v5 w4 hown4 hgr4 hat4
  have HO4 := Lib.hid hown4
  have HB4 : Hid (Below w3.heap.size w3 w4) := ((Below.refl _ _).alloc (Nat.le_refl _) _).grown hgr4 (by simp) (fun k hk => by simp [Value.ownBlock] at hk; omega)
  obtain ⟨Ak, ck, hv5⟩ := own_val hown4
  rw [hv5]
  clear hown4 hgr4 hat4
  try simp only [Nat.zero_add] at hv5
  have e0 : 0 + m = m := Nat.zero_add m
  obtain ⟨wl, hwl⟩ : ∃ wl, wl = w4.alloc (.cells #[.slice A1 n c1, .slice A2 n' c2] 25) := ⟨_, rfl⟩
  have hbl : Below w4.heap.size w4 wl := by rw [hwl]; exact (Below.refl _ _).alloc (Nat.le_refl _) _
  have HTwl : Hid (LF w w4.heap.size A A' n c n' c' ps ws A1 A2 c1 c2 Al Ak m l wl) := by
    have hb3l : Below w3.heap.size w3 wl := below_via HB4.out HB4.out.size hbl
    have hbw : Below w.heap.size w wl := below_via HB3.out HB3.out.size hb3l
    obtain ⟨q1, q2, q3, q4⟩ := HR0.out
    have ho4 := HO4.out
    rw [hv5] at ho4
    try simp only [Nat.zero_add, List.nil_append] at ho4
    exact ⟨keepO hb3l HO3.out, by rw [hwl]; exact heap_alloc_new _ _, hbw, (q1.below hbw).more hbw.size, (q2.below hbw).more hbw.size, Reads.of_own (own_below HOw.out.1 hb3l), Reads.of_own (own_below HOw.out.2 hb3l), (q3.below hbw).more hbw.size, Reads.of_own (own_below ho4 hbl), q4.below hbw q4.2.2.2⟩
  have hwl' := Lib.hid hwl
  clear hwl hbl HB1 HO1 HB3 HO3 hO0 hB0 hZ0 HGr HTw HL3 HO4 HB4 HOw
  try rw [e0]
  clear e0 hiw hw0 hw1 hw2 hv5
  have HC1 := Lib.hid (fun z (K : LF w w4.heap.size A A' n c n' c' ps ws A1 A2 c1 c2 Al Ak m l z) => pFirst_any A1 A2 n c1 n' c2 ps ws z hnm K.r3 K.r4 K.laid)
  have HC2 := Lib.hid (fun z (K : LF w w4.heap.size A A' n c n' c' ps ws A1 A2 c1 c2 Al Ak m l z) => rFirst_any A A' n c n' c' ps ws z hnm hnm' K.r1 K.r2)
  have HC3 := Lib.hid (fun z (K : LF w w4.heap.size A A' n c n' c' ps ws A1 A2 c1 c2 Al Ak m l z) => pValid_any A1 A2 Ak n c1 n' c2 m ck ps ws l z K.r3 K.r4 K.rk (by omega) K.laid)
  have HC4 := Lib.hid (fun z (K : LF w w4.heap.size A A' n c n' c' ps ws A1 A2 c1 c2 Al Ak m l z) => rValid_any A A' Al n c n' c' m cl ps ws l z hnm hnm' K.r1 K.r2 K.rl (by omega))
  generalize firS ps ws = la at *
  generalize firE ps ws = ea at *
  generalize valB ps ws l = bv at *
  generalize checkS ps ws = ek at *
  obtain ⟨ob, hob_⟩ : ∃ ob, ob = w4.heap.size := ⟨_, rfl⟩
  rw [← hob_] at HTwl HC1 HC2 HC3 HC4
  have hobh := Lib.hid hob_
  clear hob_
  obtain ⟨o0, o1⟩ := HTwl.out.own
  rw [hwl'.out, hobh.out] at o0 o1
  go_wp2_with fail
  rw [← hwl'.out, ← hobh.out]
  clear o0 o1 hwl' hobh
  refine (HC1.out wl HTwl.out).mono ?_
  rintro e z1 ⟨⟨Aa, ma, ca, rfl, hu⟩, hb⟩
  have HU1 := Lib.hid hu
  have HTz1 := Lib.hid (HTwl.out.below hb)
  clear hu hb HC1
  obtain ⟨p0, p1⟩ := HTz1.out.arg
  go_wp2_with fail
  clear p0 p1
  refine (HC2.out z1 HTz1.out).mono ?_
  rintro e z2 ⟨⟨Ab, mb, cb, rfl, hu⟩, hb⟩
  have HU2 := Lib.hid hu
  replace HU1 := Lib.hid (ownR_below HU1.out hb)
  have HTz2 := Lib.hid (HTz1.out.below hb)
  clear hu hb HC2
  obtain rfl : ma = mb := (wds_len (Reads.of_own HU1.out)).symm.trans (wds_len (Reads.of_own HU2.out))
  obtain ⟨o0, o1⟩ := HTz2.out.own
  go_wp2_with fail
  clear o0 o1
  refine (HC3.out z2 HTz2.out).mono ?_
  rintro e z3 ⟨rfl, hb⟩
  replace HU1 := Lib.hid (ownR_below HU1.out hb)
  replace HU2 := Lib.hid (ownR_below HU2.out hb)
  have HTz3 := Lib.hid (HTz2.out.below hb)
  clear hb HC3
  obtain ⟨p0, p1⟩ := HTz3.out.arg
  go_wp2_with fail
  clear p0 p1
  refine (HC4.out z3 HTz3.out).mono ?_
  rintro e z4 ⟨rfl, hb⟩
  replace HU1 := Lib.hid (ownR_below HU1.out hb)
  replace HU2 := Lib.hid (ownR_below HU2.out hb)
  have HTz4 := Lib.hid (HTz3.out.below hb)
  clear hb HC4
  go_wp2_with fail
  refine (sameW_eq Aa Ab ma ca cb la z4 (own_maxT HU1.out) (Reads.of_own HU1.out) (Reads.of_own HU2.out)).mono ?_
  rintro e z5 ⟨rfl, hb⟩
  have HTz5 := Lib.hid (HTz4.out.below hb)
  clear hb HU1 HU2
  obtain ⟨o0, o1⟩ := HTz5.out.own
  obtain ⟨p0, p1⟩ := HTz5.out.arg
  go_wp2_with fail
  clear o0 o1 p0 p1
  refine (Same_eq A1 A2 A A' n c1 n' c2 c c' ps ws z5 hnm hnm' HTz5.out.r3 HTz5.out.r4 HTz5.out.r1 HTz5.out.r2).mono ?_
  rintro e z6 ⟨rfl, hb⟩
  have HTz6 := Lib.hid (HTz5.out.below hb)
  clear hb
  go_wp2_with fail
  refine (sameW_eq Ak Al m ck cl l z6 (by unfold maxLen; omega) HTz6.out.rk HTz6.out.rl).mono ?_
  rintro e z7 ⟨rfl, hb⟩
  have HTz7 := Lib.hid (HTz6.out.below hb)
  clear hb
  go_wp2
  go_ret
  exact ⟨rfl, HTz7.out.bel⟩
end Go.Proofs.YtoakeclpakjbiaaDoor
