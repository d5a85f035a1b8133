/-
  PressYields, the tied card: for every press, number and part the law returns true, and its arguments read as before. The package's table of checks is laid as the program's text lays it (the given tie).
-/
import Derived.Test.YtoakeclpakjbiaaDoorRLs
import Derived.Test.YtoakeclpakjbiaaDoorPSame
import Derived.Test.YtoakeclpakjbiaaDoorPLaid
import Derived.Test.YtoakeclpakjbiaaDoorCards
import Derived.Test.YtoakeclpakjbiaaDoorTie
import Derived.SevenTiedAt
namespace Go.Proofs.YtoakeclpakjbiaaDoor
open Go.RowKit
set_option linter.unusedVariables false
set_option linter.unusedSimpArgs false

/-- What every question reads: the argument, a part, and the argument's copy. -/
structure LY (w : World) (ob : Nat) (A A' : Option Addr) (n c n' c' : Nat) (ps : List PR) (ws : List WE) (A1 A2 : Option Addr) (c1 c2 : Nat) (N D : Int) (z : World) : Prop where
  b0 : z.heap[w.heap.size]? = some (.cells #[.slice A n c, .slice A' n' c'] 25 (0, 0))
  b1 : z.heap[w.heap.size + 1]? = some (.cells #[.int .i64 N, .int .i64 D] 61 (0, 0))
  bo : z.heap[ob]? = some (.cells #[.slice A1 n c1, .slice A2 n' c2] 25 (0, 0))
  bel : Below w.heap.size w z
  r1 : Reads z z.heap.size 4 A n (pgs ps)
  r2 : Reads z z.heap.size 5 A' n' (wgs ws)
  r3 : Reads z z.heap.size 4 A1 n (pgs ps)
  r4 : Reads z z.heap.size 5 A2 n' (wgs ws)
  laid : Laid z
section
variable {w z y : World} {ob : Nat} {A A' : Option Addr} {n c n' c' : Nat} {ps : List PR} {ws : List WE} {A1 A2 : Option Addr} {c1 c2 : Nat} {N D : Int}
theorem LY.below (h : LY w ob A A' n c n' c' ps ws A1 A2 c1 c2 N D z) (hb : Below z.heap.size z y) : LY w ob A A' n c n' c' ps ws A1 A2 c1 c2 N D y := by
  have hs2 := hb.size
  have h0 := (Array.getElem?_eq_some_iff.1 h.b0).1
  exact ⟨keepO hb h.b0, keepO hb h.b1, keepO hb h.bo, below_via h.bel (by omega) hb, (h.r1.below hb).more hs2, (h.r2.below hb).more hs2, (h.r3.below hb).more hs2, (h.r4.below hb).more hs2, h.laid.below hb h.laid.2.2.2⟩
theorem LY.own (h : LY w ob A A' n c n' c' ps ws A1 A2 c1 c2 N D z) : z.cell? ⟨ob, 0, none⟩ = some (.slice A1 n c1) ∧ z.cell? ⟨ob, 1, none⟩ = some (.slice A2 n' c2) := by
  obtain ⟨a, b, -, -⟩ := two_facts h.bo
  exact ⟨a, b⟩
theorem LY.arg (h : LY w ob A A' n c n' c' ps ws A1 A2 c1 c2 N D z) : z.cell? ⟨w.heap.size, 0, none⟩ = some (.slice A n c) ∧ z.cell? ⟨w.heap.size, 1, none⟩ = some (.slice A' n' c') := by
  obtain ⟨a, b, -, -⟩ := two_facts h.b0
  exact ⟨a, b⟩
end

set_option maxRecDepth 100000 in
set_option maxHeartbeats 4000000 in
theorem law_yields (A A' : Option Addr) (n c n' c' : Nat) (ps : List PR) (ws : List WE) (id N D : Int) (w : World) (hnm : n ≤ maxLen) (hnm' : n' ≤ maxLen)
    (hR : Reads w w.heap.size 4 A n (pgs ps)) (hW : Reads w w.heap.size 5 A' n' (wgs ws)) (hL : Laid w) :
    Calls Tryd.prog 5 #[.agg #[.slice A n c, .slice A' n' c'], .int .i64 id, .agg #[.int .i64 N, .int .i64 D]] w fun e w' => e = .returned (.bool true) ∧ Below w.heap.size w w' := by
  have gEq : Tryd.prog.eqGuardType Tryd.prog.depth 61 = false := by kernel_rfl
  have hb00 : Below w.heap.size w ((w.alloc (.cells #[.slice A n c, .slice A' n' c'] 25)).alloc (.cells #[.int .i64 N, .int .i64 D] 61)) := ((Below.refl _ _).alloc (Nat.le_refl _) _).alloc (by simp) _
  have hO0 : Hid (((w.alloc (.cells #[.slice A n c, .slice A' n' c'] 25)).alloc (.cells #[.int .i64 N, .int .i64 D] 61)).heap[w.heap.size]? = some (.cells #[.slice A n c, .slice A' n' c'] 25 (0, 0))) := by show _ = _; rw [heap_lt_alloc' _ _ _ (by simp)]; exact heap_alloc_new w (.cells #[.slice A n c, .slice A' n' c'] 25)
  have hO1 : Hid (((w.alloc (.cells #[.slice A n c, .slice A' n' c'] 25)).alloc (.cells #[.int .i64 N, .int .i64 D] 61)).heap[w.heap.size + 1]? = some (.cells #[.int .i64 N, .int .i64 D] 61 (0, 0))) := by show _ = _; have := heap_alloc_new (w.alloc (.cells #[.slice A n c, .slice A' n' c'] 25)) (.cells #[.int .i64 N, .int .i64 D] 61); simpa using this
  have hB0 := Lib.hid hb00
  have HGr := Lib.hid (fun z => Great_any A A' n c n' c' z)
  clear hb00
  by_cases hg : (decide (20 < n) || decide (50 < n')) = true
  · rw [hg] at HGr
    clear hR hW hL hg
    go_enter Tryd.func5, Tryd.ntmps5
    go_wp2_with fail
    refine (HGr.out _).mono ?_
    rintro e w1 ⟨rfl, hb1⟩
    have HB1 := Lib.hid (below_via hB0.out hB0.out.size hb1)
    clear hb1
    go_wp2
    go_ret
    exact ⟨rfl, HB1.out⟩
  have hg' : (decide (20 < n) || decide (50 < n')) = false := by simpa using hg
  rw [hg'] at HGr
  have hn20 : n ≤ 20 ∧ n' ≤ 50 := by simp at hg'; omega
  clear hg hg'
  have HR0 := Lib.hid (And.intro hR (And.intro hW hL))
  have HTw := Lib.hid (fun z (hz : Below w.heap.size w z) => Twin_any A A' n c n' c' ps ws z (by omega) (by omega) ((hR.below hz).more hz.size) ((hW.below hz).more hz.size))
  clear hR hW hL
  go_enter Tryd.func5, Tryd.ntmps5
  go_wp2_with fail
  refine (HGr.out _).mono ?_
  rintro e w1 ⟨rfl, hb1⟩
  have HB1 := Lib.hid (below_via hB0.out hB0.out.size hb1)
  have HO1 := Lib.hid (keepO hb1 hO0.out)
  have HO1p := Lib.hid (keepO hb1 hO1.out)
  clear hb1
  obtain ⟨p0, p1, -, -⟩ := two_facts HO1.out
  go_wp2_with fail
  clear p0 p1
  refine (HTw.out _ HB1.out).mono ?_
  rintro e w3 ⟨A1, c1, A2, c2, rfl, ho1, ho2, hb2⟩
  have HB3 := Lib.hid (below_via HB1.out HB1.out.size hb2)
  have HO3 := Lib.hid (keepO hb2 HO1.out)
  have HO3p := Lib.hid (keepO hb2 HO1p.out)
  obtain ⟨wl, hwl⟩ : ∃ wl, wl = w3.alloc (.cells #[.slice A1 n c1, .slice A2 n' c2] 25) := ⟨_, rfl⟩
  have hbl : Below w3.heap.size w3 wl := by rw [hwl]; exact (Below.refl _ _).alloc (Nat.le_refl _) _
  have HTwl : Hid (LY w w3.heap.size A A' n c n' c' ps ws A1 A2 c1 c2 N D wl) := by
    have hbw : Below w.heap.size w wl := below_via HB3.out HB3.out.size hbl
    obtain ⟨q1, q2, q4⟩ := HR0.out
    exact ⟨keepO hbl HO3.out, keepO hbl HO3p.out, by rw [hwl]; exact heap_alloc_new _ _, hbw, (q1.below hbw).more hbw.size, (q2.below hbw).more hbw.size, Reads.of_own (own_below ho1 hbl), Reads.of_own (own_below ho2 hbl), q4.below hbw q4.2.2.2⟩
  have hwl' := Lib.hid hwl
  clear hwl hbl ho1 ho2 hb2 HB1 HO1 HB3 HO3 hO0 hB0 HGr HTw HO1p HO3p hO1
  have HC1 := Lib.hid (fun z (K : LY w w3.heap.size A A' n c n' c' ps ws A1 A2 c1 c2 N D z) => pYield_any A1 A2 n c1 n' c2 ps ws id z hnm K.r3 K.r4 K.laid)
  have HC2 := Lib.hid (fun z (K : LY w w3.heap.size A A' n c n' c' ps ws A1 A2 c1 c2 N D z) => rYield_any A A' n c n' c' ps ws id z hnm hnm' K.r1 K.r2)
  have HC3 := Lib.hid (fun z (K : LY w w3.heap.size A A' n c n' c' ps ws A1 A2 c1 c2 N D z) => pLess_any A1 A2 n c1 n' c2 ps ws id N D z hnm K.r3 K.r4 K.laid)
  have HC4 := Lib.hid (fun z (K : LY w w3.heap.size A A' n c n' c' ps ws A1 A2 c1 c2 N D z) => rLess_any A A' n c n' c' ps ws id N D z hnm hnm' K.r1 K.r2)
  generalize yldA ps ws id = sA at *
  generalize yldB ps ws id = sB at *
  generalize yldE ps ws id = eA at *
  generalize lesK ps ws id N D = kB at *
  generalize lesE ps ws id N D = eB at *
  obtain ⟨ob, hob_⟩ : ∃ ob, ob = w3.heap.size := ⟨_, rfl⟩
  rw [← hob_] at HTwl HC1 HC2 HC3 HC4
  have hobh := Lib.hid hob_
  clear hob_
  obtain ⟨o0, o1⟩ := HTwl.out.own
  obtain ⟨d0, d1, -, -⟩ := two_facts HTwl.out.b1
  rw [hwl'.out, hobh.out] at o0 o1
  rw [hwl'.out] at d0 d1
  go_wp2_with fail
  rw [← hwl'.out, ← hobh.out]
  clear o0 o1 d0 d1 hwl' hobh
  refine (HC1.out wl HTwl.out).mono ?_
  rintro e z1 ⟨rfl, hb⟩
  have HTz1 := Lib.hid (HTwl.out.below hb)
  clear hb
  obtain ⟨y1, hy1⟩ : ∃ y1, y1 = (z1.alloc (.cells #[.int .i64 sA.1, .int .i64 sA.2] 61)).alloc (.cells #[.int .i64 sB.1, .int .i64 sB.2] 61) := ⟨_, rfl⟩
  have hb : Below z1.heap.size z1 y1 := by rw [hy1]; exact ((Below.refl _ _).alloc (Nat.le_refl _) _).alloc (by simp) _
  have HTy1 := Lib.hid (HTz1.out.below hb)
  have XA0 : Hid (y1.heap[z1.heap.size]? = some (.cells #[.int .i64 sA.1, .int .i64 sA.2] 61 (0, 0))) := by show _ = _; rw [hy1, heap_lt_alloc' _ _ _ (by simp)]; exact heap_alloc_new _ _
  have XB0 : Hid (y1.heap[z1.heap.size + 1]? = some (.cells #[.int .i64 sB.1, .int .i64 sB.2] 61 (0, 0))) := by show _ = _; rw [hy1]; have := heap_alloc_new (z1.alloc (.cells #[.int .i64 sA.1, .int .i64 sA.2] 61)) (.cells #[.int .i64 sB.1, .int .i64 sB.2] 61); simpa using this
  have hy1' := Lib.hid hy1
  clear hb hy1
  obtain ⟨o0, o1⟩ := HTy1.out.arg
  obtain ⟨d0, d1, -, -⟩ := two_facts HTy1.out.b1
  rw [hy1'.out] at o0 o1 d0 d1
  go_wp2_with fail
  clear o0 o1 d0 d1
  rw [← hy1'.out]
  clear hy1'
  refine (HC2.out y1 HTy1.out).mono ?_
  rintro e z2 ⟨rfl, hb⟩
  have HTz2 := Lib.hid (HTy1.out.below hb)
  replace XA0 := Lib.hid (keepO hb XA0.out)
  replace XB0 := Lib.hid (keepO hb XB0.out)
  clear hb
  obtain ⟨y2, hy2⟩ : ∃ y2, y2 = (z2.alloc (.cells #[.int .i64 sA.1, .int .i64 sA.2] 61)).alloc (.cells #[.int .i64 sB.1, .int .i64 sB.2] 61) := ⟨_, rfl⟩
  have hb : Below z2.heap.size z2 y2 := by rw [hy2]; exact ((Below.refl _ _).alloc (Nat.le_refl _) _).alloc (by simp) _
  have HTy2 := Lib.hid (HTz2.out.below hb)
  replace XA0 := Lib.hid (keepO hb XA0.out)
  replace XB0 := Lib.hid (keepO hb XB0.out)
  have XA1 : Hid (y2.heap[z2.heap.size]? = some (.cells #[.int .i64 sA.1, .int .i64 sA.2] 61 (0, 0))) := by show _ = _; rw [hy2, heap_lt_alloc' _ _ _ (by simp)]; exact heap_alloc_new _ _
  have XB1 : Hid (y2.heap[z2.heap.size + 1]? = some (.cells #[.int .i64 sB.1, .int .i64 sB.2] 61 (0, 0))) := by show _ = _; rw [hy2]; have := heap_alloc_new (z2.alloc (.cells #[.int .i64 sA.1, .int .i64 sA.2] 61)) (.cells #[.int .i64 sB.1, .int .i64 sB.2] 61); simpa using this
  have hy2' := Lib.hid hy2
  clear hb hy2
  obtain ⟨o0, o1⟩ := HTy2.out.own
  obtain ⟨d0, d1, -, -⟩ := two_facts HTy2.out.b1
  rw [hy2'.out] at o0 o1 d0 d1
  go_wp2_with fail
  clear o0 o1 d0 d1
  rw [← hy2'.out]
  clear hy2'
  refine (HC3.out y2 HTy2.out).mono ?_
  rintro e z3 ⟨rfl, hb⟩
  have HTz3 := Lib.hid (HTy2.out.below hb)
  replace XA0 := Lib.hid (keepO hb XA0.out)
  replace XB0 := Lib.hid (keepO hb XB0.out)
  replace XA1 := Lib.hid (keepO hb XA1.out)
  replace XB1 := Lib.hid (keepO hb XB1.out)
  clear hb
  obtain ⟨o0, o1⟩ := HTz3.out.arg
  obtain ⟨d0, d1, -, -⟩ := two_facts HTz3.out.b1
  go_wp2_with fail
  clear o0 o1 d0 d1
  refine (HC4.out z3 HTz3.out).mono ?_
  rintro e z4 ⟨rfl, hb⟩
  have HTz4 := Lib.hid (HTz3.out.below hb)
  replace XA0 := Lib.hid (keepO hb XA0.out)
  replace XB0 := Lib.hid (keepO hb XB0.out)
  replace XA1 := Lib.hid (keepO hb XA1.out)
  replace XB1 := Lib.hid (keepO hb XB1.out)
  clear hb
  obtain ⟨o0, o1⟩ := HTz4.out.own
  obtain ⟨p0, p1⟩ := HTz4.out.arg
  obtain ⟨m00, m01, -, -⟩ := two_facts XA0.out
  obtain ⟨m10, m11, -, -⟩ := two_facts XB0.out
  obtain ⟨m20, m21, -, -⟩ := two_facts XA1.out
  obtain ⟨m30, m31, -, -⟩ := two_facts XB1.out
  go_wp2_with fail
  clear o0 o1 p0 p1 m00 m01 m10 m11 m20 m21 m30 m31
  refine (Same_eq A1 A2 A A' n c1 n' c2 c c' ps ws z4 hnm hnm' HTz4.out.r3 HTz4.out.r4 HTz4.out.r1 HTz4.out.r2).mono ?_
  rintro e z5 ⟨rfl, hb⟩
  have HTz5 := Lib.hid (HTz4.out.below hb)
  clear hb
  go_wp2
  go_ret
  exact ⟨rfl, HTz5.out.bel⟩
end Go.Proofs.YtoakeclpakjbiaaDoor
namespace Go.Proofs.YtoakeclpakjbiaaDoor.pressYields
open Go.ChangeShapes Go.WideShapes Go.ChangeAt Go.RowKit Go.Joins
set_option linter.unusedVariables false

section
variable {H : Type} {enc : TypeId × Value → H} {w : World} {base : Nat} {spare : Nat → Bool} {held : Bool}
theorem int_cell {n : Nat} {v : Value} {y : DataW H × List MemPlace} (h : DataW.trod enc Tryd.prog w base spare held n 3 [v] = some y) : ∃ x : Int, v = .int .i64 x := by
  obtain ⟨x, rfl, -⟩ := int_of (xs := [y]) (j := 0) (by simp) h
  exact ⟨x, rfl⟩
end
theorem laidOut : laidOutB Tryd.prog = true := by kernel_rfl

set_option maxRecDepth 100000 in
theorem lifted (os : Os) (started : os.Started) (H : Type) (enc : TypeId × Value → H) :
    ReturnsInHanded {} Tryd.checked os 5 .any (fun w args => (Rows.pressYieldsSpec.pre enc Tryd.prog Tryd.f5 [] false w args ∧ laidMetH Tryd.prog laidList w) ∧ sizedMet enc Tryd.prog Tryd.f5 (OpenSpec.ofChange Rows.pressYieldsSpec) false w args)
      (Rows.pressYieldsSpec.post enc Tryd.prog Tryd.f5 false true false false) := by
  refine returnsInHanded_of_change_and (C := Tryd.checked) (X := fun w _ => laidMetH Tryd.prog laidList w) (fun _ _ _ hh h => h.of_heap hh) own started (by kernel_rfl) Tryd.func5
    (ChangeSpec.witness_shaped (enc := enc) (C := Tryd.checked) (os := os) (X := fun w _ => laidMetH Tryd.prog laidList w) false (World.doorLaid Tryd.prog 25 os) #[.agg #[.slice none 0 0, .slice none 0 0], .int .i64 0, .agg #[.int .i64 0, .int .i64 0]] 8 rfl (World.shaped_of_RefB (by kernel_rfl) (by kernel_rfl)) (by kernel_rfl) (by kernel_rfl) (by kernel_rfl) (door_met os _)) ?_
  intro W base args ds gs before hval0 hW _ _ hL _
  have hval : ∀ (j : Nat) t v, Tryd.f5.params[j]? = some t → args[j]? = some v → Value.okWide Tryd.prog W .any base t v := hval0
  have hW' := hW
  have hblk : ∀ x ∈ before, x.block < W.heap.size := fun x hx => hW.lt x hx
  obtain ⟨p, q, hA0, hV, rfl, hfz, hnd⟩ := hW
  have hA : DataW.TrodAll enc Tryd.prog W 0 (fun _ => true) true Tryd.f5.params.toList args.toList ds p := hA0
  have hA' := hA
  have hP := Tryd.params5
  rw [Tryd.params5] at hA hval hA'
  obtain ⟨v0, vs0, d0, ds0, p0, q0, hargs, rfl, rfl, h0, r0⟩ := trodAll_cons hA
  obtain ⟨v1, vs1, d1, ds1, p1, q1, rfl, rfl, rfl, h1, r1⟩ := trodAll_cons r0
  obtain ⟨v2, vs2, d2, ds2, p2, q2, rfl, rfl, rfl, h2, r2⟩ := trodAll_cons r1
  obtain ⟨rfl, rfl, rfl⟩ := trodAll_nil r2
  obtain rfl : args = #[v0, v1, v2] := by cases args; simp_all
  obtain ⟨rfl, rfl⟩ := trodVars_none hV
  simp only [List.append_nil] at hW' hblk
  obtain ⟨c00, c01, y00, y01, m0, rfl, -, -, g00, g01⟩ := open_agg2 Tryd.underlying25 (by kernel_rfl) (by kernel_rfl) (hval 0 25 v0 rfl rfl) h0
  obtain ⟨A, n, c, ps, rfl, hnc, hcm0, -, hRp⟩ := open_recs (f := pgc) (fun _ => rfl) (by omega) Tryd.underlying22 cPg (fun k cs y hl h => dec_pg k cs y hl h) g00
  obtain ⟨A', n', c', ws, rfl, hnc', hcm', hnil, hRw⟩ := open_recs (f := wgc) (fun _ => rfl) (by omega) Tryd.underlying23 cWg (fun k cs y hl h => dec_wg k cs y hl h) g01
  obtain ⟨id_, rfl, rfl, rfl, -⟩ := open_int Tryd.underlying3 (hval 1 3 v1 rfl rfl) h1
  obtain ⟨u0, u1, z0, z1, m1, rfl, -, -, k0, k1⟩ := open_agg2 Tryd.underlying61 (by kernel_rfl) (by kernel_rfl) (hval 2 61 v2 rfl rfl) h2
  obtain ⟨N, rfl⟩ := int_cell k0
  obtain ⟨D, rfl⟩ := int_cell k1
  clear hA0 hval0
  refine (law_yields A A' n c n' c' ps ws id_ N D W (by omega) (by omega) hRp hRw (laid_of hL)).mono fun e W' ⟨he, hb⟩ => ?_
  subst he
  refine ⟨_, rfl, post_below (ds := [_, _, _]) (gs := []) (pa := p0 ++ ([] ++ (p2 ++ []))) (pv := []) (by simpa using hW') (fun _ _ _ => (trodAll_cons_mk (shut_bool Tryd.underlying4 _) trodAll_mk0)) (fun sp hsp => ?_) (fun _ _ => rfl) (by simp) hb (ok_one (by kernel_rfl) rfl (okWide_bool_mk Tryd.underlying4 _))⟩
  rw [hP]
  refine trodAll_stays laidOut ?_ hA' (fun x hx => hb.same (hblk x (by simpa using hx))) (fun x hx => hsp x (by simpa using hx))
  intro t ht
  have hall : ([25, 3, 61].all fun u => Tryd.prog.readableRec u && decide (u < Tryd.prog.types.size)) = true := by kernel_rfl
  have := List.all_eq_true.1 hall t (by simpa using ht)
  simpa using this

theorem over : Rows.PressYieldsSaid :=
  OpenClaim.holds_of_wide 5 Tryd.f5 rfl rfl rfl rfl rfl rfl rfl ⟨rfl, rfl, rfl, rfl, rfl⟩ rfl rfl rfl rfl rfl (by kernel_rfl) Tryd.func5 (by kernel_rfl)
    (of_decide_eq_true (by kernel_rfl)) (by unfold Func.isWrapper; first | (rw [if_pos (by decide +kernel)]; kernel_rfl) | (rw [if_neg (by decide +kernel)]; exact ⟨rfl, rfl⟩))
    (fun os started H enc _ => lifted os started H enc)

/-- The tied card. -/
theorem proved : Rows.PressYieldsCardSaid :=
  Claim7.holds_tied_plain_at .later [] [.funcs] true (true, "0b31f141b72e65f31c3cceb1081272df0690a7f2ec44cdc5233557f6ea6fdf11") false
    over (fun _ h => by cases h) (by kernel_rfl) (fun _ h => by cases h) pressYields_row_tie rfl ⟨rfl, rfl⟩ (by kernel_rfl) rfl
    (fun f fn hf hfn => by
      obtain rfl : f = 5 := Option.some.inj ((show Tryd.prog.funcNamed "oilcake/oilcakelaw02.PressYields" = some 5 by kernel_rfl).symm.trans hf) |>.symm
      obtain rfl : fn = Tryd.f5 := (Option.some.inj (Tryd.func5.symm.trans hfn)).symm
      exact ⟨by kernel_rfl, fun j t ht => by
        rw [Tryd.params5] at ht
        have hm : t ∈ [25, 3, 61] := by simpa using Array.mem_of_getElem? ht
        have hall : ([25, 3, 61].all fun u => !Tryd.prog.wantsStandIn u) = true := by kernel_rfl
        exact (show Tryd.prog.wantsStandIn t = false by simpa using List.all_eq_true.1 hall t hm)⟩)
    (by kernel_rfl)
#print axioms proved
end Go.Proofs.YtoakeclpakjbiaaDoor.pressYields
