/-
  PressNotes, the tied card: for every press, number and kind the law returns true, and its arguments read as before. The package's table of checks is laid as the program's text lays it (the given ties).
-/
import Derived.Test.YtoakeclpakjbiaaDoorFal
import Derived.Test.YtoakeclpakjbiaaDoorRFa
import Derived.Test.YtoakeclpakjbiaaDoorRRs
import Derived.Test.YtoakeclpakjbiaaDoorPSame
import Derived.Test.YtoakeclpakjbiaaDoorSameI
import Derived.Test.YtoakeclpakjbiaaDoorPLaid
import Derived.Test.YtoakeclpakjbiaaDoorCards
import Derived.Test.YtoakeclpakjbiaaDoorTie
import Derived.SevenTiedAt
namespace Go.Proofs.YtoakeclpakjbiaaDoor
open Go.RowKit
set_option linter.unusedVariables false
set_option linter.unusedSimpArgs false

/-- What every question reads: the argument, and the argument's copy. -/
structure LN (w : World) (ob : Nat) (A A' : Option Addr) (n c n' c' : Nat) (ps : List PR) (ws : List WE) (A1 A2 : Option Addr) (c1 c2 : Nat) (z : World) : Prop where
  b0 : z.heap[w.heap.size]? = some (.cells #[.slice A n c, .slice A' n' c'] 25 (0, 0))
  bo : z.heap[ob]? = some (.cells #[.slice A1 n c1, .slice A2 n' c2] 25 (0, 0))
  bel : Below w.heap.size w z
  r1 : Reads z z.heap.size 4 A n (pgs ps)
  r2 : Reads z z.heap.size 5 A' n' (wgs ws)
  r3 : Reads z z.heap.size 4 A1 n (pgs ps)
  r4 : Reads z z.heap.size 5 A2 n' (wgs ws)
  laid : Laid z
section
variable {w z y : World} {ob : Nat} {A A' : Option Addr} {n c n' c' : Nat} {ps : List PR} {ws : List WE} {A1 A2 : Option Addr} {c1 c2 : Nat}
theorem LN.below (h : LN w ob A A' n c n' c' ps ws A1 A2 c1 c2 z) (hb : Below z.heap.size z y) : LN w ob A A' n c n' c' ps ws A1 A2 c1 c2 y := by
  have hs2 := hb.size
  have h0 := (Array.getElem?_eq_some_iff.1 h.b0).1
  exact ⟨keepO hb h.b0, keepO hb h.bo, below_via h.bel (by omega) hb, (h.r1.below hb).more hs2, (h.r2.below hb).more hs2, (h.r3.below hb).more hs2, (h.r4.below hb).more hs2, h.laid.below hb h.laid.2.2.2⟩
theorem LN.own (h : LN w ob A A' n c n' c' ps ws A1 A2 c1 c2 z) : z.cell? ⟨ob, 0, none⟩ = some (.slice A1 n c1) ∧ z.cell? ⟨ob, 1, none⟩ = some (.slice A2 n' c2) := by
  obtain ⟨a, b, -, -⟩ := two_facts h.bo
  exact ⟨a, b⟩
theorem LN.arg (h : LN w ob A A' n c n' c' ps ws A1 A2 c1 c2 z) : z.cell? ⟨w.heap.size, 0, none⟩ = some (.slice A n c) ∧ z.cell? ⟨w.heap.size, 1, none⟩ = some (.slice A' n' c') := by
  obtain ⟨a, b, -, -⟩ := two_facts h.b0
  exact ⟨a, b⟩
end

set_option maxRecDepth 100000 in
set_option maxHeartbeats 4000000 in
theorem law_notes (A A' : Option Addr) (n c n' c' : Nat) (ps : List PR) (ws : List WE) (id kind : Int) (w : World) (hnm : n ≤ maxLen) (hnm' : n' ≤ maxLen)
    (hR : Reads w w.heap.size 4 A n (pgs ps)) (hW : Reads w w.heap.size 5 A' n' (wgs ws)) (hL : Laid w) :
    Calls Tryd.prog 6 #[.agg #[.slice A n c, .slice A' n' c'], .int .i64 id, .int .i64 kind] w fun e w' => e = .returned (.bool true) ∧ Below w.heap.size w w' := by
  have hO0 := Lib.hid (heap_alloc_new w (.cells #[.slice A n c, .slice A' n' c'] 25))
  have hB0 : Hid (Below w.heap.size w (w.alloc (.cells #[.slice A n c, .slice A' n' c'] 25))) := Lib.hid ((Below.refl _ _).alloc (Nat.le_refl _) _)
  have HGr := Lib.hid (fun z => Great_any A A' n c n' c' z)
  by_cases hg : (decide (20 < n) || decide (50 < n')) = true
  · rw [hg] at HGr
    clear hR hW hL hg
    go_enter Tryd.func6, Tryd.ntmps6
    go_wp2_with fail
    refine (HGr.out _).mono ?_
    rintro e w1 ⟨rfl, hb1⟩
    have HB1 := Lib.hid (below_via hB0.out hB0.out.size hb1)
    clear hb1
    go_wp2
    go_ret
    exact ⟨rfl, HB1.out⟩
  have hg' : (decide (20 < n) || decide (50 < n')) = false := by simpa using hg
  rw [hg'] at HGr
  have hn20 : n ≤ 20 ∧ n' ≤ 50 := by simp at hg'; omega
  clear hg hg'
  have HR0 := Lib.hid (And.intro hR (And.intro hW hL))
  have HTw := Lib.hid (fun z (hz : Below w.heap.size w z) => Twin_any A A' n c n' c' ps ws z (by omega) (by omega) ((hR.below hz).more hz.size) ((hW.below hz).more hz.size))
  clear hR hW hL
  go_enter Tryd.func6, Tryd.ntmps6
  go_wp2_with fail
  refine (HGr.out _).mono ?_
  rintro e w1 ⟨rfl, hb1⟩
  have HB1 := Lib.hid (below_via hB0.out hB0.out.size hb1)
  have HO1 := Lib.hid (keepO hb1 hO0.out)
  clear hb1
  obtain ⟨p0, p1, -, -⟩ := two_facts HO1.out
  go_wp2_with fail
  clear p0 p1
  refine (HTw.out _ HB1.out).mono ?_
  rintro e w3 ⟨A1, c1, A2, c2, rfl, ho1, ho2, hb2⟩
  have HB3 := Lib.hid (below_via HB1.out HB1.out.size hb2)
  have HO3 := Lib.hid (keepO hb2 HO1.out)
  obtain ⟨wl, hwl⟩ : ∃ wl, wl = w3.alloc (.cells #[.slice A1 n c1, .slice A2 n' c2] 25) := ⟨_, rfl⟩
  have hbl : Below w3.heap.size w3 wl := by rw [hwl]; exact (Below.refl _ _).alloc (Nat.le_refl _) _
  have HTwl : Hid (LN w w3.heap.size A A' n c n' c' ps ws A1 A2 c1 c2 wl) := by
    have hbw : Below w.heap.size w wl := below_via HB3.out HB3.out.size hbl
    obtain ⟨q1, q2, q4⟩ := HR0.out
    exact ⟨keepO hbl HO3.out, by rw [hwl]; exact heap_alloc_new _ _, hbw, (q1.below hbw).more hbw.size, (q2.below hbw).more hbw.size, Reads.of_own (own_below ho1 hbl), Reads.of_own (own_below ho2 hbl), q4.below hbw q4.2.2.2⟩
  have hwl' := Lib.hid hwl
  clear hwl hbl ho1 ho2 hb2 HB1 HO1 HB3 HO3 hO0 hB0 HGr HTw
  have HC1 := Lib.hid (fun z (K : LN w w3.heap.size A A' n c n' c' ps ws A1 A2 c1 c2 z) => pFalse_any A1 A2 n c1 n' c2 ps ws z K.r3 K.r4 K.laid)
  have HC2 := Lib.hid (fun z (K : LN w w3.heap.size A A' n c n' c' ps ws A1 A2 c1 c2 z) => rFalse_any A A' n c n' c' ps ws z hnm hnm' K.r1 K.r2 K.laid)
  have HC3 := Lib.hid (fun z (K : LN w w3.heap.size A A' n c n' c' ps ws A1 A2 c1 c2 z) => pRests_any A1 A2 n c1 n' c2 ps ws id kind z hnm K.r3 K.r4 K.laid)
  have HC4 := Lib.hid (fun z (K : LN w w3.heap.size A A' n c n' c' ps ws A1 A2 c1 c2 z) => rRests_any A A' n c n' c' ps ws id kind z hnm hnm' K.r1 K.r2 K.laid)
  generalize falE ps ws = eA at *
  generalize falL ps ws = lA at *
  generalize askE ps ws id kind = eB at *
  generalize rstL ps ws id kind = lB at *
  obtain ⟨ob, hob_⟩ : ∃ ob, ob = w3.heap.size := ⟨_, rfl⟩
  rw [← hob_] at HTwl HC1 HC2 HC3 HC4
  have hobh := Lib.hid hob_
  clear hob_
  obtain ⟨o0, o1⟩ := HTwl.out.own
  rw [hwl'.out, hobh.out] at o0 o1
  go_wp2_with fail
  rw [← hwl'.out, ← hobh.out]
  clear o0 o1 hwl' hobh
  refine (HC1.out wl HTwl.out).mono ?_
  rintro e z1 ⟨⟨Aq0, mq0, cq0, rfl, hm0, hq0⟩, hb⟩
  have HTz1 := Lib.hid (HTwl.out.below hb)
  have HQ0 := Lib.hid hq0
  clear hb hq0
  obtain ⟨o0, o1⟩ := HTz1.out.arg
  go_wp2_with fail
  clear o0 o1
  refine (HC2.out z1 HTz1.out).mono ?_
  rintro e z2 ⟨⟨Aq1, mq1, cq1, rfl, hm1, hq1⟩, hb⟩
  have HTz2 := Lib.hid (HTz1.out.below hb)
  have HQ1 := Lib.hid hq1
  replace HQ0 := Lib.hid ((HQ0.out.below hb).more hb.size)
  clear hb hq1
  obtain ⟨o0, o1⟩ := HTz2.out.own
  go_wp2_with fail
  clear o0 o1
  refine (HC3.out z2 HTz2.out).mono ?_
  rintro e z3 ⟨⟨Aq2, mq2, cq2, rfl, hm2, hq2⟩, hb⟩
  have HTz3 := Lib.hid (HTz2.out.below hb)
  have HQ2 := Lib.hid hq2
  replace HQ0 := Lib.hid ((HQ0.out.below hb).more hb.size)
  replace HQ1 := Lib.hid ((HQ1.out.below hb).more hb.size)
  clear hb hq2
  obtain ⟨o0, o1⟩ := HTz3.out.arg
  go_wp2_with fail
  clear o0 o1
  refine (HC4.out z3 HTz3.out).mono ?_
  rintro e z4 ⟨⟨Aq3, mq3, cq3, rfl, hm3, hq3⟩, hb⟩
  have HTz4 := Lib.hid (HTz3.out.below hb)
  have HQ3 := Lib.hid hq3
  replace HQ0 := Lib.hid ((HQ0.out.below hb).more hb.size)
  replace HQ1 := Lib.hid ((HQ1.out.below hb).more hb.size)
  replace HQ2 := Lib.hid ((HQ2.out.below hb).more hb.size)
  clear hb hq3
  go_wp2_with fail
  refine (sameInts_any Aq0 Aq1 mq0 mq1 cq0 cq1 lA lA z4 (by unfold maxLen; omega) (by unfold maxLen; omega) HQ0.out HQ1.out).mono ?_
  rintro e z5 ⟨rfl, kq, hzq⟩
  have hb : Below z4.heap.size z4 z5 := by rw [hzq]; exact below_drewN (Below.refl _ _) kq
  clear hzq
  rw [decide_eq_true (rfl : lA = lA)]
  have HTz5 := Lib.hid (HTz4.out.below hb)
  replace HQ0 := Lib.hid ((HQ0.out.below hb).more hb.size)
  replace HQ1 := Lib.hid ((HQ1.out.below hb).more hb.size)
  replace HQ2 := Lib.hid ((HQ2.out.below hb).more hb.size)
  replace HQ3 := Lib.hid ((HQ3.out.below hb).more hb.size)
  clear hb
  go_wp2_with fail
  refine (sameInts_any Aq2 Aq3 mq2 mq3 cq2 cq3 lB lB z5 (by unfold maxLen; omega) (by unfold maxLen; omega) HQ2.out HQ3.out).mono ?_
  rintro e z6 ⟨rfl, kq, hzq⟩
  have hb : Below z5.heap.size z5 z6 := by rw [hzq]; exact below_drewN (Below.refl _ _) kq
  clear hzq
  rw [decide_eq_true (rfl : lB = lB)]
  have HTz6 := Lib.hid (HTz5.out.below hb)
  replace HQ0 := Lib.hid ((HQ0.out.below hb).more hb.size)
  replace HQ1 := Lib.hid ((HQ1.out.below hb).more hb.size)
  replace HQ2 := Lib.hid ((HQ2.out.below hb).more hb.size)
  replace HQ3 := Lib.hid ((HQ3.out.below hb).more hb.size)
  clear hb
  obtain ⟨o0, o1⟩ := HTz6.out.own
  obtain ⟨p0, p1⟩ := HTz6.out.arg
  go_wp2_with fail
  clear o0 o1 p0 p1
  refine (Same_eq A1 A2 A A' n c1 n' c2 c c' ps ws z6 hnm hnm' HTz6.out.r3 HTz6.out.r4 HTz6.out.r1 HTz6.out.r2).mono ?_
  rintro e z7 ⟨rfl, hb⟩
  have HTz7 := Lib.hid (HTz6.out.below hb)
  clear hb
  go_wp2
  go_ret
  exact ⟨rfl, HTz7.out.bel⟩
end Go.Proofs.YtoakeclpakjbiaaDoor
namespace Go.Proofs.YtoakeclpakjbiaaDoor.pressNotes
open Go.ChangeShapes Go.WideShapes Go.ChangeAt Go.RowKit Go.Joins
set_option linter.unusedVariables false

theorem laidOut : laidOutB Tryd.prog = true := by kernel_rfl

set_option maxRecDepth 100000 in
theorem lifted (os : Os) (started : os.Started) (H : Type) (enc : TypeId × Value → H) :
    ReturnsInHanded {} Tryd.checked os 6 .any (fun w args => (Rows.pressNotesSpec.pre enc Tryd.prog Tryd.f6 [] false w args ∧ laidMetH Tryd.prog laidList w) ∧ sizedMet enc Tryd.prog Tryd.f6 (OpenSpec.ofChange Rows.pressNotesSpec) false w args)
      (Rows.pressNotesSpec.post enc Tryd.prog Tryd.f6 false true false false) := by
  refine returnsInHanded_of_change_and (C := Tryd.checked) (X := fun w _ => laidMetH Tryd.prog laidList w) (fun _ _ _ hh h => h.of_heap hh) own started (by kernel_rfl) Tryd.func6
    (ChangeSpec.witness_shaped (enc := enc) (C := Tryd.checked) (os := os) (X := fun w _ => laidMetH Tryd.prog laidList w) false (World.doorLaid Tryd.prog 25 os) #[.agg #[.slice none 0 0, .slice none 0 0], .int .i64 0, .int .i64 0] 8 rfl (World.shaped_of_RefB (by kernel_rfl) (by kernel_rfl)) (by kernel_rfl) (by kernel_rfl) (by kernel_rfl) (door_met os _)) ?_
  intro W base args ds gs before hval0 hW _ _ hL _
  have hval : ∀ (j : Nat) t v, Tryd.f6.params[j]? = some t → args[j]? = some v → Value.okWide Tryd.prog W .any base t v := hval0
  have hW' := hW
  have hblk : ∀ x ∈ before, x.block < W.heap.size := fun x hx => hW.lt x hx
  obtain ⟨p, q, hA0, hV, rfl, hfz, hnd⟩ := hW
  have hA : DataW.TrodAll enc Tryd.prog W 0 (fun _ => true) true Tryd.f6.params.toList args.toList ds p := hA0
  have hA' := hA
  have hP := Tryd.params6
  rw [Tryd.params6] at hA hval hA'
  obtain ⟨v0, vs0, d0, ds0, p0, q0, hargs, rfl, rfl, h0, r0⟩ := trodAll_cons hA
  obtain ⟨v1, vs1, d1, ds1, p1, q1, rfl, rfl, rfl, h1, r1⟩ := trodAll_cons r0
  obtain ⟨v2, vs2, d2, ds2, p2, q2, rfl, rfl, rfl, h2, r2⟩ := trodAll_cons r1
  obtain ⟨rfl, rfl, rfl⟩ := trodAll_nil r2
  obtain rfl : args = #[v0, v1, v2] := by cases args; simp_all
  obtain ⟨rfl, rfl⟩ := trodVars_none hV
  simp only [List.append_nil] at hW' hblk
  obtain ⟨c00, c01, y00, y01, m0, rfl, -, -, g00, g01⟩ := open_agg2 Tryd.underlying25 (by kernel_rfl) (by kernel_rfl) (hval 0 25 v0 rfl rfl) h0
  obtain ⟨A, n, c, ps, rfl, hnc, hcm0, -, hRp⟩ := open_recs (f := pgc) (fun _ => rfl) (by omega) Tryd.underlying22 cPg (fun k cs y hl h => dec_pg k cs y hl h) g00
  obtain ⟨A', n', c', ws, rfl, hnc', hcm', hnil, hRw⟩ := open_recs (f := wgc) (fun _ => rfl) (by omega) Tryd.underlying23 cWg (fun k cs y hl h => dec_wg k cs y hl h) g01
  obtain ⟨id_, rfl, rfl, rfl, -⟩ := open_int Tryd.underlying3 (hval 1 3 v1 rfl rfl) h1
  obtain ⟨kd_, rfl, rfl, rfl, -⟩ := open_int Tryd.underlying3 (hval 2 3 v2 rfl rfl) h2
  clear hA0 hval0
  refine (law_notes A A' n c n' c' ps ws id_ kd_ W (by omega) (by omega) hRp hRw (laid_of hL)).mono fun e W' ⟨he, hb⟩ => ?_
  subst he
  refine ⟨_, rfl, post_below (ds := [_, _, _]) (gs := []) (pa := p0 ++ ([] ++ ([] ++ []))) (pv := []) (by simpa using hW') (fun _ _ _ => (trodAll_cons_mk (shut_bool Tryd.underlying4 _) trodAll_mk0)) (fun sp hsp => ?_) (fun _ _ => rfl) (by simp) hb (ok_one (by kernel_rfl) rfl (okWide_bool_mk Tryd.underlying4 _))⟩
  rw [hP]
  refine trodAll_stays laidOut ?_ hA' (fun x hx => hb.same (hblk x (by simpa using hx))) (fun x hx => hsp x (by simpa using hx))
  intro t ht
  have hall : ([25, 3, 3].all fun u => Tryd.prog.readableRec u && decide (u < Tryd.prog.types.size)) = true := by kernel_rfl
  have := List.all_eq_true.1 hall t (by simpa using ht)
  simpa using this

theorem over : Rows.PressNotesSaid :=
  OpenClaim.holds_of_wide 6 Tryd.f6 rfl rfl rfl rfl rfl rfl rfl ⟨rfl, rfl, rfl, rfl, rfl⟩ rfl rfl rfl rfl rfl (by kernel_rfl) Tryd.func6 (by kernel_rfl)
    (of_decide_eq_true (by kernel_rfl)) (by unfold Func.isWrapper; first | (rw [if_pos (by decide +kernel)]; kernel_rfl) | (rw [if_neg (by decide +kernel)]; exact ⟨rfl, rfl⟩))
    (fun os started H enc _ => lifted os started H enc)

/-- The tied card. -/
theorem proved : Rows.PressNotesCardSaid :=
  Claim7.holds_tied_plain_at .later [] [.funcs] true (true, "0b31f141b72e65f31c3cceb1081272df0690a7f2ec44cdc5233557f6ea6fdf11") false
    over (fun _ h => by cases h) (by kernel_rfl) (fun _ h => by cases h) pressNotes_row_tie rfl ⟨rfl, rfl⟩ (by kernel_rfl) rfl
    (fun f fn hf hfn => by
      obtain rfl : f = 6 := Option.some.inj ((show Tryd.prog.funcNamed "oilcake/oilcakelaw02.PressNotes" = some 6 by kernel_rfl).symm.trans hf) |>.symm
      obtain rfl : fn = Tryd.f6 := (Option.some.inj (Tryd.func6.symm.trans hfn)).symm
      exact ⟨by kernel_rfl, fun j t ht => by
        rw [Tryd.params6] at ht
        have hm : t ∈ [25, 3, 3] := by simpa using Array.mem_of_getElem? ht
        have hall : ([25, 3, 3].all fun u => !Tryd.prog.wantsStandIn u) = true := by kernel_rfl
        exact (show Tryd.prog.wantsStandIn t = false by simpa using List.all_eq_true.1 hall t hm)⟩)
    (by kernel_rfl)
#print axioms proved
end Go.Proofs.YtoakeclpakjbiaaDoor.pressNotes
