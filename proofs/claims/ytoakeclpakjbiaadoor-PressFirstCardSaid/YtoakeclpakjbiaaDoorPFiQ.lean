/-
  PressFirst, the tied card: for every press and list of weights the law returns true, and its arguments read as before. The package's table of checks is laid as the program's text lays it (the given tie).
-/
import Derived.Test.YtoakeclpakjbiaaDoorPLaid
import Derived.Test.YtoakeclpakjbiaaDoorPFi
import Derived.Test.YtoakeclpakjbiaaDoorCards
import Derived.Test.YtoakeclpakjbiaaDoorTie
import Derived.SevenTiedAt
namespace Go.Proofs.YtoakeclpakjbiaaDoor.pressFirst
open Go.ChangeShapes Go.WideShapes Go.ChangeAt Go.RowKit Go.Joins
set_option linter.unusedVariables false

section
variable {H : Type} {enc : TypeId × Value → H} {w : World} {base : Nat} {spare : Nat → Bool} {held : Bool}
theorem cWd : Tryd.prog.cellsOf 101 = 8 := by kernel_rfl
theorem cA7 : Tryd.prog.cellsOf 99 = 7 := by kernel_rfl
theorem dec_wd (n : Nat) (cs : List Value) (y : DataW H × List MemPlace) (hl : cs.length = 8) (h : DataW.trod enc Tryd.prog w base spare held n 101 cs = some y) : ∃ f : Nat → Int, cs = wdc f := by
  match cs, hl with
  | [v0, v1, v2, v3, v4, v5, v6, v7], _ =>
    obtain ⟨xs, k, _, _, _, hxl, hf⟩ := DataW.trod_struct Tryd.underlying101 h
    have h0 : DataW.trod enc Tryd.prog w base spare held k 3 ((([v0, v1, v2, v3, v4, v5, v6, v7] : List Value).drop 0).take (Tryd.prog.cellsOf 3)) = xs[0]? := hf 0 _ rfl
    have h1 : DataW.trod enc Tryd.prog w base spare held k 99 ((([v0, v1, v2, v3, v4, v5, v6, v7] : List Value).drop 1).take (Tryd.prog.cellsOf 99)) = xs[1]? := hf 1 _ rfl
    simp only [cI, cA7, List.drop_zero, List.drop_succ_cons, List.take_succ_cons, List.take_zero] at h0 h1
    have hxl' : xs.length = 2 := hxl
    obtain ⟨z0, rfl, -⟩ := int_of (by omega) h0
    rw [List.getElem?_eq_getElem (by omega)] at h1
    obtain ⟨zs, q, _, hx, hl2, hzl, hi⟩ := DataW.trod_array Tryd.underlying99 h1
    have g0 := hi 0 (by omega)
    have g1 := hi 1 (by omega)
    have g2 := hi 2 (by omega)
    have g3 := hi 3 (by omega)
    have g4 := hi 4 (by omega)
    have g5 := hi 5 (by omega)
    have g6 := hi 6 (by omega)
    simp only [cI, Nat.mul_one, List.drop_zero, List.drop_succ_cons, List.take_succ_cons, List.take_zero] at g0 g1 g2 g3 g4 g5 g6
    obtain ⟨z1, rfl, -⟩ := int_of (by omega) g0
    obtain ⟨z2, rfl, -⟩ := int_of (by omega) g1
    obtain ⟨z3, rfl, -⟩ := int_of (by omega) g2
    obtain ⟨z4, rfl, -⟩ := int_of (by omega) g3
    obtain ⟨z5, rfl, -⟩ := int_of (by omega) g4
    obtain ⟨z6, rfl, -⟩ := int_of (by omega) g5
    obtain ⟨z7, rfl, -⟩ := int_of (by omega) g6
    exact ⟨fun j => match j with | 0 => z0 | 1 => z1 | 2 => z2 | 3 => z3 | 4 => z4 | 5 => z5 | 6 => z6 | _ => z7, rfl⟩
end
theorem laidOut : laidOutB Tryd.prog = true := by kernel_rfl

set_option maxRecDepth 100000 in
theorem lifted (os : Os) (started : os.Started) (H : Type) (enc : TypeId × Value → H) :
    ReturnsInHanded {} Tryd.checked os 3 .any (fun w args => (Rows.pressFirstSpec.pre enc Tryd.prog Tryd.f3 [] false w args ∧ laidMetH Tryd.prog laidList w) ∧ sizedMet enc Tryd.prog Tryd.f3 (OpenSpec.ofChange Rows.pressFirstSpec) false w args)
      (Rows.pressFirstSpec.post enc Tryd.prog Tryd.f3 false true false false) := by
  refine returnsInHanded_of_change_and (C := Tryd.checked) (X := fun w _ => laidMetH Tryd.prog laidList w) (fun _ _ _ hh h => h.of_heap hh) own started (by kernel_rfl) Tryd.func3
    (ChangeSpec.witness_shaped (enc := enc) (C := Tryd.checked) (os := os) (X := fun w _ => laidMetH Tryd.prog laidList w) false (World.doorLaid Tryd.prog 25 os) #[.agg #[.slice none 0 0, .slice none 0 0], .slice none 0 0] 8 rfl (World.shaped_of_RefB (by kernel_rfl) (by kernel_rfl)) (by kernel_rfl) (by kernel_rfl) (by kernel_rfl) (door_met os _)) ?_
  intro W base args ds gs before hval0 hW _ _ hL _
  have hval : ∀ (j : Nat) t v, Tryd.f3.params[j]? = some t → args[j]? = some v → Value.okWide Tryd.prog W .any base t v := hval0
  have hW' := hW
  have hblk : ∀ x ∈ before, x.block < W.heap.size := fun x hx => hW.lt x hx
  obtain ⟨p, q, hA0, hV, rfl, hfz, hnd⟩ := hW
  have hA : DataW.TrodAll enc Tryd.prog W 0 (fun _ => true) true Tryd.f3.params.toList args.toList ds p := hA0
  have hA' := hA
  have hP := Tryd.params3
  rw [Tryd.params3] at hA hval hA'
  obtain ⟨v0, vs0, d0, ds0, p0, q0, hargs, rfl, rfl, h0, r0⟩ := trodAll_cons hA
  obtain ⟨v1, vs1, d1, ds1, p1, q1, rfl, rfl, rfl, h1, r1⟩ := trodAll_cons r0
  obtain ⟨rfl, rfl, rfl⟩ := trodAll_nil r1
  obtain rfl : args = #[v0, v1] := by cases args; simp_all
  obtain ⟨rfl, rfl⟩ := trodVars_none hV
  simp only [List.append_nil] at hW' hblk
  obtain ⟨c00, c01, y00, y01, m0, rfl, -, -, g00, g01⟩ := open_agg2 Tryd.underlying25 (by kernel_rfl) (by kernel_rfl) (hval 0 25 v0 rfl rfl) h0
  obtain ⟨A, n, c, ps, rfl, hnc, hcm0, -, hRp⟩ := open_recs (f := pgc) (fun _ => rfl) (by omega) Tryd.underlying22 cPg (fun k cs y hl h => dec_pg k cs y hl h) g00
  obtain ⟨A', n', c', ws, rfl, hnc', hcm', hnil, hRw⟩ := open_recs (f := wgc) (fun _ => rfl) (by omega) Tryd.underlying23 cWg (fun k cs y hl h => dec_wg k cs y hl h) g01
  obtain ⟨f1, hf1⟩ := h1
  obtain ⟨a1, n1, c1, rfl⟩ := okWide_slice Tryd.underlying26 (hval 1 26 v1 rfl rfl)
  obtain ⟨Al, m, cl, l, e1, hmc, hcm1, -, hRl⟩ := open_recs (f := wdc) (fun _ => rfl) (by omega) Tryd.underlying26 cWd (fun k cs y hl h => dec_wd k cs y hl h) (by simpa [Value.cells] using hf1)
  rw [e1] at hA' hW' ⊢
  clear hA0 hval0
  refine (law_first A A' Al n c n' c' m cl ps ws l W (by omega) (by omega) (by omega) hRp hRw hRl (laid_of hL)).mono fun e W' ⟨he, hb⟩ => ?_
  subst he
  refine ⟨_, rfl, post_below (ds := [_, _]) (gs := []) (pa := p0 ++ (p1 ++ [])) (pv := []) (by simpa using hW') (fun _ _ _ => (trodAll_cons_mk (shut_bool Tryd.underlying4 _) trodAll_mk0)) (fun sp hsp => ?_) (fun _ _ => rfl) (by simp) hb (ok_one (by kernel_rfl) rfl (okWide_bool_mk Tryd.underlying4 _))⟩
  rw [hP]
  refine trodAll_stays laidOut ?_ hA' (fun x hx => hb.same (hblk x (by simpa using hx))) (fun x hx => hsp x (by simpa using hx))
  intro t ht
  have hall : ([25, 26].all fun u => Tryd.prog.readableRec u && decide (u < Tryd.prog.types.size)) = true := by kernel_rfl
  have := List.all_eq_true.1 hall t (by simpa using ht)
  simpa using this

theorem over : Rows.PressFirstSaid :=
  OpenClaim.holds_of_wide 3 Tryd.f3 rfl rfl rfl rfl rfl rfl rfl ⟨rfl, rfl, rfl, rfl, rfl⟩ rfl rfl rfl rfl rfl (by kernel_rfl) Tryd.func3 (by kernel_rfl)
    (of_decide_eq_true (by kernel_rfl)) (by unfold Func.isWrapper; first | (rw [if_pos (by decide +kernel)]; kernel_rfl) | (rw [if_neg (by decide +kernel)]; exact ⟨rfl, rfl⟩))
    (fun os started H enc _ => lifted os started H enc)

/-- The tied card. -/
theorem proved : Rows.PressFirstCardSaid :=
  Claim7.holds_tied_plain_at .later [] [.funcs] true (true, "0b31f141b72e65f31c3cceb1081272df0690a7f2ec44cdc5233557f6ea6fdf11") false
    over (fun _ h => by cases h) (by kernel_rfl) (fun _ h => by cases h) pressFirst_row_tie rfl ⟨rfl, rfl⟩ (by kernel_rfl) rfl
    (fun f fn hf hfn => by
      obtain rfl : f = 3 := Option.some.inj ((show Tryd.prog.funcNamed "oilcake/oilcakelaw02.PressFirst" = some 3 by kernel_rfl).symm.trans hf) |>.symm
      obtain rfl : fn = Tryd.f3 := (Option.some.inj (Tryd.func3.symm.trans hfn)).symm
      exact ⟨by kernel_rfl, fun j t ht => by
        rw [Tryd.params3] at ht
        have hm : t ∈ [25, 26] := by simpa using Array.mem_of_getElem? ht
        have hall : ([25, 26].all fun u => !Tryd.prog.wantsStandIn u) = true := by kernel_rfl
        exact (show Tryd.prog.wantsStandIn t = false by simpa using List.all_eq_true.1 hall t hm)⟩)
    (by kernel_rfl)
#print axioms proved
end Go.Proofs.YtoakeclpakjbiaaDoor.pressFirst
