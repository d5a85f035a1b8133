/-
  PressChanges, the tied card: for every press, weighing, list of numbers and two numbers the law returns true, and its arguments read as before. The package's table of checks is laid as the program's text lays it (the given tie).
-/
import Derived.Test.YtoakeclpakjbiaaDoorPLaid
import Derived.Test.YtoakeclpakjbiaaDoorPCh
import Derived.Test.YtoakeclpakjbiaaDoorCards
import Derived.Test.YtoakeclpakjbiaaDoorTie
import Derived.SevenTiedAt
namespace Go.Proofs.YtoakeclpakjbiaaDoor.pressChanges
open Go.ChangeShapes Go.WideShapes Go.ChangeAt Go.RowKit Go.Joins
set_option linter.unusedVariables false

theorem laidOut : laidOutB Tryd.prog = true := by kernel_rfl

set_option maxRecDepth 100000 in
theorem lifted (os : Os) (started : os.Started) (H : Type) (enc : TypeId × Value → H) :
    ReturnsInHanded {} Tryd.checked os 7 .any (fun w args => (Rows.pressChangesSpec.pre enc Tryd.prog Tryd.f7 [] false w args ∧ laidMetH Tryd.prog laidList w) ∧ sizedMet enc Tryd.prog Tryd.f7 (OpenSpec.ofChange Rows.pressChangesSpec) false w args)
      (Rows.pressChangesSpec.post enc Tryd.prog Tryd.f7 false true false false) := by
  refine returnsInHanded_of_change_and (C := Tryd.checked) (X := fun w _ => laidMetH Tryd.prog laidList w) (fun _ _ _ hh h => h.of_heap hh) own started (by kernel_rfl) Tryd.func7
    (ChangeSpec.witness_shaped (enc := enc) (C := Tryd.checked) (os := os) (X := fun w _ => laidMetH Tryd.prog laidList w) false (World.doorLaid Tryd.prog 25 os) #[.agg #[.slice none 0 0, .slice none 0 0], .agg #[.int .i64 0, .int .i64 0, .int .i64 0, .int .i64 0, .int .i64 0], .slice none 0 0, .int .i64 0, .int .i64 0] 8 rfl (World.shaped_of_RefB (by kernel_rfl) (by kernel_rfl)) (by kernel_rfl) (by kernel_rfl) (by kernel_rfl) (door_met os _)) ?_
  intro W base args ds gs before hval0 hW _ _ hL _
  have hval : ∀ (j : Nat) t v, Tryd.f7.params[j]? = some t → args[j]? = some v → Value.okWide Tryd.prog W .any base t v := hval0
  have hW' := hW
  have hblk : ∀ x ∈ before, x.block < W.heap.size := fun x hx => hW.lt x hx
  obtain ⟨p, q, hA0, hV, rfl, hfz, hnd⟩ := hW
  have hA : DataW.TrodAll enc Tryd.prog W 0 (fun _ => true) true Tryd.f7.params.toList args.toList ds p := hA0
  have hA' := hA
  have hP := Tryd.params7
  rw [Tryd.params7] at hA hval hA'
  obtain ⟨v0, vs0, d0, ds0, p0, q0, hargs, rfl, rfl, h0, r0⟩ := trodAll_cons hA
  obtain ⟨v1, vs1, d1, ds1, p1, q1, rfl, rfl, rfl, h1, r1⟩ := trodAll_cons r0
  obtain ⟨v2, vs2, d2, ds2, p2, q2, rfl, rfl, rfl, h2, r2⟩ := trodAll_cons r1
  obtain ⟨v3, vs3, d3, ds3, p3, q3, rfl, rfl, rfl, h3, r3⟩ := trodAll_cons r2
  obtain ⟨v4, vs4, d4, ds4, p4, q4, rfl, rfl, rfl, h4, r4⟩ := trodAll_cons r3
  obtain ⟨rfl, rfl, rfl⟩ := trodAll_nil r4
  obtain rfl : args = #[v0, v1, v2, v3, v4] := by cases args; simp_all
  obtain ⟨rfl, rfl⟩ := trodVars_none hV
  simp only [List.append_nil] at hW' hblk
  obtain ⟨c00, c01, y00, y01, m0, rfl, -, -, g00, g01⟩ := open_agg2 Tryd.underlying25 (by kernel_rfl) (by kernel_rfl) (hval 0 25 v0 rfl rfl) h0
  obtain ⟨A, n, c, ps, rfl, hnc, hcm0, -, hRp⟩ := open_recs (f := pgc) (fun _ => rfl) (by omega) Tryd.underlying22 cPg (fun k cs y hl h => dec_pg k cs y hl h) g00
  obtain ⟨A', n', c', ws, rfl, hnc', hcm', hnil, hRw⟩ := open_recs (f := wgc) (fun _ => rfl) (by omega) Tryd.underlying23 cWg (fun k cs y hl h => dec_wg k cs y hl h) g01
  obtain ⟨f1, hf1⟩ := h1
  obtain ⟨cs1, rfl, hsz1⟩ := okWide_struct Tryd.underlying76 (hval 1 76 v1 rfl rfl)
  obtain ⟨x, hx1⟩ := dec_wg _ _ _ (by rw [Array.length_toList]; exact hsz1.trans cWg) hf1
  obtain ⟨N, P, K, Lo, Hi⟩ := x
  have hcs1 : cs1 = #[.int .i64 N, .int .i64 P, .int .i64 K, .int .i64 Lo, .int .i64 Hi] := by
    have h5 : cs1.toList = wgc (N, P, K, Lo, Hi) := hx1
    exact Array.toList_inj.1 h5
  subst hcs1
  obtain ⟨f2, hf2⟩ := h2
  obtain ⟨a2, n2, c2, rfl⟩ := okWide_slice Tryd.underlying51 (hval 2 51 v2 rfl rfl)
  obtain ⟨Al, nl, cl, l, e1, hnl, hRl, hwf⟩ := open_ints_reads Tryd.underlying51 Tryd.underlying3 (by kernel_rfl) (by simpa [Value.cells] using hf2)
  obtain ⟨id_, rfl, rfl, rfl, -⟩ := open_int Tryd.underlying3 (hval 3 3 v3 rfl rfl) h3
  obtain ⟨to_, rfl, rfl, rfl, -⟩ := open_int Tryd.underlying3 (hval 4 3 v4 rfl rfl) h4
  rw [e1] at hA' hW' ⊢
  clear hA0 hval0
  refine (law_changes A A' n c n' c' ps ws (N, P, K, Lo, Hi) Al nl cl l id_ to_ W (by omega) (by omega) hnc' hcm' hnil hnl hwf hRp hRw hRl (laid_of hL)).mono fun e W' ⟨he, hb⟩ => ?_
  subst he
  refine ⟨_, rfl, post_below (ds := [_, _, _, _, _]) (gs := []) (pa := p0 ++ (p1 ++ (p2 ++ ([] ++ ([] ++ []))))) (pv := []) (by simpa using hW') (fun _ _ _ => (trodAll_cons_mk (shut_bool Tryd.underlying4 _) trodAll_mk0)) (fun sp hsp => ?_) (fun _ _ => rfl) (by simp) hb (ok_one (by kernel_rfl) rfl (okWide_bool_mk Tryd.underlying4 _))⟩
  rw [hP]
  refine trodAll_stays laidOut ?_ hA' (fun x hx => hb.same (hblk x (by simpa using hx))) (fun x hx => hsp x (by simpa using hx))
  intro t ht
  have hall : ([25, 76, 51, 3, 3].all fun u => Tryd.prog.readableRec u && decide (u < Tryd.prog.types.size)) = true := by kernel_rfl
  have := List.all_eq_true.1 hall t (by simpa using ht)
  simpa using this

theorem over : Rows.PressChangesSaid :=
  OpenClaim.holds_of_wide 7 Tryd.f7 rfl rfl rfl rfl rfl rfl rfl ⟨rfl, rfl, rfl, rfl, rfl⟩ rfl rfl rfl rfl rfl (by kernel_rfl) Tryd.func7 (by kernel_rfl)
    (of_decide_eq_true (by kernel_rfl)) (by unfold Func.isWrapper; first | (rw [if_pos (by decide +kernel)]; kernel_rfl) | (rw [if_neg (by decide +kernel)]; exact ⟨rfl, rfl⟩))
    (fun os started H enc _ => lifted os started H enc)

/-- The tied card. -/
theorem proved : Rows.PressChangesCardSaid :=
  Claim7.holds_tied_plain_at .later [] [.funcs] true (true, "0b31f141b72e65f31c3cceb1081272df0690a7f2ec44cdc5233557f6ea6fdf11") false
    over (fun _ h => by cases h) (by kernel_rfl) (fun _ h => by cases h) pressChanges_row_tie rfl ⟨rfl, rfl⟩ (by kernel_rfl) rfl
    (fun f fn hf hfn => by
      obtain rfl : f = 7 := Option.some.inj ((show Tryd.prog.funcNamed "oilcake/oilcakelaw02.PressChanges" = some 7 by kernel_rfl).symm.trans hf) |>.symm
      obtain rfl : fn = Tryd.f7 := (Option.some.inj (Tryd.func7.symm.trans hfn)).symm
      exact ⟨by kernel_rfl, fun j t ht => by
        rw [Tryd.params7] at ht
        have hm : t ∈ [25, 76, 51, 3, 3] := by simpa using Array.mem_of_getElem? ht
        have hall : ([25, 76, 51, 3, 3].all fun u => !Tryd.prog.wantsStandIn u) = true := by kernel_rfl
        exact (show Tryd.prog.wantsStandIn t = false by simpa using List.all_eq_true.1 hall t hm)⟩)
    (by kernel_rfl)
#print axioms proved
end Go.Proofs.YtoakeclpakjbiaaDoor.pressChanges
