/-
  WheelTells: for all wheels and every train the law returns true, and its arguments read as before. No condition.
-/
import Derived.Test.YtlmmjaolmmcklaaRow
import Derived.Test.YtlmmjaolmmcklaaTellsL
import Derived.Test.YtlmmjaolmmcklaaOpenW
namespace Go.Proofs.Ytlmmjaolmmcklaa.wheelTells
open Go.ChangeShapes Go.WideShapes Go.ChangeAt Go.RowKit Go.Joins
set_option linter.unusedVariables false

theorem laidOut : laidOutB Try.prog = true := by kernel_rfl

set_option maxRecDepth 100000 in
theorem lifted (os : Os) (started : os.Started) (H : Type) (enc : TypeId × Value → H) :
    ReturnsInHanded {} Try.checked os 4 .any (Rows.wheelTellsSpec.pre6 enc Try.prog Try.f4 Rows.wheelTellsRow.domain false) (Rows.wheelTellsSpec.post enc Try.prog Try.f4 false true false false) := by
  refine returnsInHanded_of_change (C := Try.checked) own started (by kernel_rfl) Try.func4
    (ChangeSpec.witness6 (enc := enc) (C := Try.checked) false ⟨#[], #[.agg #[.slice none 0 0], .slice none 0 0], []⟩ 8 (by kernel_rfl) (by kernel_rfl) (by kernel_rfl) (by kernel_rfl)) ?_
  intro W base args ds gs before hval0 hW hcnd _
  have hval : ∀ (j : Nat) t v, Try.f4.params[j]? = some t → args[j]? = some v → Value.okWide Try.prog W .any base t v := hval0
  have hW' := hW
  have hblk : ∀ x ∈ before, x.block < W.heap.size := fun x hx => hW.lt x hx
  obtain ⟨p, q, hA0, hV, rfl, hfz, hnd⟩ := hW
  have hA : DataW.TrodAll enc Try.prog W 0 (fun _ => true) true Try.f4.params.toList args.toList ds p := hA0
  have hA' := hA
  have hP := Try.params4
  rw [Try.params4] at hA hval hA'
  obtain ⟨v0, vs0, d0, ds0, p0, q0, hargs, rfl, rfl, h0, r0⟩ := trodAll_cons hA
  obtain ⟨v1, vs1, d1, ds1, p1, q1, rfl, rfl, rfl, h1, r1⟩ := trodAll_cons r0
  obtain ⟨rfl, rfl, rfl⟩ := trodAll_nil r1
  obtain rfl : args = #[v0, v1] := by cases args; simp_all
  obtain ⟨rfl, rfl⟩ := trodVars_none hV
  simp only [List.append_nil] at hW' hblk
  obtain ⟨c00, y00, m0, rfl, -, -, g00⟩ := open_agg1 Try.underlying35 (by kernel_rfl) (by kernel_rfl) (hval 0 35 v0 rfl rfl) h0
  obtain ⟨A, n, c, ts, rfl, hn, hT⟩ := open_ints_reads Try.underlying27 Try.underlying3 (by kernel_rfl) g00
  obtain ⟨f1, hf1⟩ := h1
  obtain ⟨a1, n1, c1, rfl⟩ := okWide_slice Try.underlying36 (hval 1 36 v1 rfl rfl)
  obtain ⟨A', m, c', l, e1, hm, hmc, hF, hR⟩ := open_prs Try.underlying36 Try.underlying82 (by kernel_rfl) (by kernel_rfl) Try.underlying3 Try.underlying3 (by simpa [Value.cells] using hf1)
  rw [e1] at hA' hW' ⊢
  clear hA0 hval0
  refine (law_tells A A' n c m c' hmc ts l hF W hT hR).mono fun e W' ⟨he, hb⟩ => ?_
  subst he
  refine ⟨_, rfl, post_below (ds := [_, _]) (gs := []) (pa := p0 ++ (p1 ++ [])) (pv := []) (by simpa using hW') (fun _ _ _ => (trodAll_cons_mk (shut_bool Try.underlying4 _) trodAll_mk0)) (fun sp hsp => ?_) (fun _ _ => rfl) (by simp) hb (ok_one (by kernel_rfl) rfl (okWide_bool_mk Try.underlying4 _))⟩
  rw [hP]
  refine trodAll_stays laidOut ?_ hA' (fun x hx => hb.same (hblk x (by simpa using hx))) (fun x hx => hsp x (by simpa using hx))
  intro t ht
  have hall : ([35, 36].all fun u => Try.prog.readableRec u && decide (u < Try.prog.types.size)) = true := by kernel_rfl
  have := List.all_eq_true.1 hall t (by simpa using ht)
  simpa using this

theorem over : Rows.wheelTellsRow.holds Try.pinned (OpenSpec.ofChange Rows.wheelTellsSpec) :=
  OpenClaim.holds_of_wide 4 Try.f4 rfl rfl rfl rfl rfl rfl rfl ⟨rfl, rfl, rfl, rfl, rfl⟩ rfl rfl rfl rfl rfl (by kernel_rfl) Try.func4 (by kernel_rfl)
    (of_decide_eq_true (by kernel_rfl)) (by unfold Func.isWrapper; first | (rw [if_pos (by decide +kernel)]; kernel_rfl) | (rw [if_neg (by decide +kernel)]; exact ⟨rfl, rfl⟩))
    (fun os started H enc _ => lifted os started H enc)

/-- ████ THE STATEMENT ████ -/
theorem proved : Rows.WheelTellsSaid :=
  over
#print axioms proved
end Go.Proofs.Ytlmmjaolmmcklaa.wheelTells
