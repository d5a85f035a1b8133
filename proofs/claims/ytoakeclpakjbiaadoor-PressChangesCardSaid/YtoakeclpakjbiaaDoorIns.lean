/-
  The walk of the library's insertion of one weighing into a row that the call itself made.
-/
import Derived.Test.YtoakeclpakjbiaaDoorWo
import Derived.Lib.AppendZerosOnto
import Derived.Lib.Overlaps
import Derived.Laws.Externs
import Derived.RegionTactic
import Derived.Deep.RegionLaw
namespace Go.Proofs.YtoakeclpakjbiaaDoor
open Go.RowKit
set_option linter.unusedVariables false
set_option linter.unusedSimpArgs false

theorem run_copyN {P : Program} (w : World) (dT sT ty elem : TypeId) (size b o dLen dCap : Nat) (a : Addr) (sLen sCap : Nat) (cs : List Value)
    (hu : P.underlying dT = some (.slice elem)) (hs : (P.info? elem).map (·.size) = some size) (hn : cs.length = Nat.min sLen dLen * size)
    (hsrc : ∀ j v, cs[j]? = some v → w.cell? (a.add j) = some v) (hc : ∀ j, j < cs.length → (w.cell? ⟨b, o + j, none⟩).isSome = true) (hf : ∀ j, j < cs.length → w.frozen? ⟨b, o + j, none⟩ = false) (h1 : ∀ v ∈ cs, v.oneCell' = true) :
    (Builtin.copy_ #[dT, sT] ty #[.slice (some ⟨b, o, none⟩) dLen dCap, .slice (some a) sLen sCap]).run P w = .ok (goInt (Nat.min sLen dLen)) (w.setCells b o cs) := by
  have hl := run_loadCells_list (P := P) w a cs hsrc
  have hst := run_storeCells_cells (P := P) b o cs 0 w (by simpa using hc) (by simpa using hf) h1
  cases hq : P.info? elem with
  | none => simp [hq] at hs
  | some i =>
    have hi : i.size = size := by simpa [hq] using hs
    simp [Builtin.copy_, run_underlying hu, Builtin.lenOf, Builtin.firstCells, sizeOf, typeInfo, hq, hi, ← hn, hl, hst]
theorem wp_copyI {P : Program} (w : World) {o : Oper} {a : Act} {K : Act → World → Prop} {Q : Exit → Act → World → Prop} (d s : Operand) (t t' : TypeId)
    (ho : o.op = .call { callee := .builtin .copy, args := #[d, s], argTypes := #[t, t'] }) (v u : Value) (hd : a.eval d = v) (hs : a.eval s = u) {v' : Value} {w' : World}
    (hr : (Builtin.copy_ #[t, t'] o.type #[v, u]).run P w = .ok v' w') (h : K (a.put o.dst v') w') : o.wp P a w K Q := by
  unfold Oper.wp execOp
  simp only [ho, resolve, invoke, builtin, Sem.run_bind, Sem.run_pure, Result.andThen_ok, List.map_toArray, List.map_cons, List.map_nil, hd, hs, hr]
  exact h
theorem wpList_copyI {P : Program} (w : World) {ops : Array Oper} {rest : List Oper} {o : Oper} {a : Act} {Q : Exit → Act → World → Prop} (hgd : o.guard = none) (d s : Operand) (t t' : TypeId)
    (ho : o.op = .call { callee := .builtin .copy, args := #[d, s], argTypes := #[t, t'] }) (v u : Value) (hd : a.eval d = v) (hs : a.eval s = u) {v' : Value} {w' : World}
    (hr : (Builtin.copy_ #[t, t'] o.type #[v, u]).run P w = .ok v' w') (h : wpList P ops Q rest (a.put o.dst v') w') : wpList P ops Q (o :: rest) a w :=
  wpList_plain hgd fun _ hK => wp_copyI w d s t t' ho v u hd hs hr (hK _ _ h)
theorem step_copyI {P : Program} {ops : Array Oper} {o : Oper} {a : Act} {w : World} {K : Act → World → Prop} {Q : Exit → Act → World → Prop} {E : Prop}
    (hg : o.guard = none) (d x : Operand) (dT sT : TypeId) (hop : o.op = Op.call { callee := Callee.builtin Builtin.copy, args := #[d, x], argTypes := #[dT, sT] })
    (v u : Value) (hd : a.eval d = v) (hx : a.eval x = u) {v' : Value} {w' : World} (hr : (Builtin.copy_ #[dT, sT] o.type #[v, u]).run P w = .ok v' w') (hK : K (a.put o.dst v') w') :
    if Region.wanted o (yielded ops a.tmps) = true then Oper.wp P o a w K Q else E := by
  have hw : Region.wanted o (yielded ops a.tmps) = true := by simp [Region.wanted, hg]
  rw [if_pos hw]
  exact wp_copyI w d x dT sT hop v u hd hx hr hK

theorem wgs_drop : ∀ (ws : List WE) (i : Nat), wgs (ws.drop i) = (wgs ws).drop (i * 5)
  | [], i => by simp [wgs]
  | y :: r, 0 => by simp
  | y :: r, i + 1 => by
    have e : wgs (y :: r) = wgc y ++ wgs r := by simp [wgs]
    have h5 : (wgc y).length = 5 := rfl
    rw [List.drop_succ_cons, wgs_drop r i, e, List.drop_append, show (wgc y).drop ((i + 1) * 5) = [] from List.drop_eq_nil_of_le (by rw [h5]; omega), List.nil_append, h5]
    congr 1
    omega
theorem wgs_len (ws : List WE) : (wgs ws).length = ws.length * 5 := flat_len wgc 5 (fun _ => rfl) ws
def insW (ws : List WE) (i : Nat) (x : WE) : List WE := ws.take i ++ x :: ws.drop i

set_option maxRecDepth 100000 in
set_option maxHeartbeats 2000000 in
/-- At the end. -/
theorem ins_end (v : Value) (n base vb : Nat) (ws : List WE) (x : WE) (w : World) (hn : n ≤ 4096) (hown : w.ownsRow base 76 5 v n (wgs ws)) (hb : base ≤ w.heap.size)
    (hv : w.heap[vb]? = some (.cells #[.int .i64 x.1, .int .i64 x.2.1, .int .i64 x.2.2.1, .int .i64 x.2.2.2.1, .int .i64 x.2.2.2.2] 76 (0, 0))) :
    Calls Tryd.prog 82 #[v, .int .i64 n, .slice (some ⟨vb, 0, none⟩) 1 1] w fun e w' => ∃ v', e = .returned v' ∧ w'.ownsRow base 76 5 v' (n + 1) (wgs (insW ws n x)) ∧ Kp w.heap.size v.ownBlock.toList w w' := by
  obtain ⟨i0, hi, hz0, hz1, hz2⟩ := info_parts info_wg
  have hl : ws.length = n := Reads.wg_len (w := w) (B := w.heap.size) (A := (own_val hown).choose) (by
    have h := (own_val hown).choose_spec
    obtain ⟨c, h⟩ := h
    rw [h] at hown
    exact Reads.of_own hown)
  have hins : Hid (wgs (insW ws n x) = wgs ws ++ wgs [x]) := by
    show _ = _
    unfold insW
    rw [List.take_of_length_le (by omega), List.drop_eq_nil_of_le (by omega), wgs_append]
  have hRx : Hid (Reads w w.heap.size 5 (some ⟨vb, 0, none⟩) 1 (wgs [x])) := ⟨rfl, fun _ => ⟨vb, 0, rfl, (Array.getElem?_eq_some_iff.1 hv).1, fun j u hu => by
    rw [Nat.zero_add]
    simp only [World.cell?, hv]
    simpa [wgs, wgc] using hu⟩⟩
  have HO := Lib.hid hown
  have HB := Lib.hid hb
  clear hl hv
  rcases hown.2 with ⟨rfl, rfl⟩ | ⟨g, cap, cur, rfl, hg, hgh, hnc, hcm, _⟩
  · clear hown hb
    go_enter Tryd.func82, Tryd.ntmps82
    go_wp2_with (first | (at_builtin; refine wpList_app _ rfl _ _ 23 rfl base 76 i0 _ 5 40 Tryd.underlying23 hi hz0 hz1 hz2 rfl (by decide) _ _ _ rfl HO.out w.heap.size (some ⟨vb, 0, none⟩) 1 1 (wgs [x]) rfl hRx.out (wgs_one _) ?c3 ?c4 HB.out ?_))
    case c3 => unfold maxLen; omega
    case c4 => omega
    intro v' w' hown' hgr hat
    go_wp2
    go_ret
    exact ⟨_, rfl, (by rw [hins.out]; exact hown'), (Kp.refl _ _ _).grown hgr (Nat.le_refl _) (fun k hk => by simp [Value.ownBlock] at hk)⟩
  · clear hown hb hgh
    unfold maxLen at hcm
    have HG := Lib.hid hg
    clear hg
    by_cases hcn : cap = n
    · subst hcn
      go_enter Tryd.func82, Tryd.ntmps82
      go_wp2_with (first | (at_builtin; refine wpList_app _ rfl _ _ 23 rfl base 76 i0 _ 5 40 Tryd.underlying23 hi hz0 hz1 hz2 rfl (by decide) _ _ _ rfl HO.out w.heap.size (some ⟨vb, 0, none⟩) 1 1 (wgs [x]) rfl hRx.out (wgs_one _) ?c3 ?c4 HB.out ?_))
      case c3 => unfold maxLen; omega
      case c4 => omega
      intro v' w' hown' hgr hat
      go_wp2
      go_ret
      exact ⟨_, rfl, (by rw [hins.out]; exact hown'), (Kp.refl _ _ _).grown hgr (Nat.le_refl _) (fun k hk => by simp [Value.ownBlock] at hk; subst hk; exact .inl (by simp [Value.ownBlock]))⟩
    · go_enter Tryd.func82, Tryd.ntmps82
      go_wp2_with (first | (at_builtin; refine wpList_app _ rfl _ _ 23 rfl base 76 i0 _ 5 40 Tryd.underlying23 hi hz0 hz1 hz2 rfl (by decide) _ _ _ rfl HO.out w.heap.size (some ⟨vb, 0, none⟩) 1 1 (wgs [x]) rfl hRx.out (wgs_one _) ?c3 ?c4 HB.out ?_))
      case c3 => unfold maxLen; omega
      case c4 => omega
      intro v' w' hown' hgr hat
      go_wp2
      go_ret
      exact ⟨_, rfl, (by rw [hins.out]; exact hown'), (Kp.refl _ _ _).grown hgr (Nat.le_refl _) (fun k hk => by simp [Value.ownBlock] at hk; subst hk; exact .inl (by simp [Value.ownBlock]))⟩

/-- What a row holds behind the insertion. -/
theorem ins_at {ws : List WE} {i n : Nat} {x : WE} (hl : ws.length = n) (hi : i < n) (k : Nat) (y : WE) (h : (insW ws i x)[k]? = some y) : (if k = i then x else if k < i then ws.getD k default else ws.getD (k - 1) default) = y := by
  unfold insW at h
  by_cases h1 : k < i
  · rw [List.getElem?_append_left (by simp; omega), List.getElem?_take_of_lt h1] at h
    rw [if_neg (by omega), if_pos h1]
    simp [h]
  · rw [List.getElem?_append_right (by simp; omega)] at h
    have e : (ws.take i).length = i := by simp; omega
    rw [e] at h
    by_cases h2 : k = i
    · subst h2
      simp at h
      simp [h]
    · obtain ⟨d, hd⟩ : ∃ d, k - i = d + 1 := ⟨k - i - 1, by omega⟩
      rw [hd, List.getElem?_cons_succ, List.getElem?_drop] at h
      rw [if_neg h2, if_neg h1, show k - 1 = i + d by omega]
      simp [h]
theorem insW_len {ws : List WE} {i n : Nat} {x : WE} (hl : ws.length = n) (hi : i ≤ n) : (insW ws i x).length = n + 1 := by
  simp [insW]; omega
theorem ins_row {W : World} {g c n i base : Nat} {ws : List WE} {x : WE} (hl : ws.length = n) (hi : i < n) (hroom : n + 1 ≤ c) (hcm : c ≤ maxLen) (hbg : base ≤ g)
    (h : RowOf W g 76 5 c wgc i (fun k => ws.getD k default)) :
    ((W.setCells g ((i + 1) * 5) (wgs (ws.drop i))).setCells g (i * 5) (wgc x)).ownsRow base 76 5 (.slice (some ⟨g, 0, none⟩) (n + 1) c) (n + 1) (wgs (insW ws i x)) ∧
    ((W.setCells g (i * 5) (wgc x)).setCells g ((i + 1) * 5) (wgs (ws.drop i))).ownsRow base 76 5 (.slice (some ⟨g, 0, none⟩) (n + 1) c) (n + 1) (wgs (insW ws i x)) := by
  have hil := insW_len (x := x) hl (Nat.le_of_lt hi)
  have hdl : (ws.drop i).length = n - i := by simp [hl]
  constructor
  · obtain ⟨f, f1, f2⟩ := h
    have h2 : RowOf ((W.setCells g ((i + 1) * 5) (wgs (ws.drop i))).setCells g (i * 5) (wgc x)) g 76 5 c wgc (n + 1) (fun k => if k = i then x else if k < i then ws.getD k default else ws.getD (k - 1) default) := by
      refine ⟨_, rowIs_sets _ _ _ _ (rowIs_sets _ _ _ _ f1), fun k hk t u hu => ?_⟩
      have ht : t < 5 := (List.getElem?_eq_some_iff.1 hu).1
      have hw : (wgc x).length = 5 := rfl
      have hwd : (wgs (ws.drop i)).length = (n - i) * 5 := by rw [wgs_len, hdl]
      by_cases h3 : k = i
      · subst h3
        simp only [if_true] at hu
        rw [if_pos (by omega), show k * 5 + t - k * 5 = t by omega, hu]; rfl
      · simp only [h3, if_false] at hu
        rw [if_neg (by omega)]
        by_cases h4 : k < i
        · simp only [h4, if_true] at hu
          rw [if_neg (by omega)]
          exact f2 k h4 t u hu
        · simp only [h4, if_false] at hu
          rw [if_pos (by rw [hwd]; omega), wgs_drop, List.getElem?_drop, show i * 5 + (k * 5 + t - (i + 1) * 5) = (k - 1) * 5 + t by omega, wgs, flat_get wgc 5 (fun _ => rfl) _ _ _ ht]
          have e1 : ws[k - 1]? = some (ws[k - 1]'(by omega)) := List.getElem?_eq_getElem _
          have e2 : ws.getD (k - 1) default = ws[k - 1]'(by omega) := by rw [List.getD_eq_getElem?_getD, e1]; rfl
          rw [e2] at hu
          rw [e1, Option.bind_some, hu]; rfl
    have := h2.own (fun _ => rfl) (base := base) (l := insW ws i x) (by omega) (by omega) hcm hbg (fun k y hy => ins_at hl hi k y hy)
    rw [hil] at this
    exact this
  · obtain ⟨f, f1, f2⟩ := h
    have h2 : RowOf ((W.setCells g (i * 5) (wgc x)).setCells g ((i + 1) * 5) (wgs (ws.drop i))) g 76 5 c wgc (n + 1) (fun k => if k = i then x else if k < i then ws.getD k default else ws.getD (k - 1) default) := by
      refine ⟨_, rowIs_sets _ _ _ _ (rowIs_sets _ _ _ _ f1), fun k hk t u hu => ?_⟩
      have ht : t < 5 := (List.getElem?_eq_some_iff.1 hu).1
      have hw : (wgc x).length = 5 := rfl
      have hwd : (wgs (ws.drop i)).length = (n - i) * 5 := by rw [wgs_len, hdl]
      by_cases h3 : k = i
      · subst h3
        simp only [if_true] at hu
        rw [if_neg (by omega), if_pos (by omega), show k * 5 + t - k * 5 = t by omega, hu]; rfl
      · simp only [h3, if_false] at hu
        by_cases h4 : k < i
        · simp only [h4, if_true] at hu
          rw [if_neg (by omega), if_neg (by omega)]
          exact f2 k h4 t u hu
        · simp only [h4, if_false] at hu
          rw [if_pos (by rw [hwd]; omega), wgs_drop, List.getElem?_drop, show i * 5 + (k * 5 + t - (i + 1) * 5) = (k - 1) * 5 + t by omega, wgs, flat_get wgc 5 (fun _ => rfl) _ _ _ ht]
          have e1 : ws[k - 1]? = some (ws[k - 1]'(by omega)) := List.getElem?_eq_getElem _
          have e2 : ws.getD (k - 1) default = ws[k - 1]'(by omega) := by rw [List.getD_eq_getElem?_getD, e1]; rfl
          rw [e2] at hu
          rw [e1, Option.bind_some, hu]; rfl
    have := h2.own (fun _ => rfl) (base := base) (l := insW ws i x) (by omega) (by omega) hcm hbg (fun k y hy => ins_at hl hi k y hy)
    rw [hil] at this
    exact this
theorem below_sets {B b : Nat} {a : World} (hb : B ≤ b) : ∀ (vs : List Value) (o : Nat) (w : World), Below B a w → Below B a (w.setCells b o vs)
  | [], _, _, h => h
  | v :: r, o, w, h => below_sets hb r (o + 1) _ (h.setCell (p := ⟨b, o, none⟩) hb v)
theorem drew_sets (b : Nat) : ∀ (vs : List Value) (o : Nat) (w : World), (w.setCells b o vs).drew = w.drew.setCells b o vs
  | [], _, _ => rfl
  | v :: r, o, w => by rw [World.setCells, World.setCells, drew_sets b r]; rfl
theorem info_size : (Tryd.prog.info? 76).map (·.size) = some 5 := by
  obtain ⟨i0, hi, hz0, hz1, hz2⟩ := info_parts info_wg
  rw [hi]; simp [hz1]

set_option maxRecDepth 100000 in
set_option maxHeartbeats 2000000 in
/-- There is room. -/
theorem ins_room (g n c i base vb : Nat) (ws : List WE) (x : WE) (w : World) (hn : n ≤ 4096) (hi : i < n) (hroom : n + 1 ≤ c) (hne : vb ≠ g) (hown : w.ownsRow base 76 5 (.slice (some ⟨g, 0, none⟩) n c) n (wgs ws)) (hb : base ≤ w.heap.size)
    (hv : w.heap[vb]? = some (.cells #[.int .i64 x.1, .int .i64 x.2.1, .int .i64 x.2.2.1, .int .i64 x.2.2.2.1, .int .i64 x.2.2.2.2] 76 (0, 0))) :
    Calls Tryd.prog 82 #[.slice (some ⟨g, 0, none⟩) n c, .int .i64 i, .slice (some ⟨vb, 0, none⟩) 1 1] w fun e w' => ∃ v', e = .returned v' ∧ w'.ownsRow base 76 5 v' (n + 1) (wgs (insW ws i x)) ∧ Kp w.heap.size [g] w w' := by
  obtain ⟨hl, hnc, hcm, hbg, hrow⟩ := RowOf.from (f := wgc) (fun _ => rfl) (by omega) hown
  have hov : ∀ o lb cb, (callFunc 118 #[.slice (some ⟨vb, 0, none⟩) 1 1, .slice (some ⟨g, o, none⟩) lb cb]).run Tryd.prog w = .ok (.value (.bool false)) w := fun o lb cb => by
    obtain ⟨f, ⟨cur, h1, h2, h3⟩, h4⟩ := hrow
    have hpos : cur.size ≠ 0 := by omega
    rw [run_callFunc_extern Tryd.func118 (by kernel_rfl) (by kernel_rfl) (by kernel_rfl) (e := Extern.SlicesOverlaps.overlaps #[23, 23] #[4]) (by kernel_rfl),
      Lib.run_overlaps_apart w 23 4 76 Tryd.underlying23 5 Tryd.sizeOf76 ⟨vb, 0, none⟩ ⟨g, o, none⟩ 1 1 lb cb hne 76 76 5 cur.size (by simp [World.shape?, hv]) (by simp [World.shape?, h1]) hpos (by simp [World.frozen?, hv]) (by simp [World.frozen?, hv])]
    rfl
  have hci : ¬ c = i := by omega
  have hci1 : ¬ c = i + 1 := by omega
  have hw1 : IntKind.i64.wrap ((i : Int) + 1) = (i : Int) + 1 := by rw [IntKind.wrap_i64]; omega
  have hb1 : (0 : Int) ≤ (i : Int) + 1 := by omega
  have htn : ((i : Int) + 1).toNat = i + 1 := by omega
  have hb3 : (i : Int) ≤ (n : Int) + 1 := by omega
  have hb4 : i ≤ n := by omega
  have hb5 : i ≤ n + 1 := by omega
  have hz2 : ¬ ((i : Int) = (n : Int)) := by omega
  have hcm' := hcm
  unfold maxLen at hcm'
  go_enter Tryd.func82, Tryd.ntmps82
  go_wp2_with (simp only [hov])
  have hdl : (wgs (ws.drop i)).length = (n - i) * 5 := by rw [wgs_len]; simp [hl]
  have hRd := (Reads.of_own hown).2 (by omega)
  obtain ⟨b0, o0, e0, -, hcell⟩ := hRd
  simp only [Option.some.injEq, Addr.mk.injEq, and_true] at e0
  obtain ⟨rfl, rfl⟩ := e0
  have hcp1 : ∀ ty, (Builtin.copy_ #[23, 23] ty #[.slice (some ⟨g, (i + 1) * 5, none⟩) (n - i) (c - (i + 1)), .slice (some ⟨g, i * 5, none⟩) (n + 1 - i) (c - i)]).run Tryd.prog w.drew = .ok (goInt (Nat.min (n + 1 - i) (n - i))) (w.drew.setCells g ((i + 1) * 5) (wgs (ws.drop i))) := fun ty =>
    run_copyN w.drew _ _ ty 76 5 g ((i + 1) * 5) (n - i) (c - (i + 1)) ⟨g, i * 5, none⟩ (n + 1 - i) (c - i) (wgs (ws.drop i)) Tryd.underlying23 info_size (by rw [hdl]; congr 1; simp only [Nat.min_def]; split <;> omega)
      (fun j v hj => by rw [Addr.add_lit]; rw [wgs_drop, List.getElem?_drop] at hj; have := hcell _ v hj; rwa [Nat.zero_add] at this)
      (fun j hj => hrow.there (o := (i + 1) * 5 + j) (by rw [hdl] at hj; omega)) (fun j hj => hrow.frozen _) (wgs_one _)
  obtain ⟨W1, hW1⟩ : ∃ W1, W1 = w.drew.setCells g ((i + 1) * 5) (wgs (ws.drop i)) := ⟨_, rfl⟩
  have hB1 : Kp w.heap.size [g] w W1 := by rw [hW1]; exact kp_sets (by simp) _ _ _ (Kp.refl _ _ _).drew
  have hrow1 : ∀ o, o < c * 5 → (W1.cell? ⟨g, o, none⟩).isSome = true ∧ W1.frozen? ⟨g, o, none⟩ = false := fun o ho => by
    obtain ⟨f, f1, f2⟩ := hrow
    have := rowIs_sets (wgs (ws.drop i)) ((i + 1) * 5) w.drew f f1
    rw [← hW1] at this
    exact ⟨by rw [this.cell ho]; rfl, this.frozen _⟩
  have hv1 : W1.heap[vb]? = w.heap[vb]? := by
    have : Kp (w.heap.size) [g] w W1 := by rw [hW1]; exact kp_sets (by simp) _ _ _ (Kp.refl _ _ _).drew
    exact this.block vb (Array.getElem?_eq_some_iff.1 hv).1 (by simpa using hne)
  have hcp2 : ∀ ty, (Builtin.copy_ #[23, 23] ty #[.slice (some ⟨g, i * 5, none⟩) (n + 1 - i) (c - i), .slice (some ⟨vb, 0, none⟩) 1 1]).run Tryd.prog W1 = .ok (goInt (Nat.min 1 (n + 1 - i))) (W1.setCells g (i * 5) (wgc x)) := fun ty =>
    run_copyN W1 _ _ ty 76 5 g (i * 5) (n + 1 - i) (c - i) ⟨vb, 0, none⟩ 1 1 (wgc x) Tryd.underlying23 info_size (by simp only [Nat.min_def]; split <;> simp [wgc] <;> omega)
      (fun j v hj => by rw [Addr.add_lit, Nat.zero_add]; simp only [World.cell?, hv1, hv]; simpa [wgc] using hj)
      (fun j hj => (hrow1 _ (by simp [wgc] at hj; omega)).1) (fun j hj => (hrow1 _ (by simp [wgc] at hj; omega)).2) (by intro v hv; simp [wgc] at hv; rcases hv with rfl | rfl | rfl | rfl | rfl <;> rfl)
  have hfin : Hid ((W1.setCells g (i * 5) (wgc x)).ownsRow base 76 5 (.slice (some ⟨g, 0, none⟩) (n + 1) c) (n + 1) (wgs (insW ws i x))) := by
    have := (ins_row (W := w.drew) (x := x) hl hi hroom hcm hbg (RowOf.congr (w := w.drew) hrow (Nat.le_of_lt hi) (fun _ _ => rfl))).1
    rw [← hW1] at this
    exact this
  rw [← hW1] at hcp1
  have HB1 := Lib.hid hB1
  have HG := Lib.hid hbg
  clear hv1 hrow1 hB1 hcell hdl hrow hown hv hov hbg hb hcm hl hW1
  go_region_law (refine step_copyI rfl _ _ 23 23 rfl _ _ (by simp [Act.eval, Act.put]) (by simp [Act.eval, Act.put]) (hcp1 _) ?_)
  go_wp2_with (at_builtin; refine wpList_copyI _ rfl _ _ 23 23 rfl _ _ rfl rfl (hcp2 _) ?_)
  go_ret
  exact ⟨_, rfl, hfin.out, kp_sets (by simp) _ _ _ HB1.out⟩

set_option maxRecDepth 100000 in
set_option maxHeartbeats 2000000 in
/-- There is no room. -/
theorem ins_grow (g n c i base vb : Nat) (ws : List WE) (x : WE) (w : World) (hn : n ≤ 4096) (hi : i < n) (hfull : c < n + 1) (hown : w.ownsRow base 76 5 (.slice (some ⟨g, 0, none⟩) n c) n (wgs ws)) (hb : base ≤ w.heap.size)
    (hv : w.heap[vb]? = some (.cells #[.int .i64 x.1, .int .i64 x.2.1, .int .i64 x.2.2.1, .int .i64 x.2.2.2.1, .int .i64 x.2.2.2.2] 76 (0, 0))) :
    Calls Tryd.prog 82 #[.slice (some ⟨g, 0, none⟩) n c, .int .i64 i, .slice (some ⟨vb, 0, none⟩) 1 1] w fun e w' => ∃ v', e = .returned v' ∧ w'.ownsRow base 76 5 v' (n + 1) (wgs (insW ws i x)) ∧ Kp w.heap.size [g] w w' := by
  obtain ⟨hl, hnc, hcm, hbg, hrow⟩ := RowOf.from (f := wgc) (fun _ => rfl) (by omega) hown
  obtain ⟨i0, gi, gz0, gz1, gz2⟩ := info_parts info_wg
  obtain rfl : c = n := by omega
  have hgl := hrow.lt
  have hvl := (Array.getElem?_eq_some_iff.1 hv).1
  obtain ⟨b0, o0, e0, -, hcell⟩ := (Reads.of_own hown).2 (by omega)
  simp only [Option.some.injEq, Addr.mk.injEq, and_true] at e0
  obtain ⟨rfl, rfl⟩ := e0
  have htl : ((wgs ws).take (i * 5)).length = i * 5 := by rw [List.length_take, wgs_len]; omega
  have hold : (Builtin.firstCells i0.size i (.slice (some ⟨g, 0, none⟩) i c)).run Tryd.prog w.drew = .ok ((wgs ws).take (i * 5)).toArray w.drew := by
    rw [gz1]
    exact run_firstCells_some w.drew 5 i ⟨g, 0, none⟩ i c _ htl (fun j v hj => by
      rw [Addr.add_lit]
      rw [List.getElem?_take] at hj
      split at hj
      · exact hcell j v hj
      · cases hj)
  have hik : i + (c + 1 - i) = c + 1 := by omega
  have hkk : (c : Int) + 1 - (i : Int) = ((c + 1 - i : Nat) : Int) := by omega
  obtain ⟨G, hG⟩ : ∃ G, G = grownCap w (c + 1) c 76 := ⟨_, rfl⟩
  obtain ⟨ROW, hROW⟩ : ∃ ROW : Array Value, ROW = ((wgs ws).take (i * 5)).toArray ++ Builtin.zeroCells #[.int .i64 0, .int .i64 0, .int .i64 0, .int .i64 0, .int .i64 0] (c + 1 - i) ++ Builtin.zeroCells #[.int .i64 0, .int .i64 0, .int .i64 0, .int .i64 0, .int .i64 0] (G - (c + 1)) := ⟨_, rfl⟩
  have hGn : c + 1 ≤ G := by rw [hG]; exact grownCap_ge w _ _ _
  have hGm : G ≤ maxLen := by rw [hG]; exact grownCap_le_maxLen w (c + 1) c _ (by unfold maxLen; omega)
  have hrz : ∀ ty, (Builtin.append_ #[23, 3] ty #[.slice (some ⟨g, 0, none⟩) i c, .int .i64 ((c : Int) + 1 - (i : Int))]).run Tryd.prog w =
      .ok (.slice (some ⟨w.heap.size, 0, none⟩) (c + 1) G) (w.drew.alloc (.cells ROW 76)) := fun ty => by
    have h := Lib.run_append_grow_zeros w 23 3 ty 76 i0 _ .i64 .i64 Tryd.underlying23 Tryd.underlying3 gi gz0 (some ⟨g, 0, none⟩) i c _ hold (c + 1 - i) (by omega) (by omega) (by omega) (by omega) (by rw [gz2]; omega) (by rw [gz2, hik]; exact growslice_fits (by omega) (by omega))
    rw [hik, ← hG] at h
    rw [hkk, hROW]
    exact h
  have hRs : ROW.size = G * 5 := by
    rw [hROW]
    simp only [Array.size_append, List.size_toArray, htl, Builtin.zeroCells, Array.size_map, Array.size_range]
    show i * 5 + (c + 1 - i) * 5 + (G - (c + 1)) * 5 = G * 5
    omega
  have hRow : RowOf (w.drew.alloc (.cells ROW 76)) w.heap.size 76 5 G wgc i (fun k => ws.getD k default) := by
    refine ⟨fun j => ROW[j]?.getD undef, ⟨ROW, heap_alloc_new w.drew _, hRs, fun j hj => ?_⟩, fun k hk t u hu => ?_⟩
    · have h := Array.getElem?_eq_getElem (xs := ROW) (i := j) (by omega)
      simp only [h, Option.getD_some]
    · have ht : t < 5 := (List.getElem?_eq_some_iff.1 hu).1
      have e1 : ws[k]? = some (ws[k]'(by omega)) := List.getElem?_eq_getElem _
      have e2 : ws.getD k default = ws[k]'(by omega) := by rw [List.getD_eq_getElem?_getD, e1]; rfl
      simp only [e2] at hu
      have e3 : ROW[k * 5 + t]? = some u := by
        rw [hROW, Array.append_assoc, Array.getElem?_append_left (by rw [List.size_toArray, htl]; omega), List.getElem?_toArray, List.getElem?_take_of_lt (by omega), wgs, flat_get wgc 5 (fun _ => rfl) _ _ _ ht, e1]
        exact hu
      simp [e3]
  obtain ⟨W1, hW1⟩ : ∃ W1, W1 = w.drew.alloc (.cells ROW 76) := ⟨_, rfl⟩
  have hs1 : W1.heap.size = w.heap.size + 1 := by rw [hW1]; simp
  rw [← hW1] at hrz hRow
  have hOld : ∀ b, b < w.heap.size → W1.heap[b]? = w.heap[b]? := fun b hb => by rw [hW1]; exact heap_alloc_old w.drew _ hb
  have hcpA : ∀ ty, (Builtin.copy_ #[23, 23] ty #[.slice (some ⟨w.heap.size, i * 5, none⟩) (c + 1 - i) (G - i), .slice (some ⟨vb, 0, none⟩) 1 1]).run Tryd.prog W1 = .ok (goInt (Nat.min 1 (c + 1 - i))) (W1.setCells w.heap.size (i * 5) (wgc x)) := fun ty =>
    run_copyN W1 _ _ ty 76 5 w.heap.size (i * 5) (c + 1 - i) (G - i) ⟨vb, 0, none⟩ 1 1 (wgc x) Tryd.underlying23 info_size (by simp only [Nat.min_def]; split <;> simp [wgc] <;> omega)
      (fun j v hj => by rw [Addr.add_lit, Nat.zero_add]; simp only [World.cell?, hOld vb hvl, hv]; simpa [wgc] using hj)
      (fun j hj => hRow.there (by simp [wgc] at hj; omega)) (fun j hj => hRow.frozen _) (by intro v hv; simp [wgc] at hv; rcases hv with rfl | rfl | rfl | rfl | rfl <;> rfl)
  obtain ⟨W2, hW2⟩ : ∃ W2, W2 = W1.setCells w.heap.size (i * 5) (wgc x) := ⟨_, rfl⟩
  have hdl : (wgs (ws.drop i)).length = (c - i) * 5 := by rw [wgs_len]; simp [hl]
  have hrow2 : ∀ o, o < G * 5 → (W2.cell? ⟨w.heap.size, o, none⟩).isSome = true ∧ W2.frozen? ⟨w.heap.size, o, none⟩ = false := fun o ho => by
    obtain ⟨f, f1, f2⟩ := hRow
    have := rowIs_sets (wgc x) (i * 5) W1 f f1
    rw [← hW2] at this
    exact ⟨by rw [this.cell ho]; rfl, this.frozen _⟩
  have hk2 : Kp (w.heap.size + 1) [w.heap.size] W1 W2 := by rw [hW2]; exact kp_sets (by simp) _ _ _ (Kp.refl _ _ _)
  have hcpB : ∀ ty, (Builtin.copy_ #[23, 23] ty #[.slice (some ⟨w.heap.size, (i + 1) * 5, none⟩) (c - i) (G - (i + 1)), .slice (some ⟨g, i * 5, none⟩) (c - i) (c - i)]).run Tryd.prog W2.drew = .ok (goInt (Nat.min (c - i) (c - i))) (W2.drew.setCells w.heap.size ((i + 1) * 5) (wgs (ws.drop i))) := fun ty =>
    run_copyN W2.drew _ _ ty 76 5 w.heap.size ((i + 1) * 5) (c - i) (G - (i + 1)) ⟨g, i * 5, none⟩ (c - i) (c - i) (wgs (ws.drop i)) Tryd.underlying23 info_size (by rw [hdl]; congr 1; simp only [Nat.min_def]; split <;> omega)
      (fun j v hj => by
        rw [Addr.add_lit]
        rw [wgs_drop, List.getElem?_drop] at hj
        have h1 := hcell _ v hj
        rw [Nat.zero_add] at h1
        have h2 : W2.drew.cell? ⟨g, i * 5 + j, none⟩ = w.cell? ⟨g, i * 5 + j, none⟩ := by
          have h3 := hk2.block g (by omega) (by simp; omega)
          exact World.cell?_of_block (w := w) (w' := W2.drew) (h3.trans (hOld g hgl))
        rw [h2]; exact h1)
      (fun j hj => (hrow2 ((i + 1) * 5 + j) (by rw [hdl] at hj; omega)).1) (fun j hj => (hrow2 ((i + 1) * 5 + j) (by rw [hdl] at hj; omega)).2) (wgs_one _)
  have hfin : Hid ((W2.drew.setCells w.heap.size ((i + 1) * 5) (wgs (ws.drop i))).ownsRow base 76 5 (.slice (some ⟨w.heap.size, 0, none⟩) (c + 1) G) (c + 1) (wgs (insW ws i x))) := by
    have := (ins_row (W := W1) (x := x) (base := base) hl hi hGn hGm hb hRow).2
    rw [← hW2] at this
    show World.ownsRow _ _ _ _ _ _ _
    rw [show W2.drew.setCells w.heap.size ((i + 1) * 5) (wgs (ws.drop i)) = (W2.setCells w.heap.size ((i + 1) * 5) (wgs (ws.drop i))).drew from (drew_sets _ _ _ _).symm]
    exact this
  have HB2 : Hid (Below w.heap.size w (W2.drew.setCells w.heap.size ((i + 1) * 5) (wgs (ws.drop i)))) := by
    show Below _ _ _
    refine below_sets (Nat.le_refl _) _ _ _ (Below.drew ?_)
    rw [hW2]
    refine below_sets (Nat.le_refl _) _ _ _ ?_
    rw [hW1]
    exact ((Below.refl _ _).drew).alloc (Nat.le_refl _) _
  rw [← hW2] at hcpA
  have hci : ¬ c = i := by omega
  have hGi : ¬ G = i := by omega
  have hGi1 : ¬ G = i + 1 := by omega
  have hw1 : IntKind.i64.wrap ((i : Int) + 1) = (i : Int) + 1 := by rw [IntKind.wrap_i64]; omega
  have hb1 : (0 : Int) ≤ (i : Int) + 1 := by omega
  have htn : ((i : Int) + 1).toNat = i + 1 := by omega
  have hb3 : (i : Int) ≤ (c : Int) + 1 := by omega
  have hb4 : i ≤ c := by omega
  have hb5 : i ≤ c + 1 := by omega
  have hz2 : ¬ ((i : Int) = (c : Int)) := by omega
  have hGm' := hGm
  unfold maxLen at hGm'
  clear hfull hkk hik hold hROW hG hRs hRow hOld hrow2 hk2 hdl hcell hrow hown hv hbg hb hcm hl hW2 hW1 hs1 htl hgl hvl gi gz0 gz1 gz2 hGm
  go_enter Tryd.func82, Tryd.ntmps82
  go_wp2_with (first
    | (at_builtin; refine Lib.wpList_append_run _ rfl _ _ _ _ rfl _ _ rfl rfl _ _ (hrz _) ?_)
    | (at_builtin; refine wpList_copyI _ rfl _ _ 23 23 rfl _ _ rfl rfl (hcpA _) ?_))
  go_region_law (refine step_copyI rfl _ _ 23 23 rfl _ _ (by simp [Act.eval, Act.put]) (by simp [Act.eval, Act.put]) (hcpB _) ?_)
  go_wp2
  go_ret
  exact ⟨_, rfl, hfin.out, .of_below HB2.out⟩

/-- A weighing is put in its place. -/
theorem insert_any (v : Value) (n i base vb : Nat) (ws : List WE) (x : WE) (w : World) (hn : n ≤ 4096) (hi : i ≤ n) (hne : v.ownBlock ≠ some vb) (hown : w.ownsRow base 76 5 v n (wgs ws)) (hb : base ≤ w.heap.size)
    (hv : w.heap[vb]? = some (.cells #[.int .i64 x.1, .int .i64 x.2.1, .int .i64 x.2.2.1, .int .i64 x.2.2.2.1, .int .i64 x.2.2.2.2] 76 (0, 0))) :
    Calls Tryd.prog 82 #[v, .int .i64 i, .slice (some ⟨vb, 0, none⟩) 1 1] w fun e w' => ∃ v', e = .returned v' ∧ w'.ownsRow base 76 5 v' (n + 1) (wgs (insW ws i x)) ∧ Kp w.heap.size v.ownBlock.toList w w' := by
  rcases Nat.lt_or_ge i n with h | h
  · rcases hown.2 with ⟨_, h0⟩ | ⟨g, cap, cur, rfl, hg, hgh, hnc, hcm, _⟩
    · omega
    · rcases Nat.lt_or_ge cap (n + 1) with hc | hc
      · exact ins_grow g n cap i base vb ws x w hn h hc hown hb hv
      · exact ins_room g n cap i base vb ws x w hn h hc (fun e => hne (by rw [e]; rfl)) hown hb hv
  · obtain rfl : i = n := by omega
    exact ins_end v i base vb ws x w hn hown hb hv
end Go.Proofs.YtoakeclpakjbiaaDoor
