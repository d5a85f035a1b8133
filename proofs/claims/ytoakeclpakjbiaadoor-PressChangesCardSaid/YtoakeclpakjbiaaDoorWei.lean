/-
  The walk of a press with one weighing more.
-/
import Derived.Test.YtoakeclpakjbiaaDoorLead
import Derived.Test.YtoakeclpakjbiaaDoorBs
import Derived.Test.YtoakeclpakjbiaaDoorIns
namespace Go.Proofs.YtoakeclpakjbiaaDoor
open Go.RowKit
set_option linter.unusedVariables false
set_option linter.unusedSimpArgs false

def weighS (ps : List PR) (ws : List WE) (x : WE) : (List PR × List WE) × Int :=
  if validP ps ws then if ws.length = 30 then (([], []), 9) else if validP ps (insW ws (posW ws x.1) x) then ((ps, insW ws (posW ws x.1) x), 0) else (([], []), 21) else (([], []), 20)

/-- What stands in each world behind the copies of the arguments. -/
structure PC (w : World) (A A' : Option Addr) (n c n' c' : Nat) (ps : List PR) (ws : List WE) (x : WE) (z : World) : Prop where
  b0 : z.heap[w.heap.size]? = some (.cells #[.slice A n c, .slice A' n' c'] 25 (0, 0))
  bx : z.heap[w.heap.size + 1]? = some (.cells #[.int .i64 x.1, .int .i64 x.2.1, .int .i64 x.2.2.1, .int .i64 x.2.2.2.1, .int .i64 x.2.2.2.2] 76 (0, 0))
  b1 : z.heap[w.heap.size + 2]? = some (.cells #[.slice none 0 0, .slice none 0 0] 25 (0, 0))
  bel : Below w.heap.size w z
  size : w.heap.size + 3 ≤ z.heap.size
  laid : Laid z
section
variable {w z y : World} {A A' : Option Addr} {n c n' c' : Nat} {ps : List PR} {ws : List WE} {x : WE}
theorem PC.below (h : PC w A A' n c n' c' ps ws x z) (hb : Below z.heap.size z y) : PC w A A' n c n' c' ps ws x y := by
  have hs := h.size
  have hs2 := hb.size
  exact ⟨keepO hb h.b0, keepO hb h.bx, keepO hb h.b1, below_via h.bel (by omega) hb, by omega, h.laid.below hb h.laid.2.2.2⟩
end
theorem five_facts {x : World} {b : Nat} {c0 c1 c2 c3 c4 : Value} {t : TypeId} (h : x.heap[b]? = some (.cells #[c0, c1, c2, c3, c4] t (0, 0))) :
    x.cell? ⟨b, 0, none⟩ = some c0 ∧ x.cell? ⟨b, 1, none⟩ = some c1 ∧ x.cell? ⟨b, 2, none⟩ = some c2 ∧ x.cell? ⟨b, 3, none⟩ = some c3 ∧ x.cell? ⟨b, 4, none⟩ = some c4 :=
  ⟨by simp [World.cell?, h], by simp [World.cell?, h], by simp [World.cell?, h], by simp [World.cell?, h], by simp [World.cell?, h]⟩
theorem allW_rise {ps : List PR} : ∀ {ws : List WE} {last : Int}, allW ps last ws = true → Rise ws ∧ ∀ (k : Nat) (y : WE), ws[k]? = some y → last < y.1
  | [], last, _ => ⟨fun i j x y h hx => by simp at hx, fun k y h => by simp at h⟩
  | a :: r, last, h => by
    simp only [allW, Bool.and_eq_true] at h
    obtain ⟨h1, h2⟩ := h
    obtain ⟨r1, r2⟩ := allW_rise h2
    simp only [okW, Bool.and_eq_true, decide_eq_true_eq] at h1
    have hla : last < a.1 := by omega
    refine ⟨fun i j x y hij hx hy => ?_, fun k y hy => ?_⟩
    · cases j with
      | zero => omega
      | succ j =>
        cases i with
        | zero => simp at hx; subst hx; exact r2 j y (by simpa using hy)
        | succ i => exact r1 i j x y (by omega) (by simpa using hx) (by simpa using hy)
    · cases k with
      | zero => simp at hy; subst hy; exact hla
      | succ k => have := r2 k y (by simpa using hy); omega
theorem own_lt {w : World} {base : Nat} {e : TypeId} {size n : Nat} {v : Value} {xs : List Value} (h : w.ownsRow base e size v n xs) {k : Nat} (hk : v.ownBlock = some k) : base ≤ k ∧ k < w.heap.size := by
  rcases h.2 with ⟨h0, -⟩ | ⟨g1, cap', cur, h1, h2, h3, h4⟩
  · rw [h0] at hk; cases hk
  · rw [h1] at hk
    simp only [Value.ownBlock, Option.some.injEq] at hk
    subst hk
    exact ⟨h2, (Array.getElem?_eq_some_iff.1 h3).1⟩
theorem own_apart2 {w : World} {base base' n m k : Nat} {xs ys : List Value} {u v : Value} (h : w.ownsRow base 87 4 u n xs) (h' : w.ownsRow base' 76 5 v m ys) (hk : u.ownBlock = some k) : v.ownBlock ≠ some k := by
  intro hm
  rcases h.2 with ⟨h0, -⟩ | ⟨g1, cap1, cur1, h1, -, h3, -⟩
  · rw [h0] at hk; cases hk
  · rw [h1] at hk
    simp only [Value.ownBlock, Option.some.injEq] at hk
    subst hk
    rw [h1] at h
    exact own_apart h h' hm rfl
theorem posW_le (ws : List WE) (t : Int) : posW ws t ≤ ws.length := by
  unfold posW
  exact List.takeWhile_sublist _ |>.length_le

set_option maxRecDepth 100000 in
set_option maxHeartbeats 2000000 in
theorem weigh_any (A A' : Option Addr) (n c n' c' : Nat) (ps : List PR) (ws : List WE) (x : WE) (w : World) (hnm : n ≤ maxLen) (hnm' : n' ≤ maxLen) (hR : Reads w w.heap.size 4 A n (pgs ps)) (hW : Reads w w.heap.size 5 A' n' (wgs ws)) (hL : Laid w) :
    Calls Tryd.prog 36 #[.agg #[.slice A n c, .slice A' n' c'], .agg #[.int .i64 x.1, .int .i64 x.2.1, .int .i64 x.2.2.1, .int .i64 x.2.2.2.1, .int .i64 x.2.2.2.2]] w fun e w' => Res w.heap.size (weighS ps ws x) e w' ∧ Below w.heap.size w w' := by
  have hl := hR.pg_len
  have hl' := hW.wg_len
  obtain ⟨wb, hwb⟩ : ∃ wb, wb = ((w.alloc (.cells #[.slice A n c, .slice A' n' c'] 25)).alloc (.cells #[.int .i64 x.1, .int .i64 x.2.1, .int .i64 x.2.2.1, .int .i64 x.2.2.2.1, .int .i64 x.2.2.2.2] 76)).alloc (.cells #[.slice none 0 0, .slice none 0 0] 25) := ⟨_, rfl⟩
  have hbb : Below w.heap.size w wb := by rw [hwb]; exact (((Below.refl _ _).alloc (Nat.le_refl _) _).alloc (by simp) _).alloc (by simp <;> omega) _
  have HP0 : Hid (PC w A A' n c n' c' ps ws x wb) := by
    refine ⟨?_, ?_, ?_, hbb, by rw [hwb]; simp, hL.below hbb hL.2.2.2⟩
    · rw [hwb, heap_lt_alloc' _ _ _ (by simp <;> omega), heap_lt_alloc' _ _ _ (by simp)]; exact heap_alloc_new w _
    · rw [hwb, heap_lt_alloc' _ _ _ (by simp)]
      have := heap_alloc_new (w.alloc (.cells #[.slice A n c, .slice A' n' c'] 25)) (.cells #[.int .i64 x.1, .int .i64 x.2.1, .int .i64 x.2.2.1, .int .i64 x.2.2.2.1, .int .i64 x.2.2.2.2] 76)
      simpa using this
    · rw [hwb]
      have := heap_alloc_new ((w.alloc (.cells #[.slice A n c, .slice A' n' c'] 25)).alloc (.cells #[.int .i64 x.1, .int .i64 x.2.1, .int .i64 x.2.2.1, .int .i64 x.2.2.2.1, .int .i64 x.2.2.2.2] 76)) (.cells #[.slice none 0 0, .slice none 0 0] 25)
      simpa using this
  have HG0 := Lib.hid hL.2.2.2
  have HRp := Lib.hid (fun z (hz : PC w A A' n c n' c' ps ws x z) => (hR.below hz.bel).more hz.bel.size)
  have HRw := Lib.hid (fun z (hz : PC w A A' n c n' c' ps ws x z) => (hW.below hz.bel).more hz.bel.size)
  have HCk := Lib.hid (fun z (hz : PC w A A' n c n' c' ps ws x z) => Check_any A A' n c n' c' ps ws z (HRp.out z hz) (HRw.out z hz) hz.laid)
  clear hR hW hL hbb
  cases hv : validP ps ws
  · have hc : Hid (checkS ps ws = 20) := by show _ = _; unfold checkS; rw [hv]; rfl
    have hs : Hid (weighS ps ws x = (([], []), 20)) := by show _ = _; unfold weighS; rw [hv]; rfl
    rw [hc.out] at HCk
    clear hv hl hl'
    go_enter Tryd.func36, Tryd.ntmps36
    go_wp2_with fail
    rw [← hwb]
    clear hwb
    refine (HCk.out _ HP0.out).mono ?_
    rintro e z1 ⟨rfl, hb1⟩
    have HP1 := Lib.hid (HP0.out.below hb1)
    clear hb1
    obtain ⟨g0, g1, f0, f1⟩ := two_facts HP1.out.b1
    go_wp2
    obtain ⟨e0, e1⟩ := set_back HP1.out.b1 (.slice none 0 0) (.slice none 0 0)
    exact bodyPost_ret (v := .tuple #[.agg #[.slice none 0 0, .slice none 0 0], .int .i64 20]) (by simp [results, Tryd.results36, go_sem, e0, e1]) rfl ⟨Res.nil hs.out, below_two HP1.out.bel (by omega) _ _⟩
  · have hc : Hid (checkS ps ws = 0) := by show _ = _; unfold checkS; rw [hv]; rfl
    rw [hc.out] at HCk
    have hn : n ≤ 10 := by
      have h := hv
      simp only [validP, Bool.and_eq_true, decide_eq_true_eq] at h
      omega
    have hn' : n' ≤ 30 := by
      have h := hv
      simp only [validP, Bool.and_eq_true, decide_eq_true_eq] at h
      omega
    have hrise : Hid (Rise ws) := by
      have h := hv
      simp only [validP, Bool.and_eq_true] at h
      exact (allW_rise h.2).1
    by_cases h30 : n' = 30
    · have hs : Hid (weighS ps ws x = (([], []), 9)) := by show _ = _; unfold weighS; rw [hv, if_pos rfl, if_pos (by omega)]
      subst h30
      clear hv hl hl'
      go_enter Tryd.func36, Tryd.ntmps36
      go_wp2_with fail
      rw [← hwb]
      clear hwb
      refine (HCk.out _ HP0.out).mono ?_
      rintro e z1 ⟨rfl, hb1⟩
      have HP1 := Lib.hid (HP0.out.below hb1)
      clear hb1
      obtain ⟨p0, p1, -, -⟩ := two_facts HP1.out.b0
      obtain ⟨g0, g1, f0, f1⟩ := two_facts HP1.out.b1
      go_wp2
      obtain ⟨e0, e1⟩ := set_back HP1.out.b1 (.slice none 0 0) (.slice none 0 0)
      exact bodyPost_ret (v := .tuple #[.agg #[.slice none 0 0, .slice none 0 0], .int .i64 9]) (by simp [results, Tryd.results36, go_sem, e0, e1]) rfl ⟨Res.nil hs.out, below_two HP1.out.bel (by omega) _ _⟩
    · have HS : Hid (weighS ps ws x = if validP ps (insW ws (posW ws x.1) x) then ((ps, insW ws (posW ws x.1) x), 0) else (([], []), 21)) := by
        show _ = _; unfold weighS; rw [hv, if_pos rfl, if_neg (by omega)]
      have hpl := posW_le ws x.1
      rw [hl'] at hpl
      have HWo := Lib.hid (fun z (hz : PC w A A' n c n' c' ps ws x z) => without_any A A' n c n' c' ps ws none 0 0 [] z (by omega) (by omega) (by unfold maxLen; omega) (HRp.out z hz) (HRw.out z hz) Reads.none_)
      rw [lessW_nil] at HWo
      have h30' : ((n' : Int) == 30) = false := by simp; omega
      have HL' := Lib.hid hl'
      clear hv hl hl' h30
      go_enter Tryd.func36, Tryd.ntmps36
      go_wp2_with fail
      rw [← hwb]
      clear hwb
      refine (HCk.out _ HP0.out).mono ?_
      rintro e z1 ⟨rfl, hb1⟩
      have HP1 := Lib.hid (HP0.out.below hb1)
      clear hb1
      obtain ⟨p0, p1, -, -⟩ := two_facts HP1.out.b0
      go_wp2_with fail
      refine (HWo.out _ HP1.out).mono ?_
      rintro e z2 ⟨A1, c1, A2, m2, c2, rfl, ho1, ho2, hb2⟩
      have HP2 := Lib.hid (HP1.out.below hb2)
      have hm2 : m2 = n' := by
        have := (Reads.of_own ho2).wg_len
        have := HL'.out
        omega
      subst hm2
      have hz1 := HP1.out.size
      obtain ⟨y2, hy2⟩ : ∃ y2, y2 = (z2.setCell ⟨w.heap.size, 0, none⟩ (.slice A1 n c1)).setCell ⟨w.heap.size, 1, none⟩ (.slice A2 m2 c2) := ⟨_, rfl⟩
      have ho1' : y2.ownsRow z1.heap.size 87 4 (.slice A1 n c1) n (pgs ps) := by
        rw [hy2]; exact own_far (p := ⟨w.heap.size, 1, none⟩) (own_far (p := ⟨w.heap.size, 0, none⟩) ho1 (by simp only; omega) _) (by simp only; omega) _
      have ho2' : y2.ownsRow z1.heap.size 76 5 (.slice A2 m2 c2) m2 (wgs ws) := by
        rw [hy2]; exact own_far (p := ⟨w.heap.size, 1, none⟩) (own_far (p := ⟨w.heap.size, 0, none⟩) ho2 (by simp only; omega) _) (by simp only; omega) _
      have HPy : Hid (PC w A1 A2 n c1 m2 c2 ps ws x y2) := by
        have hb : Below w.heap.size z2 y2 := by rw [hy2]; exact ((Below.refl _ _).setCell (by simp) _).setCell (by simp) _
        refine ⟨by rw [hy2]; exact set_two _ _ _ _ _ _ _ HP2.out.b0, ?_, ?_, HP2.out.bel.trans hb, by rw [hy2]; simp; exact HP2.out.size, HP2.out.laid.below hb HG0.out⟩
        · rw [hy2, Below.heap_setCell _ _ _ _ (by simp), Below.heap_setCell _ _ _ _ (by simp)]; exact HP2.out.bx
        · rw [hy2, Below.heap_setCell _ _ _ _ (by simp), Below.heap_setCell _ _ _ _ (by simp)]; exact HP2.out.b1
      have hzy : z1.heap.size ≤ y2.heap.size := by rw [hy2]; simp; exact hb2.size
      obtain ⟨p0', p1', q0, q1⟩ := two_facts HP2.out.b0
      obtain ⟨x0, x1, x2, x3, x4⟩ := five_facts HP2.out.bx
      have Hy2 : Hid ((z2.setCell ⟨w.heap.size, 0, none⟩ (.slice A1 n c1)).setCell ⟨w.heap.size, 1, none⟩ (.slice A2 m2 c2) = y2) := by show _ = _; rw [hy2]
      have HO1 := Lib.hid ho1'
      have HO2 := Lib.hid ho2'
      have HZy := Lib.hid hzy
      have HBs := Lib.hid (search_any A2 m2 c2 ws x.1 y2 (by omega) (Reads.of_own ho2') hrise.out)
      clear ho1 ho2 ho1' ho2' hy2 hzy hb2 p0 p1
      go_wp2_with fail
      rw [Hy2.out]
      clear p0' p1' q0 q1 x0 x1 x2 x3 x4
      refine HBs.out.mono ?_
      rintro e z3 ⟨fb, rfl, hb3⟩
      have HP3 := Lib.hid (HPy.out.below hb3)
      have HO1' := Lib.hid (own_below HO1.out hb3)
      have HO2' := Lib.hid (own_below HO2.out hb3)
      have hs3 := hb3.size
      have HZ3 : Hid (z1.heap.size ≤ z3.heap.size) := Nat.le_trans HZy.out hs3
      clear hb3 hs3
      obtain ⟨p0, p1, q0, q1⟩ := two_facts HP3.out.b0
      obtain ⟨x0, x1, x2, x3, x4⟩ := five_facts HP3.out.bx
      generalize hpos : posW ws x.1 = pos at *
      obtain ⟨y3, hy3⟩ : ∃ y3, y3 = z3.alloc (.cells #[.int .i64 x.1, .int .i64 x.2.1, .int .i64 x.2.2.1, .int .i64 x.2.2.2.1, .int .i64 x.2.2.2.2] 76) := ⟨_, rfl⟩
      have hby : Below z3.heap.size z3 y3 := by rw [hy3]; exact (Below.refl _ _).alloc (Nat.le_refl _) _
      have HPy3 := Lib.hid (HP3.out.below hby)
      have HO1y := Lib.hid (own_below HO1'.out hby)
      have HO2y := Lib.hid (own_below HO2'.out hby)
      have hvb : y3.heap[z3.heap.size]? = some (.cells #[.int .i64 x.1, .int .i64 x.2.1, .int .i64 x.2.2.1, .int .i64 x.2.2.2.1, .int .i64 x.2.2.2.2] 76 (0, 0)) := by rw [hy3]; exact heap_alloc_new z3 _
      have hne : (Value.slice A2 m2 c2).ownBlock ≠ some z3.heap.size := by
        intro h
        have := own_lt HO2'.out h
        omega
      have HIn := Lib.hid (insert_any (.slice A2 m2 c2) m2 pos z1.heap.size z3.heap.size ws x y3 (by omega) hpl hne HO2y.out (Nat.le_trans HZ3.out hby.size) hvb)
      have HZy3 := Lib.hid hby.size
      clear hby hvb hne
      go_wp2_with fail
      rw [← hy3]
      clear hy3
      refine HIn.out.mono ?_
      rintro e z4 ⟨v4, rfl, ho4, hk4⟩
      obtain ⟨A4, c4, hv4⟩ := own_val ho4
      have hz3 := HZ3.out
      have hy3s := HPy3.out.size
      have hD : ∀ d, d ∈ (Value.slice A2 m2 c2).ownBlock.toList → z1.heap.size ≤ d := fun d hd => by
        have : (Value.slice A2 m2 c2).ownBlock = some d := by simpa using hd
        exact (own_lt HO2y.out this).1
      have hyz : z1.heap.size ≤ y3.heap.size := Nat.le_trans HZ3.out HZy3.out
      have hb4 : Below z1.heap.size y3 z4 := hk4.below hyz hD
      have h0 : z4.heap[w.heap.size]? = some (.cells #[.slice A1 n c1, .slice A2 m2 c2] 25 (0, 0)) := (hb4.block _ (by omega)).trans HPy3.out.b0
      have h1 : z4.heap[w.heap.size + 2]? = some (.cells #[.slice none 0 0, .slice none 0 0] 25 (0, 0)) := (hb4.block _ (by omega)).trans HPy3.out.b1
      have hO1z : z4.ownsRow z1.heap.size 87 4 (.slice A1 n c1) n (pgs ps) := own_block HO1y.out (fun k hk => hk4.block k (own_lt HO1y.out hk).2 (fun hm => by
        have hm' : (Value.slice A2 m2 c2).ownBlock = some k := by simpa using hm
        exact own_apart2 HO1y.out HO2y.out hk hm'))
      obtain ⟨y4, hy4⟩ : ∃ y4, y4 = z4.setCell ⟨w.heap.size, 1, none⟩ v4 := ⟨_, rfl⟩
      have hB4 : Below w.heap.size w y4 := by rw [hy4]; exact (HPy3.out.bel.trans (hb4.mono (by omega))).setCell (by simp) _
      have hs4 : y4.heap.size = z4.heap.size := by rw [hy4]; simp
      have hzs := hb4.size
      have ho1y : y4.ownsRow z1.heap.size 87 4 (.slice A1 n c1) n (pgs ps) := by rw [hy4]; exact own_far (p := ⟨w.heap.size, 1, none⟩) hO1z (by simp only; omega) _
      have ho4y : y4.ownsRow z1.heap.size 76 5 v4 (m2 + 1) (wgs (insW ws pos x)) := by rw [hy4]; exact own_far (p := ⟨w.heap.size, 1, none⟩) ho4 (by simp only; omega) _
      have h0y : y4.heap[w.heap.size]? = some (.cells #[.slice A1 n c1, v4] 25 (0, 0)) := by
        rw [hy4]; simp [World.setCell, Array.getElem?_modify, h0]
      have h1y : y4.heap[w.heap.size + 2]? = some (.cells #[.slice none 0 0, .slice none 0 0] 25 (0, 0)) := by rw [hy4, Below.heap_setCell _ _ _ _ (by simp)]; exact h1
      have hLd : Laid y4 := HPy3.out.laid.below (B := w.heap.size) (by rw [hy4]; exact (hb4.mono (by omega)).setCell (by simp) _) HG0.out
      subst hv4
      have HCk4 := Lib.hid (Check_any A1 A4 n c1 (m2 + 1) c4 ps (insW ws pos x) y4 (Reads.of_own ho1y) (Reads.of_own ho4y) hLd)
      have HO1z := Lib.hid ho1y
      have HO4z := Lib.hid ho4y
      have HB4 := Lib.hid hB4
      have H1y := Lib.hid h1y
      have HS4 : Hid (w.heap.size + 3 ≤ y4.heap.size) := by show _ ≤ _; omega
      obtain ⟨p0, p1, q0, q1⟩ := two_facts h0
      have Hy4 : Hid (z4.setCell ⟨w.heap.size, 1, none⟩ (.slice A4 (m2 + 1) c4) = y4) := by show _ = _; rw [hy4]
      have H0y := Lib.hid h0y
      clear hk4 hb4 h0 h1 hO1z hB4 hs4 hzs ho1y ho4y h0y h1y hLd ho4 hy4 hD hyz hz3 hy3s x0 x1 x2 x3 x4
      go_wp2_with fail
      rw [Hy4.out]
      clear p0 p1 q0 q1
      refine HCk4.out.mono ?_
      rintro e z5 ⟨rfl, hb5⟩
      have hR5 := keepO hb5 H1y.out
      have hP5 := keepO hb5 H0y.out
      obtain ⟨g0, g1, f0, f1⟩ := two_facts hR5
      obtain ⟨p0, p1, -, -⟩ := two_facts hP5
      have HR5 := Lib.hid hR5
      have hO1 := Lib.hid (own_below HO1z.out hb5)
      have hO2 := Lib.hid (own_below HO4z.out hb5)
      have HB5 := Lib.hid (below_via HB4.out (by have := HS4.out; omega) hb5)
      have hz1' := HP1.out.size
      clear hb5 hR5 hP5
      cases hv2 : validP ps (insW ws pos x)
      · have hs : Hid (weighS ps ws x = (([], []), 21)) := by show _ = _; rw [HS.out, hv2]; rfl
        have hc2 : checkS ps (insW ws pos x) = 20 := by unfold checkS; rw [hv2]; rfl
        rw [hc2]
        clear hv2 hc2
        go_wp2
        obtain ⟨e0, e1⟩ := set_back HR5.out (.slice none 0 0) (.slice none 0 0)
        exact bodyPost_ret (v := .tuple #[.agg #[.slice none 0 0, .slice none 0 0], .int .i64 21]) (by simp [results, Tryd.results36, go_sem, e0, e1]) rfl ⟨Res.nil hs.out, below_two HB5.out (by omega) _ _⟩
      · have hs : Hid (weighS ps ws x = ((ps, insW ws pos x), 0)) := by show _ = _; rw [HS.out, hv2]; rfl
        have hc2 : checkS ps (insW ws pos x) = 0 := by unfold checkS; rw [hv2]; rfl
        rw [hc2]
        clear hv2 hc2
        go_wp2
        obtain ⟨e0, e1⟩ := set_back HR5.out (.slice A1 n c1) (.slice A4 (m2 + 1) c4)
        refine bodyPost_ret (v := .tuple #[.agg #[.slice A1 n c1, .slice A4 (m2 + 1) c4], .int .i64 0]) (by simp [results, Tryd.results36, go_sem, e0, e1]) rfl ⟨?_, below_two HB5.out (by omega) _ _⟩
        rw [hs.out]
        exact ⟨_, _, _, _, _, _, rfl, own_mono (own_far (p := ⟨w.heap.size + 2, 1, none⟩) (own_far (p := ⟨w.heap.size + 2, 0, none⟩) hO1.out (by simp only; omega) _) (by simp only; omega) _) (by omega),
          own_mono (own_far (p := ⟨w.heap.size + 2, 1, none⟩) (own_far (p := ⟨w.heap.size + 2, 0, none⟩) hO2.out (by simp only; omega) _) (by simp only; omega) _) (by omega)⟩
end Go.Proofs.YtoakeclpakjbiaaDoor
