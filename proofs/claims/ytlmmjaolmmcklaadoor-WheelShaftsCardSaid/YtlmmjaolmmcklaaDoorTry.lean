/-
  The walk of the program's search for the best setting: the closure that goes on with a stamper.
-/
import Derived.Test.YtlmmjaolmmcklaaDoorBestR
namespace Go.Proofs.YtlmmjaolmmcklaaDoor
open Go.RowKit
set_option linter.unusedSimpArgs false
set_option linter.unusedVariables false

/-- All blocks but two are as they were. -/
structure Kept (q r : Nat) (x y : World) : Prop where
  size : x.heap.size ≤ y.heap.size
  block : ∀ b, b < x.heap.size → b ≠ q → b ≠ r → y.heap[b]? = x.heap[b]?
theorem Kept.refl (q r : Nat) (x : World) : Kept q r x x := ⟨Nat.le_refl _, fun _ _ _ _ => rfl⟩
theorem Kept.trans {q r : Nat} {x y z : World} (h : Kept q r x y) (h' : Kept q r y z) : Kept q r x z :=
  ⟨Nat.le_trans h.size h'.size, fun b hb h1 h2 => (h'.block b (Nat.lt_of_lt_of_le hb h.size) h1 h2).trans (h.block b hb h1 h2)⟩
theorem Kept.of_below {q r : Nat} {x y : World} (h : Below x.heap.size x y) : Kept q r x y := ⟨h.size, fun b hb _ _ => h.block b hb⟩
theorem Kept.set {q r : Nat} {x : World} (b : Nat) (hb : b = q ∨ b = r) (j : Nat) (u : Value) : Kept q r x (x.setCell ⟨b, j, none⟩ u) := by
  refine ⟨by simp, fun c hc h1 h2 => ?_⟩
  have : c ≠ b := by rcases hb with rfl | rfl <;> assumption
  simp [World.setCell, Array.getElem?_modify, this.symm]
/-- A slice that lies in neither of two blocks. -/
def Far (A : Option Addr) (n q r : Nat) : Prop := 0 < n → ∀ a, A = some a → a.block ≠ q ∧ a.block ≠ r
theorem Reads.kept {q r size n : Nat} {x y : World} {A : Option Addr} {xs : List Value} (h : Reads x x.heap.size size A n xs) (hf : Far A n q r) (hk : Kept q r x y) : Reads y y.heap.size size A n xs :=
  ⟨h.1, fun hn => by
    obtain ⟨b, o, e, hb, hc⟩ := h.2 hn
    obtain ⟨h1, h2⟩ := hf hn _ e
    exact ⟨b, o, e, Nat.lt_of_lt_of_le hb hk.size, fun j u hu => (World.cell?_of_block (hk.block b hb h1 h2)).trans (hc j u hu)⟩⟩
theorem own_far2 {w : World} {base n q r : Nat} {e : TypeId} {xs : List Value} {v : Value} (h : w.ownsRow base e 1 v n xs) (hq : q < base) (hr : r < base) : ∀ A c, v = .slice A n c → Far A n q r := by
  intro A c hv hn a ha
  subst hv
  subst ha
  obtain ⟨g, cap, hvv, -, -⟩ := h.form hn
  simp only [Value.slice.injEq, Option.some.injEq] at hvv
  obtain ⟨rfl, -, -⟩ := hvv
  have := (h.lt g rfl).1
  simp only
  omega
theorem below_undrew' {w w' : World} (h : Below w.drew.heap.size w.drew w') : Below w.heap.size w w' := ((Below.refl w.heap.size w).drew).trans h

/-- The blocks of the search: the shaft at work, the best setting so far, what it has, the closure. -/
structure TF (W : World) (p q r t m : Nat) (A : Option Addr) (n c : Nat) (Ac : Option Addr) (cc : Nat) (l : List St3) (cnt : St3 → Int) (st : List Int × Int) (x : World) : Prop where
  o1 : W.heap.size ≤ p
  o2 : p < q
  o3 : q < r
  o4 : r < t
  bw : x.heap[p]? = some (.cells #[.int .i64 m, .slice A n c, .slice Ac n cc] 111 (0, 0))
  bb : ∃ Ab cb, x.heap[q]? = some (.cells #[.slice Ab st.1.length cb] 25 (0, 0)) ∧ Reads x x.heap.size 1 Ab st.1.length (ints st.1) ∧ Far Ab st.1.length q r
  bl : x.heap[r]? = some (.cells #[.int .i64 st.2] 3 (0, 0))
  bt : x.heap[t]? = some (.cells #[.func (.func 80) #[] #[.pointer (some ⟨p, 0, none⟩), .pointer (some ⟨r, 0, none⟩), .pointer (some ⟨q, 0, none⟩), .pointer (some ⟨t, 0, none⟩)]] 138 (0, 0))
  rl : Reads x W.heap.size 3 A n (sts l)
  rc : Reads x W.heap.size 1 Ac n (ints (l.map cnt))
  bel : Below W.heap.size W x
section
variable {W x y : World} {p q r t m : Nat} {A : Option Addr} {n c : Nat} {Ac : Option Addr} {cc : Nat} {l : List St3} {cnt : St3 → Int} {st : List Int × Int}
theorem lt_of_get {x : World} {b : Nat} {o : Obj} (h : x.heap[b]? = some o) : b < x.heap.size := (Array.getElem?_eq_some_iff.1 h).1
theorem TF.tl (h : TF W p q r t m A n c Ac cc l cnt st x) : t < x.heap.size := lt_of_get h.bt
theorem TF.cw0 (h : TF W p q r t m A n c Ac cc l cnt st x) : x.cell? ⟨p, 0, none⟩ = some (.int .i64 m) := by simp [World.cell?, h.bw]
theorem TF.cw1 (h : TF W p q r t m A n c Ac cc l cnt st x) : x.cell? ⟨p, 1, none⟩ = some (.slice A n c) := by simp [World.cell?, h.bw]
theorem TF.cw2 (h : TF W p q r t m A n c Ac cc l cnt st x) : x.cell? ⟨p, 2, none⟩ = some (.slice Ac n cc) := by simp [World.cell?, h.bw]
theorem TF.cl (h : TF W p q r t m A n c Ac cc l cnt st x) : x.cell? ⟨r, 0, none⟩ = some (.int .i64 st.2) := by simp [World.cell?, h.bl]
theorem TF.fl (h : TF W p q r t m A n c Ac cc l cnt st x) : x.frozen? ⟨r, 0, none⟩ = false := by simp [World.frozen?, h.bl]
theorem TF.cb (h : TF W p q r t m A n c Ac cc l cnt st x) : ∃ Ab cb, x.cell? ⟨q, 0, none⟩ = some (.slice Ab st.1.length cb) ∧ Reads x x.heap.size 1 Ab st.1.length (ints st.1) := by
  obtain ⟨Ab, cb, h1, h2, -⟩ := h.bb
  exact ⟨Ab, cb, by simp [World.cell?, h1], h2⟩
theorem TF.fb (h : TF W p q r t m A n c Ac cc l cnt st x) : x.frozen? ⟨q, 0, none⟩ = false := by
  obtain ⟨Ab, cb, h1, -⟩ := h.bb
  simp [World.frozen?, h1]
theorem TF.ct (h : TF W p q r t m A n c Ac cc l cnt st x) : x.cell? ⟨t, 0, none⟩ = some (.func (.func 80) #[] #[.pointer (some ⟨p, 0, none⟩), .pointer (some ⟨r, 0, none⟩), .pointer (some ⟨q, 0, none⟩), .pointer (some ⟨t, 0, none⟩)]) := by simp [World.cell?, h.bt]
theorem TF.below (h : TF W p q r t m A n c Ac cc l cnt st x) (hb : Below x.heap.size x y) : TF W p q r t m A n c Ac cc l cnt st y := by
  have hp := lt_of_get h.bw
  have ht := lt_of_get h.bt
  have h2 := h.o2; have h3 := h.o3; have h4 := h.o4; have h1 := h.o1
  obtain ⟨Ab, cb, b1, b2, b3⟩ := h.bb
  exact ⟨h.o1, h.o2, h.o3, h.o4, (hb.block p (by omega)).trans h.bw, ⟨Ab, cb, (hb.block q (by omega)).trans b1, (b2.below hb).more hb.size, b3⟩, (hb.block r (by omega)).trans h.bl, (hb.block t (by omega)).trans h.bt,
    h.rl.below (hb.mono (by omega)), h.rc.below (hb.mono (by omega)), below_via h.bel (by omega) hb⟩
theorem TF.drew (h : TF W p q r t m A n c Ac cc l cnt st x) : TF W p q r t m A n c Ac cc l cnt st x.drew := h.below (Below.refl _ _).drew
theorem TF.reads (h : TF W p q r t m A n c Ac cc l cnt st x) : Reads x x.heap.size 3 A n (sts l) ∧ Reads x x.heap.size 1 Ac n (ints (l.map cnt)) := by
  have hp := lt_of_get h.bw
  have h1 := h.o1
  exact ⟨h.rl.more (by omega), h.rc.more (by omega)⟩
theorem TF.store (h : TF W p q r t m A n c Ac cc l cnt st x) {s : List Int} {k : Nat} (hk : s.length = k) {v : Int} {base : Nat} {Av : Option Addr} {cv : Nat} (hb : t < base) (ho : x.ownsRow base 3 1 (.slice Av k cv) k (ints s)) :
    TF W p q r t m A n c Ac cc l cnt (s, v) ((x.setCell ⟨q, 0, none⟩ (.slice Av k cv)).setCell ⟨r, 0, none⟩ (.int .i64 v)) := by
  subst hk
  have h2 := h.o2; have h3 := h.o3; have h4 := h.o4; have h1 := h.o1
  obtain ⟨Ab, cb, b1, b2, b3⟩ := h.bb
  have n1 : p ≠ q := by omega
  have n2 : p ≠ r := by omega
  have n3 : q ≠ r := by omega
  have n4 : t ≠ q := by omega
  have n5 : t ≠ r := by omega
  have ho2 := own_far (own_far ho (p := ⟨q, 0, none⟩) (by simp; omega) (.slice Av s.length cv)) (p := ⟨r, 0, none⟩) (by simp; omega) (.int .i64 v)
  refine ⟨h1, h2, h3, h4, ?_, ⟨Av, cv, ?_, Reads.of_own ho2, own_far2 ho (by omega) (by omega) Av cv rfl⟩, ?_, ?_, (h.rl.setCell (by simp; omega) _).setCell (by simp; omega) _, (h.rc.setCell (by simp; omega) _).setCell (by simp; omega) _, (h.bel.setCell (by simp; omega) _).setCell (by simp; omega) _⟩
  · simp [World.setCell, Array.getElem?_modify, h.bw, n1, n2, n1.symm, n2.symm]
  · simp [World.setCell, Array.getElem?_modify, b1, n3, n3.symm]
  · simp [World.setCell, Array.getElem?_modify, h.bl, n3]
  · simp [World.setCell, Array.getElem?_modify, h.bt, n4, n5, n4.symm, n5.symm]
end

theorem setOk_snoc {M : Int} {l : List St3} {s : List Int} {C U P y : Int} (h : SetOk M l s) (hx : l[s.length]? = some (C, U, P)) (h0 : 0 ≤ y) (h1 : y < M / C) : SetOk M l (s ++ [y]) := by
  have hlt := (List.getElem?_eq_some_iff.1 hx).1
  refine ⟨by simp; omega, fun k x z hk hz => ?_⟩
  by_cases hks : k < s.length
  · rw [List.getElem?_append_left hks] at hz
    exact h.2 k x z hk hz
  · rw [List.getElem?_append_right (by omega)] at hz
    have : k - s.length = 0 := by
      rcases Nat.eq_zero_or_pos (k - s.length) with e | e
      · exact e
      · rw [List.getElem?_eq_none (by simp; omega)] at hz; cases hz
    rw [this] at hz
    simp at hz
    subst hz
    have : k = s.length := by omega
    subst this
    rw [hx] at hk
    cases hk
    exact ⟨h0, h1⟩

set_option maxRecDepth 100000 in
set_option maxHeartbeats 2000000 in
theorem try_any (W : World) (p q r t m : Nat) (A : Option Addr) (n c : Nat) (Ac : Option Addr) (cc : Nat) (l : List St3) (cnt : St3 → Int) (hl : l.length = n) (hv : shaftB m l = true) (hc : ∀ x ∈ l, 0 ≤ cnt x ∧ cnt x ≤ 500) :
    ∀ (rest : List Nat) (s : List Int) (k : Nat) (As : Option Addr) (cs : Nat) (st : List Int × Int) (x : World), s.length = k → rest = (places m l).drop k → k ≤ n → TF W p q r t m A n c Ac cc l cnt st x → Reads x x.heap.size 1 As k (ints s) → Far As k q r → SetOk m l s →
    Calls Tryd.prog 80 #[.slice As k cs, .pointer (some ⟨p, 0, none⟩), .pointer (some ⟨r, 0, none⟩), .pointer (some ⟨q, 0, none⟩), .pointer (some ⟨t, 0, none⟩)] x fun e x' =>
      e = .returned (.tuple #[]) ∧ TF W p q r t m A n c Ac cc l cnt (tryS (mostL m cnt l) rest s st) x' ∧ Kept q r x x' := by
  obtain ⟨hM1, hM2, hn4⟩ := shaft_bounds hv
  obtain ⟨i0, hi, hz0, hz1, hz2⟩ := info_parts info_int
  intro rest
  induction rest with
  | nil =>
    intro s n' As cs st x hks0 hrest hsn hT hsr hfar hsok
    have hkn : n = n' := by
      have := congrArg List.length hrest
      simp [places_len] at this
      omega
    subst hkn
    have hks := Lib.hid hks0
    clear hks0 hrest
    obtain ⟨bs, le⟩ := st
    have H1 := Lib.hid (loads_any m cnt A As Ac n c n cs cc l s x hT.reads.1 hsr hT.reads.2 (Lib.hid hv) (Lib.hid hsok) (Lib.hid hc))
    have hT0 := Lib.hid hT
    have k0 := hT.cw0
    have k1 := hT.cw1
    have k2 := hT.cw2
    have hD : Hid (W.heap.size ≤ p ∧ p < q ∧ q < r ∧ r < t) := ⟨hT.o1, hT.o2, hT.o3, hT.o4⟩
    have HM : Hid (∀ (x1 : World) A1 c1, Reads x1 x1.heap.size 1 A1 m (ints (loadsL m cnt l s)) → Calls Tryd.prog 81 #[.slice A1 m c1] x1 fun e w' => e = .returned (.int .i64 (mostL m cnt l s)) ∧ w' = x1) := fun x1 A1 c1 hr =>
      max_any A1 m c1 (loadsL m cnt l s) x1 (by omega) (by omega) (fun y hy => by
        obtain ⟨i, _, rfl⟩ := List.mem_map.1 hy
        exact loadL_nonneg (fun z hz => (hc z hz).1)) hr
    have hsr0 := Lib.hid hsr
    have hfar0 := Lib.hid hfar
    have hsok0 := Lib.hid hsok
    clear hT hsr hfar hsok
    by_cases hpr : 0 ≤ le ∧ le ≤ mostL m cnt l s
    · have hres : tryS (mostL m cnt l) [] s (bs, le) = (bs, le) := by
        unfold tryS upd
        rw [if_pos hpr]
      rw [hres]
      obtain ⟨hp1, hp2⟩ := hpr
      clear hres
      generalize mostL m cnt l s = fs at *
      go_enter Tryd.func80, Tryd.ntmps80
      go_wp2_with fail
      refine H1.out.mono ?_
      rintro e x1 ⟨v1, rfl, hv1, hb1⟩
      have hT1 := Lib.hid (hT0.out.below hb1)
      have hk1 := Lib.hid (Kept.of_below (q := q) (r := r) hb1)
      have hs1 := Lib.hid ((hsr0.out.below hb1).more hb1.size)
      obtain ⟨A1, c1, rfl, hr1⟩ := own_slice hv1
      have H2' := Lib.hid (HM.out x1 A1 c1 hr1)
      clear hb1 hv1 hr1 H1 k0 k1 k2 HM
      go_wp2_with fail
      refine H2'.out.mono ?_
      rintro e x2 ⟨rfl, hx2⟩
      rw [hx2]
      clear hx2 x2 H2'
      have cl : x1.cell? ⟨r, 0, none⟩ = some (.int .i64 le) := hT1.out.cl
      have cw1 := hT1.out.cw1
      clear cw1
      go_wp2
      refine bodyPost_ret (results_none rfl _ _ _) rfl ?_
      exact ⟨rfl, hT1.out, hk1.out⟩
    · have hres : tryS (mostL m cnt l) [] s (bs, le) = (s, mostL m cnt l s) := by
        unfold tryS upd
        rw [if_neg hpr]
      rw [hres]
      clear hres
      generalize mostL m cnt l s = fs at *
      have hcl : ∀ (h : ¬ (0 ≤ le ∧ le ≤ fs)), 0 ≤ le → fs < le := fun h h0 => by omega
      by_cases hle : 0 ≤ le
      · have hlt := hcl hpr hle
        clear hpr hcl
        go_enter Tryd.func80, Tryd.ntmps80
        go_wp2_with fail
        refine H1.out.mono ?_
        rintro e x1 ⟨v1, rfl, hv1, hb1⟩
        have hT1 := Lib.hid (hT0.out.below hb1)
        have hk1 := Lib.hid (Kept.of_below (q := q) (r := r) hb1)
        have hs1 := Lib.hid ((hsr0.out.below hb1).more hb1.size)
        obtain ⟨A1, c1, rfl, hr1⟩ := own_slice hv1
        have H2' := Lib.hid (HM.out x1 A1 c1 hr1)
        clear hb1 hv1 hr1 H1 k0 k1 k2 HM
        go_wp2_with fail
        refine H2'.out.mono ?_
        rintro e x2 ⟨rfl, hx2⟩
        rw [hx2]
        clear hx2 x2 H2'
        have cl : x1.cell? ⟨r, 0, none⟩ = some (.int .i64 le) := hT1.out.cl
        have cw1 := hT1.out.cw1
        have hn8 : n ≤ 4096 := by omega
        have H3 := Lib.hid (cloneInts_any As n cs s x1 hn8 hs1.out)
        go_wp2_with fail
        refine H3.out.mono ?_
        rintro e x3 ⟨v3, rfl, hv3, hb3⟩
        have hT3 := Lib.hid (hT1.out.below hb3)
        have hk3 := Lib.hid (hk1.out.trans (Kept.of_below (q := q) (r := r) hb3))
        have hO3 := Lib.hid hv3
        obtain ⟨A3, c3, rfl, -⟩ := own_slice hv3
        obtain ⟨Ab, cb, cb3, -⟩ := hT3.out.cb
        have fb3 := hT3.out.fb
        have cl3 : (x3.setCell ⟨q, 0, none⟩ (.slice A3 n c3)).cell? ⟨r, 0, none⟩ = some (.int .i64 le) := by
          rw [World.cell?_setCell_far _ _ _ _ (by have := hD.out; simp; omega)]; exact hT3.out.cl
        have fl3 : (x3.setCell ⟨q, 0, none⟩ (.slice A3 n c3)).frozen? ⟨r, 0, none⟩ = false := by
          rw [World.frozen?_setCell]; exact hT3.out.fl
        clear hb3 hv3 H3 cl cw1
        go_wp2
        refine bodyPost_ret (results_none rfl _ _ _) rfl ?_
        exact ⟨rfl, hT3.out.store hks.out hT1.out.tl hO3.out, hk3.out.trans ((Kept.set q (Or.inl rfl) 0 _).trans (Kept.set r (Or.inr rfl) 0 _))⟩
      · clear hpr hcl
        go_enter Tryd.func80, Tryd.ntmps80
        go_wp2_with fail
        refine H1.out.mono ?_
        rintro e x1 ⟨v1, rfl, hv1, hb1⟩
        have hT1 := Lib.hid (hT0.out.below hb1)
        have hk1 := Lib.hid (Kept.of_below (q := q) (r := r) hb1)
        have hs1 := Lib.hid ((hsr0.out.below hb1).more hb1.size)
        obtain ⟨A1, c1, rfl, hr1⟩ := own_slice hv1
        have H2' := Lib.hid (HM.out x1 A1 c1 hr1)
        clear hb1 hv1 hr1 H1 k0 k1 k2 HM
        go_wp2_with fail
        refine H2'.out.mono ?_
        rintro e x2 ⟨rfl, hx2⟩
        rw [hx2]
        clear hx2 x2 H2'
        have cl : x1.cell? ⟨r, 0, none⟩ = some (.int .i64 le) := hT1.out.cl
        have cw1 := hT1.out.cw1
        have hn8 : n ≤ 4096 := by omega
        have H3 := Lib.hid (cloneInts_any As n cs s x1 hn8 hs1.out)
        go_wp2_with fail
        refine H3.out.mono ?_
        rintro e x3 ⟨v3, rfl, hv3, hb3⟩
        have hT3 := Lib.hid (hT1.out.below hb3)
        have hk3 := Lib.hid (hk1.out.trans (Kept.of_below (q := q) (r := r) hb3))
        have hO3 := Lib.hid hv3
        obtain ⟨A3, c3, rfl, -⟩ := own_slice hv3
        obtain ⟨Ab, cb, cb3, -⟩ := hT3.out.cb
        have fb3 := hT3.out.fb
        have cl3 : (x3.setCell ⟨q, 0, none⟩ (.slice A3 n c3)).cell? ⟨r, 0, none⟩ = some (.int .i64 le) := by
          rw [World.cell?_setCell_far _ _ _ _ (by have := hD.out; simp; omega)]; exact hT3.out.cl
        have fl3 : (x3.setCell ⟨q, 0, none⟩ (.slice A3 n c3)).frozen? ⟨r, 0, none⟩ = false := by
          rw [World.frozen?_setCell]; exact hT3.out.fl
        clear hb3 hv3 H3 cl cw1
        go_wp2
        refine bodyPost_ret (results_none rfl _ _ _) rfl ?_
        exact ⟨rfl, hT3.out.store hks.out hT1.out.tl hO3.out, hk3.out.trans ((Kept.set q (Or.inl rfl) 0 _).trans (Kept.set r (Or.inr rfl) 0 _))⟩
  | cons d rest IH =>
    intro s k As cs st x hks0 hrest hsn hT hsr hfar hsok
    have hks := Lib.hid hks0
    have hcons : Hid (∃ C U P, l[k]? = some (C, U, P) ∧ (m : Int) / C = (d : Int) ∧ rest = (places m l).drop (k + 1)) := by
      have hlt : k < (places m l).length := by
        rcases Nat.lt_or_ge k (places m l).length with h | h
        · exact h
        · rw [List.drop_eq_nil_of_le h] at hrest; cases hrest
      rw [List.drop_eq_getElem_cons hlt] at hrest
      have hlt' : k < l.length := by rw [places_len] at hlt; exact hlt
      obtain ⟨⟨C, U, P⟩, hxx⟩ : ∃ z, l[k]'hlt' = z := ⟨_, rfl⟩
      have hx : l[k]? = some (C, U, P) := by rw [List.getElem?_eq_getElem hlt', hxx]
      have hg := places_get (M := m) hx
      rw [List.getElem?_eq_getElem hlt] at hg
      simp only [List.cons.injEq, Option.some.injEq] at hrest hg
      obtain ⟨e1, e2⟩ := hrest
      have := shaft_st hv hx
      exact ⟨C, U, P, hx, by omega, e2⟩
    have hsn2 : k < n := by
      obtain ⟨C, U, P, hx, -, -⟩ := hcons.out
      have := (List.getElem?_eq_some_iff.1 hx).1
      omega
    clear hks0 hrest
    obtain ⟨bs, le⟩ := st
    have H1 := Lib.hid (loads_any m cnt A As Ac n c k cs cc l s x hT.reads.1 hsr hT.reads.2 (Lib.hid hv) (Lib.hid hsok) (Lib.hid hc))
    have hT0 := Lib.hid hT
    have k0 := hT.cw0
    have k1 := hT.cw1
    have k2 := hT.cw2
    have hD : Hid (W.heap.size ≤ p ∧ p < q ∧ q < r ∧ r < t) := ⟨hT.o1, hT.o2, hT.o3, hT.o4⟩
    have HM : Hid (∀ (x1 : World) A1 c1, Reads x1 x1.heap.size 1 A1 m (ints (loadsL m cnt l s)) → Calls Tryd.prog 81 #[.slice A1 m c1] x1 fun e w' => e = .returned (.int .i64 (mostL m cnt l s)) ∧ w' = x1) := fun x1 A1 c1 hr =>
      max_any A1 m c1 (loadsL m cnt l s) x1 (by omega) (by omega) (fun y hy => by
        obtain ⟨i, _, rfl⟩ := List.mem_map.1 hy
        exact loadL_nonneg (fun z hz => (hc z hz).1)) hr
    have hsr0 := Lib.hid hsr
    have hfar0 := Lib.hid hfar
    have hsok0 := Lib.hid hsok
    clear hT hsr hfar hsok
    obtain ⟨foldT, hfT⟩ : ∃ foldT : Nat → List Int × Int, foldT = fun i => (List.range i).foldl (fun st (x : Nat) => tryS (mostL m cnt l) rest (s ++ [(x : Int)]) st) (bs, le) := ⟨_, rfl⟩
    have hfold : Hid (∀ i, foldT (i + 1) = tryS (mostL m cnt l) rest (s ++ [(i : Int)]) (foldT i)) := by
      intro i
      rw [hfT]
      show (List.range (i + 1)).foldl _ _ = _
      rw [List.range_succ, List.foldl_append]
      rfl
    have hfold0 : Hid (foldT 0 = (bs, le)) := by show _ = _; rw [hfT]; rfl
    obtain ⟨C, U, P, hx, hd, hrest2⟩ := hcons.out
    obtain ⟨hC1, hC2, -, hU1, hU2, -, -⟩ := shaft_st hv hx
    have hd1 : (m : Int) / C ≤ m := Int.ediv_le_self _ (by omega)
    have hsok : Hid (∀ i : Nat, i < d → SetOk m l (s ++ [(i : Int)])) := fun i hi => setOk_snoc hsok0.out (by rw [hks.out]; exact hx) (by omega) (by omega)
    have hrest0 := Lib.hid hrest2
    have hCx : Hid ((∃ U P, l[k]? = some (C, U, P)) ∧ 1 ≤ C ∧ (m : Int) / C = (d : Int)) := ⟨⟨U, P, hx⟩, hC1, hd⟩
    rw [hd] at hU2 hd1
    have hsn' : ((k : Int) == (n : Int)) = false := by simp; omega
    clear hx hd hrest2 hcons
    by_cases hpr : 0 ≤ le ∧ le ≤ mostL m cnt l s
    · have hres : tryS (mostL m cnt l) (d :: rest) s (bs, le) = (bs, le) := by
        unfold tryS
        rw [if_pos hpr]
      rw [hres]
      obtain ⟨hp1, hp2⟩ := hpr
      clear hres
      generalize mostL m cnt l s = fs at *
      go_enter Tryd.func80, Tryd.ntmps80
      go_wp2_with fail
      refine H1.out.mono ?_
      rintro e x1 ⟨v1, rfl, hv1, hb1⟩
      have hT1 := Lib.hid (hT0.out.below hb1)
      have hk1 := Lib.hid (Kept.of_below (q := q) (r := r) hb1)
      have hs1 := Lib.hid ((hsr0.out.below hb1).more hb1.size)
      obtain ⟨A1, c1, rfl, hr1⟩ := own_slice hv1
      have H2' := Lib.hid (HM.out x1 A1 c1 hr1)
      clear hb1 hv1 hr1 H1 k0 k1 k2 HM
      go_wp2_with fail
      refine H2'.out.mono ?_
      rintro e x2 ⟨rfl, hx2⟩
      rw [hx2]
      clear hx2 x2 H2'
      have cl : x1.cell? ⟨r, 0, none⟩ = some (.int .i64 le) := hT1.out.cl
      have cw1 := hT1.out.cw1
      clear cw1
      go_wp2
      refine bodyPost_ret (results_none rfl _ _ _) rfl ?_
      exact ⟨rfl, hT1.out, hk1.out⟩
    · have hres : tryS (mostL m cnt l) (d :: rest) s (bs, le) = foldT d := by
        unfold tryS
        rw [if_neg hpr, hfT]
      rw [hres]
      clear hres hfT
      have IH' := Lib.hid IH
      clear IH
      obtain ⟨f, hf⟩ : ∃ f, mostL m cnt l = f := ⟨_, rfl⟩
      rw [hf] at hpr HM IH' hfold
      generalize f s = fs at *
      have hcl : ∀ (h : ¬ (0 ≤ le ∧ le ≤ fs)), 0 ≤ le → fs < le := fun h h0 => by omega
      by_cases hle : 0 ≤ le
      · have hlt0 := hcl hpr hle
        clear hpr hcl
        go_enter Tryd.func80, Tryd.ntmps80
        go_wp2_with fail
        refine H1.out.mono ?_
        rintro e x1 ⟨v1, rfl, hv1, hb1⟩
        have hT1 := Lib.hid (hT0.out.below hb1)
        have hk1 := Lib.hid (Kept.of_below (q := q) (r := r) hb1)
        have hs1 := Lib.hid ((hsr0.out.below hb1).more hb1.size)
        obtain ⟨A1, c1, rfl, hr1⟩ := own_slice hv1
        have H2' := Lib.hid (HM.out x1 A1 c1 hr1)
        clear hb1 hv1 hr1 H1 k0 k1 k2 HM
        go_wp2_with fail
        refine H2'.out.mono ?_
        rintro e x2 ⟨rfl, hx2⟩
        rw [hx2]
        clear hx2 x2 H2'
        have cl : x1.cell? ⟨r, 0, none⟩ = some (.int .i64 le) := hT1.out.cl
        have cw1 := hT1.out.cw1
        have H3 := Lib.hid (apart_any m A n c k l x1 (by omega) (by omega) (by omega) hT1.out.reads.1 C hCx.out.1 hCx.out.2.1)
        rw [hCx.out.2.2] at H3
        have cw0 := hT1.out.cw0
        rw [← hfold0.out] at hT1
        go_wp2_with fail
        refine H3.out.mono ?_
        rintro e x3 ⟨rfl, hb3⟩
        have hT3 := Lib.hid (hT1.out.below hb3)
        have hk3 := Lib.hid (hk1.out.trans (Kept.of_below (q := q) (r := r) hb3))
        clear hb3 H3 cl cw1 cw0 hT1 hk1 hs1
        go_wp2
        go_loopw [34] (fun y wr => ∃ i : Nat, i ≤ d ∧ y = .int .i64 i ∧ Hid (TF W p q r t m A n c Ac cc l cnt (foldT i) wr) ∧ Hid (Kept q r x wr)) (fun y _ => d - (intOf y).toNat)
        case atStart => exact ⟨0, by omega, rfl, hT3, hk3⟩
        case round =>
          clear hT3 hk3
          obtain ⟨i, hid, rfl, hT, hk⟩ := hrel
          by_cases hlt : i < d
          · have hsr := Lib.hid (Reads.kept hsr0.out hfar0.out hk.out)
            have hqr : Hid (q < wr.heap.size ∧ r < wr.heap.size) := by
              have h1 := hT.out.tl
              have h2 := hD.out
              exact ⟨by omega, by omega⟩
            obtain ⟨S, hSd⟩ : ∃ S : World → Prop, S = fun z => z.cell? ⟨t, 0, none⟩ = some (.func (.func 80) #[] #[.pointer (some ⟨p, 0, none⟩), .pointer (some ⟨r, 0, none⟩), .pointer (some ⟨q, 0, none⟩), .pointer (some ⟨t, 0, none⟩)]) := ⟨_, rfl⟩
            go_wp2_with fail
            refine wp_region_held_drew (S := S) (by kernel_rfl) ?_ (fun hHeld => ?_)
            · rw [hSd]; exact (TF.drew hT.out).ct
            refine tkY (v := ?_) 0 37 rfl rfl (by kernel_rfl) (by kernel_rfl) (by kernel_rfl) (fun _ _ _ h => h) (by kernel_rfl) ?_ (by assumption) ?_
            rotate_left
            · intro w hSw; rw [hSd] at hSw; go_simp; (try with_reducible rfl)
            try simp only [Act.put, List.setIfInBounds_toArray, List.set_cons_zero, List.set_cons_succ]
            refine tkY (v := ?_) 1 38 rfl rfl (by kernel_rfl) (by kernel_rfl) (by kernel_rfl) (fun _ _ _ h => h) (by kernel_rfl) ?_ (by assumption) ?_
            rotate_left
            · intro w hSw; rw [hSd] at hSw; go_simp; (try with_reducible rfl)
            try simp only [Act.put, List.setIfInBounds_toArray, List.set_cons_zero, List.set_cons_succ]
            refine tkY (v := ?_) 3 40 rfl rfl (by kernel_rfl) (by kernel_rfl) (by kernel_rfl) (fun _ _ _ h => h) (by kernel_rfl) ?_ (by assumption) ?_
            rotate_left
            · intro w hSw; rw [hSd] at hSw; go_simp; (try with_reducible rfl)
            try simp only [Act.put, List.setIfInBounds_toArray, List.set_cons_zero, List.set_cons_succ]
            refine wpAnyH_ready (rs := [2, 4]) (by kernel_rfl) (by simp) ?_
            refine AllReadyH.cons (o := _) rfl (fun K hK => ?_) (AllReadyH.cons (o := _) rfl (fun K hK => ?_) AllReadyH.nil)
            · go_simp
              refine (cloneInts_any As k cs s _ (by omega) (by exact hsr.out)).mono ?_
              rintro e w2 ⟨v2, rfl, hown2, hb2⟩
              try go_simp
              have hB2 := Lib.hid (below_undrew' hb2)
              have hT2 := Lib.hid (TF.below hT.out hB2.out)
              obtain ⟨A2, c2, rfl, -⟩ := own_slice hown2
              have hO2 : Hid (w2.ownsRow wr.heap.size 3 1 (.slice A2 k c2) k (ints s)) := hown2
              clear hb2 hown2
              refine hK.out _ _ ?_ (fun hHeld => ?_)
              · rw [hSd]; exact (hT2.out).ct
              clear hK K
              try simp only [Act.put, List.setIfInBounds_toArray, List.set_cons_zero, List.set_cons_succ]
              refine wpAnyH_ready (rs := [4]) (by kernel_rfl) (by simp) ?_
              refine AllReadyH.cons (o := _) rfl (fun K hK => ?_) AllReadyH.nil
              go_simp
              refine hK.out _ _ ?_ (fun hHeld => ?_)
              · rw [hSd]; exact (TF.below hT2.out ((Below.refl _ _).alloc (Nat.le_refl _) _)).ct
              clear hK K
              try simp only [Act.put, List.setIfInBounds_toArray, List.set_cons_zero, List.set_cons_succ]
              have hB3 := Lib.hid (hB2.out.alloc hB2.out.size (.cells #[.int .i64 (i : Int)] 3))
              have hO3 := Lib.hid (hO2.out.alloc (.cells #[.int .i64 (i : Int)] 3))
              have hN := Lib.hid (Reads.new_ints w2 [(i : Int)] 3 1 rfl)
              refine wpAnyH_ready (rs := [5]) (by kernel_rfl) (by simp) ?_
              refine AllReadyH.cons (o := _) rfl (fun K hK => ?_) AllReadyH.nil
              refine step_app _ rfl _ _ 25 rfl wr.heap.size 3 i0 _ 1 8 Tryd.underlying25 hi hz0 hz1 hz2 rfl (by decide) _ k (ints s) rfl hO3.out _ (some ⟨w2.heap.size, 0, none⟩) 1 1 (ints [(i : Int)]) rfl hN.out (ints_one _) (by unfold maxLen; omega) (by omega) (by have := hB3.out.size; omega) ?_
              intro v4 w4 hown4 hgr4 _
              have hB4 := Lib.hid (hB3.out.grown hgr4 (by have := hB3.out.size; omega) (fun k hk => (hO3.out.lt k hk).1))
              have hT4 := Lib.hid (TF.below hT.out hB4.out)
              have hown5 : w4.ownsRow wr.heap.size 3 1 v4 (k + 1) (ints (s ++ [(i : Int)])) := by simpa [ints] using hown4
              have hfar := own_far2 (q := q) (r := r) hown5 hqr.out.1 hqr.out.2
              obtain ⟨A4, c4, rfl, hr4⟩ := own_slice hown5
              have hI := Lib.hid (IH'.out (s ++ [(i : Int)]) (k + 1) A4 c4 (foldT i) w4 (by rw [List.length_append, hks.out]; rfl) hrest0.out (by omega) hT4.out hr4 (hfar A4 c4 rfl) (hsok.out i hlt))
              clear hown4 hown5 hgr4 hr4 hfar
              refine hK.out _ _ ?_ (fun hHeld => ?_)
              · rw [hSd]; exact (hT4.out).ct
              clear hK K
              try simp only [Act.put, List.setIfInBounds_toArray, List.set_cons_zero, List.set_cons_succ]
              refine wpAnyH_ready (rs := [6]) (by kernel_rfl) (by simp) ?_
              refine AllReadyH.cons (o := _) rfl (fun K hK => ?_) AllReadyH.nil
              go_simp
              refine hI.out.mono ?_
              rintro e w5 ⟨rfl, hT5, hK5⟩
              try go_simp
              have hT5' := Lib.hid hT5
              have hk5 := Lib.hid (hk.out.trans ((Kept.of_below hB4.out).trans hK5))
              refine hK.out _ _ ?_ (fun hHeld => ?_)
              · rw [hSd]; exact (hT5'.out).ct
              clear hK K
              try simp only [Act.put, List.setIfInBounds_toArray, List.set_cons_zero, List.set_cons_succ]
              refine wpAnyH_done (by kernel_rfl) ?_ _
              go_wp2
              go_roundw
              case rel => exact ⟨i + 1, by omega, by go_num, (by rw [hfold.out i]; exact hT5'.out), hk5.out⟩
              case measure => simp [intOf]; omega
            · go_simp
              refine hK.out _ _ ?_ (fun hHeld => ?_)
              · rw [hSd]; exact (TF.drew (TF.below hT.out ((Below.refl _ _).alloc (Nat.le_refl _) _))).ct
              clear hK K
              try simp only [Act.put, List.setIfInBounds_toArray, List.set_cons_zero, List.set_cons_succ]
              have hB2 : Hid (Below wr.heap.size wr (wr.alloc (.cells #[.int .i64 (i : Int)] 3)).drew) := Lib.hid ((Below.refl _ _).alloc (Nat.le_refl _) _).drew
              have hs2 := Lib.hid ((hsr.out.below hB2.out).more hB2.out.size)
              have hN2 : Hid (Reads (wr.alloc (.cells #[.int .i64 (i : Int)] 3)).drew (wr.alloc (.cells #[.int .i64 (i : Int)] 3)).drew.heap.size 1 (some ⟨wr.heap.size, 0, none⟩) 1 (ints [(i : Int)])) := Reads.new_ints wr [(i : Int)] 3 1 rfl
              refine wpAnyH_ready (rs := [2]) (by kernel_rfl) (by simp) ?_
              refine AllReadyH.cons (o := _) rfl (fun K hK => ?_) AllReadyH.nil
              go_simp
              refine (cloneInts_any As k cs s _ (by omega) (by exact hs2.out)).mono ?_
              rintro e w2 ⟨v2, rfl, hown2, hb2⟩
              try go_simp
              have hB3 := Lib.hid (hB2.out.trans (hb2.mono hB2.out.size))
              have hN := Lib.hid ((hN2.out.below hb2).more hb2.size)
              have hT2 := Lib.hid (TF.below hT.out hB3.out)
              obtain ⟨A2, c2, rfl, -⟩ := own_slice hown2
              have hO3 := Lib.hid (own_mono hown2 (base' := wr.heap.size) hB2.out.size)
              clear hb2 hown2
              refine hK.out _ _ ?_ (fun hHeld => ?_)
              · rw [hSd]; exact (hT2.out).ct
              clear hK K
              try simp only [Act.put, List.setIfInBounds_toArray, List.set_cons_zero, List.set_cons_succ]
              refine wpAnyH_ready (rs := [5]) (by kernel_rfl) (by simp) ?_
              refine AllReadyH.cons (o := _) rfl (fun K hK => ?_) AllReadyH.nil
              refine step_app _ rfl _ _ 25 rfl wr.heap.size 3 i0 _ 1 8 Tryd.underlying25 hi hz0 hz1 hz2 rfl (by decide) _ k (ints s) rfl hO3.out _ (some ⟨wr.heap.size, 0, none⟩) 1 1 (ints [(i : Int)]) rfl hN.out (ints_one _) (by unfold maxLen; omega) (by omega) (by have := hB3.out.size; omega) ?_
              intro v4 w4 hown4 hgr4 _
              have hB4 := Lib.hid (hB3.out.grown hgr4 (by have := hB3.out.size; omega) (fun k hk => (hO3.out.lt k hk).1))
              have hT4 := Lib.hid (TF.below hT.out hB4.out)
              have hown5 : w4.ownsRow wr.heap.size 3 1 v4 (k + 1) (ints (s ++ [(i : Int)])) := by simpa [ints] using hown4
              have hfar := own_far2 (q := q) (r := r) hown5 hqr.out.1 hqr.out.2
              obtain ⟨A4, c4, rfl, hr4⟩ := own_slice hown5
              have hI := Lib.hid (IH'.out (s ++ [(i : Int)]) (k + 1) A4 c4 (foldT i) w4 (by rw [List.length_append, hks.out]; rfl) hrest0.out (by omega) hT4.out hr4 (hfar A4 c4 rfl) (hsok.out i hlt))
              clear hown4 hown5 hgr4 hr4 hfar
              refine hK.out _ _ ?_ (fun hHeld => ?_)
              · rw [hSd]; exact (hT4.out).ct
              clear hK K
              try simp only [Act.put, List.setIfInBounds_toArray, List.set_cons_zero, List.set_cons_succ]
              refine wpAnyH_ready (rs := [6]) (by kernel_rfl) (by simp) ?_
              refine AllReadyH.cons (o := _) rfl (fun K hK => ?_) AllReadyH.nil
              go_simp
              refine hI.out.mono ?_
              rintro e w5 ⟨rfl, hT5, hK5⟩
              try go_simp
              have hT5' := Lib.hid hT5
              have hk5 := Lib.hid (hk.out.trans ((Kept.of_below hB4.out).trans hK5))
              refine hK.out _ _ ?_ (fun hHeld => ?_)
              · rw [hSd]; exact (hT5'.out).ct
              clear hK K
              try simp only [Act.put, List.setIfInBounds_toArray, List.set_cons_zero, List.set_cons_succ]
              refine wpAnyH_done (by kernel_rfl) ?_ _
              go_wp2
              go_roundw
              case rel => exact ⟨i + 1, by omega, by go_num, (by rw [hfold.out i]; exact hT5'.out), hk5.out⟩
              case measure => simp [intOf]; omega
          · have hid' : i = d := by omega
            subst hid'
            go_wp2
            go_end0
            exact ⟨rfl, hT.out, hk.out⟩
      · clear hpr hcl
        go_enter Tryd.func80, Tryd.ntmps80
        go_wp2_with fail
        refine H1.out.mono ?_
        rintro e x1 ⟨v1, rfl, hv1, hb1⟩
        have hT1 := Lib.hid (hT0.out.below hb1)
        have hk1 := Lib.hid (Kept.of_below (q := q) (r := r) hb1)
        have hs1 := Lib.hid ((hsr0.out.below hb1).more hb1.size)
        obtain ⟨A1, c1, rfl, hr1⟩ := own_slice hv1
        have H2' := Lib.hid (HM.out x1 A1 c1 hr1)
        clear hb1 hv1 hr1 H1 k0 k1 k2 HM
        go_wp2_with fail
        refine H2'.out.mono ?_
        rintro e x2 ⟨rfl, hx2⟩
        rw [hx2]
        clear hx2 x2 H2'
        have cl : x1.cell? ⟨r, 0, none⟩ = some (.int .i64 le) := hT1.out.cl
        have cw1 := hT1.out.cw1
        have H3 := Lib.hid (apart_any m A n c k l x1 (by omega) (by omega) (by omega) hT1.out.reads.1 C hCx.out.1 hCx.out.2.1)
        rw [hCx.out.2.2] at H3
        have cw0 := hT1.out.cw0
        rw [← hfold0.out] at hT1
        go_wp2_with fail
        refine H3.out.mono ?_
        rintro e x3 ⟨rfl, hb3⟩
        have hT3 := Lib.hid (hT1.out.below hb3)
        have hk3 := Lib.hid (hk1.out.trans (Kept.of_below (q := q) (r := r) hb3))
        clear hb3 H3 cl cw1 cw0 hT1 hk1 hs1
        go_wp2
        go_loopw [34] (fun y wr => ∃ i : Nat, i ≤ d ∧ y = .int .i64 i ∧ Hid (TF W p q r t m A n c Ac cc l cnt (foldT i) wr) ∧ Hid (Kept q r x wr)) (fun y _ => d - (intOf y).toNat)
        case atStart => exact ⟨0, by omega, rfl, hT3, hk3⟩
        case round =>
          clear hT3 hk3
          obtain ⟨i, hid, rfl, hT, hk⟩ := hrel
          by_cases hlt : i < d
          · have hsr := Lib.hid (Reads.kept hsr0.out hfar0.out hk.out)
            have hqr : Hid (q < wr.heap.size ∧ r < wr.heap.size) := by
              have h1 := hT.out.tl
              have h2 := hD.out
              exact ⟨by omega, by omega⟩
            obtain ⟨S, hSd⟩ : ∃ S : World → Prop, S = fun z => z.cell? ⟨t, 0, none⟩ = some (.func (.func 80) #[] #[.pointer (some ⟨p, 0, none⟩), .pointer (some ⟨r, 0, none⟩), .pointer (some ⟨q, 0, none⟩), .pointer (some ⟨t, 0, none⟩)]) := ⟨_, rfl⟩
            go_wp2_with fail
            refine wp_region_held_drew (S := S) (by kernel_rfl) ?_ (fun hHeld => ?_)
            · rw [hSd]; exact (TF.drew hT.out).ct
            refine tkY (v := ?_) 0 37 rfl rfl (by kernel_rfl) (by kernel_rfl) (by kernel_rfl) (fun _ _ _ h => h) (by kernel_rfl) ?_ (by assumption) ?_
            rotate_left
            · intro w hSw; rw [hSd] at hSw; go_simp; (try with_reducible rfl)
            try simp only [Act.put, List.setIfInBounds_toArray, List.set_cons_zero, List.set_cons_succ]
            refine tkY (v := ?_) 1 38 rfl rfl (by kernel_rfl) (by kernel_rfl) (by kernel_rfl) (fun _ _ _ h => h) (by kernel_rfl) ?_ (by assumption) ?_
            rotate_left
            · intro w hSw; rw [hSd] at hSw; go_simp; (try with_reducible rfl)
            try simp only [Act.put, List.setIfInBounds_toArray, List.set_cons_zero, List.set_cons_succ]
            refine tkY (v := ?_) 3 40 rfl rfl (by kernel_rfl) (by kernel_rfl) (by kernel_rfl) (fun _ _ _ h => h) (by kernel_rfl) ?_ (by assumption) ?_
            rotate_left
            · intro w hSw; rw [hSd] at hSw; go_simp; (try with_reducible rfl)
            try simp only [Act.put, List.setIfInBounds_toArray, List.set_cons_zero, List.set_cons_succ]
            refine wpAnyH_ready (rs := [2, 4]) (by kernel_rfl) (by simp) ?_
            refine AllReadyH.cons (o := _) rfl (fun K hK => ?_) (AllReadyH.cons (o := _) rfl (fun K hK => ?_) AllReadyH.nil)
            · go_simp
              refine (cloneInts_any As k cs s _ (by omega) (by exact hsr.out)).mono ?_
              rintro e w2 ⟨v2, rfl, hown2, hb2⟩
              try go_simp
              have hB2 := Lib.hid (below_undrew' hb2)
              have hT2 := Lib.hid (TF.below hT.out hB2.out)
              obtain ⟨A2, c2, rfl, -⟩ := own_slice hown2
              have hO2 : Hid (w2.ownsRow wr.heap.size 3 1 (.slice A2 k c2) k (ints s)) := hown2
              clear hb2 hown2
              refine hK.out _ _ ?_ (fun hHeld => ?_)
              · rw [hSd]; exact (hT2.out).ct
              clear hK K
              try simp only [Act.put, List.setIfInBounds_toArray, List.set_cons_zero, List.set_cons_succ]
              refine wpAnyH_ready (rs := [4]) (by kernel_rfl) (by simp) ?_
              refine AllReadyH.cons (o := _) rfl (fun K hK => ?_) AllReadyH.nil
              go_simp
              refine hK.out _ _ ?_ (fun hHeld => ?_)
              · rw [hSd]; exact (TF.below hT2.out ((Below.refl _ _).alloc (Nat.le_refl _) _)).ct
              clear hK K
              try simp only [Act.put, List.setIfInBounds_toArray, List.set_cons_zero, List.set_cons_succ]
              have hB3 := Lib.hid (hB2.out.alloc hB2.out.size (.cells #[.int .i64 (i : Int)] 3))
              have hO3 := Lib.hid (hO2.out.alloc (.cells #[.int .i64 (i : Int)] 3))
              have hN := Lib.hid (Reads.new_ints w2 [(i : Int)] 3 1 rfl)
              refine wpAnyH_ready (rs := [5]) (by kernel_rfl) (by simp) ?_
              refine AllReadyH.cons (o := _) rfl (fun K hK => ?_) AllReadyH.nil
              refine step_app _ rfl _ _ 25 rfl wr.heap.size 3 i0 _ 1 8 Tryd.underlying25 hi hz0 hz1 hz2 rfl (by decide) _ k (ints s) rfl hO3.out _ (some ⟨w2.heap.size, 0, none⟩) 1 1 (ints [(i : Int)]) rfl hN.out (ints_one _) (by unfold maxLen; omega) (by omega) (by have := hB3.out.size; omega) ?_
              intro v4 w4 hown4 hgr4 _
              have hB4 := Lib.hid (hB3.out.grown hgr4 (by have := hB3.out.size; omega) (fun k hk => (hO3.out.lt k hk).1))
              have hT4 := Lib.hid (TF.below hT.out hB4.out)
              have hown5 : w4.ownsRow wr.heap.size 3 1 v4 (k + 1) (ints (s ++ [(i : Int)])) := by simpa [ints] using hown4
              have hfar := own_far2 (q := q) (r := r) hown5 hqr.out.1 hqr.out.2
              obtain ⟨A4, c4, rfl, hr4⟩ := own_slice hown5
              have hI := Lib.hid (IH'.out (s ++ [(i : Int)]) (k + 1) A4 c4 (foldT i) w4 (by rw [List.length_append, hks.out]; rfl) hrest0.out (by omega) hT4.out hr4 (hfar A4 c4 rfl) (hsok.out i hlt))
              clear hown4 hown5 hgr4 hr4 hfar
              refine hK.out _ _ ?_ (fun hHeld => ?_)
              · rw [hSd]; exact (hT4.out).ct
              clear hK K
              try simp only [Act.put, List.setIfInBounds_toArray, List.set_cons_zero, List.set_cons_succ]
              refine wpAnyH_ready (rs := [6]) (by kernel_rfl) (by simp) ?_
              refine AllReadyH.cons (o := _) rfl (fun K hK => ?_) AllReadyH.nil
              go_simp
              refine hI.out.mono ?_
              rintro e w5 ⟨rfl, hT5, hK5⟩
              try go_simp
              have hT5' := Lib.hid hT5
              have hk5 := Lib.hid (hk.out.trans ((Kept.of_below hB4.out).trans hK5))
              refine hK.out _ _ ?_ (fun hHeld => ?_)
              · rw [hSd]; exact (hT5'.out).ct
              clear hK K
              try simp only [Act.put, List.setIfInBounds_toArray, List.set_cons_zero, List.set_cons_succ]
              refine wpAnyH_done (by kernel_rfl) ?_ _
              go_wp2
              go_roundw
              case rel => exact ⟨i + 1, by omega, by go_num, (by rw [hfold.out i]; exact hT5'.out), hk5.out⟩
              case measure => simp [intOf]; omega
            · go_simp
              refine hK.out _ _ ?_ (fun hHeld => ?_)
              · rw [hSd]; exact (TF.drew (TF.below hT.out ((Below.refl _ _).alloc (Nat.le_refl _) _))).ct
              clear hK K
              try simp only [Act.put, List.setIfInBounds_toArray, List.set_cons_zero, List.set_cons_succ]
              have hB2 : Hid (Below wr.heap.size wr (wr.alloc (.cells #[.int .i64 (i : Int)] 3)).drew) := Lib.hid ((Below.refl _ _).alloc (Nat.le_refl _) _).drew
              have hs2 := Lib.hid ((hsr.out.below hB2.out).more hB2.out.size)
              have hN2 : Hid (Reads (wr.alloc (.cells #[.int .i64 (i : Int)] 3)).drew (wr.alloc (.cells #[.int .i64 (i : Int)] 3)).drew.heap.size 1 (some ⟨wr.heap.size, 0, none⟩) 1 (ints [(i : Int)])) := Reads.new_ints wr [(i : Int)] 3 1 rfl
              refine wpAnyH_ready (rs := [2]) (by kernel_rfl) (by simp) ?_
              refine AllReadyH.cons (o := _) rfl (fun K hK => ?_) AllReadyH.nil
              go_simp
              refine (cloneInts_any As k cs s _ (by omega) (by exact hs2.out)).mono ?_
              rintro e w2 ⟨v2, rfl, hown2, hb2⟩
              try go_simp
              have hB3 := Lib.hid (hB2.out.trans (hb2.mono hB2.out.size))
              have hN := Lib.hid ((hN2.out.below hb2).more hb2.size)
              have hT2 := Lib.hid (TF.below hT.out hB3.out)
              obtain ⟨A2, c2, rfl, -⟩ := own_slice hown2
              have hO3 := Lib.hid (own_mono hown2 (base' := wr.heap.size) hB2.out.size)
              clear hb2 hown2
              refine hK.out _ _ ?_ (fun hHeld => ?_)
              · rw [hSd]; exact (hT2.out).ct
              clear hK K
              try simp only [Act.put, List.setIfInBounds_toArray, List.set_cons_zero, List.set_cons_succ]
              refine wpAnyH_ready (rs := [5]) (by kernel_rfl) (by simp) ?_
              refine AllReadyH.cons (o := _) rfl (fun K hK => ?_) AllReadyH.nil
              refine step_app _ rfl _ _ 25 rfl wr.heap.size 3 i0 _ 1 8 Tryd.underlying25 hi hz0 hz1 hz2 rfl (by decide) _ k (ints s) rfl hO3.out _ (some ⟨wr.heap.size, 0, none⟩) 1 1 (ints [(i : Int)]) rfl hN.out (ints_one _) (by unfold maxLen; omega) (by omega) (by have := hB3.out.size; omega) ?_
              intro v4 w4 hown4 hgr4 _
              have hB4 := Lib.hid (hB3.out.grown hgr4 (by have := hB3.out.size; omega) (fun k hk => (hO3.out.lt k hk).1))
              have hT4 := Lib.hid (TF.below hT.out hB4.out)
              have hown5 : w4.ownsRow wr.heap.size 3 1 v4 (k + 1) (ints (s ++ [(i : Int)])) := by simpa [ints] using hown4
              have hfar := own_far2 (q := q) (r := r) hown5 hqr.out.1 hqr.out.2
              obtain ⟨A4, c4, rfl, hr4⟩ := own_slice hown5
              have hI := Lib.hid (IH'.out (s ++ [(i : Int)]) (k + 1) A4 c4 (foldT i) w4 (by rw [List.length_append, hks.out]; rfl) hrest0.out (by omega) hT4.out hr4 (hfar A4 c4 rfl) (hsok.out i hlt))
              clear hown4 hown5 hgr4 hr4 hfar
              refine hK.out _ _ ?_ (fun hHeld => ?_)
              · rw [hSd]; exact (hT4.out).ct
              clear hK K
              try simp only [Act.put, List.setIfInBounds_toArray, List.set_cons_zero, List.set_cons_succ]
              refine wpAnyH_ready (rs := [6]) (by kernel_rfl) (by simp) ?_
              refine AllReadyH.cons (o := _) rfl (fun K hK => ?_) AllReadyH.nil
              go_simp
              refine hI.out.mono ?_
              rintro e w5 ⟨rfl, hT5, hK5⟩
              try go_simp
              have hT5' := Lib.hid hT5
              have hk5 := Lib.hid (hk.out.trans ((Kept.of_below hB4.out).trans hK5))
              refine hK.out _ _ ?_ (fun hHeld => ?_)
              · rw [hSd]; exact (hT5'.out).ct
              clear hK K
              try simp only [Act.put, List.setIfInBounds_toArray, List.set_cons_zero, List.set_cons_succ]
              refine wpAnyH_done (by kernel_rfl) ?_ _
              go_wp2
              go_roundw
              case rel => exact ⟨i + 1, by omega, by go_num, (by rw [hfold.out i]; exact hT5'.out), hk5.out⟩
              case measure => simp [intOf]; omega
          · have hid' : i = d := by omega
            subst hid'
            go_wp2
            go_end0
            exact ⟨rfl, hT.out, hk.out⟩
end Go.Proofs.YtlmmjaolmmcklaaDoor
