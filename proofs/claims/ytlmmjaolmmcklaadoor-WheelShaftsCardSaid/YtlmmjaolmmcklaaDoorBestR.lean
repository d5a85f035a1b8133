/-
  The walk of the reference's best setting: one after the other.
-/
import Derived.Test.YtlmmjaolmmcklaaDoorAfter
namespace Go.Proofs.YtlmmjaolmmcklaaDoor
open Go.RowKit

/-- The numbers that a slice holds. -/
def readL (w : World) : Value → List Int
  | .slice (some a) n _ => (List.range n).map fun i => intOf ((w.cell? ⟨a.block, a.off + i, none⟩).getD undef)
  | _ => []
theorem readL_eq {w : World} {B n c : Nat} {A : Option Addr} {s : List Int} (h : Reads w B 1 A n (ints s)) : readL w (.slice A n c) = s := by
  have hl : s.length = n := by simpa using h.len
  rcases Nat.eq_zero_or_pos n with h0 | h0
  · subst h0
    have : s = [] := List.eq_nil_of_length_eq_zero hl
    subst this
    cases A <;> simp [readL]
  · obtain ⟨b, o, rfl, -, -⟩ := h.int h0
    apply List.ext_getElem?
    intro i
    by_cases hi : i < n
    · obtain ⟨b', o', e, -, hc⟩ := h.int hi
      simp only [Option.some.injEq, Addr.mk.injEq, and_true] at e
      obtain ⟨rfl, rfl⟩ := e
      simp only [readL, List.getElem?_map, List.getElem?_range hi, hc, Option.map_some, Option.getD_some, intOf]
      exact (get_of_lt (by omega)).symm
    · rw [List.getElem?_eq_none (by simp [readL]; omega), List.getElem?_eq_none (by omega)]

theorem inL_len : ∀ (ds : List Nat) (s : List Int), InL ds s → s.length = ds.length
  | [], [], _ => rfl
  | d :: ds, x :: s, h => by simp [inL_len ds s h.2.2]
  | [], _ :: _, h => h.elim
  | _ :: _, [], h => h.elim
theorem inL_set {M : Int} : ∀ (l : List St3) (s : List Int), InL (places M l) s → SetOk M l s
  | [], [], _ => ⟨by simp, fun k x y hx _ => by simp at hx⟩
  | a :: l, y :: s, h => by
    obtain ⟨h0, h1, h2⟩ : 0 ≤ y ∧ y < (((M / a.1).toNat : Nat) : Int) ∧ InL (places M l) s := h
    obtain ⟨g1, g2⟩ := inL_set l s h2
    refine ⟨by simp; omega, fun k x z hx hz => ?_⟩
    cases k with
    | zero =>
      simp at hx hz
      subst hx; subst hz
      omega
    | succ k => exact g2 k x z (by simpa using hx) (by simpa using hz)
  | [], _ :: _, h => (h : False).elim
  | _ :: _, [], h => (h : False).elim
theorem setOk_take {M : Int} {l : List St3} {s : List Int} (h : SetOk M l s) (k : Nat) : SetOk M l (s.take k) := by
  refine ⟨by have := h.1; simp; omega, fun j x y hx hy => ?_⟩
  rw [List.getElem?_take] at hy
  split at hy
  · exact h.2 j x y hx hy
  · cases hy

theorem cnt_any {M : Int} {l : List St3} (h : shaftB M l = true) (ones : Bool) : ∀ x ∈ l, 0 ≤ cntO ones x ∧ cntO ones x ≤ 500 := by
  cases ones
  · exact cnt_pounds h
  · intro x _
    show (0 : Int) ≤ 1 ∧ (1 : Int) ≤ 500
    omega
theorem most_nonneg (M : Int) (cnt : St3 → Int) (l : List St3) (s : List Int) : 0 ≤ mostL M cnt l s := (foldl_max _ 0).1
theorem most_le {M : Int} {cnt : St3 → Int} {l : List St3} (s : List Int) (h : ∀ x ∈ l, cnt x ≤ 500) (h4 : l.length ≤ 4) : mostL M cnt l s ≤ 2000 := by
  rcases (foldl_max (loadsL M cnt l s) 0).2.2 with e | e
  · unfold mostL greatest; omega
  · obtain ⟨i, _, hi⟩ := List.mem_map.1 e
    have := loadL_le (M := M) (cnt := cnt) (l := l) (s := s) (mark := i) (B := 500) (by omega) h
    unfold mostL greatest
    omega

set_option maxRecDepth 100000 in
set_option maxHeartbeats 2000000 in
theorem rbest_any (m : Nat) (ones : Bool) (A : Option Addr) (n c : Nat) (l : List St3) (w : World) (hR : Reads w w.heap.size 3 A n (sts l)) (hv : Hid (shaftB m l = true)) :
    Calls Tryd.prog 62 #[.agg #[.int .i64 m, .slice A n c], .bool ones] w fun e w' =>
      ∃ Av cv, e = .returned (.tuple #[.slice Av n cv, .int .i64 (bestS (mostL m (cntO ones) l) (places m l)).2]) ∧ Reads w' w'.heap.size 1 Av n (ints (bestS (mostL m (cntO ones) l) (places m l)).1) ∧ Below w.heap.size w w' := by
  obtain ⟨hM1, hM2, hn4⟩ := shaft_bounds hv.out
  have hl : l.length = n := hR.st_len
  have hmk := make_ints n (by omega)
  have HK := Lib.hid (fun x (hx : Below (w.heap.size + 1) (w.alloc (.cells #[.int .i64 m, .slice A n c] 24)) x) => shaft_box hR hx)
  have HW := Lib.hid (fun x (hx : Below (w.heap.size + 1) (w.alloc (.cells #[.int .i64 m, .slice A n c] 24)) x) => box_below hx)
  have hds : Hid (zeros (places m l) = List.replicate n 0) := by show _ = _; rw [zeros_eq, places_len, hl]
  have hin : Hid (InL (places m l) (zeros (places m l))) := zeros_in _ (places_pos hv.out)
  have hX0 : Hid (Below (w.heap.size + 1) (w.alloc (.cells #[.int .i64 m, .slice A n c] 24)) ((w.alloc (.cells #[.int .i64 m, .slice A n c] 24)).alloc (.cells (ints (List.replicate n 0)).toArray 3))) := (Below.refl _ _).alloc (by simp) _
  have hS0' := Reads.new_ints (w.alloc (.cells #[.int .i64 m, .slice A n c] 24)) (List.replicate n 0) 3 n (by simp)
  rw [show (w.alloc (.cells #[.int .i64 m, .slice A n c] 24)).heap.size = w.heap.size + 1 by simp] at hS0'
  have hS0 := Lib.hid hS0'
  have hcnt := Lib.hid (cnt_any hv.out ones)
  have HL := Lib.hid (fun x (hx : Below (w.heap.size + 1) (w.alloc (.cells #[.int .i64 m, .slice A n c] 24)) x) B' s c' (hs : Reads x x.heap.size 1 B' n (ints s)) (hsi : InL (places m l) s) => rloads_any m ones A B' n c n c' l s x (HK.out x hx).2.2.2 hs hv (Lib.hid (inL_set l s hsi)))
  have HA := Lib.hid (fun x (hx : Below (w.heap.size + 1) (w.alloc (.cells #[.int .i64 m, .slice A n c] 24)) x) B' s c' (hs : Reads x x.heap.size 1 B' n (ints s)) (hsi : InL (places m l) s) => after_any m A B' n c c' l s x (HK.out x hx).2.2.2 hs hv (Lib.hid (inL_set l s hsi)))
  have hpos := Lib.hid (places_pos hv.out)
  have hml : ∀ s, (loadsL m (cntO ones) l s).length = m := fun s => by rw [loadsL_len]; simp
  have HG := Lib.hid (fun (x : World) B' c' s (h : Reads x x.heap.size 1 B' m (ints (loadsL m (cntO ones) l s))) => greatest_any B' m c' (loadsL m (cntO ones) l s) x (by omega) h)
  have hf0 : Hid (∀ s, 0 ≤ mostL m (cntO ones) l s) := fun s => most_nonneg _ _ _ _
  have hf1 : Hid (∀ s, mostL m (cntO ones) l s ≤ 2000) := fun s => most_le s (fun x hx => (hcnt.out x hx).2) hn4
  have hst := Lib.hid (best_start (mostL m (cntO ones) l) (places m l) hpos.out)
  have hgm : ∀ s, greatest (loadsL m (cntO ones) l s) = mostL m (cntO ones) l s := fun _ => rfl
  simp only [hgm] at HG
  clear hR hS0' hgm hml hcnt hM2
  obtain ⟨f, hf⟩ : ∃ f, mostL m (cntO ones) l = f := ⟨_, rfl⟩
  obtain ⟨ds, hd⟩ : ∃ ds, places (m : Int) l = ds := ⟨_, rfl⟩
  rw [hf] at hf0 hf1 hst HG ⊢
  rw [hd] at hst hds hin hpos HL HA ⊢
  go_enter Tryd.func62, Tryd.ntmps62
  go_wp2_with fail
  generalize (w.alloc (.cells #[.int .i64 m, .slice A n c] 24)) = wb at *
  generalize (wb.alloc (.cells (ints (List.replicate n 0)).toArray 3)) = wc at *
  rw [← hds.out] at hS0
  refine (HL.out wc hX0.out _ _ _ hS0.out hin.out).mono ?_
  rintro e w1 ⟨v1, rfl, hv1, hb1⟩
  obtain ⟨-, -, hz, -⟩ := HK.out wc hX0.out
  have hX1 := Lib.hid (below_via hX0.out hz hb1)
  have hS1 := Lib.hid ((hS0.out.below hb1).more hb1.size)
  obtain ⟨A1, c1, rfl, hr1⟩ := own_slice hv1
  have H1 := Lib.hid (HG.out w1 A1 c1 _ hr1)
  clear hb1 hv1 hr1 hX0 hmk
  have hS1' : Hid (Reads w1 w1.heap.size 1 (some ⟨w.heap.size + 1, 0, none⟩) n (ints (zeros ds))) := hS1
  go_wp2_with fail
  refine H1.out.mono ?_
  rintro e w2 ⟨rfl, hw2⟩
  rw [hw2]
  clear hw2 w2 H1 hS0 hS1
  go_wp2
  go_loopw [6, 7, 8] (fun x y z wr => ∃ (As Af : Option Addr) (cs cf : Nat) (s fs : List Int) (fn : Int), x = .slice As n cs ∧ y = .slice Af n cf ∧ z = .int .i64 fn ∧ Hid (Reads wr wr.heap.size 1 As n (ints s)) ∧ Hid (Reads wr wr.heap.size 1 Af n (ints fs)) ∧ Hid (0 ≤ fn) ∧ Hid (InL ds s) ∧ Hid ((restL ds s).foldl (upd f) (fs, fn) = bestS f ds) ∧ Hid (Below (w.heap.size + 1) wb wr)) (fun x _ _ wr => (restL ds (readL wr x)).length)
  case atStart => exact ⟨_, _, _, _, zeros ds, zeros ds, f (zeros ds), rfl, rfl, rfl, hS1', hS1', hf0.out _, hin, hst, hX1⟩
  case round =>
    clear hS1' hst hX1 hin
    obtain ⟨As, Af, cs, cf, s, fs, fn, rfl, rfl, rfl, hs, hfs, hfn, hsi, hfold, hX⟩ := hrel
    obtain ⟨m0, m1, hz, -⟩ := HK.out wr hX.out
    have H2 := Lib.hid (HA.out wr hX.out As s cs hs.out hsi.out)
    cases ha : afterL ds s with
    | none =>
      rw [ha] at H2
      have hrest := after_none ds s hsi.out ha
      have hres : Hid ((fs, fn) = bestS f ds) := by
        have := hfold.out
        rw [hrest] at this
        exact this
      clear ha hrest hfold
      go_wp2_with fail
      refine H2.out.mono ?_
      rintro e w2 ⟨v2, t2, rfl, hv2, -, hb2⟩
      have hX2 := Lib.hid (below_via hX.out (by omega) hb2)
      have hf2 := Lib.hid ((hfs.out.below hb2).more hb2.size)
      obtain ⟨A2, c2, rfl, -⟩ := own_slice hv2
      clear hv2 hb2
      go_wp2
      go_ret2
      rw [← hres.out]
      exact ⟨_, _, rfl, hf2.out, HW.out _ hX2.out⟩
    | some t =>
      rw [ha] at H2
      obtain ⟨hrest, hti⟩ := after_some ds s t hpos.out hsi.out ha
      have hfold2 : Hid ((restL ds t).foldl (upd f) (upd f (fs, fn) t) = bestS f ds) := by
        have := hfold.out
        rw [hrest, List.foldl_cons] at this
        exact this
      have hmeas : Hid ((restL ds t).length < (restL ds (readL wr (.slice As n cs))).length) := by
        show _ < _
        rw [readL_eq hs.out, hrest]
        simp
      have hti' := Lib.hid hti
      clear ha hrest hfold hti
      go_wp2_with fail
      refine H2.out.mono ?_
      rintro e w2 ⟨v2, t2, rfl, hv2, ht2, hb2⟩
      obtain rfl := ht2 t rfl
      have hX2 := Lib.hid (below_via hX.out (by omega) hb2)
      have hf2 := Lib.hid ((hfs.out.below hb2).more hb2.size)
      obtain ⟨A2, c2, rfl, hr2⟩ := own_slice hv2
      have hr2' := Lib.hid hr2
      clear hv2 hb2 ht2 hr2 m0 m1 H2
      obtain ⟨m0, m1, hz, -⟩ := HK.out w2 hX2.out
      have H3 := Lib.hid (HL.out w2 hX2.out A2 t2 c2 hr2'.out hti'.out)
      go_wp2_with fail
      refine H3.out.mono ?_
      rintro e w3 ⟨v3, rfl, hv3, hb3⟩
      have hX3 := Lib.hid (below_via hX2.out (by omega) hb3)
      have hf3 := Lib.hid ((hf2.out.below hb3).more hb3.size)
      have ht3 := Lib.hid ((hr2'.out.below hb3).more hb3.size)
      obtain ⟨A3, c3, rfl, hr3⟩ := own_slice hv3
      have H4 := Lib.hid (HG.out w3 A3 c3 t2 hr3)
      clear hv3 hb3 hr3 m0 m1 H3 hf2 hr2'
      go_wp2_with fail
      refine H4.out.mono ?_
      rintro e w4 ⟨rfl, hw4⟩
      rw [hw4]
      clear hw4 w4 H4
      have hmeas2 : Hid ((restL ds (readL w3 (.slice A2 n c2))).length < (restL ds (readL wr (.slice As n cs))).length) := by
        show _ < _
        rw [readL_eq ht3.out]
        exact hmeas.out
      by_cases hlt : f t2 < fn
      · have hu : upd f (fs, fn) t2 = (t2, f t2) := by unfold upd; rw [if_neg (by simp only; omega)]
        rw [hu] at hfold2
        have h0 : Hid (0 ≤ f t2) := hf0.out _
        clear hu
        go_wp2
        go_roundw
        case rel => exact ⟨_, _, _, _, t2, t2, f t2, rfl, rfl, rfl, ht3, ht3, h0, hti', hfold2, hX3⟩
        case measure => exact hmeas2.out
      · have hu : upd f (fs, fn) t2 = (fs, fn) := by unfold upd; rw [if_pos ⟨hfn.out, by simp only; omega⟩]
        rw [hu] at hfold2
        clear hu
        go_wp2
        go_roundw
        case rel => exact ⟨_, _, _, _, t2, fs, fn, rfl, rfl, rfl, ht3, hf3, hfn, hti', hfold2, hX3⟩
        case measure => exact hmeas2.out
end Go.Proofs.YtlmmjaolmmcklaaDoor
