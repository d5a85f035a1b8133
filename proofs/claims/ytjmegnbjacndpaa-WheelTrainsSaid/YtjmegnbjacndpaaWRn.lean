/-
  The reference's nearest train: its walk.
-/
import Derived.Test.YtjmegnbjacndpaaWNe
import Derived.Test.YtjmegnbjacndpaaWRo
import Derived.Test.YtjmegnbjacndpaaWRt
import Derived.Test.YtjmegnbjacndpaaRefR
import Derived.Deep.DeepCutAuto
import Derived.Deep.CutBlock
namespace Go.Proofs.Ytjmegnbjacndpaa
open Go.RowKit Go.Maps
set_option linter.unusedVariables false
set_option linter.unusedSimpArgs false

/-- The best one of the reference, as it goes. -/
def BestR (fb : Nat) (b : Best) (v : Value) (W : World) : Prop := match b with
  | none => v = .slice none 0 0 ∧ W.heap[fb]? = some (.cells #[.int .i64 0, .int .i64 0] 26 (0, 0))
  | some y => ∃ A c, v = .slice A y.1.length c ∧ RdX [fb] W W.heap.size 2 A y.1.length (prs y.1) ∧ (1 ≤ y.1.length ∧ y.1.length ≤ 3) ∧ FarOk y.2 ∧ (∀ r, A = some r → 0 < y.1.length → fb < r.block) ∧ W.heap[fb]? = some (.cells #[.int .i64 y.2.1, .int .i64 y.2.2] 26 (0, 0))
def bestK (n : Nat) (ts : List Int) (p q : Int) (P k : Nat) : Best := (((allT n P).take k).map (candL ts p q)).foldl nearF none
theorem bestK_next {n : Nat} {ts : List Int} {p q : Int} {P k : Nat} {L : List (Int × Int)} (h : (allT n P)[k]? = some L) : bestK n ts p q P (k + 1) = nearF (bestK n ts p q P k) (candL ts p q L) := by
  unfold bestK
  rw [List.take_add_one, h, Option.toList_some, List.map_append, List.foldl_append]
  rfl
theorem bestK_all (n : Nat) (ts : List Int) (p q : Int) (P k : Nat) (h : (allT n P).length ≤ k) : bestK n ts p q P k = bestS n ts p q P [] := by
  unfold bestK bestS
  rw [List.take_of_length_le h, List.append_nil]
theorem allT_mem {n P : Nat} (hP : P ≤ 3) {l : List (Int × Int)} (h : l ∈ allT n P) : ∃ k, k < 3 ∧ l ∈ lev n (k + 1) := by
  unfold allT at h
  obtain ⟨k, hk, h⟩ := List.mem_flatMap.1 h
  exact ⟨k, by have := List.mem_range.1 hk; omega, h⟩

set_option maxRecDepth 100000 in
set_option maxHeartbeats 4000000 in
theorem rNearest_any (A : Option Addr) (n c : Nat) (ts : List Int) (hn : n ≤ 20) (p q P : Int) (w : World) (hT : Reads w w.heap.size 1 A n (ints ts)) :
    Calls Try.prog 7 #[.agg #[.slice A n c], .agg #[.int .i64 p, .int .i64 q], .int .i64 P] w (NeP n ts p q P w) := by
  have hl : ts.length = n := by have := hT.len; simpa [ints] using this
  have HCk := Lib.hid (fun z (hz : Below w.heap.size w z) => Wheels_any A n c ts hn z ((hT.below hz).more hz.size))
  have HWi := Lib.hid (fun z => rWish_any p q z)
  have HTd := Lib.hid (fun z (hz : Below w.heap.size w z) => (hT.below hz).more hz.size)
  clear hT
  obtain ⟨w4, hw4_⟩ : ∃ y, y = ((w.alloc (.cells #[.slice A n c] 24)).alloc (.cells #[.int .i64 p, .int .i64 q] 26)).alloc (.cells #[.int .i64 0, .int .i64 0] 26) := ⟨_, rfl⟩
  have hB4 : Below w.heap.size w w4 := by rw [hw4_]; exact (((Below.refl _ _).alloc (Nat.le_refl _) _).alloc (by simp) _).alloc (by simp; omega) _
  have e1 : (w.alloc (.cells #[.slice A n c] 24)).heap.size = w.heap.size + 1 := by simp
  have e2 : ((w.alloc (.cells #[.slice A n c] 24)).alloc (.cells #[.int .i64 p, .int .i64 q] 26)).heap.size = w.heap.size + 1 + 1 := by simp
  have h0 : w4.heap[w.heap.size]? = some (.cells #[.slice A n c] 24 (0, 0)) := by rw [hw4_, Below.heap_alloc _ _ _ (by omega), Below.heap_alloc _ _ _ (by omega)]; exact heap_alloc_new w _
  have h1 : w4.heap[w.heap.size + 1]? = some (.cells #[.int .i64 p, .int .i64 q] 26 (0, 0)) := by rw [hw4_, Below.heap_alloc _ _ _ (by omega)]; have := heap_alloc_new (w.alloc (.cells #[.slice A n c] 24)) (.cells #[.int .i64 p, .int .i64 q] 26); rw [e1] at this; exact this
  have h2 : w4.heap[w.heap.size + 1 + 1]? = some (.cells #[.int .i64 0, .int .i64 0] 26 (0, 0)) := by rw [hw4_]; have := heap_alloc_new ((w.alloc (.cells #[.slice A n c] 24)).alloc (.cells #[.int .i64 p, .int .i64 q] 26)) (.cells #[.int .i64 0, .int .i64 0] 26); rw [e2] at this; exact this
  have H1 := Lib.hid h1
  have H2 := Lib.hid h2
  have H0 := Lib.hid h0
  have HB4 := Lib.hid hB4
  have hw4 := Lib.hid hw4_
  clear h0 h1 h2 hB4 hw4_ e1 e2
  go_enter Try.func7, Try.ntmps7
  go_wp2_with fail
  rw [← hw4.out]
  refine (HCk.out w4 HB4.out).mono ?_
  rintro e z1 ⟨rfl, hb1_⟩
  have hBc := Lib.hid (below_via HB4.out HB4.out.size hb1_)
  have h0 := Lib.hid (keepO hb1_ H0.out)
  have h1 := Lib.hid (keepO hb1_ H1.out)
  have h2 := Lib.hid (keepO hb1_ H2.out)
  clear hb1_ H0 H1 H2 HB4 hw4 HCk
  cases hok : okW n ts
  · have hE : Hid (neB n ts p q P = none ∧ neE n ts p q P = 100) := by show _ ∧ _; unfold neB neE; rw [hok]; exact ⟨rfl, rfl⟩
    clear hok
    obtain ⟨g0, g1, f0, f1⟩ := two_facts h2.out
    have hm := Lib.hid (set_two z1 (w.heap.size + 1 + 1) _ (.int .i64 0) (.int .i64 0) _ _ h2.out)
    have mB := Lib.hid ((hBc.out.setCell (p := ⟨w.heap.size + 1 + 1, 0, none⟩) (by simp only; omega) (.int .i64 0)).setCell (p := ⟨w.heap.size + 1 + 1, 1, none⟩) (by simp only; omega) (.int .i64 0))
    clear h0 h1 h2 hBc
    go_wp2
    obtain ⟨q0, q1, -, -⟩ := two_facts hm.out
    refine bodyPost_ret (v := .tuple #[.slice none 0 0, .agg #[.int .i64 0, .int .i64 0], .int .i64 100]) (by simp [results, Try.results7, go_sem, q0, q1]) rfl ?_
    refine ⟨⟨none, 0, 0, by rw [hE.out.1, hE.out.2]; rfl, by omega, ?_⟩, mB.out⟩
    rw [hE.out.1]
    exact ⟨rfl, fun h => absurd h (by omega)⟩
  obtain ⟨p0, p1, -, -⟩ := two_facts h1.out
  have hok' := Lib.hid hok
  clear hok
  go_wp2_with fail
  refine (HWi.out z1).mono ?_
  rintro e z2 ⟨rfl, hb2_⟩
  have hBc2 := Lib.hid (below_via hBc.out hBc.out.size hb2_)
  have h0 := Lib.hid (keepO hb2_ h0.out)
  have h1 := Lib.hid (keepO hb2_ h1.out)
  have h2 := Lib.hid (keepO hb2_ h2.out)
  clear hb2_ hBc HWi p0 p1
  have hBc := hBc2
  clear hBc2
  cases hwi : wishB p q
  · have hE : Hid (neB n ts p q P = none ∧ neE n ts p q P = 2) := by show _ ∧ _; unfold neB neE; rw [hok'.out, hwi]; exact ⟨rfl, rfl⟩
    clear hwi
    obtain ⟨g0, g1, f0, f1⟩ := two_facts h2.out
    have hm := Lib.hid (set_two z2 (w.heap.size + 1 + 1) _ (.int .i64 0) (.int .i64 0) _ _ h2.out)
    have mB := Lib.hid ((hBc.out.setCell (p := ⟨w.heap.size + 1 + 1, 0, none⟩) (by simp only; omega) (.int .i64 0)).setCell (p := ⟨w.heap.size + 1 + 1, 1, none⟩) (by simp only; omega) (.int .i64 0))
    clear h0 h1 h2 hBc
    go_wp2
    obtain ⟨q0, q1, -, -⟩ := two_facts hm.out
    refine bodyPost_ret (v := .tuple #[.slice none 0 0, .agg #[.int .i64 0, .int .i64 0], .int .i64 2]) (by simp [results, Try.results7, go_sem, q0, q1]) rfl ?_
    refine ⟨⟨none, 0, 0, by rw [hE.out.1, hE.out.2]; rfl, by omega, ?_⟩, mB.out⟩
    rw [hE.out.1]
    exact ⟨rfl, fun h => absurd h (by omega)⟩
  have hwi' := Lib.hid hwi
  have hpq : (1 ≤ p ∧ p ≤ 1000) ∧ 1 ≤ q ∧ q ≤ 1000 := by unfold wishB inB at hwi; simp at hwi; omega
  obtain ⟨hp1, hq1⟩ := hpq
  obtain ⟨bi, hbi⟩ : ∃ b, (decide (1 ≤ P) && decide (P ≤ 3)) = b := ⟨_, rfl⟩
  have HIn : Hid (∀ z : World, Calls Try.prog 25 #[.int .i64 P, .int .i64 1, .int .i64 3] z fun e w' => e = .returned (.bool bi) ∧ w' = z) := Lib.hid (fun z => by rw [← hbi]; exact within_any P 1 3 z)
  have hib : Hid (inB 1 3 [P] = bi) := by show _ = _; rw [← hbi]; unfold inB; simp
  clear hwi hbi
  go_wp2_with fail
  refine (HIn.out z2).mono ?_
  rintro e z3 ⟨rfl, rfl⟩
  cases bi
  · have hE : Hid (neB n ts p q P = none ∧ neE n ts p q P = 2) := by show _ ∧ _; unfold neB neE; rw [hok'.out, hwi'.out, hib.out]; exact ⟨rfl, rfl⟩
    obtain ⟨g0, g1, f0, f1⟩ := two_facts h2.out
    have hm := Lib.hid (set_two z3 (w.heap.size + 1 + 1) _ (.int .i64 0) (.int .i64 0) _ _ h2.out)
    have mB := Lib.hid ((hBc.out.setCell (p := ⟨w.heap.size + 1 + 1, 0, none⟩) (by simp only; omega) (.int .i64 0)).setCell (p := ⟨w.heap.size + 1 + 1, 1, none⟩) (by simp only; omega) (.int .i64 0))
    clear h0 h1 h2 hBc
    go_wp2
    obtain ⟨q0, q1, -, -⟩ := two_facts hm.out
    refine bodyPost_ret (v := .tuple #[.slice none 0 0, .agg #[.int .i64 0, .int .i64 0], .int .i64 2]) (by simp [results, Try.results7, go_sem, q0, q1]) rfl ?_
    refine ⟨⟨none, 0, 0, by rw [hE.out.1, hE.out.2]; rfl, by omega, ?_⟩, mB.out⟩
    rw [hE.out.1]
    exact ⟨rfl, fun h => absurd h (by omega)⟩
  obtain ⟨PP, rfl, hP1, hP3⟩ : ∃ PP : Nat, P = (PP : Int) ∧ 1 ≤ PP ∧ PP ≤ 3 := ⟨P.toNat, by have h := hib.out; unfold inB at h; simp at h; omega, by have h := hib.out; unfold inB at h; simp at h; omega, by have h := hib.out; unfold inB at h; simp at h; omega⟩
  have hEq : Hid (neB n ts p q PP = bestS n ts p q PP [] ∧ neE n ts p q PP = if (bestS n ts p q PP []).isSome then 0 else 6) := by show _ ∧ _; unfold neB neE; rw [hok'.out, hwi'.out, hib.out]; exact ⟨rfl, rfl⟩
  have hn8 : n ≤ 8 := by have h := hok'.out; unfold okW at h; simp at h; omega
  obtain ⟨zf, hzf_⟩ : ∃ zf, zf = z3.alloc (.cells #[.int .i64 0, .int .i64 0] 26) := ⟨_, rfl⟩
  have hbf : Below z3.heap.size z3 zf := by rw [hzf_]; exact (Below.refl _ _).alloc (Nat.le_refl _) _
  have hBf := Lib.hid (below_via hBc.out hBc.out.size hbf)
  have hfw : w.heap.size + 1 + 1 < z3.heap.size := (Array.getElem?_eq_some_iff.1 h2.out).1
  have h0 := Lib.hid (keepO hbf h0.out)
  have h1 := Lib.hid (keepO hbf h1.out)
  have h2 := Lib.hid (keepO hbf h2.out)
  have hF := Lib.hid (show zf.heap[z3.heap.size]? = some (.cells #[.int .i64 0, .int .i64 0] 26 (0, 0)) by rw [hzf_]; exact heap_alloc_new z3 _)
  have hzs : zf.heap.size = z3.heap.size + 1 := by rw [hzf_]; simp
  have hzf := Lib.hid hzf_
  have HTn := Lib.hid (rtrains_any A n c hn8 PP hP3 zf)
  obtain ⟨g0_, -⟩ := one_facts h0.out
  have g0 : (z3.alloc (.cells #[.int .i64 0, .int .i64 0] 26)).cell? ⟨w.heap.size, 0, none⟩ = some (.slice A n c) := by rw [← hzf.out]; exact g0_
  clear hzf_ hbf hBc g0_
  go_wp2_with fail
  rw [← hzf.out]
  refine HTn.out.mono ?_
  rintro e wT ⟨v, rfl, ⟨vs, hov_, hTv_⟩, hbT⟩
  obtain ⟨Av, cv, rfl⟩ := ownR_val hov_
  have hBT := Lib.hid (below_via hBf.out hBf.out.size hbT)
  have h0 := Lib.hid (keepO hbT h0.out)
  have h1 := Lib.hid (keepO hbT h1.out)
  have h2 := Lib.hid (keepO hbT h2.out)
  have hF := Lib.hid (keepO hbT hF.out)
  have HX : Hid (RdX [z3.heap.size] wT wT.heap.size 1 Av (allR n PP).length vs) := Lib.hid (RdX.of_own hov_ (fun d hd => by simp at hd; omega))
  have HTv := Lib.hid hTv_
  have hwT := hBT.out.size
  have hfT : z3.heap.size < wT.heap.size := (Array.getElem?_eq_some_iff.1 hF.out).1
  have hN := Lib.hid (allR_len n hn8 PP hP3)
  have hNm : (allR n PP).length ≤ 786432 := by have := hN.out; omega
  clear g0 hbT hov_ hTv_ hBf hzf HTn
  go_wp2_with fail
  go_loopw [9, 31] (fun v9 v31 wr => ∃ wl, wl = wr ∧ ∃ k : Nat, k ≤ (allR n PP).length ∧ v31 = .int .i64 (k : Int) ∧ Hid (BestR z3.heap.size (bestK n ts p q PP k) v9 wl) ∧ Hid (Kp wT.heap.size [z3.heap.size] wT wl)) (fun _ v31 _ => (allR n PP).length - (RowKit.intOf v31).toNat)
  case atStart => exact ⟨_, rfl, 0, Nat.zero_le _, rfl, Lib.hid ⟨rfl, hF.out⟩, Lib.hid (Kp.refl _ _ _)⟩
  case round =>
    obtain ⟨wl, rfl, k, hk, rfl, HBk, HKl⟩ := hrel
    have kb : ∀ (b : Nat) (o : Obj), wT.heap[b]? = some o → b ≠ z3.heap.size → wl.heap[b]? = some o := fun b o h hn => (HKl.out.block b (Array.getElem?_eq_some_iff.1 h).1 (by simpa using hn)).trans h
    have l0 := Lib.hid (kb _ _ h0.out (by omega))
    have l1 := Lib.hid (kb _ _ h1.out (by omega))
    have l2 := Lib.hid (kb _ _ h2.out (by omega))
    clear kb
    by_cases hkl : k < (allR n PP).length
    · have hkk : (k : Int) < ((allR n PP).length : Int) := by omega
      have k0k : (0 : Int) ≤ (k : Int) := by omega
      obtain ⟨L, hL⟩ : ∃ L, (allR n PP)[k]? = some L := ⟨_, List.getElem?_eq_getElem hkl⟩
      obtain ⟨b6, o6, u6, rfl, hb6, hu6, y6⟩ := (HX.out.keep HKl.out (Nat.le_refl _) (fun d hd => Or.inl hd)).1.at_ hkl
      obtain ⟨vl, hvl, hol⟩ := HTv.out.2 k L hL
      rw [hu6] at hvl
      cases hvl
      obtain ⟨Al, cl, rfl⟩ := ownR_val hol
      have hAg : Hid (∀ r, Al = some r → 0 < L.length → z3.heap.size < r.block) := Lib.hid (fun r h1 h2 => by subst h1; have := (ownR_lt hol rfl).1; (try simp only at this); omega)
      have hNb : ∀ r, Al = some r → 0 < L.length → r.block ∉ [z3.heap.size] := fun r h1 h2 hd => by have := hAg.out r h1 h2; simp at hd; omega
      have HLl : Hid (RdX [z3.heap.size] wl wl.heap.size 2 Al L.length (prs L)) := Lib.hid ((RdX.keep (D := [z3.heap.size]) ⟨Reads.of_own hol, hNb⟩ HKl.out (Nat.le_refl _) (fun d hd => Or.inl hd)).more HKl.out.size)
      obtain ⟨kx, hkx, hlv⟩ := allT_mem hP3 (show L ∈ allT n PP from List.mem_of_getElem? hL)
      have hOk := okay_of hl hok'.out (valid_lev hkx hlv)
      have hL1 : 1 ≤ L.length ∧ L.length ≤ 3 := by rw [((lev_mem (kx + 1) (by omega) L).1 hlv).1]; omega
      have hrb := rat_bound hOk hL1.2
      have hFo1 := far_ok hrb hp1 hq1
      obtain ⟨⟨r1, r2⟩, hrr⟩ : ∃ r, ratL ts L = r := ⟨_, rfl⟩
      obtain ⟨⟨f1, f2⟩, hff⟩ : ∃ f, offF (ratL ts L) (p, q) = f := ⟨_, rfl⟩
      have hcand : candL ts p q L = (L, f1, f2) := by unfold candL; rw [hff]
      rw [hff] at hFo1
      have hFo := Lib.hid hFo1
      rw [hrr] at hrb hff
      simp only at hrb
      have hnx0 : Hid (bestK n ts p q PP (k + 1) = nearF (bestK n ts p q PP k) (L, f1, f2)) := Lib.hid (by rw [bestK_next (show (allT n PP)[k]? = some L from hL), hcand])
      have HOf : Hid (∀ z : World, Calls Try.prog 27 #[.agg #[.int .i64 r1, .int .i64 r2], .agg #[.int .i64 p, .int .i64 q]] z fun e w' => e = .returned (.agg #[.int .i64 f1, .int .i64 f2]) ∧ Below z.heap.size z w') := Lib.hid (fun z => by have := roff_any r1 r2 p q z (by omega) (by omega) hp1 hq1; rw [hff] at this; exact this)
      have HBw := Lib.hid (hBT.out.trans (HKl.out.below hBT.out.size (fun d hd => by simp at hd; omega)))
      have HRt : Hid (∀ z (hz : Hid (Kp wl.heap.size [] wl z)), Calls Try.prog 28 #[.agg #[.slice A n c], .slice Al L.length cl] z fun e w' => e = .returned (.agg #[.int .i64 r1, .int .i64 r2]) ∧ Below z.heap.size z w') := Lib.hid (fun z hz => by
        have := rratio_any A Al n c L.length cl hn ts L hOk z (HTd.out z (below_via HBw.out HBw.out.size (hz.out.below (Nat.le_refl _) (fun d hd => by cases hd)))) ((HLl.out.1.below (hz.out.below (Nat.le_refl _) (fun d hd => by cases hd))).more hz.out.size)
        rw [show redu (numT ts L) (denT ts L) = (r1, r2) from hrr] at this
        exact this)
      obtain ⟨g0, -⟩ := one_facts l0.out
      obtain ⟨g1, g2, -, -⟩ := two_facts l1.out
      have hls : w.heap.size < wl.heap.size := (Array.getElem?_eq_some_iff.1 l0.out).1
      have hlw : w.heap.size + 1 < wl.heap.size := (Array.getElem?_eq_some_iff.1 l1.out).1
      have hflw : z3.heap.size < wl.heap.size := Nat.lt_of_lt_of_le hfT HKl.out.size
      have HQ := Lib.hid (fun z (hz : Hid (Kp wl.heap.size [] wl z)) => (⟨(hz.out.cell (p := ⟨w.heap.size, 0, none⟩) hls (by simp)).trans g0, (hz.out.cell (p := ⟨w.heap.size + 1, 0, none⟩) hlw (by simp)).trans g1, (hz.out.cell (p := ⟨w.heap.size + 1, 1, none⟩) hlw (by simp)).trans g2⟩ : z.cell? ⟨w.heap.size, 0, none⟩ = some (.slice A n c) ∧ z.cell? ⟨w.heap.size + 1, 0, none⟩ = some (.int .i64 p) ∧ z.cell? ⟨w.heap.size + 1, 1, none⟩ = some (.int .i64 q)))
      obtain ⟨S4, hSd⟩ : ∃ S : World → Prop, S = fun z => (z.cell? ⟨w.heap.size, 0, none⟩ = some (.slice A n c) ∧ z.cell? ⟨w.heap.size + 1, 0, none⟩ = some (.int .i64 p) ∧ z.cell? ⟨w.heap.size + 1, 1, none⟩ = some (.int .i64 q)) ∧ Hid (Kp wl.heap.size [] wl z) := ⟨_, rfl⟩
      have HS := Lib.hid (fun z (hz : Hid (Kp wl.heap.size [] wl z)) => (by rw [hSd]; exact ⟨HQ.out z hz, hz⟩ : S4 z))
      clear hL hu6 hol hNb hlv hOk hrb hFo1 hff hrr hcand g0 g1 g2 hls hlw
      go_upto_region 10 with (fail)
      clear y6
      go_cut [13] from 35 to 58 (fun s wx => ∃ wy, wy = wx ∧ ∃ db, s = .pointer (some ⟨db, 0, none⟩) ∧ wx.heap[db]? = some (.cells #[.int .i64 f1, .int .i64 f2] 26 (0, 0)) ∧ wl.heap.size ≤ db ∧ Hid (Below wl.heap.size wl wx))
      case first =>
        refine wp_region_held_drew (S := S4) (by kernel_rfl) ?_ (fun hHeld => ?_)
        · exact HS.out _ (Lib.hid (Kp.refl _ _ _).drew)
        have hKyd : Hid (Kp wl.heap.size [] wl wl.drew) := Lib.hid (Kp.refl _ _ _).drew
        have hSyd : wl.heap.size ≤ wl.drew.heap.size := Nat.le_refl _
        generalize wl.drew = yd at *
        refine tkY (v := ?_) 0 35 rfl rfl (by kernel_rfl) (by kernel_rfl) (by kernel_rfl) (fun _ _ _ h => h) (by kernel_rfl) ?_ (by assumption) ?_
        rotate_left
        · intro w hSw; rw [hSd] at hSw; obtain ⟨⟨q0, q1, q2⟩, -⟩ := hSw; go_simp; (try with_reducible rfl)
        try simp only [Act.put, List.setIfInBounds_toArray, List.set_cons_zero, List.set_cons_succ]
        refine tkY (v := ?_) 1 36 rfl rfl (by kernel_rfl) (by kernel_rfl) (by kernel_rfl) (fun _ _ _ h => h) (by kernel_rfl) ?_ (by assumption) ?_
        rotate_left
        · intro w hSw; rw [hSd] at hSw; obtain ⟨⟨q0, q1, q2⟩, -⟩ := hSw; go_simp; (try with_reducible rfl)
        try simp only [Act.put, List.setIfInBounds_toArray, List.set_cons_zero, List.set_cons_succ]
        refine tkY (v := ?_) 3 38 rfl rfl (by kernel_rfl) (by kernel_rfl) (by kernel_rfl) (fun _ _ _ h => h) (by kernel_rfl) ?_ (by assumption) ?_
        rotate_left
        · intro w hSw; rw [hSd] at hSw; obtain ⟨⟨q0, q1, q2⟩, -⟩ := hSw; go_simp; (try with_reducible rfl)
        try simp only [Act.put, List.setIfInBounds_toArray, List.set_cons_zero, List.set_cons_succ]
        refine wpAnyH_ready (rs := [2, 5]) (by kernel_rfl) (by simp) ?_
        refine AllReadyH.cons (o := _) rfl (fun Kq hK => ?_) ?_
        · go_simp
          refine (HRt.out yd hKyd).mono ?_
          rintro e c2yd ⟨rfl, hb⟩
          have hKc2yd := Lib.hid (hKyd.out.call hSyd hb)
          have hSc2yd := Nat.le_trans hSyd hb.size
          clear hb
          try go_simp
          refine hK.out _ _ ?_ (fun hHeld => ?_)
          · exact HS.out _ hKc2yd
          clear hK Kq
          try simp only [Act.put, List.setIfInBounds_toArray, List.set_cons_zero, List.set_cons_succ]
          refine wpAnyH_ready (rs := [4, 5]) (by kernel_rfl) (by simp) ?_
          refine AllReadyH.cons (o := _) rfl (fun Kq hK => ?_) ?_
          · go_simp
            refine (HOf.out c2yd).mono ?_
            rintro e c4c2yd ⟨rfl, hb⟩
            have hKc4c2yd := Lib.hid (hKc2yd.out.call hSc2yd hb)
            have hSc4c2yd := Nat.le_trans hSc2yd hb.size
            clear hb
            try go_simp
            refine hK.out _ _ ?_ (fun hHeld => ?_)
            · exact HS.out _ hKc4c2yd
            clear hK Kq
            try simp only [Act.put, List.setIfInBounds_toArray, List.set_cons_zero, List.set_cons_succ]
            refine wpAnyH_ready (rs := [5]) (by kernel_rfl) (by simp) ?_
            refine AllReadyH.cons (o := _) rfl (fun Kq hK => ?_) AllReadyH.nil
            go_simp
            have hOx := heap_alloc_new c4c2yd (.cells #[.int .i64 0, .int .i64 0] 26)
            have hobx := hSc4c2yd
            have hKz5c4c2yd := Lib.hid (hKc4c2yd.out.alloc hSc4c2yd (.cells #[.int .i64 0, .int .i64 0] 26))
            have hSz5c4c2yd := Nat.le_trans hSc4c2yd ((Below.refl c4c2yd.heap.size c4c2yd).alloc (Nat.le_refl _) (.cells #[.int .i64 0, .int .i64 0] 26)).size
            generalize (c4c2yd.alloc (.cells #[.int .i64 0, .int .i64 0] 26)) = z5c4c2yd at *
            refine hK.out _ _ ?_ (fun hHeld => ?_)
            · exact HS.out _ hKz5c4c2yd
            clear hK Kq
            try simp only [Act.put, List.setIfInBounds_toArray, List.set_cons_zero, List.set_cons_succ]
            refine wpAnyH_ready (rs := [6]) (by kernel_rfl) (by simp) ?_
            refine AllReadyH.cons (o := _) rfl (fun Kq hK => ?_) AllReadyH.nil
            obtain ⟨e0, e1, g0, g1⟩ := two_facts hOx
            go_simp
            clear e0 e1 g0 g1
            obtain ⟨s6z5c4c2yd, hz_⟩ : ∃ z, z = (z5c4c2yd.setCell ⟨c4c2yd.heap.size, 0, none⟩ (.int .i64 f1)).setCell ⟨c4c2yd.heap.size, 1, none⟩ (.int .i64 f2) := ⟨_, rfl⟩
            rw [← hz_]
            have hOx := set_two z5c4c2yd c4c2yd.heap.size _ (.int .i64 f1) (.int .i64 f2) _ _ hOx
            rw [← hz_] at hOx
            have hKs6z5c4c2yd := Lib.hid ((hKz5c4c2yd.out.set (p := ⟨c4c2yd.heap.size, 0, none⟩) (Or.inr (by simp only; omega)) (.int .i64 f1)).set (p := ⟨c4c2yd.heap.size, 1, none⟩) (Or.inr (by simp only; omega)) (.int .i64 f2))
            rw [← hz_] at hKs6z5c4c2yd
            have hSs6z5c4c2yd := Nat.le_trans hSz5c4c2yd (show z5c4c2yd.heap.size ≤ s6z5c4c2yd.heap.size by rw [hz_]; simp)
            clear hz_
            refine hK.out _ _ ?_ (fun hHeld => ?_)
            · exact HS.out _ hKs6z5c4c2yd
            clear hK Kq
            try simp only [Act.put, List.setIfInBounds_toArray, List.set_cons_zero, List.set_cons_succ]
            refine wpAnyH_done (by kernel_rfl) ?_ _
            have hBW := Lib.hid (hKs6z5c4c2yd.out.below (Nat.le_refl _) (fun d hd => by cases hd))
            clear HS HQ hSd HRt HOf
            go_wp2_with fail
            go_meet
            exact ⟨_, rfl, _, rfl, hOx, hobx, hBW⟩
          refine AllReadyH.cons (o := _) rfl (fun Kq hK => ?_) AllReadyH.nil
          go_simp
          have hOx := heap_alloc_new c2yd (.cells #[.int .i64 0, .int .i64 0] 26)
          have hobx := hSc2yd
          have hKz5c2yd := Lib.hid (hKc2yd.out.alloc hSc2yd (.cells #[.int .i64 0, .int .i64 0] 26))
          have hSz5c2yd := Nat.le_trans hSc2yd ((Below.refl c2yd.heap.size c2yd).alloc (Nat.le_refl _) (.cells #[.int .i64 0, .int .i64 0] 26)).size
          generalize (c2yd.alloc (.cells #[.int .i64 0, .int .i64 0] 26)) = z5c2yd at *
          refine hK.out _ _ ?_ (fun hHeld => ?_)
          · exact HS.out _ hKz5c2yd
          clear hK Kq
          try simp only [Act.put, List.setIfInBounds_toArray, List.set_cons_zero, List.set_cons_succ]
          refine wpAnyH_ready (rs := [4]) (by kernel_rfl) (by simp) ?_
          refine AllReadyH.cons (o := _) rfl (fun Kq hK => ?_) AllReadyH.nil
          go_simp
          refine (HOf.out z5c2yd).mono ?_
          rintro e c4z5c2yd ⟨rfl, hb⟩
          have hKc4z5c2yd := Lib.hid (hKz5c2yd.out.call hSz5c2yd hb)
          have hOx := keepO hb hOx
          have hSc4z5c2yd := Nat.le_trans hSz5c2yd hb.size
          clear hb
          try go_simp
          refine hK.out _ _ ?_ (fun hHeld => ?_)
          · exact HS.out _ hKc4z5c2yd
          clear hK Kq
          try simp only [Act.put, List.setIfInBounds_toArray, List.set_cons_zero, List.set_cons_succ]
          refine wpAnyH_ready (rs := [6]) (by kernel_rfl) (by simp) ?_
          refine AllReadyH.cons (o := _) rfl (fun Kq hK => ?_) AllReadyH.nil
          obtain ⟨e0, e1, g0, g1⟩ := two_facts hOx
          go_simp
          clear e0 e1 g0 g1
          obtain ⟨s6c4z5c2yd, hz_⟩ : ∃ z, z = (c4z5c2yd.setCell ⟨c2yd.heap.size, 0, none⟩ (.int .i64 f1)).setCell ⟨c2yd.heap.size, 1, none⟩ (.int .i64 f2) := ⟨_, rfl⟩
          rw [← hz_]
          have hOx := set_two c4z5c2yd c2yd.heap.size _ (.int .i64 f1) (.int .i64 f2) _ _ hOx
          rw [← hz_] at hOx
          have hKs6c4z5c2yd := Lib.hid ((hKc4z5c2yd.out.set (p := ⟨c2yd.heap.size, 0, none⟩) (Or.inr (by simp only; omega)) (.int .i64 f1)).set (p := ⟨c2yd.heap.size, 1, none⟩) (Or.inr (by simp only; omega)) (.int .i64 f2))
          rw [← hz_] at hKs6c4z5c2yd
          have hSs6c4z5c2yd := Nat.le_trans hSc4z5c2yd (show c4z5c2yd.heap.size ≤ s6c4z5c2yd.heap.size by rw [hz_]; simp)
          clear hz_
          refine hK.out _ _ ?_ (fun hHeld => ?_)
          · exact HS.out _ hKs6c4z5c2yd
          clear hK Kq
          try simp only [Act.put, List.setIfInBounds_toArray, List.set_cons_zero, List.set_cons_succ]
          refine wpAnyH_done (by kernel_rfl) ?_ _
          have hBW := Lib.hid (hKs6c4z5c2yd.out.below (Nat.le_refl _) (fun d hd => by cases hd))
          clear HS HQ hSd HRt HOf
          go_wp2_with fail
          go_meet
          exact ⟨_, rfl, _, rfl, hOx, hobx, hBW⟩
        refine AllReadyH.cons (o := _) rfl (fun Kq hK => ?_) AllReadyH.nil
        go_simp
        have hOx := heap_alloc_new yd (.cells #[.int .i64 0, .int .i64 0] 26)
        have hobx := hSyd
        have hKz5yd := Lib.hid (hKyd.out.alloc hSyd (.cells #[.int .i64 0, .int .i64 0] 26))
        have hSz5yd := Nat.le_trans hSyd ((Below.refl yd.heap.size yd).alloc (Nat.le_refl _) (.cells #[.int .i64 0, .int .i64 0] 26)).size
        generalize (yd.alloc (.cells #[.int .i64 0, .int .i64 0] 26)) = z5yd at *
        refine hK.out _ _ ?_ (fun hHeld => ?_)
        · exact HS.out _ hKz5yd
        clear hK Kq
        try simp only [Act.put, List.setIfInBounds_toArray, List.set_cons_zero, List.set_cons_succ]
        refine wpAnyH_ready (rs := [2]) (by kernel_rfl) (by simp) ?_
        refine AllReadyH.cons (o := _) rfl (fun Kq hK => ?_) AllReadyH.nil
        go_simp
        refine (HRt.out z5yd hKz5yd).mono ?_
        rintro e c2z5yd ⟨rfl, hb⟩
        have hKc2z5yd := Lib.hid (hKz5yd.out.call hSz5yd hb)
        have hOx := keepO hb hOx
        have hSc2z5yd := Nat.le_trans hSz5yd hb.size
        clear hb
        try go_simp
        refine hK.out _ _ ?_ (fun hHeld => ?_)
        · exact HS.out _ hKc2z5yd
        clear hK Kq
        try simp only [Act.put, List.setIfInBounds_toArray, List.set_cons_zero, List.set_cons_succ]
        refine wpAnyH_ready (rs := [4]) (by kernel_rfl) (by simp) ?_
        refine AllReadyH.cons (o := _) rfl (fun Kq hK => ?_) AllReadyH.nil
        go_simp
        refine (HOf.out c2z5yd).mono ?_
        rintro e c4c2z5yd ⟨rfl, hb⟩
        have hKc4c2z5yd := Lib.hid (hKc2z5yd.out.call hSc2z5yd hb)
        have hOx := keepO hb hOx
        have hSc4c2z5yd := Nat.le_trans hSc2z5yd hb.size
        clear hb
        try go_simp
        refine hK.out _ _ ?_ (fun hHeld => ?_)
        · exact HS.out _ hKc4c2z5yd
        clear hK Kq
        try simp only [Act.put, List.setIfInBounds_toArray, List.set_cons_zero, List.set_cons_succ]
        refine wpAnyH_ready (rs := [6]) (by kernel_rfl) (by simp) ?_
        refine AllReadyH.cons (o := _) rfl (fun Kq hK => ?_) AllReadyH.nil
        obtain ⟨e0, e1, g0, g1⟩ := two_facts hOx
        go_simp
        clear e0 e1 g0 g1
        obtain ⟨s6c4c2z5yd, hz_⟩ : ∃ z, z = (c4c2z5yd.setCell ⟨yd.heap.size, 0, none⟩ (.int .i64 f1)).setCell ⟨yd.heap.size, 1, none⟩ (.int .i64 f2) := ⟨_, rfl⟩
        rw [← hz_]
        have hOx := set_two c4c2z5yd yd.heap.size _ (.int .i64 f1) (.int .i64 f2) _ _ hOx
        rw [← hz_] at hOx
        have hKs6c4c2z5yd := Lib.hid ((hKc4c2z5yd.out.set (p := ⟨yd.heap.size, 0, none⟩) (Or.inr (by simp only; omega)) (.int .i64 f1)).set (p := ⟨yd.heap.size, 1, none⟩) (Or.inr (by simp only; omega)) (.int .i64 f2))
        rw [← hz_] at hKs6c4c2z5yd
        have hSs6c4c2z5yd := Nat.le_trans hSc4c2z5yd (show c4c2z5yd.heap.size ≤ s6c4c2z5yd.heap.size by rw [hz_]; simp)
        clear hz_
        refine hK.out _ _ ?_ (fun hHeld => ?_)
        · exact HS.out _ hKs6c4c2z5yd
        clear hK Kq
        try simp only [Act.put, List.setIfInBounds_toArray, List.set_cons_zero, List.set_cons_succ]
        refine wpAnyH_done (by kernel_rfl) ?_ _
        have hBW := Lib.hid (hKs6c4c2z5yd.out.below (Nat.le_refl _) (fun d hd => by cases hd))
        clear HS HQ hSd HRt HOf
        go_wp2_with fail
        go_meet
        exact ⟨_, rfl, _, rfl, hOx, hobx, hBW⟩
      clear HS HQ hSd HRt HOf
      obtain ⟨y, rfl, db, rfl, hDb, hdb, hBy⟩ := ‹∃ wy, wy = _ ∧ _›
      have HKy := Lib.hid (HKl.out.trans ((Kp.of_below (D := [z3.heap.size]) hBy.out).mono HKl.out.size (fun d hd => Or.inl hd)))
      have HLy : Hid (RdX [z3.heap.size] y y.heap.size 2 Al L.length (prs L)) := Lib.hid ⟨(HLl.out.1.below hBy.out).more hBy.out.size, HLl.out.2⟩
      obtain ⟨c0, c1, -, -⟩ := two_facts hDb
      have hldb : db < y.heap.size := (Array.getElem?_eq_some_iff.1 hDb).1
      have HQ := Lib.hid (fun z (hz : Hid (Kp y.heap.size [z3.heap.size] y z)) => (⟨(hz.out.cell (p := ⟨db, 0, none⟩) hldb (by simp; omega)).trans c0, (hz.out.cell (p := ⟨db, 1, none⟩) hldb (by simp; omega)).trans c1⟩ : z.cell? ⟨db, 0, none⟩ = some (.int .i64 f1) ∧ z.cell? ⟨db, 1, none⟩ = some (.int .i64 f2)))
      obtain ⟨S5, hSd⟩ : ∃ S : World → Prop, S = fun z => (z.cell? ⟨db, 0, none⟩ = some (.int .i64 f1) ∧ z.cell? ⟨db, 1, none⟩ = some (.int .i64 f2)) ∧ Hid (Kp y.heap.size [z3.heap.size] y z) := ⟨_, rfl⟩
      have HS5 := Lib.hid (fun z (hz : Hid (Kp y.heap.size [z3.heap.size] y z)) => (by rw [hSd]; exact ⟨HQ.out z hz, hz⟩ : S5 z))
      have HS := HS5
      cases hBB : bestK n ts p q PP k with
      | none =>
        have hbk := HBk.out
        rw [hBB] at hbk
        obtain ⟨rfl, hFl⟩ := hbk
        have hnx : Hid (bestK n ts p q PP (k + 1) = some (L, f1, f2)) := Lib.hid (by rw [hnx0.out, hBB]; rfl)
        have hFh := Lib.hid (keepO hBy.out hFl)
        clear HBk hBB hFl hBy HLl hnx0 HKl HBw l0 l1 l2 hDb c0 c1
        go_wp2_with fail
        have hF := hFh.out
        refine wp_region_held_drew (S := S5) (by kernel_rfl) ?_ (fun hHeld => ?_)
        · exact HS5.out _ (Lib.hid (Kp.refl _ _ _).drew)
        have hKyd : Hid (Kp y.heap.size [z3.heap.size] y y.drew) := Lib.hid (Kp.refl _ _ _).drew
        have hSyd : y.heap.size ≤ y.drew.heap.size := Nat.le_refl _
        have hF := keepO (Below.refl y.heap.size y).drew hF
        generalize y.drew = yd at *
        refine tkY (v := ?_) 0 56 rfl rfl (by kernel_rfl) (by kernel_rfl) (by kernel_rfl) (fun _ _ _ h => h) (by kernel_rfl) ?_ (by assumption) ?_
        rotate_left
        · intro w hSw; rw [hSd] at hSw; obtain ⟨⟨q0, q1⟩, -⟩ := hSw; go_simp; (try with_reducible rfl)
        try simp only [Act.put, List.setIfInBounds_toArray, List.set_cons_zero, List.set_cons_succ]
        refine tkY (v := ?_) 1 57 rfl rfl (by kernel_rfl) (by kernel_rfl) (by kernel_rfl) (fun _ _ _ h => h) (by kernel_rfl) ?_ (by assumption) ?_
        rotate_left
        · intro w hSw; rw [hSd] at hSw; obtain ⟨⟨q0, q1⟩, -⟩ := hSw; go_simp; (try with_reducible rfl)
        try simp only [Act.put, List.setIfInBounds_toArray, List.set_cons_zero, List.set_cons_succ]
        refine tkY (v := ?_) 2 9 rfl rfl (by kernel_rfl) (by kernel_rfl) (by kernel_rfl) (fun _ _ _ h => h) (by kernel_rfl) ?_ (by assumption) ?_
        rotate_left
        · intro w hSw; rw [hSd] at hSw; obtain ⟨⟨q0, q1⟩, -⟩ := hSw; go_simp; (try with_reducible rfl)
        try simp only [Act.put, List.setIfInBounds_toArray, List.set_cons_zero, List.set_cons_succ]
        refine wpAnyH_ready (rs := [3]) (by kernel_rfl) (by simp) ?_
        refine AllReadyH.cons (o := _) rfl (fun Kq hK => ?_) AllReadyH.nil
        obtain ⟨e0, e1, g0, g1⟩ := two_facts hF
        go_simp
        clear e0 e1 g0 g1
        obtain ⟨s3yd, hz_⟩ : ∃ z, z = (yd.setCell ⟨z3.heap.size, 0, none⟩ (.int .i64 f1)).setCell ⟨z3.heap.size, 1, none⟩ (.int .i64 f2) := ⟨_, rfl⟩
        rw [← hz_]
        have hF := set_two yd (z3.heap.size) _ (.int .i64 f1) (.int .i64 f2) _ _ hF
        rw [← hz_] at hF
        have hKs3yd := Lib.hid ((hKyd.out.set (p := ⟨z3.heap.size, 0, none⟩) (Or.inl (by simp)) (.int .i64 f1)).set (p := ⟨z3.heap.size, 1, none⟩) (Or.inl (by simp)) (.int .i64 f2))
        rw [← hz_] at hKs3yd
        have hSs3yd := Nat.le_trans hSyd (show yd.heap.size ≤ s3yd.heap.size by rw [hz_]; simp)
        clear hz_
        refine hK.out _ _ ?_ (fun hHeld => ?_)
        · exact HS5.out _ hKs3yd
        clear hK Kq
        try simp only [Act.put, List.setIfInBounds_toArray, List.set_cons_zero, List.set_cons_succ]
        refine wpAnyH_done (by kernel_rfl) ?_ _
        have hKW := Lib.hid (HKy.out.trans (hKs3yd.out.mono HKy.out.size (fun d hd => Or.inl hd)))
        have hFF := Lib.hid hF
        have hRn := Lib.hid (HLy.out.keep hKs3yd.out (Nat.le_refl _) (fun d hd => Or.inl hd))
        have hRn2 : Hid (RdX [z3.heap.size] s3yd s3yd.heap.size 2 Al L.length (prs L)) := Lib.hid (hRn.out.more hKs3yd.out.size)
        clear HS HQ hSd hF hRn HLy hKs3yd hSs3yd HKy
        go_wp2
        go_roundw
        case rel => exact ⟨_, rfl, k + 1, by omega, by go_num, Lib.hid (by rw [hnx.out]; exact ⟨Al, cl, rfl, hRn2.out, hL1, hFo.out, hAg.out, hFF.out⟩), hKW⟩
        case measure => simp [RowKit.intOf]; omega
      | some yy =>
        obtain ⟨yl, b1, b2⟩ := yy
        have hbk := HBk.out
        rw [hBB] at hbk
        obtain ⟨Ab, cb, rfl, hRb, hyl, hFb, hAb, hFl⟩ := hbk
        simp only at hRb hyl hFb hAb hFl
        have hFy := keepO hBy.out hFl
        obtain ⟨d0, d1, -, -⟩ := two_facts hFy
        have hFyh := Lib.hid hFy
        have hq1' := far_mul hFo.out hFb
        have hq2' := far_mul hFb hFo.out
        simp only at hq1' hq2'
        have hne0 : ¬ yl.length = 0 := by omega
        have hne : ¬ (yl.length : Int) = 0 := by omega
        have hnb : ((yl.length : Int) == 0) = false := by simpa using hne
        by_cases hlt : f1 * b2 < b1 * f2
        · have hnx : Hid (bestK n ts p q PP (k + 1) = some (L, f1, f2)) := Lib.hid (by rw [hnx0.out, hBB]; show (if f1 * b2 < b1 * f2 then _ else _) = _; rw [if_pos hlt])
          clear HBk hBB hFl hBy HLl hnx0 HKl HBw l0 l1 l2 hDb hRb hFb hAb hFy hyl
          go_wp2_with fail
          have hF := hFyh.out
          clear d0 d1 c0 c1
          refine wp_region_held_drew (S := S5) (by kernel_rfl) ?_ (fun hHeld => ?_)
          · exact HS5.out _ (Lib.hid (Kp.refl _ _ _).drew)
          have hKyd : Hid (Kp y.heap.size [z3.heap.size] y y.drew) := Lib.hid (Kp.refl _ _ _).drew
          have hSyd : y.heap.size ≤ y.drew.heap.size := Nat.le_refl _
          have hF := keepO (Below.refl y.heap.size y).drew hF
          generalize y.drew = yd at *
          refine tkY (v := ?_) 0 56 rfl rfl (by kernel_rfl) (by kernel_rfl) (by kernel_rfl) (fun _ _ _ h => h) (by kernel_rfl) ?_ (by assumption) ?_
          rotate_left
          · intro w hSw; rw [hSd] at hSw; obtain ⟨⟨q0, q1⟩, -⟩ := hSw; go_simp; (try with_reducible rfl)
          try simp only [Act.put, List.setIfInBounds_toArray, List.set_cons_zero, List.set_cons_succ]
          refine tkY (v := ?_) 1 57 rfl rfl (by kernel_rfl) (by kernel_rfl) (by kernel_rfl) (fun _ _ _ h => h) (by kernel_rfl) ?_ (by assumption) ?_
          rotate_left
          · intro w hSw; rw [hSd] at hSw; obtain ⟨⟨q0, q1⟩, -⟩ := hSw; go_simp; (try with_reducible rfl)
          try simp only [Act.put, List.setIfInBounds_toArray, List.set_cons_zero, List.set_cons_succ]
          refine tkY (v := ?_) 2 9 rfl rfl (by kernel_rfl) (by kernel_rfl) (by kernel_rfl) (fun _ _ _ h => h) (by kernel_rfl) ?_ (by assumption) ?_
          rotate_left
          · intro w hSw; rw [hSd] at hSw; obtain ⟨⟨q0, q1⟩, -⟩ := hSw; go_simp; (try with_reducible rfl)
          try simp only [Act.put, List.setIfInBounds_toArray, List.set_cons_zero, List.set_cons_succ]
          refine wpAnyH_ready (rs := [3]) (by kernel_rfl) (by simp) ?_
          refine AllReadyH.cons (o := _) rfl (fun Kq hK => ?_) AllReadyH.nil
          obtain ⟨e0, e1, g0, g1⟩ := two_facts hF
          go_simp
          clear e0 e1 g0 g1
          obtain ⟨s3yd, hz_⟩ : ∃ z, z = (yd.setCell ⟨z3.heap.size, 0, none⟩ (.int .i64 f1)).setCell ⟨z3.heap.size, 1, none⟩ (.int .i64 f2) := ⟨_, rfl⟩
          rw [← hz_]
          have hF := set_two yd (z3.heap.size) _ (.int .i64 f1) (.int .i64 f2) _ _ hF
          rw [← hz_] at hF
          have hKs3yd := Lib.hid ((hKyd.out.set (p := ⟨z3.heap.size, 0, none⟩) (Or.inl (by simp)) (.int .i64 f1)).set (p := ⟨z3.heap.size, 1, none⟩) (Or.inl (by simp)) (.int .i64 f2))
          rw [← hz_] at hKs3yd
          have hSs3yd := Nat.le_trans hSyd (show yd.heap.size ≤ s3yd.heap.size by rw [hz_]; simp)
          clear hz_
          refine hK.out _ _ ?_ (fun hHeld => ?_)
          · exact HS5.out _ hKs3yd
          clear hK Kq
          try simp only [Act.put, List.setIfInBounds_toArray, List.set_cons_zero, List.set_cons_succ]
          refine wpAnyH_done (by kernel_rfl) ?_ _
          have hKW := Lib.hid (HKy.out.trans (hKs3yd.out.mono HKy.out.size (fun d hd => Or.inl hd)))
          have hFF := Lib.hid hF
          have hRn := Lib.hid (HLy.out.keep hKs3yd.out (Nat.le_refl _) (fun d hd => Or.inl hd))
          have hRn2 : Hid (RdX [z3.heap.size] s3yd s3yd.heap.size 2 Al L.length (prs L)) := Lib.hid (hRn.out.more hKs3yd.out.size)
          clear HS HQ hSd hF hRn HLy hKs3yd hSs3yd HKy
          go_wp2
          go_roundw
          case rel => exact ⟨_, rfl, k + 1, by omega, by go_num, Lib.hid (by rw [hnx.out]; exact ⟨Al, cl, rfl, hRn2.out, hL1, hFo.out, hAg.out, hFF.out⟩), hKW⟩
          case measure => simp [RowKit.intOf]; omega
        · have hnx : Hid (bestK n ts p q PP (k + 1) = some (yl, b1, b2)) := Lib.hid (by rw [hnx0.out, hBB]; show (if f1 * b2 < b1 * f2 then _ else _) = _; rw [if_neg hlt])
          have hRy : Hid (RdX [z3.heap.size] y y.heap.size 2 Ab yl.length (prs yl)) := Lib.hid ⟨(hRb.1.below hBy.out).more hBy.out.size, hRb.2⟩
          have hylh := Lib.hid hyl
          have hFbh := Lib.hid hFb
          have hAbh := Lib.hid hAb
          clear HBk hBB hFl hBy HLl hnx0 HKl HBw l0 l1 l2 hDb hRb hFb hAb hFy hyl HS HS5 HQ hSd
          go_wp2
          go_roundw
          case rel => exact ⟨_, rfl, k + 1, by omega, by go_num, Lib.hid (by rw [hnx.out]; exact ⟨Ab, cb, rfl, hRy.out, hylh.out, hFbh.out, hAbh.out, hFyh.out⟩), HKy⟩
          case measure => simp [RowKit.intOf]; omega
    · have hkk : ¬ (k : Int) < ((allR n PP).length : Int) := by omega
      have hall := bestK_all n ts p q PP k (show (allT n PP).length ≤ k by show (allR n PP).length ≤ k; omega)
      have HBw := Lib.hid (hBT.out.trans (HKl.out.below hBT.out.size (fun d hd => by simp at hd; omega)))
      cases hBB : bestK n ts p q PP k with
      | none =>
        have hbk := HBk.out
        rw [hBB] at hbk
        obtain ⟨rfl, -⟩ := hbk
        have hE : Hid (neB n ts p q PP = none ∧ neE n ts p q PP = 6) := Lib.hid (by rw [hEq.out.1, hEq.out.2, ← hall, hBB]; exact ⟨rfl, rfl⟩)
        obtain ⟨g0, g1, f0, f1⟩ := two_facts l2.out
        have hm := Lib.hid (set_two wl (w.heap.size + 1 + 1) _ (.int .i64 0) (.int .i64 0) _ _ l2.out)
        have mB := Lib.hid ((HBw.out.setCell (p := ⟨w.heap.size + 1 + 1, 0, none⟩) (by simp only; omega) (.int .i64 0)).setCell (p := ⟨w.heap.size + 1 + 1, 1, none⟩) (by simp only; omega) (.int .i64 0))
        clear HBk hBB hall l0 l1 l2 HBw HKl
        go_wp2
        obtain ⟨q0, q1, -, -⟩ := two_facts hm.out
        refine bodyPost_ret (v := .tuple #[.slice none 0 0, .agg #[.int .i64 0, .int .i64 0], .int .i64 6]) (by simp [results, Try.results7, go_sem, q0, q1]) rfl ?_
        refine ⟨⟨none, 0, 0, by rw [hE.out.1, hE.out.2]; rfl, by omega, ?_⟩, mB.out⟩
        rw [hE.out.1]
        exact ⟨rfl, fun h => absurd h (by omega)⟩
      | some yy =>
        obtain ⟨yl, f1, f2⟩ := yy
        have hbk := HBk.out
        rw [hBB] at hbk
        obtain ⟨Al, cl, rfl, hRb, hyl, -, hAb, hFl⟩ := hbk
        simp only at hRb hyl hAb hFl
        have hE : Hid (neB n ts p q PP = some (yl, f1, f2) ∧ neE n ts p q PP = 0) := Lib.hid (by rw [hEq.out.1, hEq.out.2, ← hall, hBB]; exact ⟨rfl, rfl⟩)
        have hl3 : yl.length ≤ 3 := hyl.2
        have hne0 : ¬ yl.length = 0 := by omega
        have hne : ¬ (yl.length : Int) = 0 := by omega
        have hnb : ((yl.length : Int) == 0) = false := by simpa using hne
        have HRe := Lib.hid hRb
        have HRg := Lib.hid hAb
        obtain ⟨c0, c1, -, -⟩ := two_facts hFl
        have hlf : z3.heap.size < wl.heap.size := (Array.getElem?_eq_some_iff.1 hFl).1
        have HQ := Lib.hid (fun z (hz : Hid (Kp wl.heap.size [w.heap.size + 1 + 1] wl z)) => (⟨(hz.out.cell (p := ⟨z3.heap.size, 0, none⟩) hlf (by simp; omega)).trans c0, (hz.out.cell (p := ⟨z3.heap.size, 1, none⟩) hlf (by simp; omega)).trans c1⟩ : z.cell? ⟨z3.heap.size, 0, none⟩ = some (.int .i64 f1) ∧ z.cell? ⟨z3.heap.size, 1, none⟩ = some (.int .i64 f2)))
        obtain ⟨S5, hSd⟩ : ∃ S : World → Prop, S = fun z => (z.cell? ⟨z3.heap.size, 0, none⟩ = some (.int .i64 f1) ∧ z.cell? ⟨z3.heap.size, 1, none⟩ = some (.int .i64 f2)) ∧ Hid (Kp wl.heap.size [w.heap.size + 1 + 1] wl z) := ⟨_, rfl⟩
        have HS5 := Lib.hid (fun z (hz : Hid (Kp wl.heap.size [w.heap.size + 1 + 1] wl z)) => (by rw [hSd]; exact ⟨HQ.out z hz, hz⟩ : S5 z))
        have HS := HS5
        clear HBk hBB hall l0 l1 HKl hRb hAb hFl c0 c1 hyl
        go_wp2_with fail
        have hZ := l2.out
        clear l2
        refine wp_region_held_drew (S := S5) (by kernel_rfl) ?_ (fun hHeld => ?_)
        · exact HS5.out _ (Lib.hid (Kp.refl _ _ _).drew)
        have hKyd : Hid (Kp wl.heap.size [w.heap.size + 1 + 1] wl wl.drew) := Lib.hid (Kp.refl _ _ _).drew
        have hSyd : wl.heap.size ≤ wl.drew.heap.size := Nat.le_refl _
        have hZ := keepO (Below.refl wl.heap.size wl).drew hZ
        generalize wl.drew = yd at *
        refine tkY (v := ?_) 0 63 rfl rfl (by kernel_rfl) (by kernel_rfl) (by kernel_rfl) (fun _ _ _ h => h) (by kernel_rfl) ?_ (by assumption) ?_
        rotate_left
        · intro w hSw; rw [hSd] at hSw; obtain ⟨⟨q0, q1⟩, -⟩ := hSw; go_simp; (try with_reducible rfl)
        try simp only [Act.put, List.setIfInBounds_toArray, List.set_cons_zero, List.set_cons_succ]
        refine tkY (v := ?_) 1 64 rfl rfl (by kernel_rfl) (by kernel_rfl) (by kernel_rfl) (fun _ _ _ h => h) (by kernel_rfl) ?_ (by assumption) ?_
        rotate_left
        · intro w hSw; rw [hSd] at hSw; obtain ⟨⟨q0, q1⟩, -⟩ := hSw; go_simp; (try with_reducible rfl)
        try simp only [Act.put, List.setIfInBounds_toArray, List.set_cons_zero, List.set_cons_succ]
        refine tkY (v := ?_) 2 6 rfl rfl (by kernel_rfl) (by kernel_rfl) (by kernel_rfl) (fun _ _ _ h => h) (by kernel_rfl) ?_ (by assumption) ?_
        rotate_left
        · intro w hSw; rw [hSd] at hSw; obtain ⟨⟨q0, q1⟩, -⟩ := hSw; go_simp; (try with_reducible rfl)
        try simp only [Act.put, List.setIfInBounds_toArray, List.set_cons_zero, List.set_cons_succ]
        refine wpAnyH_ready (rs := [3]) (by kernel_rfl) (by simp) ?_
        refine AllReadyH.cons (o := _) rfl (fun Kq hK => ?_) AllReadyH.nil
        obtain ⟨e0, e1, g0, g1⟩ := two_facts hZ
        go_simp
        clear e0 e1 g0 g1
        obtain ⟨s3yd, hz_⟩ : ∃ z, z = (yd.setCell ⟨w.heap.size + 1 + 1, 0, none⟩ (.int .i64 f1)).setCell ⟨w.heap.size + 1 + 1, 1, none⟩ (.int .i64 f2) := ⟨_, rfl⟩
        rw [← hz_]
        have hZ := set_two yd (w.heap.size + 1 + 1) _ (.int .i64 f1) (.int .i64 f2) _ _ hZ
        rw [← hz_] at hZ
        have hKs3yd := Lib.hid ((hKyd.out.set (p := ⟨w.heap.size + 1 + 1, 0, none⟩) (Or.inl (by simp)) (.int .i64 f1)).set (p := ⟨w.heap.size + 1 + 1, 1, none⟩) (Or.inl (by simp)) (.int .i64 f2))
        rw [← hz_] at hKs3yd
        have hSs3yd := Nat.le_trans hSyd (show yd.heap.size ≤ s3yd.heap.size by rw [hz_]; simp)
        clear hz_
        refine hK.out _ _ ?_ (fun hHeld => ?_)
        · exact HS5.out _ hKs3yd
        clear hK Kq
        try simp only [Act.put, List.setIfInBounds_toArray, List.set_cons_zero, List.set_cons_succ]
        refine wpAnyH_ready (rs := [4]) (by kernel_rfl) (by simp) ?_
        refine AllReadyH.cons (o := _) rfl (fun Kq hK => ?_) AllReadyH.nil
        go_simp
        refine hK.out _ _ ?_ (fun hHeld => ?_)
        · exact HS5.out _ hKs3yd
        clear hK Kq
        try simp only [Act.put, List.setIfInBounds_toArray, List.set_cons_zero, List.set_cons_succ]
        refine wpAnyH_done (by kernel_rfl) ?_ _
        have mB := Lib.hid (HBw.out.trans (hKs3yd.out.below HBw.out.size (fun d hd => by simp at hd; omega)))
        have hRn2 := Lib.hid ((RdX.keep (D := [w.heap.size + 1 + 1]) ⟨HRe.out.1, fun r h1 h2 hd => by have := HRg.out r h1 h2; simp at hd; omega⟩ hKs3yd.out (Nat.le_refl _) (fun d hd => Or.inl hd)).1.more hKs3yd.out.size)
        have hOh := Lib.hid hZ
        clear HS HQ hSd hZ HBw HRe hKs3yd hSs3yd
        go_wp2
        obtain ⟨g0, g1, -, -⟩ := two_facts hOh.out
        refine bodyPost_ret (v := .tuple #[.slice Al yl.length cl, .agg #[.int .i64 f1, .int .i64 f2], .int .i64 0]) (by simp [results, Try.results7, go_sem, g0, g1]) rfl ?_
        exact ⟨⟨Al, yl.length, cl, by rw [hE.out.1, hE.out.2]; rfl, hl3, by rw [hE.out.1]; exact hRn2.out⟩, mB.out⟩
end Go.Proofs.Ytjmegnbjacndpaa
