/-
  The law's walk: trains.
-/
import Derived.Test.YtjmegnbjacndpaaWRm
import Derived.Test.YtjmegnbjacndpaaWRx
import Derived.Test.YtjmegnbjacndpaaSameT
import Derived.Test.YtjmegnbjacndpaaTwinW
namespace Go.Proofs.Ytjmegnbjacndpaa
open Go.RowKit Go.Maps
set_option linter.unusedVariables false
set_option linter.unusedSimpArgs false

theorem eqS_any (C U : Int) (w : World) :
    (Op.equalIn 10000 26 (.agg #[.int .i64 C, .int .i64 U]) (.agg #[.int .i64 C, .int .i64 U])).run Try.prog w = .ok true w := by
  rw [eqP_any]; simp

set_option maxRecDepth 100000 in
set_option maxHeartbeats 4000000 in
theorem law_trains (A : Option Addr) (n c : Nat) (ts : List Int) (p q P : Int) (w : World) (hT : Reads w w.heap.size 1 A n (ints ts)) :
    Calls Try.prog 3 #[.agg #[.slice A n c], .agg #[.int .i64 p, .int .i64 q], .int .i64 P] w fun e w' => e = .returned (.bool true) ∧ Below w.heap.size w w' := by
  obtain ⟨wb, hwb_⟩ : ∃ y, y = (w.alloc (.cells #[.slice A n c] 24)).alloc (.cells #[.int .i64 p, .int .i64 q] 26) := ⟨_, rfl⟩
  have e1 : (w.alloc (.cells #[.slice A n c] 24)).heap.size = w.heap.size + 1 := by simp
  have hB_ : Below w.heap.size w wb := by rw [hwb_]; exact ((Below.refl _ _).alloc (Nat.le_refl _) _).alloc (by simp) _
  have h0_ : wb.heap[w.heap.size]? = some (.cells #[.slice A n c] 24 (0, 0)) := by rw [hwb_, Below.heap_alloc _ _ _ (by omega)]; exact heap_alloc_new w _
  have h1_ : wb.heap[w.heap.size + 1]? = some (.cells #[.int .i64 p, .int .i64 q] 26 (0, 0)) := by rw [hwb_]; have := heap_alloc_new (w.alloc (.cells #[.slice A n c] 24)) (.cells #[.int .i64 p, .int .i64 q] 26); rw [e1] at this; exact this
  have HGr := Lib.hid (Great_any A n c wb)
  have HTd := Lib.hid (fun z (hz : Below w.heap.size w z) => (hT.below hz).more hz.size)
  have hB := Lib.hid hB_
  have h0 := Lib.hid h0_
  have h1 := Lib.hid h1_
  have hwb := Lib.hid hwb_
  clear hT hB_ h0_ h1_ hwb_ e1
  go_enter Try.func3, Try.ntmps3
  go_wp2_with fail
  rw [← hwb.out]
  refine HGr.out.mono ?_
  rintro e w1 ⟨rfl, hb1_⟩
  have hB1 := Lib.hid (below_via hB.out hB.out.size hb1_)
  have h0 := Lib.hid (keepO hb1_ h0.out)
  have h1 := Lib.hid (keepO hb1_ h1.out)
  clear hb1_ hB hwb HGr
  by_cases hn : n ≤ 20
  · have hg : decide (20 < n) = false := by simp; omega
    rw [hg]
    have HTw := Lib.hid (TwinWheels_any A n c ts w1 hn (HTd.out w1 hB1.out))
    obtain ⟨g0, -⟩ := one_facts h0.out
    go_wp2_with fail
    refine HTw.out.mono ?_
    rintro e w2 ⟨vo, rfl, ho_, hb2_⟩
    obtain ⟨Ao, co, rfl⟩ := ownR_val ho_
    obtain ⟨x0, hx0_⟩ : ∃ x0, x0 = w2.alloc (.cells #[.slice Ao n co] 24) := ⟨_, rfl⟩
    have hba : Below w2.heap.size w2 x0 := by rw [hx0_]; exact (Below.refl _ _).alloc (Nat.le_refl _) _
    have hB0 := Lib.hid (below_via hB1.out hB1.out.size (below_via hb2_ hb2_.size hba))
    have h0 := Lib.hid (keepO hba (keepO hb2_ h0.out))
    have h1 := Lib.hid (keepO hba (keepO hb2_ h1.out))
    have h2 := Lib.hid (show x0.heap[w2.heap.size]? = some (.cells #[.slice Ao n co] 24 (0, 0)) by rw [hx0_]; exact heap_alloc_new w2 _)
    have HO := Lib.hid (fun z (hz : Below x0.heap.size x0 z) => (((Reads.of_own (ownR_below ho_ hba)).below hz).more hz.size : Reads z z.heap.size 1 Ao n (ints ts)))
    have HT0 := Lib.hid (fun z (hz : Below x0.heap.size x0 z) => HTd.out z (below_via hB0.out hB0.out.size hz))
    have hx0 := Lib.hid hx0_
    clear ho_ hb2_ hba hB1 HTw HTd hx0_ g0 hg
    -- the nearest one
    have HN1 := Lib.hid (fun z (hz : Below x0.heap.size x0 z) => pNearest_any Ao n co ts hn p q P z (HO.out z hz))
    have HN2 := Lib.hid (fun z (hz : Below x0.heap.size x0 z) => rNearest_any A n c ts hn p q P z (HT0.out z hz))
    have HE1 := Lib.hid (fun z (hz : Below x0.heap.size x0 z) => pExact_any Ao n co ts hn p q z (HO.out z hz))
    have HE2 := Lib.hid (fun z (hz : Below x0.heap.size x0 z) => rExact_any A n c ts hn p q z (HT0.out z hz))
    have HM1 := Lib.hid (fun z (hz : Below x0.heap.size x0 z) => pMany_any Ao n co ts hn P z (HO.out z hz))
    have HM2 := Lib.hid (fun z (hz : Below x0.heap.size x0 z) => rMany_any A n c ts hn P z (HT0.out z hz))
    have HSW := Lib.hid (fun z (hz : Below x0.heap.size x0 z) => SameWheels_any Ao A n n co c ts ts z (by unfold maxLen; omega) (by unfold maxLen; omega) (HO.out z hz) (HT0.out z hz))
    obtain ⟨g0, -⟩ := one_facts h0.out
    obtain ⟨g1, g2, -, -⟩ := two_facts h1.out
    obtain ⟨g3, -⟩ := one_facts h2.out
    have s2 : w2.heap.size < x0.heap.size := (Array.getElem?_eq_some_iff.1 h2.out).1
    clear HO HT0
    have q1 : (w2.alloc (.cells #[.slice Ao n co] 24)).cell? ⟨w2.heap.size, 0, none⟩ = some (.slice Ao n co) := by rw [← hx0.out]; exact g3
    have q2 : (w2.alloc (.cells #[.slice Ao n co] 24)).cell? ⟨w.heap.size + 1, 0, none⟩ = some (.int .i64 p) := by rw [← hx0.out]; exact g1
    have q3 : (w2.alloc (.cells #[.slice Ao n co] 24)).cell? ⟨w.heap.size + 1, 1, none⟩ = some (.int .i64 q) := by rw [← hx0.out]; exact g2
    clear g0 g1 g2 g3
    go_wp2_with fail
    rw [← hx0.out]
    refine (HN1.out x0 (Below.refl _ _)).mono ?_
    rintro e x1 ⟨⟨A1, m1, c1, rfl, hm1, hR1_⟩, hb1_⟩
    have KEEP := Lib.hid (fun z (hz : Below x0.heap.size x0 z) => (⟨(one_facts (keepO hz h0.out)).1, (two_facts (keepO hz h1.out)).1, (two_facts (keepO hz h1.out)).2.1, (one_facts (keepO hz h2.out)).1⟩ : z.cell? ⟨w.heap.size, 0, none⟩ = some (.slice A n c) ∧ z.cell? ⟨w.heap.size + 1, 0, none⟩ = some (.int .i64 p) ∧ z.cell? ⟨w.heap.size + 1, 1, none⟩ = some (.int .i64 q) ∧ z.cell? ⟨w2.heap.size, 0, none⟩ = some (.slice Ao n co)))
    have L1 := Lib.hid (hb1_.alloc hb1_.size (.cells #[.int .i64 (neF (neB n ts p q P)).1, .int .i64 (neF (neB n ts p q P)).2] 26))
    have hR1 := Lib.hid ((hR1_.below ((Below.refl x1.heap.size x1).alloc (Nat.le_refl _) (.cells #[.int .i64 (neF (neB n ts p q P)).1, .int .i64 (neF (neB n ts p q P)).2] 26))).more ((Below.refl x1.heap.size x1).alloc (Nat.le_refl _) (.cells #[.int .i64 (neF (neB n ts p q P)).1, .int .i64 (neF (neB n ts p q P)).2] 26)).size)
    have b1 := Lib.hid (heap_alloc_new x1 (.cells #[.int .i64 (neF (neB n ts p q P)).1, .int .i64 (neF (neB n ts p q P)).2] 26))
    obtain ⟨k0, k1, k2, k3⟩ := KEEP.out _ L1.out
    clear hb1_ hR1_ q1 q2 q3 hx0 HN1 h0 h1 h2
    go_wp2_with fail
    refine (HN2.out _ L1.out).mono ?_
    rintro e x2 ⟨⟨A2, m2, c2, rfl, hm2, hR2_⟩, hb2_⟩
    have hba2 : Below x2.heap.size x2 (x2.alloc (.cells #[.int .i64 (neF (neB n ts p q P)).1, .int .i64 (neF (neB n ts p q P)).2] 26)) := (Below.refl _ _).alloc (Nat.le_refl _) _
    have L2 := Lib.hid (below_via L1.out L1.out.size (below_via hb2_ hb2_.size hba2))
    have hR1 := Lib.hid ((hR1.out.below (below_via hb2_ hb2_.size hba2)).more (below_via hb2_ hb2_.size hba2).size)
    have hR2 := Lib.hid ((hR2_.below hba2).more hba2.size)
    have b1 := Lib.hid (keepO (below_via hb2_ hb2_.size hba2) b1.out)
    have b2 := Lib.hid (heap_alloc_new x2 (.cells #[.int .i64 (neF (neB n ts p q P)).1, .int .i64 (neF (neB n ts p q P)).2] 26))
    clear k0 k1 k2 k3
    obtain ⟨k0, k1, k2, k3⟩ := KEEP.out _ L2.out
    clear hb2_ hba2 hR2_ HN2 L1
    go_wp2_with fail
    refine (HE1.out _ L2.out).mono ?_
    rintro e x3 ⟨⟨A3, m3, c3, rfl, hm3, hR3_⟩, hb3_⟩
    have L3 := Lib.hid (below_via L2.out L2.out.size hb3_)
    have hR1 := Lib.hid ((hR1.out.below hb3_).more hb3_.size)
    have hR2 := Lib.hid ((hR2.out.below hb3_).more hb3_.size)
    have hR3 := Lib.hid hR3_
    have b1 := Lib.hid (keepO hb3_ b1.out)
    have b2 := Lib.hid (keepO hb3_ b2.out)
    clear k0 k1 k2 k3
    obtain ⟨k0, k1, k2, k3⟩ := KEEP.out _ L3.out
    clear hb3_ hR3_ HE1 L2
    go_wp2_with fail
    refine (HE2.out _ L3.out).mono ?_
    rintro e x4 ⟨⟨A4, m4, c4, rfl, hm4, hR4_⟩, hb4_⟩
    have L4 := Lib.hid (below_via L3.out L3.out.size hb4_)
    have hR1 := Lib.hid ((hR1.out.below hb4_).more hb4_.size)
    have hR2 := Lib.hid ((hR2.out.below hb4_).more hb4_.size)
    have hR3 := Lib.hid ((hR3.out.below hb4_).more hb4_.size)
    have hR4 := Lib.hid hR4_
    have b1 := Lib.hid (keepO hb4_ b1.out)
    have b2 := Lib.hid (keepO hb4_ b2.out)
    clear k0 k1 k2 k3
    obtain ⟨k0, k1, k2, k3⟩ := KEEP.out _ L4.out
    clear hb4_ hR4_ HE2 L3
    go_wp2_with fail
    refine (HM1.out _ L4.out).mono ?_
    rintro e x5 ⟨rfl, hb5_⟩
    have L5 := Lib.hid (below_via L4.out L4.out.size hb5_)
    have hR1 := Lib.hid ((hR1.out.below hb5_).more hb5_.size)
    have hR2 := Lib.hid ((hR2.out.below hb5_).more hb5_.size)
    have hR3 := Lib.hid ((hR3.out.below hb5_).more hb5_.size)
    have hR4 := Lib.hid ((hR4.out.below hb5_).more hb5_.size)
    have b1 := Lib.hid (keepO hb5_ b1.out)
    have b2 := Lib.hid (keepO hb5_ b2.out)
    clear k0 k1 k2 k3
    obtain ⟨k0, k1, k2, k3⟩ := KEEP.out _ L5.out
    clear hb5_ HM1 L4
    go_wp2_with fail
    refine (HM2.out _ L5.out).mono ?_
    rintro e x6 ⟨rfl, hb6_⟩
    have L6 := Lib.hid (below_via L5.out L5.out.size hb6_)
    have hR1 := Lib.hid ((hR1.out.below hb6_).more hb6_.size)
    have hR2 := Lib.hid ((hR2.out.below hb6_).more hb6_.size)
    have hR3 := Lib.hid ((hR3.out.below hb6_).more hb6_.size)
    have hR4 := Lib.hid ((hR4.out.below hb6_).more hb6_.size)
    have b1 := Lib.hid (keepO hb6_ b1.out)
    have b2 := Lib.hid (keepO hb6_ b2.out)
    obtain rfl : m1 = m2 := hR1.out.pr_len.symm.trans hR2.out.pr_len
    obtain rfl : m3 = m4 := hR3.out.pr_len.symm.trans hR4.out.pr_len
    have HS1 := Lib.hid (SameTrains_eq A1 A2 m1 c1 c2 _ x6 (by unfold maxLen; omega) hR1.out hR2.out)
    clear k0 k1 k2 k3 hb6_ HM2 L5 hR1 hR2
    go_wp2_with fail
    refine HS1.out.mono ?_
    rintro e x7 ⟨rfl, hb7_⟩
    have L7 := Lib.hid (below_via L6.out L6.out.size hb7_)
    have hR3 := Lib.hid ((hR3.out.below hb7_).more hb7_.size)
    have hR4 := Lib.hid ((hR4.out.below hb7_).more hb7_.size)
    obtain ⟨d0, d1, -, -⟩ := two_facts (keepO hb7_ b1.out)
    obtain ⟨d2, d3, -, -⟩ := two_facts (keepO hb7_ b2.out)
    have heqS := fun w => eqS_any (neF (neB n ts p q P)).1 (neF (neB n ts p q P)).2 w
    have HS2 := Lib.hid (SameTrains_eq A3 A4 m3 c3 c4 _ x7 (by unfold maxLen; omega) hR3.out hR4.out)
    clear hb7_ b1 b2 L6 HS1 hR3 hR4
    go_wp2_with fail
    refine HS2.out.mono ?_
    rintro e x8 ⟨rfl, hb8_⟩
    have L8 := Lib.hid (below_via L7.out L7.out.size hb8_)
    have HSx := Lib.hid (HSW.out x8 L8.out)
    obtain ⟨k0, k1, k2, k3⟩ := KEEP.out _ L8.out
    clear hb8_ L7 HS2 d0 d1 d2 d3 HSW KEEP
    go_wp2_with fail
    refine HSx.out.mono ?_
    rintro e x9 ⟨rfl, hb9_⟩
    have hBe := Lib.hid (below_via hB0.out hB0.out.size (below_via L8.out L8.out.size hb9_))
    have hdt : decide (ts = ts) = true := by simp
    try rw [hdt]
    try simp only [decide_true]
    clear hb9_ L8 HSx k0 k1 k2 k3
    go_wp2
    go_ret
    exact ⟨rfl, hBe.out⟩
  · have hg : decide (20 < n) = true := by simp; omega
    rw [hg]
    clear h0 h1 HTd
    go_wp2
    go_ret
    exact ⟨rfl, hB1.out⟩
end Go.Proofs.Ytjmegnbjacndpaa
