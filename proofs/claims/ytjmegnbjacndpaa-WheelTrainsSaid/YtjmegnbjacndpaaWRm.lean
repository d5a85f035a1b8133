/-
  How many ratios there are: the reference's walk.
-/
import Derived.Test.YtjmegnbjacndpaaWMa
import Derived.Test.YtjmegnbjacndpaaWRo
import Derived.Test.YtjmegnbjacndpaaWRz
import Derived.Test.YtjmegnbjacndpaaWRt
import Derived.Test.YtjmegnbjacndpaaTrain
import Derived.Deep.DeepCutAuto
import Derived.Deep.CutBlock
namespace Go.Proofs.Ytjmegnbjacndpaa
open Go.RowKit Go.Maps
set_option linter.unusedVariables false
set_option linter.unusedSimpArgs false

theorem and_nat (a b : Nat) (ha : a < 2 ^ 62) (hb : b < 2 ^ 62) : bits .and .i64 (a : Int) (b : Int) = ((a &&& b : Nat) : Int) := by
  unfold bits
  have h1 : (BitVec.ofInt 64 (a : Int)) = BitVec.ofNat 64 a := BitVec.ofInt_natCast 64 a
  have h2 : (BitVec.ofInt 64 (b : Int)) = BitVec.ofNat 64 b := BitVec.ofInt_natCast 64 b
  show IntKind.i64.wrap (((BitVec.ofInt 64 (a : Int) &&& BitVec.ofInt 64 (b : Int)).toNat : Nat) : Int) = _
  rw [h1, h2, BitVec.toNat_and, BitVec.toNat_ofNat, BitVec.toNat_ofNat, Nat.mod_eq_of_lt (by omega), Nat.mod_eq_of_lt (by omega)]
  have := Nat.and_le_left (n := a) (m := b)
  exact IntWalk.i64_in _ (by omega)
theorem and_one (a : Nat) (ha : a < 2 ^ 62) : bits .and .i64 (a : Int) 1 = ((a % 2 : Nat) : Int) := by
  have := and_nat a 1 ha (by decide)
  rw [Nat.and_one_is_mod] at this
  exact this
theorem prodP_bound {ts : List Int} {p : Nat → Bool} : ∀ k, (∀ j, j < k → 1 ≤ tsN ts j ∧ tsN ts j ≤ 120) → 1 ≤ prodP (tsN ts) p k ∧ prodP (tsN ts) p k ≤ 120 ^ k
  | 0, _ => by simp [prodP]
  | k + 1, h => by
    obtain ⟨h1, h2⟩ := prodP_bound (p := p) k (fun j hj => h j (by omega))
    obtain ⟨h3, h4⟩ := h k (by omega)
    have hp : (120 : Int) ^ (k + 1) = 120 ^ k * 120 := by rw [Int.pow_succ]
    unfold prodP
    rw [hp]
    split
    · have m1 := Int.mul_le_mul h2 h4 (by omega) (by omega)
      have m2 := Int.mul_le_mul h1 h3 (by omega) (by omega)
      omega
    · omega
theorem bit_test (a k i : Nat) (ha : a = i + 1) (hl : a < 2 ^ 60) : (bits .and .i64 (((i : Int) + 1) / 2 ^ k) 1 == 1) = a.testBit k := by
  have e1 : (((a / 2 ^ k : Nat)) : Int) = ((i : Int) + 1) / 2 ^ k := by rw [ha]; push_cast; rfl
  have hd : a / 2 ^ k ≤ a := Nat.div_le_self _ _
  rw [← e1, and_one _ (by omega), Nat.testBit_eq_decide_div_mod_eq]
  have : a / 2 ^ k % 2 < 2 := Nat.mod_lt _ (by omega)
  rcases (by omega : a / 2 ^ k % 2 = 0 ∨ a / 2 ^ k % 2 = 1) with h | h <;> rw [h] <;> rfl
/-- Behind some sets. -/
def gR (n : Nat) (ts : List Int) (p a : Nat) : List (Int × Int) := (List.range' 1 (2 ^ n - 1)).flatMap fun b => setR n ts p a b
def accA (n : Nat) (ts : List Int) (p i : Nat) : List (Int × Int) := ((List.range' 1 i).flatMap (gR n ts p)).foldl addU []
def accB (n : Nat) (ts : List Int) (p i j : Nat) : List (Int × Int) := ((List.range' 1 j).flatMap (setR n ts p (i + 1))).foldl addU (accA n ts p i)
theorem accA_all (n : Nat) (ts : List Int) (p : Nat) : accA n ts p (2 ^ n - 1) = (setsR n ts p).foldl addU [] := rfl
theorem accB_zero (n : Nat) (ts : List Int) (p i : Nat) : accB n ts p i 0 = accA n ts p i := rfl
theorem accB_all (n : Nat) (ts : List Int) (p i : Nat) : accB n ts p i (2 ^ n - 1) = accA n ts p (i + 1) := by
  unfold accB accA
  rw [List.range'_1_concat, List.flatMap_append, List.foldl_append]
  simp [gR, Nat.add_comm]
theorem accB_succ (n : Nat) (ts : List Int) (p i j : Nat) : accB n ts p i (j + 1) = (setR n ts p (i + 1) (j + 1)).foldl addU (accB n ts p i j) := by
  unfold accB
  rw [List.range'_1_concat, List.flatMap_append, List.foldl_append]
  simp [Nat.add_comm]
theorem addU_le (acc : List (Int × Int)) (x : Int × Int) : (addU acc x).length ≤ acc.length + 1 := by unfold addU; split <;> simp
theorem setR_no {n : Nat} {ts : List Int} {p a b : Nat} (h : (!decide (a &&& b = 0) || (!decide (cntB n a = cntB n b) || decide (p < cntB n a))) = true) (acc : List (Int × Int)) : (setR n ts p a b).foldl addU acc = acc := by unfold setR; rw [if_pos h]; rfl
theorem setR_yes {n : Nat} {ts : List Int} {p a b : Nat} (h : (!decide (a &&& b = 0) || (!decide (cntB n a = cntB n b) || decide (p < cntB n a))) = false) (acc : List (Int × Int)) : (setR n ts p a b).foldl addU acc = addU acc (redu (prodB n ts a) (prodB n ts b)) := by unfold setR; rw [if_neg (by rw [h]; simp)]; rfl
theorem info_ptR : (Try.prog.info? 26).map (fun i => (i.zero, i.size, i.bytes)) = some (some (.agg #[.int .i64 0, .int .i64 0]), 2, 16) := by kernel_rfl

set_option maxRecDepth 100000 in
set_option maxHeartbeats 4000000 in
theorem rMany_any (A : Option Addr) (n c : Nat) (ts : List Int) (hn : n ≤ 20) (P : Int) (w : World) (hT : Reads w w.heap.size 1 A n (ints ts)) :
    Calls Try.prog 11 #[.agg #[.slice A n c], .int .i64 P] w (MaP n ts P w) := by
  have hl : ts.length = n := by have := hT.len; simpa [ints] using this
  obtain ⟨i0, hi0, hz0, hz1, hz2⟩ := info_parts info_ptR
  have HCk := Lib.hid (fun z (hz : Below w.heap.size w z) => Wheels_any A n c ts hn z ((hT.below hz).more hz.size))
  have HTd := Lib.hid (fun z (hz : Below w.heap.size w z) => (hT.below hz).more hz.size)
  clear hT
  have HB4 := Lib.hid ((Below.refl w.heap.size w).alloc (Nat.le_refl _) (.cells #[.slice A n c] 24))
  have H0 := Lib.hid (heap_alloc_new w (.cells #[.slice A n c] 24))
  go_enter Try.func11, Try.ntmps11
  go_wp2_with fail
  refine (HCk.out (w.alloc (.cells #[.slice A n c] 24)) HB4.out).mono ?_
  rintro e z1 ⟨rfl, hb1_⟩
  have hB1 := Lib.hid (below_via HB4.out HB4.out.size hb1_)
  have h0 := Lib.hid (keepO hb1_ H0.out)
  clear hb1_ H0 HB4 HCk
  cases hok : okW n ts
  · have hE : Hid (manV n ts P = 0 ∧ manE n ts P = 100) := by show _ ∧ _; unfold manV manE; rw [hok]; exact ⟨rfl, rfl⟩
    clear hok h0
    go_wp2
    refine bodyPost_ret (v := .tuple #[.int .i64 0, .int .i64 100]) (by simp [results, Try.results11, go_sem]) rfl ?_
    exact ⟨by rw [hE.out.1, hE.out.2], hB1.out⟩
  have hok' := Lib.hid hok
  obtain ⟨bi, hbi⟩ : ∃ b, (decide (1 ≤ P) && decide (P ≤ 3)) = b := ⟨_, rfl⟩
  have HIn : Hid (∀ z : World, Calls Try.prog 25 #[.int .i64 P, .int .i64 1, .int .i64 3] z fun e w' => e = .returned (.bool bi) ∧ w' = z) := Lib.hid (fun z => by rw [← hbi]; exact within_any P 1 3 z)
  have hib : Hid (inB 1 3 [P] = bi) := by show _ = _; rw [← hbi]; unfold inB; simp
  clear hok hbi
  go_wp2_with fail
  refine (HIn.out z1).mono ?_
  rintro e z3 ⟨rfl, rfl⟩
  cases bi
  · have hE : Hid (manV n ts P = 0 ∧ manE n ts P = 2) := by show _ ∧ _; unfold manV manE; rw [hok'.out, hib.out]; exact ⟨rfl, rfl⟩
    clear h0
    go_wp2
    refine bodyPost_ret (v := .tuple #[.int .i64 0, .int .i64 2]) (by simp [results, Try.results11, go_sem]) rfl ?_
    exact ⟨by rw [hE.out.1, hE.out.2], hB1.out⟩
  obtain ⟨PP, rfl, hP1, hP3⟩ : ∃ PP : Nat, P = (PP : Int) ∧ 1 ≤ PP ∧ PP ≤ 3 := ⟨P.toNat, by have h := hib.out; unfold inB at h; simp at h; omega, by have h := hib.out; unfold inB at h; simp at h; omega, by have h := hib.out; unfold inB at h; simp at h; omega⟩
  have hEq : Hid (manV n ts PP = ((accA n ts PP (2 ^ n - 1)).length : Int) ∧ manE n ts PP = 0) := by
    show _ ∧ _
    unfold manV manE
    rw [hok'.out, hib.out, accA_all, ← many_len hP3]
    exact ⟨rfl, rfl⟩
  have hn8 : n ≤ 8 := by have h := hok'.out; unfold okW at h; simp at h; omega
  have htb : Hid (∀ j, j < n → 1 ≤ tsN ts j ∧ tsN ts j ≤ 120) := Lib.hid (fun j hj => by
    have h := hok'.out
    unfold okW inB at h
    simp only [Bool.and_eq_true, decide_eq_true_eq, List.all_eq_true] at h
    have hx := h.2 (ts[j]'(by omega)) (List.getElem_mem _)
    unfold tsN tAt
    simp
    rw [List.getElem?_eq_getElem (by omega)]
    simp only [Option.getD_some]
    omega)
  obtain ⟨NN, hNN⟩ : ∃ NN, NN = 2 ^ n := ⟨_, rfl⟩
  have hN256 : NN ≤ 256 := by rw [hNN]; exact Nat.le_trans (Nat.pow_le_pow_right (by omega) hn8) (by decide)
  have hsh : wrap64 ((2 : Int) ^ n) = (NN : Int) := by
    have e : (2 : Int) ^ n = (NN : Int) := by rw [hNN]; push_cast; rfl
    rw [e]
    unfold wrap64
    omega
  have hN1 : 1 ≤ NN := by rw [hNN]; exact Nat.one_le_two_pow
  have hNh := Lib.hid hNN
  clear hNN
  obtain ⟨g0, -⟩ := one_facts h0.out
  clear hib HIn
  go_wp2_with fail
  go_loopw [6, 7] (fun v6 v7 wr => ∃ wl, wl = wr ∧ ∃ i : Nat, i + 1 ≤ NN ∧ v7 = .int .i64 ((i : Int) + 1) ∧ ∃ acc, Hid (wl.ownsRow w.heap.size 26 2 v6 acc.length (prs acc)) ∧ Hid (acc = accA n ts PP i) ∧ acc.length ≤ i * 255 ∧ Hid (Below w.heap.size w wl) ∧ Hid (wl.heap[w.heap.size]? = some (.cells #[.slice A n c] 24 (0, 0)))) (fun _ v7 _ => NN - (RowKit.intOf v7).toNat)
  case atStart => exact ⟨_, rfl, 0, by omega, rfl, [], Lib.hid (World.ownsRow_nil _ _ _ _), Lib.hid rfl, by simp, hB1, h0⟩
  case round =>
    clear h0 hB1
    obtain ⟨w1, rfl, i, hi, rfl, acc1, HR1, HA1, hac1_, HB1, HX1⟩ := hrel
    have hac1 := Lib.hid hac1_
    clear hac1_
    obtain ⟨y0, -⟩ := one_facts HX1.out
    by_cases hia : i + 1 < NN
    · obtain ⟨A6, c6, rfl⟩ := ownR_val HR1.out
      have hial : (i : Int) + 1 < (NN : Int) := by omega
      have ei := Lib.hid (show IntKind.i64.wrap ((i : Int) + 1 + 1) = ((i + 1 : Nat) : Int) + 1 by rw [IntWalk.i64_in _ (by omega)]; omega)
      have hA1 := Lib.hid HR1.out
      clear HR1
      go_wp2_with fail
      rw [hsh]
      go_loopw [6, 8] (fun v6 v8 wr => ∃ wl, wl = wr ∧ ∃ j : Nat, j + 1 ≤ NN ∧ v8 = .int .i64 ((j : Int) + 1) ∧ ∃ acc, Hid (wl.ownsRow w.heap.size 26 2 v6 acc.length (prs acc)) ∧ Hid (acc = accB n ts PP i j) ∧ acc.length ≤ i * 255 + j ∧ Hid (Below w.heap.size w wl) ∧ Hid (wl.heap[w.heap.size]? = some (.cells #[.slice A n c] 24 (0, 0)))) (fun _ v8 _ => NN - (RowKit.intOf v8).toNat)
      case atStart => exact ⟨_, rfl, 0, by omega, rfl, acc1, hA1, Lib.hid (by rw [accB_zero]; exact HA1.out), by have := hac1.out; omega, HB1, HX1⟩
      case round =>
        clear hA1 HA1 HB1 HX1 y0
        obtain ⟨w2, rfl, j, hj, rfl, acc, HR2, HA2, hac2_, HB2, HX2⟩ := hrel
        have hacN : acc.length ≤ 70000 := by omega
        have hac2 := Lib.hid hac2_
        clear hac2_
        obtain ⟨y0, -⟩ := one_facts HX2.out
        by_cases hjb : j + 1 < NN
        · obtain ⟨A6, c6, rfl⟩ := ownR_val HR2.out
          have hjbl : (j : Int) + 1 < (NN : Int) := by omega
          have ej := Lib.hid (show IntKind.i64.wrap ((j : Int) + 1 + 1) = ((j + 1 : Nat) : Int) + 1 by rw [IntWalk.i64_in _ (by omega)]; omega)
          obtain ⟨a, ha⟩ : ∃ a, a = i + 1 := ⟨_, rfl⟩
          obtain ⟨b, hb⟩ : ∃ b, b = j + 1 := ⟨_, rfl⟩
          have hab : bits .and .i64 ((i : Int) + 1) ((j : Int) + 1) = ((a &&& b : Nat) : Int) := by
            have := and_nat a b (by omega) (by omega)
            rw [ha, hb] at this ⊢
            simpa using this
          have hs : Hid (accB n ts PP i (j + 1) = (setR n ts PP a b).foldl addU (accB n ts PP i j)) := Lib.hid (by rw [ha, hb]; exact accB_succ n ts PP i j)
          obtain ⟨d, hd⟩ : ∃ d, d = a &&& b := ⟨_, rfl⟩
          rw [← hd] at hab
          have HZa : Hid (∀ z : World, Calls Try.prog 30 #[.int .i64 ((i : Int) + 1)] z fun e w' => e = .returned (.int .i64 (cntB n a : Int)) ∧ Below z.heap.size z w') := Lib.hid (fun z => by have := size_any n a hn8 (by rw [← hNh.out]; omega) z; rw [show ((a : Nat) : Int) = (i : Int) + 1 by omega] at this; exact this)
          have HZb : Hid (∀ z : World, Calls Try.prog 30 #[.int .i64 ((j : Int) + 1)] z fun e w' => e = .returned (.int .i64 (cntB n b : Int)) ∧ Below z.heap.size z w') := Lib.hid (fun z => by have := size_any n b hn8 (by rw [← hNh.out]; omega) z; rw [show ((b : Nat) : Int) = (j : Int) + 1 by omega] at this; exact this)
          obtain ⟨ca, hca⟩ : ∃ c, cntB n a = c := ⟨_, rfl⟩
          obtain ⟨cb, hcb⟩ : ∃ c, cntB n b = c := ⟨_, rfl⟩
          rw [hca] at HZa
          rw [hcb] at HZb
          have hNo : Hid ((!decide (d = 0) || (!decide (ca = cb) || decide (PP < ca))) = true → accB n ts PP i (j + 1) = acc) := Lib.hid (fun h => by rw [hs.out, setR_no (by rw [← hd, hca, hcb]; exact h)]; exact HA2.out.symm)
          have hYes : Hid ((!decide (d = 0) || (!decide (ca = cb) || decide (PP < ca))) = false → accB n ts PP i (j + 1) = addU acc (redu (prodB n ts a) (prodB n ts b))) := Lib.hid (fun h => by rw [hs.out, setR_yes (by rw [← hd, hca, hcb]; exact h), ← HA2.out])
          have hRh := Lib.hid HR2.out
          clear HA2 HR2 hs hca hcb
          by_cases hd0 : d = 0
          · have hdi : ((d : Int) == 0) = true := by rw [hd0]; rfl
            have hdi2 : (d : Int) = 0 := by omega
            have hdh := Lib.hid hd
            clear hd
            subst hd0
            go_wp2_with fail
            refine (HZa.out w2).mono ?_
            rintro e w3 ⟨rfl, hb3_⟩
            have HB3 := Lib.hid hb3_
            clear hb3_ y0
            go_wp2_with fail
            refine (HZb.out w3).mono ?_
            rintro e w4 ⟨rfl, hb4_⟩
            have HB4 := Lib.hid (HB3.out.trans (hb4_.mono HB3.out.size))
            clear hb4_
            have HBw := Lib.hid (below_via HB2.out HB2.out.size HB4.out)
            have HX4 := Lib.hid (keepO HB4.out HX2.out)
            have HR4 := Lib.hid (ownR_below hRh.out HB4.out)
            clear HB2 HX2 hRh HB3 HB4 HZb
            by_cases hcc : ca = cb
            · subst hcc
              go_wp2_with fail
              refine (HZa.out w4).mono ?_
              rintro e w5 ⟨rfl, hb5_⟩
              have HB5 := Lib.hid (below_via HBw.out HBw.out.size hb5_)
              have HX5 := Lib.hid (keepO hb5_ HX4.out)
              have HR5 := Lib.hid (ownR_below HR4.out hb5_)
              clear hb5_ HBw HX4 HR4 HZa
              obtain ⟨y0, -⟩ := one_facts HX5.out
              by_cases hgt : PP < ca
              · have hg1 : decide (PP < ca) = true := by simpa using hgt
                have hg2 : (PP : Int) < (ca : Int) := by omega
                have hno := Lib.hid (hNo.out (by simp [hg1]))
                clear hNo hYes
                go_wp2
                go_roundw
                case rel => exact ⟨_, rfl, j + 1, by omega, by go_num, acc, HR5, Lib.hid hno.out.symm, by have := hac2.out; omega, HB5, HX5⟩
                case measure => simp [RowKit.intOf]; omega
              · have hg1 : decide (PP < ca) = false := by simpa using hgt
                have hg2 : ¬ (PP : Int) < (ca : Int) := by omega
                have hyes := Lib.hid (hYes.out (by simp [hg1]))
                clear hNo hYes
                have HTr := Lib.hid (HTd.out w5 HB5.out)
                clear hsh hab hdi hdi2 hg1
                go_wp2_with fail
                go_loopw [9, 10, 11] (fun v9 v10 v11 wr => ∃ wl, wl = wr ∧ ∃ k : Nat, k ≤ n ∧ v11 = .int .i64 (k : Int) ∧ v9 = .int .i64 (prodP (tsN ts) (fun j => a.testBit j) k) ∧ v10 = .int .i64 (prodP (tsN ts) (fun j => b.testBit j) k) ∧ wl = w5) (fun _ _ v11 _ => n - (RowKit.intOf v11).toNat)
                case atStart => exact ⟨_, rfl, 0, Nat.zero_le _, rfl, rfl, rfl, rfl⟩
                case round =>
                  obtain ⟨wl, rfl, k, hk, rfl, rfl, rfl, rfl⟩ := hrel
                  by_cases hkn : k < n
                  · have hkk : (k : Int) < (n : Int) := by omega
                    have k0k : (0 : Int) ≤ (k : Int) := by omega
                    have ek := Lib.hid (show IntKind.i64.wrap ((k : Int) + 1) = ((k + 1 : Nat) : Int) by rw [IntWalk.i64_in _ (by omega)]; omega)
                    obtain ⟨p1, p2⟩ := prodP_bound (p := fun j => a.testBit j) k (fun j hj => htb.out j (by omega))
                    obtain ⟨p3, p4⟩ := prodP_bound (p := fun j => b.testBit j) k (fun j hj => htb.out j (by omega))
                    have hna : Hid (prodP (tsN ts) (fun j => a.testBit j) (k + 1) = if a.testBit k then prodP (tsN ts) (fun j => a.testBit j) k * tsN ts k else prodP (tsN ts) (fun j => a.testBit j) k) := Lib.hid rfl
                    have hnb : Hid (prodP (tsN ts) (fun j => b.testBit j) (k + 1) = if b.testBit k then prodP (tsN ts) (fun j => b.testBit j) k * tsN ts k else prodP (tsN ts) (fun j => b.testBit j) k) := Lib.hid rfl
                    obtain ⟨tq, tof, rfl, htq, y1⟩ := (HTd.out wl HB5.out).int hkn
                    obtain ⟨t1, t2⟩ := htb.out k hkn
                    have hte : ts[k]?.getD 0 = tsN ts k := by unfold tsN tAt; simp
                    rw [hte] at y1
                    have h120 : (120 : Int) ^ k ≤ 120 ^ 7 := by
                      rcases (by omega : k = 0 ∨ k = 1 ∨ k = 2 ∨ k = 3 ∨ k = 4 ∨ k = 5 ∨ k = 6 ∨ k = 7) with e | e | e | e | e | e | e | e <;> rw [e] <;> decide
                    have h127 : (120 : Int) ^ 7 = 358318080000000 := by decide
                    generalize prodP (tsN ts) (fun j => a.testBit j) k = NA at *
                    generalize prodP (tsN ts) (fun j => b.testBit j) k = NB at *
                    generalize tsN ts k = tt at *
                    have m1 := mul_inP (show 0 ≤ NA by omega) (show NA ≤ 358318080000000 by omega) (show 0 ≤ tt by omega) t2
                    have m2 := mul_inP (show 0 ≤ NB by omega) (show NB ≤ 358318080000000 by omega) (show 0 ≤ tt by omega) t2
                    have wm1 : IntKind.i64.wrap (NA * tt) = NA * tt := IntWalk.i64_in _ (by omega)
                    have wm2 : IntKind.i64.wrap (NB * tt) = NB * tt := IntWalk.i64_in _ (by omega)
                    have hta := bit_test a k i ha (by omega)
                    have htb2 := bit_test b k j hb (by omega)
                    generalize a.testBit k = ta at *
                    generalize b.testBit k = tb at *
                    have hla : Hid (prodP (tsN ts) (fun j => a.testBit j) (k + 1) = if ta then NA * tt else NA) := hna
                    have hlb : Hid (prodP (tsN ts) (fun j => b.testBit j) (k + 1) = if tb then NB * tt else NB) := hnb
                    clear p1 p2 p3 p4 h120 h127 m1 m2 t1 t2 hte hna hnb
                    cases ta <;> cases tb
                    · go_wp2
                      go_roundw
                      case rel => exact ⟨_, rfl, k + 1, by omega, by go_num, by rw [hla.out]; rfl, by rw [hlb.out]; rfl, rfl⟩
                      case measure => simp [RowKit.intOf]; omega
                    · go_wp2
                      go_roundw
                      case rel => exact ⟨_, rfl, k + 1, by omega, by go_num, by rw [hla.out]; rfl, by rw [hlb.out]; rfl, rfl⟩
                      case measure => simp [RowKit.intOf]; omega
                    · go_wp2
                      go_roundw
                      case rel => exact ⟨_, rfl, k + 1, by omega, by go_num, by rw [hla.out]; rfl, by rw [hlb.out]; rfl, rfl⟩
                      case measure => simp [RowKit.intOf]; omega
                    · go_wp2
                      go_roundw
                      case rel => exact ⟨_, rfl, k + 1, by omega, by go_num, by rw [hla.out]; rfl, by rw [hlb.out]; rfl, rfl⟩
                      case measure => simp [RowKit.intOf]; omega
                  · have hkk : ¬ (k : Int) < (n : Int) := by omega
                    obtain rfl : k = n := by omega
                    obtain ⟨p1, p2⟩ := prodP_bound (p := fun j => a.testBit j) k htb.out
                    obtain ⟨p3, p4⟩ := prodP_bound (p := fun j => b.testBit j) k htb.out
                    have h120 : (120 : Int) ^ k ≤ 120 ^ 8 := by
                      rcases (by omega : k = 0 ∨ k = 1 ∨ k = 2 ∨ k = 3 ∨ k = 4 ∨ k = 5 ∨ k = 6 ∨ k = 7 ∨ k = 8) with e | e | e | e | e | e | e | e | e <;> rw [e] <;> decide
                    have h128 : (120 : Int) ^ 8 = 42998169600000000 := by decide
                    have hyes2 : Hid (accB k ts PP i (j + 1) = addU acc (redu (prodP (tsN ts) (fun j => a.testBit j) k) (prodP (tsN ts) (fun j => b.testBit j) k))) := hyes
                    clear hyes
                    generalize prodP (tsN ts) (fun j => a.testBit j) k = NA at *
                    generalize prodP (tsN ts) (fun j => b.testBit j) k = NB at *
                    obtain ⟨g, hg⟩ : ∃ g : Nat, g = Int.gcd NA NB := ⟨_, rfl⟩
                    have hgp : 0 < g := by rw [hg]; exact Int.gcd_pos_of_ne_zero_left _ (by omega)
                    obtain ⟨q1, hq1⟩ : ∃ y, y = NA / (g : Int) := ⟨_, rfl⟩
                    obtain ⟨q2, hq2⟩ : ∃ y, y = NB / (g : Int) := ⟨_, rfl⟩
                    have b1 : 0 ≤ q1 ∧ q1 ≤ NA := by rw [hq1]; exact ⟨Int.ediv_nonneg (by omega) (by omega), Int.ediv_le_self _ (by omega)⟩
                    have b2 : 0 ≤ q2 ∧ q2 ≤ NB := by rw [hq2]; exact ⟨Int.ediv_nonneg (by omega) (by omega), Int.ediv_le_self _ (by omega)⟩
                    have hsp : redu NA NB = (q1, q2) := by unfold redu; rw [hq1, hq2, hg]
                    rw [hsp] at hyes2
                    have k0 : ¬ g = 0 := by omega
                    have k1 : ¬ (g : Int) = 0 := by omega
                    have k2 : ((g : Int) == 0) = false := by simpa using k1
                    have k3 : IntKind.i64.wrap (NA.tdiv (g : Int)) = q1 := by rw [Int.tdiv_eq_ediv_of_nonneg (by omega), ← hq1]; exact IntWalk.i64_in _ (by omega)
                    have k4 : IntKind.i64.wrap (NB.tdiv (g : Int)) = q2 := by rw [Int.tdiv_eq_ediv_of_nonneg (by omega), ← hq2]; exact IntWalk.i64_in _ (by omega)
                    have HG : Hid (∀ W : World, Calls Try.prog 31 #[.int .i64 NA, .int .i64 NB] W fun e w' => e = .returned (.int .i64 (g : Int)) ∧ Below W.heap.size W w') := Lib.hid (fun W => by rw [hg]; exact gcdB_any NA NB (by omega) (by omega) W)
                    clear p1 p2 p3 p4 h120 h128 hg hgp hq1 hq2 b1 b2 hsp
                    go_upto_region 21 with (fail)
                    go_cut [12] from 86 to 115 (fun s wx => ∃ wy, wy = wx ∧ ∃ db, s = .pointer (some ⟨db, 0, none⟩) ∧ wx.heap[db]? = some (.cells #[.int .i64 q1, .int .i64 q2] 26 (0, 0)) ∧ Hid (Below wl.heap.size wl wx))
                    case first =>
                      have HS := Lib.hid (fun (z : World) (hz : Hid (Kp wl.heap.size [] wl z)) => hz)
                      refine wp_region_held_drew (S := (fun z => Hid (Kp wl.heap.size [] wl z))) (by kernel_rfl) ?_ (fun hHeld => ?_)
                      · exact HS.out _ (Lib.hid (Kp.refl _ _ _).drew)
                      have hKyd : Hid (Kp wl.heap.size [] wl wl.drew) := Lib.hid (Kp.refl _ _ _).drew
                      have hSyd : wl.heap.size ≤ wl.drew.heap.size := Nat.le_refl _
                      generalize wl.drew = yd at *
                      refine tkY (v := ?_) 0 86 rfl rfl (by kernel_rfl) (by kernel_rfl) (by kernel_rfl) (fun _ _ _ h => h) (by kernel_rfl) ?_ (by assumption) ?_
                      rotate_left
                      · intro w hSw; go_simp; (try with_reducible rfl)
                      try simp only [Act.put, List.setIfInBounds_toArray, List.set_cons_zero, List.set_cons_succ]
                      refine tkY (v := ?_) 1 87 rfl rfl (by kernel_rfl) (by kernel_rfl) (by kernel_rfl) (fun _ _ _ h => h) (by kernel_rfl) ?_ (by assumption) ?_
                      rotate_left
                      · intro w hSw; go_simp; (try with_reducible rfl)
                      try simp only [Act.put, List.setIfInBounds_toArray, List.set_cons_zero, List.set_cons_succ]
                      refine tkY (v := ?_) 2 88 rfl rfl (by kernel_rfl) (by kernel_rfl) (by kernel_rfl) (fun _ _ _ h => h) (by kernel_rfl) ?_ (by assumption) ?_
                      rotate_left
                      · intro w hSw; go_simp; (try with_reducible rfl)
                      try simp only [Act.put, List.setIfInBounds_toArray, List.set_cons_zero, List.set_cons_succ]
                      refine tkY (v := ?_) 5 91 rfl rfl (by kernel_rfl) (by kernel_rfl) (by kernel_rfl) (fun _ _ _ h => h) (by kernel_rfl) ?_ (by assumption) ?_
                      rotate_left
                      · intro w hSw; go_simp; (try with_reducible rfl)
                      try simp only [Act.put, List.setIfInBounds_toArray, List.set_cons_zero, List.set_cons_succ]
                      refine tkY (v := ?_) 6 92 rfl rfl (by kernel_rfl) (by kernel_rfl) (by kernel_rfl) (fun _ _ _ h => h) (by kernel_rfl) ?_ (by assumption) ?_
                      rotate_left
                      · intro w hSw; go_simp; (try with_reducible rfl)
                      try simp only [Act.put, List.setIfInBounds_toArray, List.set_cons_zero, List.set_cons_succ]
                      refine tkY (v := ?_) 7 93 rfl rfl (by kernel_rfl) (by kernel_rfl) (by kernel_rfl) (fun _ _ _ h => h) (by kernel_rfl) ?_ (by assumption) ?_
                      rotate_left
                      · intro w hSw; go_simp; (try with_reducible rfl)
                      try simp only [Act.put, List.setIfInBounds_toArray, List.set_cons_zero, List.set_cons_succ]
                      refine wpAnyH_ready (rs := [3, 11]) (by kernel_rfl) (by simp) ?_
                      refine AllReadyH.cons (o := _) rfl (fun Kq hK => ?_) ?_
                      · go_simp
                        refine (HG.out yd).mono ?_
                        rintro e c3yd ⟨rfl, hb⟩
                        have hKc3yd := Lib.hid (hKyd.out.call hSyd hb)
                        have hSc3yd := Nat.le_trans hSyd hb.size
                        clear hb
                        try go_simp
                        refine hK.out _ _ ?_ (fun hHeld => ?_)
                        · exact HS.out _ hKc3yd
                        clear hK Kq
                        try simp only [Act.put, List.setIfInBounds_toArray, List.set_cons_zero, List.set_cons_succ]
                        refine tkY (v := ?_) 4 90 rfl rfl (by kernel_rfl) (by kernel_rfl) (by kernel_rfl) (fun _ _ _ h => h) (by kernel_rfl) ?_ (by assumption) ?_
                        rotate_left
                        · intro w hSw; go_simp; (try with_reducible rfl)
                        try simp only [Act.put, List.setIfInBounds_toArray, List.set_cons_zero, List.set_cons_succ]
                        refine wpAnyH_ready (rs := [8, 11]) (by kernel_rfl) (by simp) ?_
                        refine AllReadyH.cons (o := _) rfl (fun Kq hK => ?_) ?_
                        · go_simp
                          refine (HG.out c3yd).mono ?_
                          rintro e c8c3yd ⟨rfl, hb⟩
                          have hKc8c3yd := Lib.hid (hKc3yd.out.call hSc3yd hb)
                          have hSc8c3yd := Nat.le_trans hSc3yd hb.size
                          clear hb
                          try go_simp
                          refine hK.out _ _ ?_ (fun hHeld => ?_)
                          · exact HS.out _ hKc8c3yd
                          clear hK Kq
                          try simp only [Act.put, List.setIfInBounds_toArray, List.set_cons_zero, List.set_cons_succ]
                          refine tkY (v := ?_) 9 95 rfl rfl (by kernel_rfl) (by kernel_rfl) (by kernel_rfl) (fun _ _ _ h => h) (by kernel_rfl) ?_ (by assumption) ?_
                          rotate_left
                          · intro w hSw; go_simp; (try with_reducible rfl)
                          try simp only [Act.put, List.setIfInBounds_toArray, List.set_cons_zero, List.set_cons_succ]
                          refine tkY (v := ?_) 10 96 rfl rfl (by kernel_rfl) (by kernel_rfl) (by kernel_rfl) (fun _ _ _ h => h) (by kernel_rfl) ?_ (by assumption) ?_
                          rotate_left
                          · intro w hSw; go_simp; (try with_reducible rfl)
                          try simp only [Act.put, List.setIfInBounds_toArray, List.set_cons_zero, List.set_cons_succ]
                          refine wpAnyH_ready (rs := [11]) (by kernel_rfl) (by simp) ?_
                          refine AllReadyH.cons (o := _) rfl (fun Kq hK => ?_) AllReadyH.nil
                          go_simp
                          have hOx := heap_alloc_new c8c3yd (.cells #[.int .i64 0, .int .i64 0] 26)
                          have hobx := hSc8c3yd
                          have hKz11c8c3yd := Lib.hid (hKc8c3yd.out.alloc hSc8c3yd (.cells #[.int .i64 0, .int .i64 0] 26))
                          have hSz11c8c3yd := Nat.le_trans hSc8c3yd ((Below.refl c8c3yd.heap.size c8c3yd).alloc (Nat.le_refl _) (.cells #[.int .i64 0, .int .i64 0] 26)).size
                          generalize (c8c3yd.alloc (.cells #[.int .i64 0, .int .i64 0] 26)) = z11c8c3yd at *
                          refine hK.out _ _ ?_ (fun hHeld => ?_)
                          · exact HS.out _ hKz11c8c3yd
                          clear hK Kq
                          try simp only [Act.put, List.setIfInBounds_toArray, List.set_cons_zero, List.set_cons_succ]
                          refine wpAnyH_ready (rs := [12]) (by kernel_rfl) (by simp) ?_
                          refine AllReadyH.cons (o := _) rfl (fun Kq hK => ?_) AllReadyH.nil
                          obtain ⟨e0, e1, g0, g1⟩ := two_facts hOx
                          go_simp
                          clear e0 e1 g0 g1
                          obtain ⟨s12z11c8c3yd, hz_⟩ : ∃ z, z = (z11c8c3yd.setCell ⟨c8c3yd.heap.size, 0, none⟩ (.int .i64 q1)).setCell ⟨c8c3yd.heap.size, 1, none⟩ (.int .i64 q2) := ⟨_, rfl⟩
                          rw [← hz_]
                          have hOx := set_two z11c8c3yd c8c3yd.heap.size _ (.int .i64 q1) (.int .i64 q2) _ _ hOx
                          rw [← hz_] at hOx
                          have hKs12z11c8c3yd := Lib.hid ((hKz11c8c3yd.out.set (p := ⟨c8c3yd.heap.size, 0, none⟩) (Or.inr (by simp only; omega)) (.int .i64 q1)).set (p := ⟨c8c3yd.heap.size, 1, none⟩) (Or.inr (by simp only; omega)) (.int .i64 q2))
                          rw [← hz_] at hKs12z11c8c3yd
                          have hSs12z11c8c3yd := Nat.le_trans hSz11c8c3yd (show z11c8c3yd.heap.size ≤ s12z11c8c3yd.heap.size by rw [hz_]; simp)
                          clear hz_
                          refine hK.out _ _ ?_ (fun hHeld => ?_)
                          · exact HS.out _ hKs12z11c8c3yd
                          clear hK Kq
                          try simp only [Act.put, List.setIfInBounds_toArray, List.set_cons_zero, List.set_cons_succ]
                          refine wpAnyH_done (by kernel_rfl) ?_ _
                          have hBW := Lib.hid (hKs12z11c8c3yd.out.below (Nat.le_refl _) (fun d hd => by cases hd))
                          clear HS HG
                          go_wp2_with fail
                          go_meet
                          exact ⟨_, rfl, _, rfl, hOx, hBW⟩
                        refine AllReadyH.cons (o := _) rfl (fun Kq hK => ?_) AllReadyH.nil
                        go_simp
                        have hOx := heap_alloc_new c3yd (.cells #[.int .i64 0, .int .i64 0] 26)
                        have hobx := hSc3yd
                        have hKz11c3yd := Lib.hid (hKc3yd.out.alloc hSc3yd (.cells #[.int .i64 0, .int .i64 0] 26))
                        have hSz11c3yd := Nat.le_trans hSc3yd ((Below.refl c3yd.heap.size c3yd).alloc (Nat.le_refl _) (.cells #[.int .i64 0, .int .i64 0] 26)).size
                        generalize (c3yd.alloc (.cells #[.int .i64 0, .int .i64 0] 26)) = z11c3yd at *
                        refine hK.out _ _ ?_ (fun hHeld => ?_)
                        · exact HS.out _ hKz11c3yd
                        clear hK Kq
                        try simp only [Act.put, List.setIfInBounds_toArray, List.set_cons_zero, List.set_cons_succ]
                        refine wpAnyH_ready (rs := [8]) (by kernel_rfl) (by simp) ?_
                        refine AllReadyH.cons (o := _) rfl (fun Kq hK => ?_) AllReadyH.nil
                        go_simp
                        refine (HG.out z11c3yd).mono ?_
                        rintro e c8z11c3yd ⟨rfl, hb⟩
                        have hKc8z11c3yd := Lib.hid (hKz11c3yd.out.call hSz11c3yd hb)
                        have hOx := keepO hb hOx
                        have hSc8z11c3yd := Nat.le_trans hSz11c3yd hb.size
                        clear hb
                        try go_simp
                        refine hK.out _ _ ?_ (fun hHeld => ?_)
                        · exact HS.out _ hKc8z11c3yd
                        clear hK Kq
                        try simp only [Act.put, List.setIfInBounds_toArray, List.set_cons_zero, List.set_cons_succ]
                        refine tkY (v := ?_) 9 95 rfl rfl (by kernel_rfl) (by kernel_rfl) (by kernel_rfl) (fun _ _ _ h => h) (by kernel_rfl) ?_ (by assumption) ?_
                        rotate_left
                        · intro w hSw; go_simp; (try with_reducible rfl)
                        try simp only [Act.put, List.setIfInBounds_toArray, List.set_cons_zero, List.set_cons_succ]
                        refine tkY (v := ?_) 10 96 rfl rfl (by kernel_rfl) (by kernel_rfl) (by kernel_rfl) (fun _ _ _ h => h) (by kernel_rfl) ?_ (by assumption) ?_
                        rotate_left
                        · intro w hSw; go_simp; (try with_reducible rfl)
                        try simp only [Act.put, List.setIfInBounds_toArray, List.set_cons_zero, List.set_cons_succ]
                        refine wpAnyH_ready (rs := [12]) (by kernel_rfl) (by simp) ?_
                        refine AllReadyH.cons (o := _) rfl (fun Kq hK => ?_) AllReadyH.nil
                        obtain ⟨e0, e1, g0, g1⟩ := two_facts hOx
                        go_simp
                        clear e0 e1 g0 g1
                        obtain ⟨s12c8z11c3yd, hz_⟩ : ∃ z, z = (c8z11c3yd.setCell ⟨c3yd.heap.size, 0, none⟩ (.int .i64 q1)).setCell ⟨c3yd.heap.size, 1, none⟩ (.int .i64 q2) := ⟨_, rfl⟩
                        rw [← hz_]
                        have hOx := set_two c8z11c3yd c3yd.heap.size _ (.int .i64 q1) (.int .i64 q2) _ _ hOx
                        rw [← hz_] at hOx
                        have hKs12c8z11c3yd := Lib.hid ((hKc8z11c3yd.out.set (p := ⟨c3yd.heap.size, 0, none⟩) (Or.inr (by simp only; omega)) (.int .i64 q1)).set (p := ⟨c3yd.heap.size, 1, none⟩) (Or.inr (by simp only; omega)) (.int .i64 q2))
                        rw [← hz_] at hKs12c8z11c3yd
                        have hSs12c8z11c3yd := Nat.le_trans hSc8z11c3yd (show c8z11c3yd.heap.size ≤ s12c8z11c3yd.heap.size by rw [hz_]; simp)
                        clear hz_
                        refine hK.out _ _ ?_ (fun hHeld => ?_)
                        · exact HS.out _ hKs12c8z11c3yd
                        clear hK Kq
                        try simp only [Act.put, List.setIfInBounds_toArray, List.set_cons_zero, List.set_cons_succ]
                        refine wpAnyH_done (by kernel_rfl) ?_ _
                        have hBW := Lib.hid (hKs12c8z11c3yd.out.below (Nat.le_refl _) (fun d hd => by cases hd))
                        clear HS HG
                        go_wp2_with fail
                        go_meet
                        exact ⟨_, rfl, _, rfl, hOx, hBW⟩
                      refine AllReadyH.cons (o := _) rfl (fun Kq hK => ?_) AllReadyH.nil
                      go_simp
                      have hOx := heap_alloc_new yd (.cells #[.int .i64 0, .int .i64 0] 26)
                      have hobx := hSyd
                      have hKz11yd := Lib.hid (hKyd.out.alloc hSyd (.cells #[.int .i64 0, .int .i64 0] 26))
                      have hSz11yd := Nat.le_trans hSyd ((Below.refl yd.heap.size yd).alloc (Nat.le_refl _) (.cells #[.int .i64 0, .int .i64 0] 26)).size
                      generalize (yd.alloc (.cells #[.int .i64 0, .int .i64 0] 26)) = z11yd at *
                      refine hK.out _ _ ?_ (fun hHeld => ?_)
                      · exact HS.out _ hKz11yd
                      clear hK Kq
                      try simp only [Act.put, List.setIfInBounds_toArray, List.set_cons_zero, List.set_cons_succ]
                      refine wpAnyH_ready (rs := [3]) (by kernel_rfl) (by simp) ?_
                      refine AllReadyH.cons (o := _) rfl (fun Kq hK => ?_) AllReadyH.nil
                      go_simp
                      refine (HG.out z11yd).mono ?_
                      rintro e c3z11yd ⟨rfl, hb⟩
                      have hKc3z11yd := Lib.hid (hKz11yd.out.call hSz11yd hb)
                      have hOx := keepO hb hOx
                      have hSc3z11yd := Nat.le_trans hSz11yd hb.size
                      clear hb
                      try go_simp
                      refine hK.out _ _ ?_ (fun hHeld => ?_)
                      · exact HS.out _ hKc3z11yd
                      clear hK Kq
                      try simp only [Act.put, List.setIfInBounds_toArray, List.set_cons_zero, List.set_cons_succ]
                      refine tkY (v := ?_) 4 90 rfl rfl (by kernel_rfl) (by kernel_rfl) (by kernel_rfl) (fun _ _ _ h => h) (by kernel_rfl) ?_ (by assumption) ?_
                      rotate_left
                      · intro w hSw; go_simp; (try with_reducible rfl)
                      try simp only [Act.put, List.setIfInBounds_toArray, List.set_cons_zero, List.set_cons_succ]
                      refine wpAnyH_ready (rs := [8]) (by kernel_rfl) (by simp) ?_
                      refine AllReadyH.cons (o := _) rfl (fun Kq hK => ?_) AllReadyH.nil
                      go_simp
                      refine (HG.out c3z11yd).mono ?_
                      rintro e c8c3z11yd ⟨rfl, hb⟩
                      have hKc8c3z11yd := Lib.hid (hKc3z11yd.out.call hSc3z11yd hb)
                      have hOx := keepO hb hOx
                      have hSc8c3z11yd := Nat.le_trans hSc3z11yd hb.size
                      clear hb
                      try go_simp
                      refine hK.out _ _ ?_ (fun hHeld => ?_)
                      · exact HS.out _ hKc8c3z11yd
                      clear hK Kq
                      try simp only [Act.put, List.setIfInBounds_toArray, List.set_cons_zero, List.set_cons_succ]
                      refine tkY (v := ?_) 9 95 rfl rfl (by kernel_rfl) (by kernel_rfl) (by kernel_rfl) (fun _ _ _ h => h) (by kernel_rfl) ?_ (by assumption) ?_
                      rotate_left
                      · intro w hSw; go_simp; (try with_reducible rfl)
                      try simp only [Act.put, List.setIfInBounds_toArray, List.set_cons_zero, List.set_cons_succ]
                      refine tkY (v := ?_) 10 96 rfl rfl (by kernel_rfl) (by kernel_rfl) (by kernel_rfl) (fun _ _ _ h => h) (by kernel_rfl) ?_ (by assumption) ?_
                      rotate_left
                      · intro w hSw; go_simp; (try with_reducible rfl)
                      try simp only [Act.put, List.setIfInBounds_toArray, List.set_cons_zero, List.set_cons_succ]
                      refine wpAnyH_ready (rs := [12]) (by kernel_rfl) (by simp) ?_
                      refine AllReadyH.cons (o := _) rfl (fun Kq hK => ?_) AllReadyH.nil
                      obtain ⟨e0, e1, g0, g1⟩ := two_facts hOx
                      go_simp
                      clear e0 e1 g0 g1
                      obtain ⟨s12c8c3z11yd, hz_⟩ : ∃ z, z = (c8c3z11yd.setCell ⟨yd.heap.size, 0, none⟩ (.int .i64 q1)).setCell ⟨yd.heap.size, 1, none⟩ (.int .i64 q2) := ⟨_, rfl⟩
                      rw [← hz_]
                      have hOx := set_two c8c3z11yd yd.heap.size _ (.int .i64 q1) (.int .i64 q2) _ _ hOx
                      rw [← hz_] at hOx
                      have hKs12c8c3z11yd := Lib.hid ((hKc8c3z11yd.out.set (p := ⟨yd.heap.size, 0, none⟩) (Or.inr (by simp only; omega)) (.int .i64 q1)).set (p := ⟨yd.heap.size, 1, none⟩) (Or.inr (by simp only; omega)) (.int .i64 q2))
                      rw [← hz_] at hKs12c8c3z11yd
                      have hSs12c8c3z11yd := Nat.le_trans hSc8c3z11yd (show c8c3z11yd.heap.size ≤ s12c8c3z11yd.heap.size by rw [hz_]; simp)
                      clear hz_
                      refine hK.out _ _ ?_ (fun hHeld => ?_)
                      · exact HS.out _ hKs12c8c3z11yd
                      clear hK Kq
                      try simp only [Act.put, List.setIfInBounds_toArray, List.set_cons_zero, List.set_cons_succ]
                      refine wpAnyH_done (by kernel_rfl) ?_ _
                      have hBW := Lib.hid (hKs12c8c3z11yd.out.below (Nat.le_refl _) (fun d hd => by cases hd))
                      clear HS HG
                      go_wp2_with fail
                      go_meet
                      exact ⟨_, rfl, _, rfl, hOx, hBW⟩
                    clear HG k0 k1 k2 k3 k4
                    obtain ⟨y, rfl, db, rfl, hDb, hBy⟩ := ‹∃ wy, wy = _ ∧ _›
                    have HBy := Lib.hid (below_via HB5.out HB5.out.size hBy.out)
                    have HXy := Lib.hid (keepO hBy.out HX5.out)
                    have HRy := Lib.hid (ownR_below HR5.out hBy.out)
                    have hDh := Lib.hid hDb
                    have hldb : db < y.heap.size := (Array.getElem?_eq_some_iff.1 hDb).1
                    have hwy : w.heap.size ≤ y.heap.size := HBy.out.size
                    clear hBy HB5 HX5 HR5 hDb y0 HTr
                    go_wp2_with fail
                    go_loopw [13, 99] (fun v13 v99 wr => ∃ wd, wd = wr ∧ ∃ m : Nat, m ≤ acc.length ∧ v99 = .int .i64 (m : Int) ∧ v13 = .bool (decide ((q1, q2) ∈ acc.take m)) ∧ Hid (Below y.heap.size y wd)) (fun _ v99 _ => acc.length - (RowKit.intOf v99).toNat)
                    case atStart => exact ⟨_, rfl, 0, Nat.zero_le _, rfl, by simp, Lib.hid (Below.refl _ _)⟩
                    case round =>
                      obtain ⟨wd, rfl, m, hm, rfl, rfl, HBd⟩ := hrel
                      by_cases hml : m < acc.length
                      · have hmm : (m : Int) < (acc.length : Int) := by omega
                        have m0m : (0 : Int) ≤ (m : Int) := by omega
                        have em := Lib.hid (show IntKind.i64.wrap ((m : Int) + 1) = ((m + 1 : Nat) : Int) by rw [IntWalk.i64_in _ (by omega)]; omega)
                        obtain ⟨pb, po, D, V, rfl, hpb, hx, hcD, hcV⟩ := ((Reads.of_own HRy.out).below HBd.out).pr hml
                        obtain ⟨d0_, d1_, -, -⟩ := two_facts (keepO HBd.out hDh.out)
                        have hldd : db < wd.heap.size := Nat.lt_of_lt_of_le hldb HBd.out.size
                        have d0 : ∀ o, (wd.alloc o).cell? ⟨db, 0, none⟩ = some (.int .i64 q1) := fun o => by rw [World.cell?_alloc_lt _ _ _ hldd]; exact d0_
                        have d1 : ∀ o, (wd.alloc o).cell? ⟨db, 1, none⟩ = some (.int .i64 q2) := fun o => by rw [World.cell?_alloc_lt _ _ _ hldd]; exact d1_
                        have hnx : Hid (decide ((q1, q2) ∈ acc.take (m + 1)) = (decide ((q1, q2) ∈ acc.take m) || (decide (D = q1) && decide (V = q2)))) := Lib.hid (by
                          rw [List.take_add_one, hx, Bool.eq_iff_iff]
                          simp only [Option.toList_some, decide_eq_true_eq, List.mem_append, List.mem_singleton, Prod.mk.injEq, Bool.or_eq_true, Bool.and_eq_true]
                          constructor
                          · rintro (h | ⟨rfl, rfl⟩)
                            · exact .inl h
                            · exact .inr ⟨rfl, rfl⟩
                          · rintro (h | ⟨rfl, rfl⟩)
                            · exact .inl h
                            · exact .inr ⟨rfl, rfl⟩)
                        have hBn := Lib.hid (HBd.out.alloc HBd.out.size (.cells #[.int .i64 D, .int .i64 V] 26))
                        have heqP := fun w => eqP_any D V q1 q2 w
                        obtain ⟨be, hbe⟩ : ∃ be, (decide (D = q1) && decide (V = q2)) = be := ⟨_, rfl⟩
                        rw [hbe] at heqP hnx
                        obtain ⟨bf, hbf⟩ : ∃ bf, decide ((q1, q2) ∈ acc.take m) = bf := ⟨_, rfl⟩
                        rw [hbf] at hnx
                        rw [hbf]
                        clear hbf hbe d0_ d1_ hx hldd
                        cases bf
                        · have hnx2 : Hid (decide ((q1, q2) ∈ acc.take (m + 1)) = be) := Lib.hid (by rw [hnx.out]; simp)
                          clear hnx
                          go_wp2
                          go_roundw
                          case rel => exact ⟨_, rfl, m + 1, by omega, by go_num, by rw [hnx2.out], hBn⟩
                          case measure => simp [RowKit.intOf]; omega
                        · have hnx2 : Hid (decide ((q1, q2) ∈ acc.take (m + 1)) = true) := Lib.hid (by rw [hnx.out]; simp)
                          clear hnx
                          go_wp2
                          go_roundw
                          case rel => exact ⟨_, rfl, m + 1, by omega, by go_num, by rw [hnx2.out], hBn⟩
                          case measure => simp [RowKit.intOf]; omega
                      · have hmm : ¬ (m : Int) < (acc.length : Int) := by omega
                        have htk : acc.take m = acc := List.take_of_length_le (by omega)
                        rw [htk]
                        have HBe := Lib.hid (below_via HBy.out HBy.out.size HBd.out)
                        have HXe := Lib.hid (keepO HBd.out HXy.out)
                        have HRe := Lib.hid (ownR_below HRy.out HBd.out)
                        obtain ⟨d0, d1, -, -⟩ := two_facts (keepO HBd.out hDh.out)
                        have hle := addU_le acc (q1, q2)
                        by_cases hin : (q1, q2) ∈ acc
                        · have hib : decide ((q1, q2) ∈ acc) = true := by simpa using hin
                          have hst : Hid (accB k ts PP i (j + 1) = acc) := Lib.hid (by rw [hyes2.out]; unfold addU; rw [if_pos hin])
                          rw [hib]
                          clear HBd HBy HXy HRy hDh hyes2 hin htk
                          go_wp2
                          go_roundw
                          case rel => exact ⟨_, rfl, j + 1, by omega, by go_num, acc, HRe, Lib.hid hst.out.symm, by have := hac2.out; omega, HBe, HXe⟩
                          case measure => simp [RowKit.intOf]; omega
                        · have hib : decide ((q1, q2) ∈ acc) = false := by simpa using hin
                          have hst : Hid (accB k ts PP i (j + 1) = acc ++ [(q1, q2)]) := Lib.hid (by rw [hyes2.out]; unfold addU; rw [if_neg hin])
                          have hbd := (Below.refl wd.heap.size wd).alloc (Nat.le_refl _) (.cells #[.int .i64 q1, .int .i64 q2] 26)
                          have hOa := Lib.hid (ownR_below HRe.out hbd)
                          have hNa := Lib.hid (rdR_pr (heap_alloc_new wd (.cells #[.int .i64 q1, .int .i64 q2] 26)))
                          have hBa := Lib.hid (below_via HBe.out HBe.out.size hbd)
                          have hXa := Lib.hid (keepO hbd HXe.out)
                          have hwd : w.heap.size ≤ wd.heap.size := HBe.out.size
                          rw [hib]
                          clear HBd HBy HXy HRy hDh hyes2 hin htk hbd HBe HXe HRe
                          go_wp2_with (first
                            | (at_builtin; refine wpList_app _ rfl _ _ 68 rfl w.heap.size 26 i0 _ 2 16 Try.underlying68 hi0 hz0 hz1 hz2 rfl (by decide) _ acc.length (prs acc) rfl (by exact hOa.out) _ (some ⟨wd.heap.size, 0, none⟩) 1 1 (prs [(q1, q2)]) rfl hNa.out (prsR_one _) ?e3 ?e4 ?e5 ?_)
                            | fail)
                          case e3 => unfold maxLen; omega
                          case e4 => omega
                          all_goals try omega
                          intro v9_ w9 ho9_ hg9_ hat9_
                          have hO9 : Hid (w9.ownsRow w.heap.size 26 2 v9_ (acc ++ [(q1, q2)]).length (prs (acc ++ [(q1, q2)]))) := Lib.hid (by rw [List.length_append]; have := ho9_; rw [show prs (acc ++ [(q1, q2)]) = prs acc ++ prs [(q1, q2)] by simp [prs]]; exact this)
                          have hB9 := Lib.hid (hBa.out.grown hg9_ (by simp; omega) (fun q hq => (ownR_lt hOa.out hq).1))
                          have hX9 := Lib.hid ((hg9_.block w.heap.size (Array.getElem?_eq_some_iff.1 hXa.out).1 (fun e => bx_ne hOa.out hXa.out e.symm)).trans hXa.out)
                          clear ho9_ hg9_ hat9_ hOa hNa hBa hXa
                          go_wp2
                          go_roundw
                          case rel => exact ⟨_, rfl, j + 1, by omega, by go_num, acc ++ [(q1, q2)], hO9, Lib.hid hst.out.symm, by have := hac2.out; simp; omega, hB9, hX9⟩
                          case measure => simp [RowKit.intOf]; omega
            · have hci : ¬ (ca : Int) = (cb : Int) := by omega
              have hcb' : ((ca : Int) == (cb : Int)) = false := by simpa using hci
              have hno := Lib.hid (hNo.out (by simp [hcc]))
              clear hNo hYes
              go_wp2
              go_roundw
              case rel => exact ⟨_, rfl, j + 1, by omega, by go_num, acc, HR4, Lib.hid hno.out.symm, by have := hac2.out; omega, HBw, HX4⟩
              case measure => simp [RowKit.intOf]; omega
          · have hdi : ((d : Int) == 0) = false := by simpa using hd0
            have hdi2 : ¬ (d : Int) = 0 := by omega
            have hno := Lib.hid (hNo.out (by simp [hd0]))
            clear hNo hYes hd
            go_wp2
            go_roundw
            case rel => exact ⟨_, rfl, j + 1, by omega, by go_num, acc, hRh, Lib.hid hno.out.symm, by have := hac2.out; omega, HB2, HX2⟩
            case measure => simp [RowKit.intOf]; omega
        · have hjbl : ¬ (j : Int) + 1 < (NN : Int) := by omega
          have hjN : j = 2 ^ n - 1 := by rw [← hNh.out]; omega
          have hAe : Hid (acc = accA n ts PP (i + 1)) := Lib.hid (by rw [← accB_all, ← hjN]; exact HA2.out)
          clear HA2 hjN
          go_wp2
          go_roundw
          case rel => exact ⟨_, rfl, i + 1, by omega, by go_num, acc, HR2, hAe, by have := hac2.out; omega, HB2, HX2⟩
          case measure => simp [RowKit.intOf]; omega
    · have hial : ¬ (i : Int) + 1 < (NN : Int) := by omega
      have hiN : i = 2 ^ n - 1 := by rw [← hNh.out]; omega
      have hE : Hid (manV n ts PP = (acc1.length : Int) ∧ manE n ts PP = 0) := Lib.hid (by rw [hEq.out.1, hEq.out.2, ← hiN, ← HA1.out]; exact ⟨rfl, rfl⟩)
      obtain ⟨A6, c6, rfl⟩ := ownR_val HR1.out
      clear HA1 HR1 HX1 hiN
      go_wp2
      refine bodyPost_ret (v := .tuple #[.int .i64 (acc1.length : Int), .int .i64 0]) (by simp [results, Try.results11, go_sem]) rfl ?_
      exact ⟨by rw [hE.out.1, hE.out.2], HB1.out⟩
end Go.Proofs.Ytjmegnbjacndpaa
