/-
  The walks of the functions that tell which teeth are struck, and of the comparison of lists.
-/
import Derived.Test.YtlmmjaolmmcklaaTeeth
import Derived.ChangeKeysEq
import Derived.Laws.StructEq
namespace Go.Proofs.Ytlmmjaolmmcklaa
open Go.RowKit

theorem sameInts_any (A A' : Option Addr) (n m c c' : Nat) (l l' : List Int) (w : World) (hn : n ≤ maxLen) (hm : m ≤ maxLen)
    (h : Reads w w.heap.size 1 A n (ints l)) (h' : Reads w w.heap.size 1 A' m (ints l')) :
    Calls Try.prog 10 #[.slice A n c, .slice A' m c'] w fun e w' => e = .returned (.bool (decide (l = l'))) ∧ ∃ k, w' = w.drewN k := by
  have hl : l.length = n := by simpa using h.len
  have hl' : l'.length = m := by simpa using h'.len
  unfold maxLen at hn hm
  by_cases hnm : n = m
  · have hb : ((n : Int) != (m : Int)) = false := by simp [hnm]
    subst hnm
    go_enter Try.func10, Try.ntmps10
    go_wp2
    go_loopw [5] (fun i wr => ∃ k : Nat, k ≤ n ∧ i = .int .i64 k ∧ Hid (l.take k = l'.take k) ∧ ∃ q, wr = w.drewN q) (fun i _ => n - (intOf i).toNat)
    case atStart => exact ⟨0, by omega, rfl, rfl, 0, rfl⟩
    case round =>
      obtain ⟨k, hk, rfl, ht, q, rfl⟩ := hrel
      by_cases hlt : k < n
      · obtain ⟨b, o, rfl, hbb, hc⟩ := h.int hlt
        obtain ⟨b', o', rfl, hbb', hc'⟩ := h'.int hlt
        have hlk : l[k]? = some (l[k]'(by omega)) := List.getElem?_eq_getElem (by omega)
        have hlk' : l'[k]? = some (l'[k]'(by omega)) := List.getElem?_eq_getElem (by omega)
        by_cases he : l[k]?.getD 0 = l'[k]?.getD 0
        · have he' : (l[k]?.getD 0 != l'[k]?.getD 0) = false := by simpa using he
          have hnx : Hid (l.take (k + 1) = l'.take (k + 1)) := by
            show l.take (k + 1) = l'.take (k + 1)
            rw [hlk, hlk'] at he
            have he2 : l[k]'(by omega) = l'[k]'(by omega) := by simpa using he
            rw [List.take_add_one, List.take_add_one, ht.out, hlk, hlk', he2]
          clear ht he hlk hlk' hl hl'
          go_wp2
          go_quiet (fail)
          go_wp2
          go_roundw
          case rel => exact ⟨k + 1, by omega, by go_num, hnx, (by first | exact ⟨_, rfl⟩ | exact ⟨_, World.drewN_drewN _ _ _⟩)⟩
          case measure => simp [intOf]; omega
        · have he' : (l[k]?.getD 0 != l'[k]?.getD 0) = true := by simpa using he
          have hne : Hid (decide (l = l') = false) := by
            show decide (l = l') = false
            simp only [decide_eq_false_iff_not]
            rintro rfl
            exact he rfl
          clear ht he hlk hlk' hl hl'
          go_wp2
          go_quiet (fail)
          go_wp2
          go_ret
          exact ⟨ret_bool hne.out.symm, (by first | exact ⟨_, rfl⟩ | exact ⟨_, World.drewN_drewN _ _ _⟩)⟩
      · have heq : Hid (decide (l = l') = true) := by
          show decide (l = l') = true
          have := ht.out
          rw [List.take_of_length_le (by omega), List.take_of_length_le (by omega)] at this
          simpa using this
        clear ht hl hl'
        go_wp2
        go_ret
        exact ⟨ret_bool heq.out.symm, _, rfl⟩
  · have hb : ((n : Int) != (m : Int)) = true := by simp; omega
    have hne : Hid (decide (l = l') = false) := by
      show decide (l = l') = false
      simp only [decide_eq_false_iff_not]
      rintro rfl
      omega
    clear hnm hl hl'
    go_enter Try.func10, Try.ntmps10
    go_wp2
    go_ret
    exact ⟨ret_bool hne.out.symm, 0, rfl⟩

theorem info_int : (Try.prog.info? 3).map (fun i => (i.zero, i.size, i.bytes)) = some (some (.int .i64 0), 1, 8) := by kernel_rfl

/-- The teeth whose distance from a tooth the gcd divides, in order. -/
def strk (a b t : Nat) : List Int := (Teeth.upto (Nat.gcd a b) t b).map Int.ofNat

theorem strikes_no (a b t : Int) (h : (twoB a b && (decide (0 ≤ t) && decide (t ≤ a - 1))) = false) (wa : -9223372036854775808 ≤ a) (wa' : a ≤ 9223372036854775807) (w : World) :
    Calls Try.prog 8 #[.int .i64 a, .int .i64 b, .int .i64 t] w fun e w' =>
      e = .returned (.tuple #[.slice none 0 0, .int .i64 2]) ∧ Below w.heap.size w w' := by
  cases h2 : twoB a b
  · have H := fun w => two_any a b w
    rw [h2] at H
    have H' := Lib.hid H
    clear H h h2
    go_enter Try.func8, Try.ntmps8
    go_wp2_with fail
    refine (H'.out _).mono ?_
    rintro e w1 ⟨rfl, hb1⟩
    go_wp2
    go_ret2
    exact ⟨rfl, ((Below.refl _ _).alloc (Nat.le_refl _) _).trans (hb1.mono (by simp))⟩
  · have hb6 : 6 ≤ a ∧ a ≤ 120 := by unfold twoB at h2; simp at h2; omega
    have ht : inB 0 (a - 1) [t] = false := by rw [h2] at h; unfold inB; simpa using h
    have H := fun w => two_any a b w
    rw [h2] at H
    have H' := Lib.hid H
    clear H h h2
    obtain ⟨ha1, ha2⟩ := hb6
    go_enter Try.func8, Try.ntmps8
    go_wp2_with fail
    refine (H'.out _).mono ?_
    rintro e w1 ⟨rfl, hb1⟩
    go_wp2_with fail
    refine (in_any 0 (a - 1) _ 1 1 [t] _ (by unfold maxLen; omega) (Reads.new_ints w1 [t] 3 1 rfl)).mono ?_
    rw [ht]
    rintro e w2 ⟨rfl, hb2⟩
    go_wp2
    go_ret2
    exact ⟨rfl, (((Below.refl _ _).alloc (Nat.le_refl _) _).trans (hb1.mono (by simp))).trans (((Below.refl _ _).alloc (Nat.le_refl _) _).trans (hb2.mono (by simp))|>.mono (by have := hb1.size; simp at this; omega))⟩

theorem eq_arr2 (x y u v : Int) (w : World) :
    (Op.equalIn 10000 70 (.agg #[.int .i64 x, .int .i64 y]) (.agg #[.int .i64 u, .int .i64 v])).run Try.prog w = .ok (x == u && y == v) w := by
  obtain ⟨i, hi, _⟩ := Option.map_eq_some_iff.1 info_int
  have hc : Try.prog.cellsOf 3 = 1 := by kernel_rfl
  have z3 := Try.sizeOf3
  have a3 := Try.isAgg3
  have u3 := Try.underlying3
  rw [show (10000 : Nat) = 9999 + 1 from rfl, run_equalIn_array w 9999 _ _ Try.underlying70 hi, hc, show (List.range 2) = [0, 1] from rfl]
  simp only [Op.eqItems]
  go_simp
  by_cases h1 : x = u <;> by_cases h2 : y = v <;> simp [h1, h2]

theorem strikes_yes (a b t : Nat) (ha : 6 ≤ a) (ha' : a ≤ 120) (hb : 6 ≤ b) (hb' : b ≤ 120) (ht : t < a) (w : World) :
    Calls Try.prog 8 #[.int .i64 a, .int .i64 b, .int .i64 t] w fun e w' =>
      ∃ A n c, e = .returned (.tuple #[.slice A n c, .int .i64 0]) ∧ n ≤ 120 ∧ Reads w' w'.heap.size 1 A n (ints (strk a b t)) ∧ Below w.heap.size w w' := by
  have htw : twoB a b = true := by unfold twoB; simp; omega
  have H := fun w => two_any a b w
  rw [htw] at H
  have H' := Lib.hid H
  have hit : inB 0 ((a : Int) - 1) [(t : Int)] = true := by unfold inB; simp; omega
  clear H htw
  have hEq := eq_arr2 a b b a
  have gEq : Try.prog.eqGuardType Try.prog.depth 70 = false := by kernel_rfl
  go_enter Try.func8, Try.ntmps8
  go_wp2_with fail
  refine (H'.out _).mono ?_
  rintro e w1 ⟨rfl, hb1⟩
  have hW1 : Below w.heap.size w w1 := ((Below.refl _ _).alloc (Nat.le_refl _) _).trans (hb1.mono (by simp))
  have hs1 : w.heap.size + 1 ≤ w1.heap.size := by have := hb1.size; simpa using this
  have c0 : w1.cell? ⟨w.heap.size, 0, none⟩ = some (.int .i64 a) := (hb1.cell (p := ⟨w.heap.size, 0, none⟩) (by simp)).trans (by rw [World.cell?_alloc_at _ _ _ _ rfl]; rfl)
  have c1 : w1.cell? ⟨w.heap.size, 1, none⟩ = some (.int .i64 b) := (hb1.cell (p := ⟨w.heap.size, 1, none⟩) (by simp)).trans (by rw [World.cell?_alloc_at _ _ _ _ rfl]; rfl)
  clear hb1
  go_wp2_with fail
  refine (in_any 0 (a - 1) _ 1 1 [(t : Int)] _ (by unfold maxLen; omega) (Reads.new_ints w1 [(t : Int)] 3 1 rfl)).mono ?_
  rw [hit]
  rintro e w2 ⟨rfl, hb2⟩
  have hW2 : Below w.heap.size w w2 := hW1.trans ((((Below.refl _ _).alloc (Nat.le_refl _) _).trans (hb2.mono (by simp))).mono (by omega))
  have hs2 : w.heap.size + 1 ≤ w2.heap.size := by have := hb2.size; simp at this; omega
  have c0' : w2.cell? ⟨w.heap.size, 0, none⟩ = some (.int .i64 a) := (hb2.cell (p := ⟨w.heap.size, 0, none⟩) (by simp; omega)).trans (by rw [World.cell?_alloc_lt _ _ _ (by simp; omega)]; exact c0)
  have c1' : w2.cell? ⟨w.heap.size, 1, none⟩ = some (.int .i64 b) := (hb2.cell (p := ⟨w.heap.size, 1, none⟩) (by simp; omega)).trans (by rw [World.cell?_alloc_lt _ _ _ (by simp; omega)]; exact c1)
  clear hb2 hW1 c0 c1 hit
  have HW2 := Lib.hid hW2
  clear hW2
  by_cases hab : a = b
  · subst hab
    go_wp2
    go_ret2
    refine ⟨_, _, _, rfl, by omega, ?_, HW2.out.alloc HW2.out.size _⟩
    have := Reads.new_ints w2 [(t : Int)] 3 1 rfl
    have e : strk a a t = [(t : Int)] := by unfold strk; rw [Nat.gcd_self, Teeth.upto_self a t ht]; rfl
    rw [e]
    exact this
  · have hne : ((a : Int) == (b : Int)) = false := by simp; omega
    go_wp2_with fail
    have hgi : ((Int.gcd (a : Int) (b : Int) : Nat) : Int) = (Nat.gcd a b : Nat) := rfl
    have hg : 0 < Nat.gcd a b := Nat.gcd_pos_of_pos_left _ (by omega)
    have hgb : Nat.gcd a b ≤ b := Nat.gcd_le_right _ (by omega)
    refine (common_any a b (by omega) (by omega) _).mono ?_
    rw [hgi]
    have hst : Hid (strk a b t = (Teeth.upto (Nat.gcd a b) t b).map Int.ofNat) := rfl
    clear hgi c0' c1' hEq hne hab
    generalize Nat.gcd a b = g at *
    rintro e w3 ⟨rfl, q, rfl⟩
    have HW3 := Lib.hid (below_drewN HW2.out q)
    clear HW2
    generalize hw3 : w2.drewN q = w3 at *
    clear hs2 hw3
    have htl : t % g < g := Nat.mod_lt _ hg
    obtain ⟨i0, hi, hz0, hz1, hz2⟩ := info_parts info_int
    go_wp2
    go_loopw [10, 11] (fun v x wr => ∃ i : Nat, i < b + g ∧ x = .int .i64 i ∧ Hid (i % g = t % g) ∧ wr.ownsRow w.heap.size 3 1 v (Teeth.upto g t i).length (ints ((Teeth.upto g t i).map Int.ofNat)) ∧ Below w.heap.size w wr) (fun _ x _ => b + g - (intOf x).toNat)
    case atStart =>
      refine ⟨t % g, by omega, rfl, Nat.mod_mod _ _, ?_, HW3.out⟩
      rw [Teeth.upto_first g t hg]
      exact World.ownsRow_nil _ _ _ _
    case round =>
      obtain ⟨i, hib, rfl, him, hown, hB⟩ := hrel
      have hlen := Teeth.upto_len g t i
      by_cases hlt : i < b
      · have hst2 := Lib.hid (Teeth.upto_step g t i hg him)
        clear hst
        go_wp2_with (first
          | (at_builtin; refine wpList_append_own _ rfl _ _ 27 rfl w.heap.size 3 i0 (.int .i64 0) 1 8 Try.underlying27 hi hz0 hz1 hz2 rfl (by decide) _ _ _ rfl (hown.alloc _) ⟨wr.heap.size, 0, none⟩ 1 1 [.int .i64 i] rfl rfl ?c1 ?c2 ?c3 ?c4 ?c5 ?_)
          )
        case c1 => exact (cell_one_new _ _ _)
        case c2 => simp [Value.oneCell']
        case c3 => unfold maxLen; omega
        case c4 => omega
        case c5 => have := hB.size; simp; omega
        intro v' w' hown' hgr _
        have hB' := Lib.hid ((hB.alloc hB.size _).grown hgr (by have := hB.size; simp; omega) (fun k hk => (hown.lt k hk).1))
        go_wp2
        go_roundw
        case rel =>
          refine ⟨i + g, by omega, by go_num, (Nat.add_mod_right i g).trans him, ?_, hB'⟩
          rw [hst2.out]
          simpa [ints] using hown'
        case measure => simp [intOf]; omega
      · have hend := Lib.hid (Teeth.upto_end g t i b him (by omega) hib)
        go_wp2
        go_ret2
        obtain ⟨A, c, rfl, hr⟩ := own_slice hown
        refine ⟨A, _, c, rfl, ?_, ?_, hB⟩
        · rw [hend.out]
          exact Nat.le_trans (Teeth.upto_len _ _ _) hb'
        · rw [hst.out, ← hend.out]
          exact hr
end Go.Proofs.Ytlmmjaolmmcklaa
