/-
  The walk of the reference's list of teeth that are struck.
-/
import Derived.Test.YtlmmjaolmmcklaaStrikes
import Derived.Deep.OwnRows
namespace Go.Proofs.Ytlmmjaolmmcklaa
open Go.RowKit

theorem Strikes_no (a b t : Int) (h : (twoB a b && (decide (0 ≤ t) && decide (t ≤ a - 1))) = false) (w : World) :
    Calls Try.prog 9 #[.int .i64 a, .int .i64 b, .int .i64 t] w fun e w' =>
      e = .returned (.tuple #[.slice none 0 0, .int .i64 2]) ∧ Below w.heap.size w w' := by
  cases h2 : twoB a b
  · have H := Lib.hid (Two_any a b w)
    rw [h2] at H
    clear h h2
    go_enter Try.func9, Try.ntmps9
    go_wp2_with fail
    refine H.out.mono ?_
    rintro e w1 ⟨rfl, rfl⟩
    go_wp2
    go_ret2
    exact ⟨rfl, Below.refl _ _⟩
  · have hb6 : 6 ≤ a ∧ a ≤ 120 := by unfold twoB at h2; simp at h2; omega
    have ht : (decide (0 ≤ t) && decide (t ≤ a - 1)) = false := by rw [h2] at h; simpa using h
    have H := Lib.hid (Two_any a b w)
    rw [h2] at H
    have H2 := within_any t 0 (a - 1) w
    rw [ht] at H2
    have H3 := Lib.hid H2
    clear h h2 H2 ht
    obtain ⟨ha1, ha2⟩ := hb6
    go_enter Try.func9, Try.ntmps9
    go_wp2_with fail
    refine H.out.mono ?_
    rintro e w1 ⟨rfl, rfl⟩
    go_wp2_with fail
    refine H3.out.mono ?_
    rintro e w1 ⟨rfl, rfl⟩
    go_wp2
    go_ret2
    exact ⟨rfl, Below.refl _ _⟩

theorem Strikes_yes (a b t : Nat) (ha : 6 ≤ a) (ha' : a ≤ 120) (hb : 6 ≤ b) (hb' : b ≤ 120) (ht : t < a) (w : World) :
    Calls Try.prog 9 #[.int .i64 a, .int .i64 b, .int .i64 t] w fun e w' =>
      ∃ A n c, e = .returned (.tuple #[.slice A n c, .int .i64 0]) ∧ n ≤ 120 ∧ Reads w' w'.heap.size 1 A n (ints (strk a b t)) ∧ Below w.heap.size w w' := by
  have htw : twoB a b = true := by unfold twoB; simp; omega
  have H := Lib.hid (Two_any a b w)
  rw [htw] at H
  have H2 := within_any t 0 ((a : Int) - 1) w
  have e2 : (decide (0 ≤ (t : Int)) && decide ((t : Int) ≤ (a : Int) - 1)) = true := by simp; omega
  rw [e2] at H2
  have H3 := Lib.hid H2
  clear H2 htw e2
  go_enter Try.func9, Try.ntmps9
  go_wp2_with fail
  refine H.out.mono ?_
  rintro e w1 ⟨rfl, rfl⟩
  go_wp2_with fail
  refine H3.out.mono ?_
  rintro e w1 ⟨rfl, rfl⟩
  go_wp2_with fail
  clear H H3
  refine (Meet_yes a b ha ha' hb hb' _).mono ?_
  rintro e w2 ⟨rfl, hb2⟩
  have hrow0 := World.rowIs_alloc w1 Try.zeroCells74 74 (fun _ => .bool false) (by
    intro i hi
    have : Try.zeroCells74 = Array.replicate 120 (Value.bool false) := by rfl
    rw [this] at hi ⊢
    rw [Array.getElem?_replicate, if_pos (by simpa using hi)])
  have hz : Try.zeroCells74.size = 120 := by rfl
  rw [hz] at hrow0
  have hrow : w2.rowIs w1.heap.size 74 120 (fun _ => .bool false) := hrow0.of_block (hb2.block w1.heap.size (by simp))
  have hB2 : Hid (Below w1.heap.size w1 w2) := ((Below.refl _ _).alloc (Nat.le_refl _) _).trans (hb2.mono (by simp))
  have hrow' := Lib.hid hrow
  clear hb2 hrow hrow0 hz
  have hT : b / Nat.gcd a b ≤ b := Nat.div_le_self _ _
  have hst := Lib.hid (fun j (hj : j < b) => Teeth.struck_all a b t j (by omega) (by omega) hj)
  have hSt : Hid (strk a b t = ((List.range b).filter fun j => Teeth.struck a b t (b / Nat.gcd a b) j).map Int.ofNat) := by
    show strk a b t = _
    unfold strk Teeth.upto
    rw [List.filter_congr]
    intro j hj
    exact (hst.out j (by simpa using hj)).symm
  clear hst
  generalize b / Nat.gcd a b = T at *
  go_wp2
  go_loopw [12] (fun x wr => ∃ k : Nat, k ≤ T ∧ x = .int .i64 k ∧ Hid (wr.rowIs w1.heap.size 74 120 (fun j => .bool (Teeth.struck a b t k j))) ∧ Hid (Below w1.heap.size w1 wr)) (fun x _ => T - (intOf x).toNat)
  case atStart => exact ⟨0, by omega, rfl, hrow'.out, hB2⟩
  case round =>
    obtain ⟨k, hk, rfl, hrow, hB⟩ := hrel
    clear hB2 hrow'
    by_cases hlt : k < T
    · have hkb : k * a ≤ 120 * 120 := Nat.mul_le_mul (by omega) ha'
      have hka : ((k : Int) * (a : Int)) ≤ 14400 := by have : ((k * a : Nat) : Int) ≤ 14400 := by omega
                                                       simpa using this
      have hk0 : (0 : Int) ≤ (k : Int) * (a : Int) := by have : (0 : Int) ≤ ((k * a : Nat) : Int) := by omega
                                                         simpa using this
      have hil : (k * a + t) % b < b := Nat.mod_lt _ (by omega)
      have hix0 : ((((k : Int) * (a : Int)) + (t : Int)) % (b : Int)) = (((k * a + t) % b : Nat) : Int) := by simp
      have hsucc := Lib.hid (fun j => Teeth.struck_succ a b t k j)
      obtain ⟨r, hr⟩ : ∃ r, r = (k * a + t) % b := ⟨_, rfl⟩
      rw [← hr] at hil hix0
      have Hr := Lib.hid hr
      clear hr hkb
      have hc := hrow.out.cell (i := r) (by omega)
      have hf := hrow.out.frozen r
      go_wp2
      go_roundw
      case rel =>
        refine ⟨k + 1, by omega, by go_num, ?_, hB.out.setCell (by simp) _⟩
        refine (hrow.out.set r _).congr fun j hj => ?_
        rw [hsucc.out]
        by_cases hjr : j = r
        · rw [if_pos hjr, hjr, Hr.out]; simp
        · rw [if_neg hjr]
          have : ((k * a + t) % b == j) = false := by rw [← Hr.out]; simp; omega
          rw [this, Bool.or_false]
      case measure => simp [intOf]; omega
    · have hkT : k = T := by omega
      subst hkT
      obtain ⟨i0, hi, hz0, hz1, hz2⟩ := info_parts info_int
      have hsz := hrow.out.lt
      go_wp2
      obtain ⟨wo, rfl⟩ : ∃ wo : World, wo = wr := ⟨_, rfl⟩
      go_loopw [13, 14] (fun v x wr => ∃ i : Nat, i ≤ b ∧ x = .int .i64 i ∧ wr.ownsRow (w1.heap.size + 1) 3 1 v ((List.range i).filter fun j => Teeth.struck a b t k j).length (ints (((List.range i).filter fun j => Teeth.struck a b t k j).map Int.ofNat)) ∧
        Hid (wr.rowIs w1.heap.size 74 120 (fun j => .bool (Teeth.struck a b t k j))) ∧ Hid (Below w1.heap.size w1 wr)) (fun _ x _ => b - (intOf x).toNat)
      case atStart => exact ⟨0, by omega, rfl, World.ownsRow_nil _ _ _ _, hrow, hB⟩
      case round =>
        clear hrow hB hsz
        obtain ⟨i, hib, rfl, hown, hrow, hB⟩ := hrel
        have hsz := hrow.out.lt
        have hlen : ((List.range i).filter fun j => Teeth.struck a b t k j).length ≤ i := by
          have := List.length_filter_le (fun j => Teeth.struck a b t k j) (List.range i)
          simpa using this
        by_cases hlt : i < b
        · have hc := hrow.out.cell (i := i) (by omega)
          have hf : Hid ((List.range (i + 1)).filter (fun j => Teeth.struck a b t k j) = ((List.range i).filter fun j => Teeth.struck a b t k j) ++ (if Teeth.struck a b t k i then [i] else [])) := by
            show (List.range (i + 1)).filter _ = _
            rw [List.range_succ, List.filter_append]
            cases h : Teeth.struck a b t k i <;> simp [h]
          cases hs : Teeth.struck a b t k i
          · rw [hs] at hc hf
            clear hs
            go_wp2
            go_roundw
            case rel =>
              refine ⟨i + 1, by omega, by go_num, ?_, hrow, hB⟩
              rw [hf.out]
              simpa using hown
            case measure => simp [intOf]; omega
          · rw [hs] at hc hf
            clear hs
            go_wp2_with (first
              | (at_builtin; refine wpList_append_own _ rfl _ _ 27 rfl (w1.heap.size + 1) 3 i0 (.int .i64 0) 1 8 Try.underlying27 hi hz0 hz1 hz2 rfl (by decide) _ _ _ rfl (hown.alloc _) ⟨wr.heap.size, 0, none⟩ 1 1 [.int .i64 i] rfl rfl (cell_one_new _ _ _) ?c2 ?c3 ?c4 ?c5 ?_)
              )
            case c2 => simp [Value.oneCell']
            case c3 => unfold maxLen; omega
            case c4 => omega
            case c5 => first | omega | (simp; omega)
            intro v' w' hown' hgr _
            have hB' := Lib.hid ((hB.out.alloc hB.out.size _).grown hgr (by have := hB.out.size; simp; omega) (fun q hq => by have := (hown.lt q hq).1; omega))
            have hrow' := Lib.hid ((hrow.out.alloc (.cells #[.int .i64 i] 3)).of_block (hgr.block w1.heap.size (by simp; omega) (fun e => by have := (hown.lt _ e.symm).1; omega)))
            go_wp2
            go_roundw
            case rel =>
              refine ⟨i + 1, by omega, by go_num, ?_, hrow', hB'⟩
              rw [hf.out]
              simpa [ints] using hown'
            case measure => simp [intOf]; omega
        · have hib' : i = b := by omega
          subst hib'
          go_wp2
          go_ret2
          obtain ⟨A, c, rfl, hr⟩ := own_slice hown
          refine ⟨A, _, c, rfl, by omega, ?_, hB⟩
          rw [hSt.out]
          exact hr
end Go.Proofs.Ytlmmjaolmmcklaa
