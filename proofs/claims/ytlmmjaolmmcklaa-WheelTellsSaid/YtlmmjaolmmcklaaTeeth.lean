/-
  The walks of the functions on teeth: greatest common divisors, ranges of numbers, and lists that are compared.
-/
import Derived.Test.YtlmmjaolmmcklaaKit
import Derived.Test.YtlmmjaolmmcklaaTeethM
namespace Go.Proofs.Ytlmmjaolmmcklaa
open Go.RowKit

theorem gcd_step (a b : Int) (ha : 0 ≤ a) (hb : 0 ≤ b) : ((Int.gcd b (a % b) : Nat) : Int) = Int.gcd a b := by
  obtain ⟨a, rfl⟩ := Int.eq_ofNat_of_zero_le ha
  obtain ⟨b, rfl⟩ := Int.eq_ofNat_of_zero_le hb
  have : ((a : Int) % (b : Int)) = ((a % b : Nat) : Int) := rfl
  rw [this]
  simp only [Int.gcd, Int.natAbs_natCast]
  rw [Nat.gcd_comm a b, Nat.gcd_comm b (a % b), ← Nat.gcd_rec]

theorem common_any (a b : Int) (ha : 0 ≤ a) (hb : 0 ≤ b) (w : World) :
    Calls Try.prog 30 #[.int .i64 a, .int .i64 b] w fun e w' => e = .returned (.int .i64 (Int.gcd a b)) ∧ ∃ n, w' = w.drewN n := by
  go_enter Try.func30, Try.ntmps30
  go_wp2
  go_loopw [0, 1] (fun x y wr => ∃ c d : Int, 0 ≤ c ∧ 0 ≤ d ∧ x = .int .i64 c ∧ y = .int .i64 d ∧ Hid (((Int.gcd c d : Nat) : Int) = Int.gcd a b) ∧ ∃ n, wr = w.drewN n) (fun _ y _ => (intOf y).toNat)
  case atStart => exact ⟨a, b, ha, hb, rfl, rfl, rfl, 0, rfl⟩
  case round =>
    obtain ⟨c, d, hc, hd, rfl, rfl, hg, n, rfl⟩ := hrel
    by_cases hz : d = 0
    · have hz' : (d != 0) = false := by simpa using hz
      have hgc : ((Int.gcd c d : Nat) : Int) = c := by rw [hz, Int.gcd_zero_right]; omega
      have hr : Hid (c = Int.gcd a b) := by rw [← hg]; exact hgc.symm
      clear hz hg hgc
      go_wp2
      go_ret
      exact ⟨ret_int hr, n, rfl⟩
    · have hz' : (d != 0) = true := by simpa using hz
      have hlt : c % d < d := Int.emod_lt_of_pos _ (by omega)
      have hnn : 0 ≤ c % d := Int.emod_nonneg _ hz
      have hg' : Hid (((Int.gcd d (c % d) : Nat) : Int) = Int.gcd a b) := (gcd_step c d hc hd).trans hg
      clear hg
      go_wp2
      go_quiet (fail)
      go_wp2
      go_roundw
      case rel => exact ⟨d, c % d, hd, hnn, rfl, rfl, hg', _, World.drewN_drewN _ _ _⟩
      case measure => simp [intOf]; omega

theorem in1_any (x lo hi : Int) (b b' : Nat) (w : World) (hl : w.cell? ⟨b, 0, none⟩ = some (.int .i64 lo)) (hh : w.cell? ⟨b', 0, none⟩ = some (.int .i64 hi)) :
    Calls Try.prog 53 #[.int .i64 x, .pointer (some ⟨b, 0, none⟩), .pointer (some ⟨b', 0, none⟩)] w fun e w' => e = .returned (.bool (decide (x < lo) || decide (hi < x))) ∧ w' = w := by
  by_cases h1 : x < lo
  · go_enter Try.func53, Try.ntmps53
    go_wp2
    go_ret
    exact ⟨ret_bool (by simp [h1]), rfl⟩
  · by_cases h2 : hi < x
    · go_enter Try.func53, Try.ntmps53
      go_wp2
      go_ret
      exact ⟨ret_bool (by simp), rfl⟩
    · go_enter Try.func53, Try.ntmps53
      go_wp2
      go_ret
      exact ⟨ret_bool (by simp [h1, h2]), rfl⟩

def idxF (p : Int → Bool) (l : List Int) : Int := match l.findIdx? p with | some i => i | none => -1

theorem indexFunc_any (p : Int → Bool) (g : Nat) (lb : Array Value) (A : Option Addr) (n c : Nat) (l : List Int) (w : World) (hn : n ≤ maxLen)
    (eg : ∀ args w, (callFunc g args).run Try.prog w = .ok (.enter g args) w) (hR : Reads w w.heap.size 1 A n (ints l)) (hf : ∀ x, Calls Try.prog g (#[.int .i64 x] ++ lb) w fun e w' => e = .returned (.bool (p x)) ∧ w' = w) :
    Calls Try.prog 64 #[.slice A n c, .func (.func g) #[] lb] w fun e w' => e = .returned (.int .i64 (idxF p l)) ∧ w' = w := by
  unfold maxLen at hn
  go_enter Try.func64, Try.ntmps64
  go_wp2
  go_loop [8] (fun i => ∃ k : Nat, k ≤ n ∧ i = .int .i64 k ∧ Hid ((l.take k).any p = false)) (fun i => n - (intOf i).toNat)
  case atStart => exact ⟨0, by omega, rfl, by simp [Hid]⟩
  case round =>
    obtain ⟨k, hk, rfl, ha⟩ := hrel
    by_cases hlt : k < n
    · obtain ⟨b, o, rfl, hb, hc⟩ := hR.int hlt
      have hF := Lib.hid (hf (l[k]?.getD 0))
      clear hf
      cases hp : p (l[k]?.getD 0)
      · have hnx : Hid ((l.take (k + 1)).any p = false) := by
          have hl : l.length = n := by simpa using hR.len
          show (l.take (k + 1)).any p = false
          rw [List.take_succ_eq_append_getElem (by omega), List.any_append, show (l.take k).any p = false from ha]
          rw [List.getElem?_eq_getElem (by omega)] at hp
          simpa using hp
        rw [hp] at hF
        clear ha hp
        go_wp2_with fail
        refine hF.mono ?_
        rintro e w' ⟨rfl, rfl⟩
        go_wp2
        go_round
        case rel => exact ⟨k + 1, by omega, by go_num, hnx⟩
        case measure => simp [intOf]; omega
      · have hres : Hid (idxF p l = k) := by
          have hl : l.length = n := by simpa using hR.len
          show idxF p l = k
          unfold idxF
          have : l.findIdx? p = some k := by
            rw [List.findIdx?_eq_some_iff_getElem]
            rw [List.getElem?_eq_getElem (by omega)] at hp
            refine ⟨by omega, by simpa using hp, fun j hj => ?_⟩
            have h0 : (l.take k).any p = false := ha
            rw [List.any_eq_false] at h0
            have := h0 l[j] (by rw [List.mem_take_iff_getElem]; exact ⟨j, by omega, rfl⟩)
            simpa using this
          rw [this]
        rw [hp] at hF
        clear ha hp
        go_wp2_with fail
        refine hF.mono ?_
        rintro e w' ⟨rfl, rfl⟩
        go_wp2
        go_ret
        exact ⟨ret_int hres.symm, rfl⟩
    · have hres : Hid (idxF p l = -1) := by
        have hl : l.length = n := by simpa using hR.len
        show idxF p l = -1
        have h0 : (l.take k).any p = false := ha
        rw [List.take_of_length_le (by omega), List.any_eq_false] at h0
        have : l.findIdx? p = none := by
          rw [List.findIdx?_eq_none_iff]
          intro x hx
          simpa using h0 x hx
        unfold idxF; rw [this]
      clear ha
      go_wp2
      go_ret
      exact ⟨ret_int hres.symm, rfl⟩

theorem idxF_any (p : Int → Bool) (l : List Int) : decide (0 ≤ idxF p l) = l.any p := by
  unfold idxF
  cases h : l.findIdx? p with
  | none =>
    rw [List.findIdx?_eq_none_iff] at h
    symm
    simp
    exact h
  | some i =>
    have := List.findIdx?_isSome (xs := l) (p := p)
    rw [h] at this
    simp at this
    simp only [Int.natCast_nonneg, decide_true]
    symm
    simpa using this

theorem containsFunc_any (p : Int → Bool) (g : Nat) (lb : Array Value) (A : Option Addr) (n c : Nat) (l : List Int) (w : World) (hn : n ≤ maxLen)
    (eg : ∀ args w, (callFunc g args).run Try.prog w = .ok (.enter g args) w) (hR : Reads w w.heap.size 1 A n (ints l)) (hf : ∀ x, Calls Try.prog g (#[.int .i64 x] ++ lb) w fun e w' => e = .returned (.bool (p x)) ∧ w' = w) :
    Calls Try.prog 52 #[.slice A n c, .func (.func g) #[] lb] w fun e w' => e = .returned (.bool (l.any p)) ∧ w' = w := by
  have H := Lib.hid (indexFunc_any p g lb A n c l w hn eg hR hf)
  have hi := Lib.hid (idxF_any p l)
  clear hf hR eg
  go_enter Try.func52, Try.ntmps52
  go_wp2_with fail
  refine H.mono ?_
  rintro e w' ⟨rfl, rfl⟩
  go_wp2
  go_ret
  exact ⟨ret_bool hi.out, rfl⟩

/-- All numbers are from lo to hi. -/
def inB (lo hi : Int) (l : List Int) : Bool := l.all fun x => decide (lo ≤ x) && decide (x ≤ hi)

theorem in_any (lo hi : Int) (A : Option Addr) (n c : Nat) (l : List Int) (w : World) (hn : n ≤ maxLen) (hR : Reads w w.heap.size 1 A n (ints l)) :
    Calls Try.prog 32 #[.int .i64 lo, .int .i64 hi, .slice A n c] w fun e w' => e = .returned (.bool (inB lo hi l)) ∧ Below w.heap.size w w' := by
  have hmf : ∀ (fn : Fn) (first cap : Array Value) (w : World), (Instr.makeFunc fn first cap).run Try.prog w = .ok (.func fn first cap) w := fun _ _ _ _ => rfl
  have eg : ∀ args w, (callFunc 53 args).run Try.prog w = .ok (.enter 53 args) w := fun _ _ => by kernel_rfl
  have hR' : Reads ((w.alloc (.cells #[.int .i64 lo] 3)).alloc (.cells #[.int .i64 hi] 3)) ((w.alloc (.cells #[.int .i64 lo] 3)).alloc (.cells #[.int .i64 hi] 3)).heap.size 1 A n (ints l) :=
    ((hR.alloc (Nat.le_refl _) _).alloc (by simp) _).more (by simp; omega)
  have H := Lib.hid (containsFunc_any (fun x => decide (x < lo) || decide (hi < x)) 53 #[.pointer (some ⟨w.heap.size, 0, none⟩), .pointer (some ⟨w.heap.size + 1, 0, none⟩)] A n c l _ hn eg hR'
    (fun x => in1_any x lo hi w.heap.size (w.heap.size + 1) _ (by rw [World.cell?_alloc_past _ _ _ (by simp), World.cell?_alloc_at _ _ _ _ rfl]; rfl) (by rw [World.cell?_alloc_at _ _ _ _ (by simp)]; rfl)))
  have hres : Hid ((!(l.any fun x => decide (x < lo) || decide (hi < x))) = inB lo hi l) := by
    show (!(l.any fun x => decide (x < lo) || decide (hi < x))) = inB lo hi l
    unfold inB
    rw [Bool.eq_iff_iff]
    simp
  clear hR hR' eg
  go_enter Try.func32, Try.ntmps32
  go_wp2_with fail
  refine H.mono ?_
  rintro e w' ⟨rfl, rfl⟩
  go_wp2
  go_ret
  exact ⟨ret_bool hres, ((Below.refl _ _).alloc (Nat.le_refl _) _).alloc (by simp) _⟩

theorem within_any (n lo hi : Int) (w : World) :
    Calls Try.prog 33 #[.int .i64 n, .int .i64 lo, .int .i64 hi] w fun e w' => e = .returned (.bool (decide (lo ≤ n) && decide (n ≤ hi))) ∧ w' = w := by
  by_cases h1 : lo ≤ n
  · go_enter Try.func33, Try.ntmps33
    go_wp2
    all_goals go_ret
    all_goals exact ⟨ret_bool (by simp [*]), rfl⟩
  · go_enter Try.func33, Try.ntmps33
    go_wp2
    go_ret
    exact ⟨ret_bool (by simp; omega), rfl⟩

def twoB (a b : Int) : Bool := (decide (6 ≤ a) && decide (a ≤ 120)) && (decide (6 ≤ b) && decide (b ≤ 120))

theorem Two_any (a b : Int) (w : World) :
    Calls Try.prog 31 #[.int .i64 a, .int .i64 b] w fun e w' => e = .returned (.bool (twoB a b)) ∧ w' = w := by
  cases h1 : (decide (6 ≤ a) && decide (a ≤ 120))
  · have H := Lib.hid (within_any a 6 120 w)
    rw [h1] at H
    go_enter Try.func31, Try.ntmps31
    go_wp2_with fail
    refine H.mono ?_
    rintro e w' ⟨rfl, rfl⟩
    go_wp2
    go_ret
    exact ⟨ret_bool (by unfold twoB; rw [h1]; rfl), rfl⟩
  · have H := Lib.hid (within_any a 6 120 w)
    rw [h1] at H
    go_enter Try.func31, Try.ntmps31
    go_wp2_with fail
    refine H.mono ?_
    rintro e w' ⟨rfl, rfl⟩
    go_wp2_with fail
    refine (within_any b 6 120 w').mono ?_
    rintro e w' ⟨rfl, rfl⟩
    go_wp2
    go_ret
    exact ⟨ret_bool (by unfold twoB; rw [h1]; rfl), rfl⟩

theorem two_any (a b : Int) (w : World) :
    Calls Try.prog 29 #[.agg #[.int .i64 a, .int .i64 b]] w fun e w' => e = .returned (.bool (twoB a b)) ∧ Below w.heap.size w w' := by
  have hB : Below w.heap.size w (w.alloc (.cells #[.int .i64 a, .int .i64 b] 70)) := (Below.refl _ _).alloc (Nat.le_refl _) _
  go_enter Try.func29, Try.ntmps29
  go_wp2_with fail
  refine (in_any 6 120 _ 2 2 [a, b] _ (by unfold maxLen; omega) (Reads.new_ints w [a, b] 70 2 rfl)).mono ?_
  rintro e w' ⟨rfl, hb⟩
  go_wp2
  go_ret
  refine ⟨ret_bool ?_, hB.trans (hb.mono (by simp))⟩
  simp [inB, twoB]

/-- When two wheels' teeth meet again: of valid numbers. -/
theorem meet_yes (a b : Nat) (ha : 6 ≤ a) (ha' : a ≤ 120) (hb : 6 ≤ b) (hb' : b ≤ 120) (w : World) :
    Calls Try.prog 6 #[.int .i64 a, .int .i64 b] w fun e w' =>
      e = .returned (.tuple #[.int .i64 ((b / Nat.gcd a b : Nat) : Int), .int .i64 ((a / Nat.gcd a b : Nat) : Int), .int .i64 0]) ∧ Below w.heap.size w w' := by
  have htw : twoB a b = true := by unfold twoB; simp; omega
  have H := Lib.hid (two_any a b w)
  rw [htw] at H
  have C := fun w => common_any a b (by omega) (by omega) w
  have hg : 0 < Nat.gcd a b := Nat.gcd_pos_of_pos_left _ (by omega)
  have hgi : ((Int.gcd (a : Int) (b : Int) : Nat) : Int) = (Nat.gcd a b : Nat) := rfl
  simp only [hgi] at C
  have C' := Lib.hid C
  clear C htw hgi
  have l1 : b / Nat.gcd a b ≤ b := Nat.div_le_self _ _
  have l2 : a / Nat.gcd a b ≤ a := Nat.div_le_self _ _
  generalize hG : Nat.gcd a b = g at *
  have e1 : Hid (wrap64 ((b : Int) / (g : Int)) = ((b / g : Nat) : Int)) := w64 (n := ((b / g : Nat) : Int)) (Int.le_trans (by decide) (Int.natCast_nonneg _)) (by omega)
  have e2 : Hid (wrap64 ((a : Int) / (g : Int)) = ((a / g : Nat) : Int)) := w64 (n := ((a / g : Nat) : Int)) (Int.le_trans (by decide) (Int.natCast_nonneg _)) (by omega)
  have HG := Lib.hid hG
  clear hG
  go_enter Try.func6, Try.ntmps6
  go_wp2_with fail
  refine H.mono ?_
  rintro e w1 ⟨rfl, hb1⟩
  go_wp2_with fail
  refine (C'.out _).mono ?_
  rintro e w2 ⟨rfl, n, rfl⟩
  go_wp2
  go_quiet (fail)
  go_wp2
  go_ret3
  exact ⟨ret3 (vint e1) (vint e2) rfl, below_drewN (below_drewN hb1 _) _⟩

theorem meet_no (a b : Int) (h : twoB a b = false) (w : World) :
    Calls Try.prog 6 #[.int .i64 a, .int .i64 b] w fun e w' =>
      e = .returned (.tuple #[.int .i64 0, .int .i64 0, .int .i64 2]) ∧ Below w.heap.size w w' := by
  have H := Lib.hid (two_any a b w)
  rw [h] at H
  clear h
  go_enter Try.func6, Try.ntmps6
  go_wp2_with fail
  refine H.mono ?_
  rintro e w1 ⟨rfl, hb1⟩
  go_wp2
  go_ret3
  exact ⟨rfl, hb1⟩

theorem Meet_no (a b : Int) (h : twoB a b = false) (w : World) :
    Calls Try.prog 7 #[.int .i64 a, .int .i64 b] w fun e w' =>
      e = .returned (.tuple #[.int .i64 0, .int .i64 0, .int .i64 2]) ∧ Below w.heap.size w w' := by
  have H := Lib.hid (Two_any a b w)
  rw [h] at H
  clear h
  go_enter Try.func7, Try.ntmps7
  go_wp2_with fail
  refine H.mono ?_
  rintro e w1 ⟨rfl, rfl⟩
  go_wp2
  go_ret3
  exact ⟨rfl, Below.refl _ _⟩

theorem Meet_yes (a b : Nat) (ha : 6 ≤ a) (ha' : a ≤ 120) (hb : 6 ≤ b) (hb' : b ≤ 120) (w : World) :
    Calls Try.prog 7 #[.int .i64 a, .int .i64 b] w fun e w' =>
      e = .returned (.tuple #[.int .i64 ((b / Nat.gcd a b : Nat) : Int), .int .i64 ((a / Nat.gcd a b : Nat) : Int), .int .i64 0]) ∧ Below w.heap.size w w' := by
  have htw : twoB a b = true := by unfold twoB; simp; omega
  have H := Lib.hid (Two_any a b w)
  rw [htw] at H
  clear htw
  have hT0 := Teeth.turns_pos a b (by omega)
  have hTl : b / Nat.gcd a b ≤ b := Nat.div_le_self _ _
  have hOl : a / Nat.gcd a b ≤ a := Nat.div_le_self _ _
  have hW := Lib.hid (Teeth.whole_iff a b · (by omega))
  have hM := Lib.hid (Teeth.turns_mul a b (by omega))
  generalize hT : b / Nat.gcd a b = T at *
  generalize hO : a / Nat.gcd a b = O at *
  clear hT hO
  go_enter Try.func7, Try.ntmps7
  go_wp2_with fail
  refine H.mono ?_
  rintro e w1 ⟨rfl, rfl⟩
  go_wp2
  go_loop [7] (fun i => ∃ k : Nat, 1 ≤ k ∧ k ≤ T ∧ i = .int .i64 k) (fun i => T - (intOf i).toNat)
  case atStart => exact ⟨1, by omega, by omega, rfl⟩
  case round =>
    obtain ⟨k, hk1, hkT, rfl⟩ := hrel
    have hkb : k * a ≤ 120 * 120 := Nat.mul_le_mul (by omega) ha'
    have hka : ((k : Int) * (a : Int)) ≤ 14400 := by have : ((k * a : Nat) : Int) ≤ 14400 := by omega
                                                     simpa using this
    have hk0 : (0 : Int) ≤ (k : Int) * (a : Int) := by have : (0 : Int) ≤ ((k * a : Nat) : Int) := by omega
                                                       simpa using this
    by_cases hz : (k * a) % b = 0
    · have hkk : k = T := by
        have := (hW.out k).1 hz
        exact Nat.le_antisymm hkT (Nat.le_of_dvd (by omega) this)
      have hz' : (((k : Int) * (a : Int)) % (b : Int) != 0) = false := by
        have : (((k * a) % b : Nat) : Int) = 0 := by rw [hz]; rfl
        simpa using this
      have hO : Hid (((k : Int) * (a : Int)) / (b : Int) = (O : Int)) := by
        have h := hM.out
        have : (((k * a) / b : Nat) : Int) = O := by rw [hkk, h]
        show ((k : Int) * (a : Int)) / (b : Int) = (O : Int)
        simpa using this
      subst hkk
      clear hz hkb
      go_wp2
      go_quiet (fail)
      go_wp2
      go_ret3
      exact ⟨ret3 rfl (vint hO) rfl, below_drewN (Below.refl _ _) _⟩
    · have hlt : k < T := by
        rcases Nat.lt_or_ge k T with h | h
        · exact h
        · exact absurd ((hW.out k).2 ⟨1, by omega⟩) hz
      have hz' : (((k : Int) * (a : Int)) % (b : Int) != 0) = true := by
        have : (((k * a) % b : Nat) : Int) ≠ 0 := by omega
        simpa using this
      clear hz hkb
      go_wp2
      go_round
      case rel => exact ⟨k + 1, by omega, by omega, by go_num⟩
      case measure => simp [intOf]; omega
end Go.Proofs.Ytlmmjaolmmcklaa
