/-
  The walks of the functions on teeth: greatest common divisors, ranges of numbers, and lists that are compared.
-/
import Derived.Test.YtjmegnbjacndpaaKit
import Derived.Test.YtjmegnbjacndpaaTeethM
namespace Go.Proofs.Ytjmegnbjacndpaa
open Go.RowKit
theorem gcd_step (a b : Int) (ha : 0 ≤ a) (hb : 0 ≤ b) : ((Int.gcd b (a % b) : Nat) : Int) = Int.gcd a b := by
  obtain ⟨a, rfl⟩ := Int.eq_ofNat_of_zero_le ha
  obtain ⟨b, rfl⟩ := Int.eq_ofNat_of_zero_le hb
  have : ((a : Int) % (b : Int)) = ((a % b : Nat) : Int) := rfl
  rw [this]
  simp only [Int.gcd, Int.natAbs_natCast]
  rw [Nat.gcd_comm a b, Nat.gcd_comm b (a % b), ← Nat.gcd_rec]
theorem common_any (a b : Int) (ha : 0 ≤ a) (hb : 0 ≤ b) (w : World) :
    Calls Try.prog 46 #[.int .i64 a, .int .i64 b] w fun e w' => e = .returned (.int .i64 (Int.gcd a b)) ∧ ∃ n, w' = w.drewN n := by
  go_enter Try.func46, Try.ntmps46
  go_wp2
  go_loopw [0, 1] (fun x y wr => ∃ c d : Int, 0 ≤ c ∧ 0 ≤ d ∧ x = .int .i64 c ∧ y = .int .i64 d ∧ Hid (((Int.gcd c d : Nat) : Int) = Int.gcd a b) ∧ ∃ n, wr = w.drewN n) (fun _ y _ => (intOf y).toNat)
  case atStart => exact ⟨a, b, ha, hb, rfl, rfl, rfl, 0, rfl⟩
  case round =>
    obtain ⟨c, d, hc, hd, rfl, rfl, hg, n, rfl⟩ := hrel
    by_cases hz : d = 0
    · have hz' : (d != 0) = false := by simpa using hz
      have hgc : ((Int.gcd c d : Nat) : Int) = c := by rw [hz, Int.gcd_zero_right]; omega
      have hr : Hid (c = Int.gcd a b) := by rw [← hg]; exact hgc.symm
      clear hz hg hgc
      go_wp2
      go_ret
      exact ⟨ret_int hr, n, rfl⟩
    · have hz' : (d != 0) = true := by simpa using hz
      have hlt : c % d < d := Int.emod_lt_of_pos _ (by omega)
      have hnn : 0 ≤ c % d := Int.emod_nonneg _ hz
      have hg' : Hid (((Int.gcd d (c % d) : Nat) : Int) = Int.gcd a b) := (gcd_step c d hc hd).trans hg
      clear hg
      go_wp2
      go_quiet (fail)
      go_wp2
      go_roundw
      case rel => exact ⟨d, c % d, hd, hnn, rfl, rfl, hg', _, World.drewN_drewN _ _ _⟩
      case measure => simp [intOf]; omega
theorem in1_any (x lo hi : Int) (b b' : Nat) (w : World) (hl : w.cell? ⟨b, 0, none⟩ = some (.int .i64 lo)) (hh : w.cell? ⟨b', 0, none⟩ = some (.int .i64 hi)) :
    Calls Try.prog 34 #[.int .i64 x, .pointer (some ⟨b, 0, none⟩), .pointer (some ⟨b', 0, none⟩)] w fun e w' => e = .returned (.bool (decide (x < lo) || decide (hi < x))) ∧ w' = w := by
  by_cases h1 : x < lo
  · go_enter Try.func34, Try.ntmps34
    go_wp2
    go_ret
    exact ⟨ret_bool (by simp [h1]), rfl⟩
  · by_cases h2 : hi < x
    · go_enter Try.func34, Try.ntmps34
      go_wp2
      go_ret
      exact ⟨ret_bool (by simp), rfl⟩
    · go_enter Try.func34, Try.ntmps34
      go_wp2
      go_ret
      exact ⟨ret_bool (by simp [h1, h2]), rfl⟩
def idxF (p : Int → Bool) (l : List Int) : Int := match l.findIdx? p with | some i => i | none => -1
theorem indexFunc_any (p : Int → Bool) (g : Nat) (lb : Array Value) (A : Option Addr) (n c : Nat) (l : List Int) (w : World) (hn : n ≤ maxLen)
    (eg : ∀ args w, (callFunc g args).run Try.prog w = .ok (.enter g args) w) (hR : Reads w w.heap.size 1 A n (ints l)) (hf : ∀ x, Calls Try.prog g (#[.int .i64 x] ++ lb) w fun e w' => e = .returned (.bool (p x)) ∧ w' = w) :
    Calls Try.prog 47 #[.slice A n c, .func (.func g) #[] lb] w fun e w' => e = .returned (.int .i64 (idxF p l)) ∧ w' = w := by
  unfold maxLen at hn
  go_enter Try.func47, Try.ntmps47
  go_wp2
  go_loop [8] (fun i => ∃ k : Nat, k ≤ n ∧ i = .int .i64 k ∧ Hid ((l.take k).any p = false)) (fun i => n - (intOf i).toNat)
  case atStart => exact ⟨0, by omega, rfl, by simp [Hid]⟩
  case round =>
    obtain ⟨k, hk, rfl, ha⟩ := hrel
    by_cases hlt : k < n
    · obtain ⟨b, o, rfl, hb, hc⟩ := hR.int hlt
      have hF := Lib.hid (hf (l[k]?.getD 0))
      clear hf
      cases hp : p (l[k]?.getD 0)
      · have hnx : Hid ((l.take (k + 1)).any p = false) := by
          have hl : l.length = n := by simpa using hR.len
          show (l.take (k + 1)).any p = false
          rw [List.take_succ_eq_append_getElem (by omega), List.any_append, show (l.take k).any p = false from ha]
          rw [List.getElem?_eq_getElem (by omega)] at hp
          simpa using hp
        rw [hp] at hF
        clear ha hp
        go_wp2_with fail
        refine hF.mono ?_
        rintro e w' ⟨rfl, rfl⟩
        go_wp2
        go_round
        case rel => exact ⟨k + 1, by omega, by go_num, hnx⟩
        case measure => simp [intOf]; omega
      · have hres : Hid (idxF p l = k) := by
          have hl : l.length = n := by simpa using hR.len
          show idxF p l = k
          unfold idxF
          have : l.findIdx? p = some k := by
            rw [List.findIdx?_eq_some_iff_getElem]
            rw [List.getElem?_eq_getElem (by omega)] at hp
            refine ⟨by omega, by simpa using hp, fun j hj => ?_⟩
            have h0 : (l.take k).any p = false := ha
            rw [List.any_eq_false] at h0
            have := h0 l[j] (by rw [List.mem_take_iff_getElem]; exact ⟨j, by omega, rfl⟩)
            simpa using this
          rw [this]
        rw [hp] at hF
        clear ha hp
        go_wp2_with fail
        refine hF.mono ?_
        rintro e w' ⟨rfl, rfl⟩
        go_wp2
        go_ret
        exact ⟨ret_int hres.symm, rfl⟩
    · have hres : Hid (idxF p l = -1) := by
        have hl : l.length = n := by simpa using hR.len
        show idxF p l = -1
        have h0 : (l.take k).any p = false := ha
        rw [List.take_of_length_le (by omega), List.any_eq_false] at h0
        have : l.findIdx? p = none := by
          rw [List.findIdx?_eq_none_iff]
          intro x hx
          simpa using h0 x hx
        unfold idxF; rw [this]
      clear ha
      go_wp2
      go_ret
      exact ⟨ret_int hres.symm, rfl⟩
theorem idxF_any (p : Int → Bool) (l : List Int) : decide (0 ≤ idxF p l) = l.any p := by
  unfold idxF
  cases h : l.findIdx? p with
  | none =>
    rw [List.findIdx?_eq_none_iff] at h
    symm
    simp
    exact h
  | some i =>
    have := List.findIdx?_isSome (xs := l) (p := p)
    rw [h] at this
    simp at this
    simp only [Int.natCast_nonneg, decide_true]
    symm
    simpa using this
theorem containsFunc_any (p : Int → Bool) (g : Nat) (lb : Array Value) (A : Option Addr) (n c : Nat) (l : List Int) (w : World) (hn : n ≤ maxLen)
    (eg : ∀ args w, (callFunc g args).run Try.prog w = .ok (.enter g args) w) (hR : Reads w w.heap.size 1 A n (ints l)) (hf : ∀ x, Calls Try.prog g (#[.int .i64 x] ++ lb) w fun e w' => e = .returned (.bool (p x)) ∧ w' = w) :
    Calls Try.prog 33 #[.slice A n c, .func (.func g) #[] lb] w fun e w' => e = .returned (.bool (l.any p)) ∧ w' = w := by
  have H := Lib.hid (indexFunc_any p g lb A n c l w hn eg hR hf)
  have hi := Lib.hid (idxF_any p l)
  clear hf hR eg
  go_enter Try.func33, Try.ntmps33
  go_wp2_with fail
  refine H.mono ?_
  rintro e w' ⟨rfl, rfl⟩
  go_wp2
  go_ret
  exact ⟨ret_bool hi.out, rfl⟩
/-- All numbers are from lo to hi. -/
def inB (lo hi : Int) (l : List Int) : Bool := l.all fun x => decide (lo ≤ x) && decide (x ≤ hi)
theorem in_any (lo hi : Int) (A : Option Addr) (n c : Nat) (l : List Int) (w : World) (hn : n ≤ maxLen) (hR : Reads w w.heap.size 1 A n (ints l)) :
    Calls Try.prog 16 #[.int .i64 lo, .int .i64 hi, .slice A n c] w fun e w' => e = .returned (.bool (inB lo hi l)) ∧ Below w.heap.size w w' := by
  have hmf : ∀ (fn : Fn) (first cap : Array Value) (w : World), (Instr.makeFunc fn first cap).run Try.prog w = .ok (.func fn first cap) w := fun _ _ _ _ => rfl
  have eg : ∀ args w, (callFunc 34 args).run Try.prog w = .ok (.enter 34 args) w := fun _ _ => by kernel_rfl
  have hR' : Reads ((w.alloc (.cells #[.int .i64 lo] 3)).alloc (.cells #[.int .i64 hi] 3)) ((w.alloc (.cells #[.int .i64 lo] 3)).alloc (.cells #[.int .i64 hi] 3)).heap.size 1 A n (ints l) :=
    ((hR.alloc (Nat.le_refl _) _).alloc (by simp) _).more (by simp; omega)
  have H := Lib.hid (containsFunc_any (fun x => decide (x < lo) || decide (hi < x)) 34 #[.pointer (some ⟨w.heap.size, 0, none⟩), .pointer (some ⟨w.heap.size + 1, 0, none⟩)] A n c l _ hn eg hR'
    (fun x => in1_any x lo hi w.heap.size (w.heap.size + 1) _ (by rw [World.cell?_alloc_past _ _ _ (by simp), World.cell?_alloc_at _ _ _ _ rfl]; rfl) (by rw [World.cell?_alloc_at _ _ _ _ (by simp)]; rfl)))
  have hres : Hid ((!(l.any fun x => decide (x < lo) || decide (hi < x))) = inB lo hi l) := by
    show (!(l.any fun x => decide (x < lo) || decide (hi < x))) = inB lo hi l
    unfold inB
    rw [Bool.eq_iff_iff]
    simp
  clear hR hR' eg
  go_enter Try.func16, Try.ntmps16
  go_wp2_with fail
  refine H.mono ?_
  rintro e w' ⟨rfl, rfl⟩
  go_wp2
  go_ret
  exact ⟨ret_bool hres, ((Below.refl _ _).alloc (Nat.le_refl _) _).alloc (by simp) _⟩
theorem within_any (n lo hi : Int) (w : World) :
    Calls Try.prog 25 #[.int .i64 n, .int .i64 lo, .int .i64 hi] w fun e w' => e = .returned (.bool (decide (lo ≤ n) && decide (n ≤ hi))) ∧ w' = w := by
  by_cases h1 : lo ≤ n
  · go_enter Try.func25, Try.ntmps25
    go_wp2
    all_goals go_ret
    all_goals exact ⟨ret_bool (by simp [*]), rfl⟩
  · go_enter Try.func25, Try.ntmps25
    go_wp2
    go_ret
    exact ⟨ret_bool (by simp; omega), rfl⟩
end Go.Proofs.Ytjmegnbjacndpaa
