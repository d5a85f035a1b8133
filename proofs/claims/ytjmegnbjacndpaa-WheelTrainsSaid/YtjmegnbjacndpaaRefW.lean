/-
  The reference's wheels: checks and common divisors.
-/
import Derived.Test.YtjmegnbjacndpaaAgainP
namespace Go.Proofs.Ytjmegnbjacndpaa
open Go.RowKit Go.Maps
theorem rcommon_any (a b : Int) (ha : 0 ≤ a) (hb : 0 ≤ b) (w : World) :
    Calls Try.prog 31 #[.int .i64 a, .int .i64 b] w fun e w' => e = .returned (.int .i64 (Int.gcd a b)) ∧ ∃ n, w' = w.drewN n := by
  go_enter Try.func31, Try.ntmps31
  go_wp2
  go_loopw [0, 1] (fun x y wr => ∃ c d : Int, 0 ≤ c ∧ 0 ≤ d ∧ x = .int .i64 c ∧ y = .int .i64 d ∧ Hid (((Int.gcd c d : Nat) : Int) = Int.gcd a b) ∧ ∃ n, wr = w.drewN n) (fun _ y _ => (intOf y).toNat)
  case atStart => exact ⟨a, b, ha, hb, rfl, rfl, rfl, 0, rfl⟩
  case round =>
    obtain ⟨c, d, hc, hd, rfl, rfl, hg, n, rfl⟩ := hrel
    by_cases hz : d = 0
    · have hz' : (d != 0) = false := by simpa using hz
      have hgc : ((Int.gcd c d : Nat) : Int) = c := by rw [hz, Int.gcd_zero_right]; omega
      have hr : Hid (c = Int.gcd a b) := by rw [← hg]; exact hgc.symm
      clear hz hg hgc
      go_wp2
      go_ret
      exact ⟨ret_int hr, n, rfl⟩
    · have hz' : (d != 0) = true := by simpa using hz
      have hlt : c % d < d := Int.emod_lt_of_pos _ (by omega)
      have hnn : 0 ≤ c % d := Int.emod_nonneg _ hz
      have hg' : Hid (((Int.gcd d (c % d) : Nat) : Int) = Int.gcd a b) := (gcd_step c d hc hd).trans hg
      clear hg
      go_wp2
      go_quiet (fail)
      go_wp2
      go_roundw
      case rel => exact ⟨d, c % d, hd, hnn, rfl, rfl, hg', _, World.drewN_drewN _ _ _⟩
      case measure => simp [intOf]; omega
theorem inB_take (lo hi : Int) (l : List Int) (k : Nat) (h : k < l.length) : inB lo hi (l.take (k + 1)) = (inB lo hi (l.take k) && (decide (lo ≤ l[k]) && decide (l[k] ≤ hi))) := by
  unfold inB
  rw [List.take_succ_eq_append_getElem h, List.all_append]
  simp
set_option maxRecDepth 100000 in
theorem Wheels_any (A : Option Addr) (n c : Nat) (ts : List Int) (hn : n ≤ 20) (w : World) (hT : Reads w w.heap.size 1 A n (ints ts)) :
    Calls Try.prog 23 #[.agg #[.slice A n c]] w fun e w' => e = .returned (.bool (okW n ts)) ∧ Below w.heap.size w w' := by
  have hl : ts.length = n := by simpa using hT.len
  have hB := Lib.hid ((Below.refl w.heap.size w).alloc (Nat.le_refl _) (.cells #[.slice A n c] 24))
  have hT' := hT.alloc (Nat.le_refl _) (.cells #[.slice A n c] 24)
  have hc0 := cellN w (.slice A n c) 24
  have hok : Hid (okW n ts = (decide (n ≤ 8) && inB 6 120 ts)) := Lib.hid rfl
  clear hT
  go_enter Try.func23, Try.ntmps23
  go_wp2
  generalize w.alloc (.cells #[.slice A n c] 24) = wq at *
  go_loop [8] (fun i => ∃ k : Nat, k ≤ n ∧ i = .int .i64 k ∧ Hid (inB 6 120 (ts.take k) = true)) (fun i => n - (intOf i).toNat)
  case atStart => exact ⟨0, by omega, rfl, Lib.hid rfl⟩
  case round =>
    obtain ⟨k, hk, rfl, ha⟩ := hrel
    by_cases hlt : k < n
    · obtain ⟨b, o, rfl, hb, hc⟩ := hT'.int hlt
      have hs := inB_take 6 120 ts k (by omega)
      rw [ha.out] at hs
      rw [List.getElem?_eq_getElem (by omega)] at hc
      simp only [Option.getD_some] at hc
      have H := Lib.hid (within_any ts[k] 6 120 wq)
      generalize hx : ts[k] = x at *
      cases hv : (decide (6 ≤ x) && decide (x ≤ 120))
      · have hres : Hid (false = okW n ts) := Lib.hid (by
          rw [hok.out]
          cases hi : inB 6 120 ts
          · simp
          · exfalso
            rw [hv] at hs
            have : inB 6 120 (ts.take (k + 1)) = true := by
              unfold inB at hi ⊢
              rw [List.all_eq_true] at hi ⊢
              exact fun y hy => hi y (List.mem_of_mem_take hy)
            rw [this] at hs
            simp at hs)
        rw [hv] at H
        clear hs hx hv ha hok
        go_wp2_with fail
        refine H.out.mono ?_
        rintro e w' ⟨rfl, rfl⟩
        go_wp2
        go_ret
        exact ⟨ret_bool hres.out, hB.out⟩
      · have hnx : Hid (inB 6 120 (ts.take (k + 1)) = true) := Lib.hid (by rw [hs, hv]; rfl)
        rw [hv] at H
        clear hs hx hv ha hok
        go_wp2_with fail
        refine H.out.mono ?_
        rintro e w' ⟨rfl, rfl⟩
        go_wp2
        go_round
        case rel => exact ⟨k + 1, by omega, by go_num, hnx⟩
        case measure => simp [intOf]; omega
    · have he : ts.take k = ts := List.take_of_length_le (by omega)
      rw [he] at ha
      have hres : Hid (decide (n ≤ 8) = okW n ts) := Lib.hid (by rw [hok.out, ha.out]; simp)
      clear ha hok
      go_wp2
      go_ret
      exact ⟨ret_bool (by rw [← hres.out]; simp; omega), hB.out⟩
end Go.Proofs.Ytjmegnbjacndpaa
