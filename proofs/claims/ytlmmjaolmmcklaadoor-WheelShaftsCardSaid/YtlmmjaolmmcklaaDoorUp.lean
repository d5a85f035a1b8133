/-
  The walk of the reference's question whether a stamper is up at a mark; of the greatest number of a list.
-/
import Derived.Test.YtlmmjaolmmcklaaDoorLoadsP
namespace Go.Proofs.YtlmmjaolmmcklaaDoor
open Go.RowKit

set_option maxRecDepth 100000 in
set_option maxHeartbeats 1000000 in
theorem up_any (m : Nat) (A : Option Addr) (n c k j : Nat) (l : List St3) (s C U P : Int) (w : World) (hx : l[k]? = some (C, U, P)) (hv : shaftB m l = true) (hk : k < n) (hR : Reads w w.heap.size 3 A n (sts l)) (hs0 : 0 ≤ s) (hs1 : s < m / C) (hj : j < m) :
    Calls Tryd.prog 79 #[.agg #[.int .i64 m, .slice A n c], .int .i64 k, .int .i64 s, .int .i64 j] w fun e w' => e = .returned (.bool (upB m (C, U, P) s j)) ∧ Below w.heap.size w w' := by
  obtain ⟨hM1, hM2, hn4⟩ := shaft_bounds hv
  obtain ⟨hC1, hC2, hCM, hU1, hU2, -, -⟩ := shaft_st hv hx
  obtain ⟨b, o0, C', U', P', rfl, hb, hx', c0, c1, c2⟩ := hR.st hk
  rw [hx] at hx'
  simp only [Option.some.injEq, Prod.mk.injEq] at hx'
  obtain ⟨rfl, rfl, rfl⟩ := hx'
  have hiff := Lib.hid (up_iff (M := m) (s := s) (mark := j) hC1 hCM hU1 hU2 hs1 (by omega) (by omega))
  have hup : Hid (upB m (C, U, P) s j = decide (((j : Int) - s + m) % (m / C) < U)) := rfl
  clear hR hx hCM
  have d1 : (m : Int).tdiv C = m / C := Int.tdiv_eq_ediv_of_nonneg (by omega)
  have hd0 : 0 < (m : Int) / C := by omega
  have hd1 : (m : Int) / C ≤ m := Int.ediv_le_self _ (by omega)
  generalize (m : Int) / C = d at *
  have z1 : wrap64 d = d := w64 (by omega) (by omega)
  have Cz : ¬ C = 0 := by omega
  have Cz' : (C == 0) = false := by simpa using Cz
  have mz : ¬ (m : Int) = 0 := by omega
  have mz' : ((m : Int) == 0) = false := by simpa using mz
  have k0 : ∀ o, (w.alloc o).cell? ⟨b, o0 + k * 3, none⟩ = some (.int .i64 C) := fun o => by rw [World.cell?_alloc_lt _ _ _ hb]; exact c0
  have k1 : ∀ o, (w.alloc o).cell? ⟨b, o0 + k * 3 + 1, none⟩ = some (.int .i64 U) := fun o => by rw [World.cell?_alloc_lt _ _ _ hb]; exact c1
  have k2 : ∀ o, (w.alloc o).cell? ⟨b, o0 + k * 3 + 2, none⟩ = some (.int .i64 P) := fun o => by rw [World.cell?_alloc_lt _ _ _ hb]; exact c2
  have HB : Hid (Below w.heap.size w ((w.alloc (.cells #[.int .i64 m, .slice (some ⟨b, o0, none⟩) n c] 24)).alloc (.cells #[.int .i64 C, .int .i64 U, .int .i64 P] 27))) := ((Below.refl _ _).alloc (Nat.le_refl _) _).alloc (by simp) _
  have g0 : ((w.alloc (.cells #[.int .i64 m, .slice (some ⟨b, o0, none⟩) n c] 24)).alloc (.cells #[.int .i64 C, .int .i64 U, .int .i64 P] 27)).cell? ⟨w.heap.size, 0, none⟩ = some (.int .i64 m) := by
    rw [World.cell?_alloc_lt _ _ _ (by simp), World.cell?_alloc_at _ _ _ _ rfl]; rfl
  have g1 : ((w.alloc (.cells #[.int .i64 m, .slice (some ⟨b, o0, none⟩) n c] 24)).alloc (.cells #[.int .i64 C, .int .i64 U, .int .i64 P] 27)).cell? ⟨w.heap.size + 1, 0, none⟩ = some (.int .i64 C) := by
    rw [World.cell?_alloc_at _ _ _ _ (by simp)]; rfl
  have g2 : ((w.alloc (.cells #[.int .i64 m, .slice (some ⟨b, o0, none⟩) n c] 24)).alloc (.cells #[.int .i64 C, .int .i64 U, .int .i64 P] 27)).cell? ⟨w.heap.size + 1, 1, none⟩ = some (.int .i64 U) := by
    rw [World.cell?_alloc_at _ _ _ _ (by simp)]; rfl
  clear c0 c1 c2
  go_enter Tryd.func79, Tryd.ntmps79
  go_wp2
  generalize ((w.alloc (.cells #[.int .i64 m, .slice (some ⟨b, o0, none⟩) n c] 24)).alloc (.cells #[.int .i64 C, .int .i64 U, .int .i64 P] 27)) = wb at *
  clear k0 k1 k2
  obtain ⟨Cn, rfl⟩ := Int.eq_ofNat_of_zero_le (by omega : 0 ≤ C)
  obtain ⟨Un, rfl⟩ := Int.eq_ofNat_of_zero_le (by omega : 0 ≤ U)
  go_loopw [10] (fun x wr => ∃ a : Nat, a ≤ Cn ∧ x = .int .i64 a ∧ Hid (∀ cam q : Int, 0 ≤ cam → cam < a → 0 ≤ q → q < Un → (s + cam * d + q) % m ≠ j) ∧ Hid (∃ q, wr = wb.drewN q)) (fun x _ => Cn - (intOf x).toNat)
  case atStart => exact ⟨0, by omega, rfl, fun cam q h0 h1 _ _ => absurd h1 (by push_cast; omega), 0, rfl⟩
  case round =>
    obtain ⟨a, ha, rfl, hno, hq⟩ := hrel
    obtain ⟨q, rfl⟩ := hq.out
    clear hq
    by_cases hlt : a < Cn
    · go_wp2
      go_loopw [11] (fun x wr => ∃ t : Nat, t ≤ Un ∧ x = .int .i64 t ∧ Hid (∀ q : Int, 0 ≤ q → q < t → (s + a * d + q) % m ≠ j) ∧ Hid (∃ q, wr = wb.drewN q)) (fun x _ => Un - (intOf x).toNat)
      case atStart => exact ⟨0, by omega, rfl, fun q h0 h1 => absurd h1 (by push_cast; omega), q, rfl⟩
      case round =>
        obtain ⟨t, ht, rfl, hno2, hq⟩ := hrel
        obtain ⟨q, rfl⟩ := hq.out
        clear hq
        by_cases htU : t < Un
        · have p0 : 0 ≤ (a : Int) * d := Int.mul_nonneg (by omega) (by omega)
          have p1 : (a : Int) * d ≤ 12 * 12 := Int.mul_le_mul (by omega) (by omega) (by omega) (by omega)
          have z2 : wrap64 ((a : Int) * d) = a * d := w64 (by omega) (by omega)
          have z3 : wrap64 (s + (a : Int) * d) = s + a * d := w64 (by omega) (by omega)
          have z4 : wrap64 (s + (a : Int) * d + t) = s + a * d + t := w64 (by omega) (by omega)
          have d2 : (s + (a : Int) * d + t).tmod m = (s + a * d + t) % m := Int.tmod_eq_emod_of_nonneg (by omega)
          have r0 := Int.emod_nonneg (s + (a : Int) * d + t) mz
          have r1 := Int.emod_lt_of_pos (s + (a : Int) * d + t) (by omega : (0 : Int) < m)
          have z5 : wrap64 ((s + (a : Int) * d + t) % m) = (s + a * d + t) % m := w64 (by omega) (by omega)
          by_cases he : (s + (a : Int) * d + t) % m = j
          · have he' : ((s + (a : Int) * d + t) % m == (j : Int)) = true := by simpa using he
            have hres : Hid (upB m (Cn, Un, P) s j = true) := by
              show _ = _
              rw [hup.out]
              simpa using hiff.out.1 ⟨a, t, by omega, by omega, by omega, by omega, he⟩
            clear he p0 p1 r0 r1 hno hno2 hiff hup
            go_wp2
            go_quiet (fail)
            go_wp2
            go_ret
            exact ⟨ret_bool hres.out.symm, (by first | exact below_drewN HB.out _ | exact below_drewN (below_drewN HB.out _) _)⟩
          · have he' : ((s + (a : Int) * d + t) % m == (j : Int)) = false := by simpa using he
            have hnx : Hid (∀ q : Int, 0 ≤ q → q < ((t + 1 : Nat) : Int) → (s + a * d + q) % m ≠ j) := by
              intro q h0 h1
              by_cases hqt : q = t
              · subst hqt; exact he
              · exact hno2 q h0 (by push_cast at h1; omega)
            clear he p0 p1 r0 r1 hno2
            go_wp2
            go_quiet (fail)
            go_wp2
            go_roundw
            case rel => exact ⟨t + 1, by omega, by go_num, hnx, (by first | exact ⟨_, rfl⟩ | exact ⟨_, World.drewN_drewN _ _ _⟩)⟩
            case measure => simp [intOf]; omega
        · have htU' : t = Un := by omega
          subst htU'
          have hnx : Hid (∀ cam q : Int, 0 ≤ cam → cam < ((a + 1 : Nat) : Int) → 0 ≤ q → q < t → (s + cam * d + q) % m ≠ j) := by
            intro cam q h0 h1 h2 h3
            by_cases hca : cam = a
            · subst hca; exact hno2 q h2 h3
            · exact hno cam q h0 (by push_cast at h1; omega) h2 h3
          clear hno hno2
          go_wp2
          go_roundw
          case rel => exact ⟨a + 1, by omega, by go_num, hnx, ⟨_, rfl⟩⟩
          case measure => simp [intOf]; omega
    · have hac : a = Cn := by omega
      subst hac
      have hres : Hid (upB m (a, Un, P) s j = false) := by
        show _ = _
        rw [hup.out]
        simp only [decide_eq_false_iff_not]
        intro h
        obtain ⟨cam, q, h0, h1, h2, h3, h4⟩ := hiff.out.2 h
        exact hno cam q h0 h1 h2 h3 h4
      clear hno hiff hup
      go_wp2
      go_ret
      exact ⟨ret_bool hres.out.symm, below_drewN HB.out _⟩

theorem foldl_take {l : List Int} {k : Nat} {x a : Int} (hx : l[k]? = some x) : (l.take (k + 1)).foldl max a = max ((l.take k).foldl max a) x := by
  rw [List.take_add_one, List.foldl_append, hx]; rfl

theorem greatest_any (A : Option Addr) (n c : Nat) (l : List Int) (w : World) (hn : n ≤ 4096) (hR : Reads w w.heap.size 1 A n (ints l)) :
    Calls Tryd.prog 82 #[.slice A n c] w fun e w' => e = .returned (.int .i64 (greatest l)) ∧ w' = w := by
  have hl : l.length = n := by simpa using hR.len
  go_enter Tryd.func82, Tryd.ntmps82
  go_wp2
  go_loop [3, 8] (fun y x => ∃ k : Nat, k ≤ n ∧ x = .int .i64 k ∧ y = .int .i64 ((l.take k).foldl max 0)) (fun _ x => n - (intOf x).toNat)
  case atStart => exact ⟨0, by omega, rfl, rfl⟩
  case round =>
    obtain ⟨k, hk, rfl, rfl⟩ := hrel
    by_cases hlt : k < n
    · obtain ⟨b, o, rfl, hb, hc⟩ := hR.int hlt
      have hs := foldl_take (a := 0) (get_of_lt (l := l) (k := k) (by omega))
      generalize l[k]?.getD 0 = x at *
      have hs' := Lib.hid hs
      clear hs
      go_wp2
      go_round
      case rel => exact ⟨k + 1, by omega, by go_num, by rw [hs'.out]; exact vint (by split <;> omega)⟩
      case measure => simp [intOf]; omega
    · have hg : Hid ((l.take k).foldl max 0 = greatest l) := by
        show _ = _
        rw [List.take_of_length_le (by omega)]; rfl
      go_wp2
      go_ret
      exact ⟨ret_int hg.out, rfl⟩

theorem foldl_max_first {x : Int} {l : List Int} (h : 0 ≤ x) : (x :: l).foldl max 0 = l.foldl max x := by
  rw [List.foldl_cons, show max 0 x = x by omega]

theorem max_any (A : Option Addr) (n c : Nat) (l : List Int) (w : World) (hn : n ≤ 4096) (h1 : 1 ≤ n) (h0 : ∀ x ∈ l, 0 ≤ x) (hR : Reads w w.heap.size 1 A n (ints l)) :
    Calls Tryd.prog 81 #[.slice A n c] w fun e w' => e = .returned (.int .i64 (greatest l)) ∧ w' = w := by
  have hl : l.length = n := by simpa using hR.len
  obtain ⟨b, o, rfl, hb, hc0⟩ := hR.int h1
  have hx0 := get_of_lt (l := l) (k := 0) (by omega)
  have hf : (l.take 1).foldl max 0 = l[0]?.getD 0 := by
    have := foldl_take (a := 0) hx0
    rw [this]
    have := h0 _ (List.mem_of_getElem? hx0)
    simp only [List.take_zero, List.foldl_nil]
    omega
  have hf' := Lib.hid hf
  clear hx0 hf h0
  generalize l[0]?.getD 0 = x0 at *
  have hc0' : w.cell? ⟨b, o, none⟩ = some (.int .i64 x0) := hc0
  clear hc0
  go_enter Tryd.func81, Tryd.ntmps81
  go_wp2
  go_loop [3, 4] (fun y x => ∃ k : Nat, 1 ≤ k ∧ k ≤ n ∧ x = .int .i64 k ∧ y = .int .i64 ((l.take k).foldl max 0)) (fun _ x => n - (intOf x).toNat)
  case atStart => exact ⟨1, by omega, by omega, rfl, by rw [hf'.out]⟩
  case round =>
    obtain ⟨k, hk1, hk, rfl, rfl⟩ := hrel
    by_cases hlt : k < n
    · obtain ⟨b', o', e, -, hc⟩ := hR.int hlt
      simp only [Option.some.injEq, Addr.mk.injEq, and_true] at e
      obtain ⟨rfl, rfl⟩ := e
      have hs := foldl_take (a := 0) (get_of_lt (l := l) (k := k) (by omega))
      generalize l[k]?.getD 0 = x at *
      have hs' := Lib.hid hs
      clear hs
      go_wp2
      go_round
      case rel => exact ⟨k + 1, by omega, by omega, by go_num, by rw [hs'.out]; exact vint (by split <;> omega)⟩
      case measure => simp [intOf]; omega
    · have hg : Hid ((l.take k).foldl max 0 = greatest l) := by
        show _ = _
        rw [List.take_of_length_le (by omega)]; rfl
      go_wp2
      go_ret
      exact ⟨ret_int hg.out, rfl⟩
end Go.Proofs.YtlmmjaolmmcklaaDoor
