/-
  Whether all pairs of a train hunt.
-/
import Derived.Test.YtlmmjaolmmcklaaTop
namespace Go.Proofs.Ytlmmjaolmmcklaa
open Go.RowKit Go.Maps

/-- Whether all pairs hunt. -/
def huntsB (ts : List Int) (l : List (Int × Int)) : Bool := l.all fun x => decide (Int.gcd (tAt ts x.1) (tAt ts x.2) ≤ 1)

set_option maxRecDepth 100000 in
theorem Hunts_bad (A A' : Option Addr) (n c m c' : Nat) (E : Int) (w : World) (hE : E = 100 ∨ E = 101) (hS : Hid (St w A A' n c m c' (.slice none 0 0) E)) :
    Calls Try.prog 15 #[.agg #[.slice A n c], .slice A' m c'] w fun e w' => e = .returned (.tuple #[.bool false, .int .i64 E]) ∧ Below w.heap.size w w' := by
  have hB := Lib.hid ((Below.refl w.heap.size w).alloc (Nat.le_refl _) (.cells #[.slice A n c] 35))
  have H := Lib.hid (hS.out _ hB.out)
  have hE0 : ¬ E = 0 := by omega
  clear hS
  go_enter Try.func15, Try.ntmps15
  go_wp2_with fail
  refine H.out.mono ?_
  rintro e w1 ⟨rfl, hb1⟩
  have hB1 := Lib.hid (below_in (Below.refl w.heap.size w) (Nat.le_refl _) hb1)
  have hB2 := Lib.hid (hB1.out.alloc hB1.out.size (.cells #[.slice none 0 0] 76))
  clear hb1 hB H hB1
  go_wp2
  go_ret2
  exact ⟨rfl, hB2.out⟩

set_option maxRecDepth 100000 in
theorem Hunts_good (A A' : Option Addr) (n c m c' : Nat) (hn : n ≤ 20) (ts : List Int) (l : List (Int × Int)) (hO : Okay n ts l) (w : World) (hT : Reads w w.heap.size 1 A n (ints ts)) (hR : Reads w w.heap.size 2 A' m (prs l)) (hS : Hid (St w A A' n c m c' (.slice A n c) 0)) :
    Calls Try.prog 15 #[.agg #[.slice A n c], .slice A' m c'] w fun e w' => e = .returned (.tuple #[.bool (huntsB ts l), .int .i64 0]) ∧ Below w.heap.size w w' := by
  have hl : l.length = m := hR.pr_len
  have hl3 : m ≤ 3 := hl ▸ hO.len
  have hB := Lib.hid ((Below.refl w.heap.size w).alloc (Nat.le_refl _) (.cells #[.slice A n c] 35))
  have H := Lib.hid (hS.out _ hB.out)
  clear hS
  go_enter Try.func15, Try.ntmps15
  go_wp2_with fail
  refine H.out.mono ?_
  rintro e w1 ⟨rfl, hb1⟩
  have hB1 := Lib.hid (below_in (Below.refl w.heap.size w) (Nat.le_refl _) hb1)
  have hB2 := Lib.hid (hB1.out.alloc hB1.out.size (.cells #[.slice A n c] 76))
  have hsz := hB1.out.size
  have c0 : (w1.alloc (.cells #[.slice A n c] 76)).cell? ⟨w1.heap.size, 0, none⟩ = some (.slice A n c) := cellN _ _ _
  have hBw := Lib.hid (Below.refl (w1.alloc (.cells #[.slice A n c] 76)).heap.size (w1.alloc (.cells #[.slice A n c] 76)))
  clear hb1 hB H hB1
  go_wp2
  generalize hw2 : (w1.alloc (.cells #[.slice A n c] 76)) = w2 at *
  have hq : w1.heap.size < w2.heap.size := by rw [← hw2]; simp
  clear hw2
  go_loopw [22] (fun i wr => ∃ k : Nat, k ≤ m ∧ i = .int .i64 k ∧ Hid (huntsB ts (l.take k) = true) ∧ Hid (Below w2.heap.size w2 wr)) (fun i _ => m - (intOf i).toNat)
  case atStart => exact ⟨0, Nat.zero_le _, rfl, Lib.hid rfl, hBw⟩
  case round =>
    obtain ⟨k, hk, rfl, hh, hG⟩ := hrel
    have c0' := (hG.out.cell (p := ⟨w1.heap.size, 0, none⟩) hq).trans c0
    have hGw := Lib.hid (below_via hB2.out hB2.out.size hG.out)
    by_cases hlt : k < m
    · obtain ⟨p, o, D, V, rfl, hp, hx, hcD, hcV⟩ := hR.pr hlt
      have hcD' := (hGw.out.cell hp).trans hcD
      have hcV' := (hGw.out.cell (p := ⟨p, o + k * 2 + 1, none⟩) hp).trans hcV
      obtain ⟨⟨d1, d2⟩, v1, v2⟩ := hO.one k D V hx
      obtain ⟨t1, t2⟩ := hO.teeth D d1 d2
      obtain ⟨t3, t4⟩ := hO.teeth V v1 v2
      obtain ⟨d, rfl⟩ : ∃ d : Nat, D = (d : Int) + 1 := ⟨(D - 1).toNat, by omega⟩
      obtain ⟨v, rfl⟩ : ∃ v : Nat, V = (v : Int) + 1 := ⟨(V - 1).toNat, by omega⟩
      have hTx := (hT.below hGw.out).more hGw.out.size
      have hxl : huntsB ts (l.take (k + 1)) = (huntsB ts (l.take k) && decide (Int.gcd (tAt ts ((d : Int) + 1)) (tAt ts ((v : Int) + 1)) ≤ 1)) := by
        obtain ⟨hkl, hxe⟩ := List.getElem?_eq_some_iff.1 hx
        unfold huntsB
        rw [List.take_succ_eq_append_getElem hkl, List.all_append, hxe]
        simp
      have hall : huntsB ts l = true → huntsB ts (l.take (k + 1)) = true := by
        unfold huntsB
        simp only [List.all_eq_true]
        exact fun h x hx => h x (List.mem_of_mem_take hx)
      rw [hh.out] at hxl
      have H1 := Lib.hid (teeth_any A n c d v hn ts (by omega) (by omega) (wr.alloc (.cells #[.int .i64 ((d : Int) + 1), .int .i64 ((v : Int) + 1)] 82)) ((hTx.alloc (Nat.le_refl _) _).more (by simp)))
      have H2 := fun w => Lib.hid (common_any (tAt ts ((d : Int) + 1)) (tAt ts ((v : Int) + 1)) (by omega) (by omega) w)
      generalize tAt ts ((d : Int) + 1) = u at *
      generalize tAt ts ((v : Int) + 1) = z at *
      have hG1 := Lib.hid (hG.out.alloc hG.out.size (.cells #[.int .i64 ((d : Int) + 1), .int .i64 ((v : Int) + 1)] 82))
      have hqw : w1.heap.size < wr.heap.size := Nat.lt_of_lt_of_le hq hG.out.size
      have c0x : (wr.alloc (.cells #[.int .i64 ((d : Int) + 1), .int .i64 ((v : Int) + 1)] 82)).cell? ⟨w1.heap.size, 0, none⟩ = some (.slice A n c) := (World.cell?_alloc_lt _ _ _ hqw).trans c0'
      clear hO t1 t2 t3 t4 hTx hcD hcV hR hT hh hx
      go_wp2_with fail
      refine H1.out.mono ?_
      rintro e w3 ⟨rfl, hb3⟩
      have hG3 := Lib.hid (below_via hG1.out hG1.out.size hb3)
      have hG4 := Lib.hid (hG3.out.alloc hG3.out.size (.cells #[.int .i64 u, .int .i64 z] 70))
      clear hb3 H1 hcD' hcV' c0' c0x hG hGw hG1 hG3
      go_wp2_with fail
      refine (H2 _).out.mono ?_
      rintro e w4 ⟨rfl, q, rfl⟩
      have hG5 := Lib.hid (below_drewN hG4.out q)
      clear H2 hG4
      cases hg : decide (Int.gcd u z ≤ 1)
      · have hgt : (1 : Int) < ((Int.gcd u z : Nat) : Int) := by simp at hg; omega
        have hres : Hid (false = huntsB ts l) := Lib.hid (by
          cases hc : huntsB ts l
          · rfl
          · have := hall hc; rw [hxl, hg] at this; simp at this)
        clear hxl hall hg
        go_wp2
        go_ret2
        exact ⟨by rw [← hres.out]; rfl, below_via hB2.out hB2.out.size hG5.out⟩
      · have hle : ((Int.gcd u z : Nat) : Int) ≤ 1 := by simp at hg; omega
        rw [hg] at hxl
        have hnx := Lib.hid (show huntsB ts (l.take (k + 1)) = true by rw [hxl]; rfl)
        clear hxl hall hg
        go_wp2
        go_roundw
        case rel => exact ⟨k + 1, by omega, by go_num, hnx, hG5⟩
        case measure => simp [intOf]; omega
    · have e : l.take k = l := List.take_of_length_le (by omega)
      rw [e] at hh
      have hh' := Lib.hid hh.out.symm
      clear hh
      go_wp2
      go_ret2
      exact ⟨by rw [← hh'.out]; rfl, hGw.out⟩
end Go.Proofs.Ytlmmjaolmmcklaa
