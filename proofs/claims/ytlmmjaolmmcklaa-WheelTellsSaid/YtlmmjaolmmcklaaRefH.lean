/-
  The reference: whether all pairs hunt.
-/
import Derived.Test.YtlmmjaolmmcklaaRefT
namespace Go.Proofs.Ytlmmjaolmmcklaa
open Go.RowKit Go.Maps

/-- What the reference's Ratio returns, in each world that has grown. -/
def RSt (w : World) (A A' : Option Addr) (n c m c' : Nat) (r s E : Int) : Prop := ∀ x, Below w.heap.size w x →
  Calls Try.prog 14 #[.agg #[.slice A n c], .slice A' m c'] x fun e x' => e = .returned (.tuple #[.agg #[.int .i64 r, .int .i64 s], .int .i64 E]) ∧ Below x.heap.size x x'

set_option maxRecDepth 100000 in
theorem RHunts_bad (A A' : Option Addr) (n c m c' : Nat) (r s E : Int) (w : World) (hE : E = 100 ∨ E = 101) (hS : Hid (RSt w A A' n c m c' r s E)) :
    Calls Try.prog 16 #[.agg #[.slice A n c], .slice A' m c'] w fun e w' => e = .returned (.tuple #[.bool false, .int .i64 E]) ∧ Below w.heap.size w w' := by
  have hB := Lib.hid ((Below.refl w.heap.size w).alloc (Nat.le_refl _) (.cells #[.slice A n c] 35))
  have H := Lib.hid (hS.out _ hB.out)
  have hE0 : ¬ E = 0 := by omega
  clear hS
  go_enter Try.func16, Try.ntmps16
  go_wp2_with fail
  refine H.out.mono ?_
  rintro e w1 ⟨rfl, hb1⟩
  have hB1 := Lib.hid (below_in (Below.refl w.heap.size w) (Nat.le_refl _) hb1)
  have hB2 := Lib.hid (hB1.out.alloc hB1.out.size (.cells #[.int .i64 r, .int .i64 s] 40))
  clear hb1 hB H hB1
  go_wp2
  go_ret2
  exact ⟨rfl, hB2.out⟩

set_option maxRecDepth 100000 in
theorem RHunts_good (A A' : Option Addr) (n c m c' : Nat) (r0 s0 : Int) (hn : n ≤ 20) (ts : List Int) (l : List (Int × Int)) (hO : Okay n ts l) (w : World) (hT : Reads w w.heap.size 1 A n (ints ts)) (hR : Reads w w.heap.size 2 A' m (prs l)) (hS : Hid (RSt w A A' n c m c' r0 s0 0)) :
    Calls Try.prog 16 #[.agg #[.slice A n c], .slice A' m c'] w fun e w' => e = .returned (.tuple #[.bool (huntsB ts l), .int .i64 0]) ∧ Below w.heap.size w w' := by
  have hl : l.length = m := hR.pr_len
  have hl3 : m ≤ 3 := hl ▸ hO.len
  have hB := Lib.hid ((Below.refl w.heap.size w).alloc (Nat.le_refl _) (.cells #[.slice A n c] 35))
  have H := Lib.hid (hS.out _ hB.out)
  clear hS
  go_enter Try.func16, Try.ntmps16
  go_wp2_with fail
  refine H.out.mono ?_
  rintro e w1 ⟨rfl, hb1⟩
  have hB1 := Lib.hid (below_in (Below.refl w.heap.size w) (Nat.le_refl _) hb1)
  have hB2 := Lib.hid (hB1.out.alloc hB1.out.size (.cells #[.int .i64 r0, .int .i64 s0] 40))
  have hsz : w.heap.size + 1 ≤ w1.heap.size := by have := hb1.size; simpa using this
  have c0 : (w1.alloc (.cells #[.int .i64 r0, .int .i64 s0] 40)).cell? ⟨w.heap.size, 0, none⟩ = some (.slice A n c) :=
    (World.cell?_alloc_lt _ _ _ (by simp; omega)).trans ((hb1.cell (by simp)).trans (cellN _ _ _))
  have hq : w.heap.size < (w1.alloc (.cells #[.int .i64 r0, .int .i64 s0] 40)).heap.size := by simp; omega
  have hBw := Lib.hid (Below.refl (w1.alloc (.cells #[.int .i64 r0, .int .i64 s0] 40)).heap.size (w1.alloc (.cells #[.int .i64 r0, .int .i64 s0] 40)))
  clear hb1 hB H hB1
  go_wp2
  generalize (w1.alloc (.cells #[.int .i64 r0, .int .i64 s0] 40)) = w2 at *
  go_loopw [8, 22] (fun y i wr => ∃ k : Nat, k ≤ m ∧ i = .int .i64 k ∧ y = .bool (huntsB ts (l.take k)) ∧ Hid (Below w2.heap.size w2 wr)) (fun _ i _ => m - (intOf i).toNat)
  case atStart => exact ⟨0, Nat.zero_le _, rfl, rfl, hBw⟩
  case round =>
    obtain ⟨k, hk, rfl, rfl, hG⟩ := hrel
    have c0' := (hG.out.cell (p := ⟨w.heap.size, 0, none⟩) hq).trans c0
    have hGw := Lib.hid (below_via hB2.out hB2.out.size hG.out)
    by_cases hlt : k < m
    · obtain ⟨p, o, D, V, rfl, hp, hx, hcD, hcV⟩ := hR.pr hlt
      have hcD' := (hGw.out.cell hp).trans hcD
      have hcV' := (hGw.out.cell (p := ⟨p, o + k * 2 + 1, none⟩) hp).trans hcV
      obtain ⟨⟨d1, d2⟩, v1, v2⟩ := hO.one k D V hx
      obtain ⟨t1, t2⟩ := hO.teeth D d1 d2
      obtain ⟨t3, t4⟩ := hO.teeth V v1 v2
      obtain ⟨d, rfl⟩ : ∃ d : Nat, D = (d : Int) + 1 := ⟨(D - 1).toNat, by omega⟩
      obtain ⟨v, rfl⟩ : ∃ v : Nat, V = (v : Int) + 1 := ⟨(V - 1).toNat, by omega⟩
      have hxl : huntsB ts (l.take (k + 1)) = (huntsB ts (l.take k) && decide (Int.gcd (tAt ts ((d : Int) + 1)) (tAt ts ((v : Int) + 1)) ≤ 1)) := by
        obtain ⟨hkl, hxe⟩ := List.getElem?_eq_some_iff.1 hx
        unfold huntsB
        rw [List.take_succ_eq_append_getElem hkl, List.all_append, hxe]
        simp
      have hG1 := Lib.hid (hG.out.alloc hG.out.size (.cells #[.int .i64 ((d : Int) + 1), .int .i64 ((v : Int) + 1)] 82))
      have c0x : (wr.alloc (.cells #[.int .i64 ((d : Int) + 1), .int .i64 ((v : Int) + 1)] 82)).cell? ⟨w.heap.size, 0, none⟩ = some (.slice A n c) := (World.cell?_alloc_lt _ _ _ (Nat.lt_of_lt_of_le hq hG.out.size)).trans c0'
      cases hh : huntsB ts (l.take k)
      · have hnx := Lib.hid (show huntsB ts (l.take (k + 1)) = false by rw [hxl, hh]; rfl)
        clear hxl hh hO t1 t2 t3 t4 hT hR hcD hcV hG hx
        go_wp2_with fail
        generalize wr.alloc (.cells #[.int .i64 ((d : Int) + 1), .int .i64 ((v : Int) + 1)] 82) = wq at *
        go_quiet (fail)
        have hG2 := Lib.hid (below_drewN hG1.out nq)
        go_wp2
        go_roundw
        case rel => exact ⟨k + 1, by omega, by go_num, by rw [hnx.out], hG2⟩
        case measure => simp [intOf]; omega
      · have hld : tAt ts ((d : Int) + 1) = ts[d]?.getD 0 := by unfold tAt; simp
        have hlv : tAt ts ((v : Int) + 1) = ts[v]?.getD 0 := by unfold tAt; simp
        have hTx := (((hT.below hGw.out).more hGw.out.size).alloc (Nat.le_refl _) (.cells #[.int .i64 ((d : Int) + 1), .int .i64 ((v : Int) + 1)] 82))
        obtain ⟨q, s, hqa, -, tc⟩ := hTx.int (k := d) (by omega)
        obtain ⟨q', s', hqb, -, tc'⟩ := hTx.int (k := v) (by omega)
        rw [hqa] at hqb
        cases hqb
        subst hqa
        rw [← hld] at tc
        rw [← hlv] at tc'
        have hgp : 0 < Int.gcd (tAt ts ((d : Int) + 1)) (tAt ts ((v : Int) + 1)) := Int.gcd_pos_of_ne_zero_left _ (by omega)
        have H3 := Lib.hid (fun w => rcommon_any (tAt ts ((d : Int) + 1)) (tAt ts ((v : Int) + 1)) (by omega) (by omega) w)
        have hnx : huntsB ts (l.take (k + 1)) = (((Int.gcd (tAt ts ((d : Int) + 1)) (tAt ts ((v : Int) + 1)) : Nat) : Int) == 1) := by
          rw [hxl, hh, Bool.true_and]
          apply Bool.eq_iff_iff.2
          simp
          omega
        generalize ((Int.gcd (tAt ts ((d : Int) + 1)) (tAt ts ((v : Int) + 1)) : Nat) : Int) = g at *
        generalize tAt ts ((d : Int) + 1) = u at *
        generalize tAt ts ((v : Int) + 1) = z at *
        have wd : IntKind.i64.wrap (d : Int) = d := IntWalk.i64_in _ (by omega)
        have wv : IntKind.i64.wrap (v : Int) = v := IntWalk.i64_in _ (by omega)
        have pa : (wr.alloc (.cells #[.int .i64 ((d : Int) + 1), .int .i64 ((v : Int) + 1)] 82)).cell? ⟨wr.heap.size, 0, none⟩ = some (.int .i64 ((d : Int) + 1)) := by rw [World.cell?_alloc_at _ _ _ _ rfl]; rfl
        have pb : (wr.alloc (.cells #[.int .i64 ((d : Int) + 1), .int .i64 ((v : Int) + 1)] 82)).cell? ⟨wr.heap.size, 1, none⟩ = some (.int .i64 ((v : Int) + 1)) := by rw [World.cell?_alloc_at _ _ _ _ rfl]; rfl
        replace hnx := Lib.hid hnx
        clear hxl hh hO t1 t2 t3 t4 hT hR hcD hcV hG hld hlv hgp hx
        go_wp2_with fail
        generalize wr.alloc (.cells #[.int .i64 ((d : Int) + 1), .int .i64 ((v : Int) + 1)] 82) = wq at *
        go_quiet ((first | exact Calls.quiet_of (H3.out _) | exact quiet_add_drew (H3.out _)))
        have hG2 := Lib.hid (below_drewN hG1.out nq)
        have hy := vbool hnx.out
        go_wp2
        go_roundw
        case rel => exact ⟨k + 1, by omega, by go_num, hy.symm, hG2⟩
        case measure => simp [intOf]; omega
    · have e : l.take k = l := List.take_of_length_le (by omega)
      rw [e] at *
      clear hG hO
      go_wp2
      go_ret2
      exact ⟨rfl, hGw.out⟩
end Go.Proofs.Ytlmmjaolmmcklaa
