/-
  The walk of the program's loads of (a part of) a setting.
-/
import Derived.Test.YtlmmjaolmmcklaaDoorPounds
namespace Go.Proofs.YtlmmjaolmmcklaaDoor
open Go.RowKit

/-- The loads while stamper k is added, at the first j marks. -/
def rowK (m : Nat) (cnt : St3 → Int) (l : List St3) (s : List Int) (k j : Nat) : List Int :=
  (List.range m).map fun (i : Nat) => loadL m cnt l (s.take (if i < j then k + 1 else k)) i
section
variable {m : Nat} {cnt : St3 → Int} {l : List St3} {s : List Int} {k j : Nat}
theorem rowK_len : (rowK m cnt l s k j).length = m := by simp [rowK]
theorem rowK_get (i : Nat) (h : i < m) : (rowK m cnt l s k j)[i]? = some (loadL m cnt l (s.take (if i < j then k + 1 else k)) i) := by
  unfold rowK; rw [List.getElem?_map, List.getElem?_range h]; rfl
theorem rowK_first : rowK m cnt l s k 0 = loadsL m cnt l (s.take k) := by
  unfold rowK loadsL; simp
theorem rowK_last : rowK m cnt l s k m = rowK m cnt l s (k + 1) 0 := by
  rw [rowK_first]
  unfold rowK loadsL
  rw [Int.toNat_natCast]
  apply List.map_congr_left
  intro i hi
  rw [if_pos (List.mem_range.1 hi)]
theorem rowK_zero : rowK m cnt l s 0 0 = List.replicate m 0 := by
  unfold rowK
  simp only [Nat.not_lt_zero, if_false, List.take_zero, loadL_nil]
  exact List.eq_replicate_iff.2 ⟨by simp, fun b hb => by obtain ⟨a, _, rfl⟩ := List.mem_map.1 hb; rfl⟩
theorem rowK_set (h : j < m) {v : Int} (hv : v = loadL m cnt l (s.take (k + 1)) j) : (rowK m cnt l s k j).set j v = rowK m cnt l s k (j + 1) := by
  apply List.ext_getElem?
  intro i
  by_cases hi : i = j
  · subst hi
    rw [List.getElem?_set_self (by rw [rowK_len]; exact h), rowK_get i h, if_pos (by omega), hv]
  · rw [List.getElem?_set_ne (fun e => hi e.symm)]
    by_cases him : i < m
    · rw [rowK_get i him, rowK_get i him]
      by_cases hij : i < j
      · rw [if_pos hij, if_pos (by omega)]
      · rw [if_neg hij, if_neg (by omega)]
    · rw [List.getElem?_eq_none (by rw [rowK_len]; omega), List.getElem?_eq_none (by rw [rowK_len]; omega)]
theorem rowK_keep (h : j < m) (hv : loadL m cnt l (s.take k) j = loadL m cnt l (s.take (k + 1)) j) : rowK m cnt l s k j = rowK m cnt l s k (j + 1) := by
  rw [← rowK_set h hv]
  apply List.ext_getElem?
  intro i
  by_cases hi : i = j
  · subst hi
    rw [List.getElem?_set_self (by rw [rowK_len]; exact h), rowK_get i h, if_neg (by omega)]
  · rw [List.getElem?_set_ne (fun e => hi e.symm)]
end

theorem made_ints (m : Nat) : madeCells #[.int .i64 0] m = (ints (List.replicate m 0)).toArray := by
  unfold madeCells
  apply Array.ext
  · simp
  · intro i h1 h2
    have : i % 1 = 0 := Nat.mod_one i
    simp [ints, this]

theorem make_ints (m : Nat) (hm : m ≤ 12) (w : World) : (Instr.makeSlice 25 (.int .i64 m) (.int .i64 m)).run Tryd.prog w = .ok (.slice (some ⟨w.heap.size, 0, none⟩) m m) (w.alloc (.cells (ints (List.replicate m 0)).toArray 3)) := by
  obtain ⟨i0, hi, hz0, hz1, hz2⟩ := info_parts info_int
  have := run_make w 25 3 i0 (.int .i64 0) Tryd.underlying25 hi hz0 .i64 .i64 m m (by omega) (by omega) (by rw [hz2]; omega) (by omega)
  rw [this, hz1]
  simp only [Int.toNat_natCast, Nat.mul_one, Value.cells, made_ints]

/-- A valid (part of a) setting. -/
def SetOk (M : Int) (l : List St3) (s : List Int) : Prop := s.length ≤ l.length ∧ ∀ (k : Nat) (x : St3) (y : Int), l[k]? = some x → s[k]? = some y → 0 ≤ y ∧ y < M / x.1

set_option maxRecDepth 100000 in
set_option maxHeartbeats 1000000 in
theorem loads_any (m : Nat) (cnt : St3 → Int) (A A' Ac : Option Addr) (n c n' c' cc : Nat) (l : List St3) (s : List Int) (w : World) (hR : Reads w w.heap.size 3 A n (sts l)) (hS : Reads w w.heap.size 1 A' n' (ints s)) (hC : Reads w w.heap.size 1 Ac n (ints (l.map cnt)))
    (hv : Hid (shaftB m l = true)) (hs : Hid (SetOk m l s)) (hc : Hid (∀ x ∈ l, 0 ≤ cnt x ∧ cnt x ≤ 500)) :
    Calls Tryd.prog 59 #[.agg #[.int .i64 m, .slice A n c, .slice Ac n cc], .slice A' n' c'] w fun e w' =>
      ∃ v, e = .returned v ∧ w'.ownsRow w.heap.size 3 1 v m (ints (loadsL m cnt l s)) ∧ Below w.heap.size w w' := by
  obtain ⟨hM1, hM2, hn4⟩ := shaft_bounds hv.out
  have hl : l.length = n := hR.st_len
  have hsl : s.length = n' := by simpa using hS.len
  have hn' : n' ≤ n := by have := hs.out.1; omega
  have hmk := make_ints m (by omega)
  have HB : Hid (∀ x, Below (w.heap.size + 1) (w.alloc (.cells #[.int .i64 m, .slice A n c, .slice Ac n cc] 111)) x →
      (x.cell? ⟨w.heap.size, 0, none⟩ = some (.int .i64 m) ∧ x.cell? ⟨w.heap.size, 1, none⟩ = some (.slice A n c) ∧ x.cell? ⟨w.heap.size, 2, none⟩ = some (.slice Ac n cc)) ∧ w.heap.size + 1 ≤ x.heap.size ∧ Reads x x.heap.size 3 A n (sts l) ∧ Reads x x.heap.size 1 A' n' (ints s) ∧ Reads x x.heap.size 1 Ac n (ints (l.map cnt))) := by
    intro x hx
    have hz : w.heap.size + 1 ≤ x.heap.size := by simpa using hx.size
    refine ⟨⟨?_, ?_, ?_⟩, hz, ?_, ?_, ?_⟩
    · rw [hx.cell (by simp), World.cell?_alloc_at _ _ _ _ rfl]; rfl
    · rw [hx.cell (by simp), World.cell?_alloc_at _ _ _ _ rfl]; rfl
    · rw [hx.cell (by simp), World.cell?_alloc_at _ _ _ _ rfl]; rfl
    · exact ((hR.alloc (Nat.le_refl _) _).below (hx.mono (by omega))).more (by omega)
    · exact ((hS.alloc (Nat.le_refl _) _).below (hx.mono (by omega))).more (by omega)
    · exact ((hC.alloc (Nat.le_refl _) _).below (hx.mono (by omega))).more (by omega)
  have HW : Hid (∀ x, Below (w.heap.size + 1) (w.alloc (.cells #[.int .i64 m, .slice A n c, .slice Ac n cc] 111)) x → Below w.heap.size w x) := fun x hx => ((Below.refl _ _).alloc (Nat.le_refl _) _).trans (hx.mono (by omega))
  have HX0 : Hid (Below (w.heap.size + 1) (w.alloc (.cells #[.int .i64 m, .slice A n c, .slice Ac n cc] 111)) ((w.alloc (.cells #[.int .i64 m, .slice A n c, .slice Ac n cc] 111)).alloc (.cells (ints (List.replicate m 0)).toArray 3))) := (Below.refl _ _).alloc (by simp) _
  have HO0' : (((w.alloc (.cells #[.int .i64 m, .slice A n c, .slice Ac n cc] 111)).alloc (.cells (ints (List.replicate m 0)).toArray 3)).ownsRow (w.heap.size + 1) 3 1 (.slice (some ⟨w.heap.size + 1, 0, none⟩) m m) m (ints (rowK m cnt l s 0 0))) := by
    have := World.ownsRow_lit (base := w.heap.size + 1) (e := 3) (size := 1) (w.alloc (.cells #[.int .i64 m, .slice A n c, .slice Ac n cc] 111)) (ints (List.replicate m 0)).toArray m (by simp) (by unfold maxLen; omega) (by simp)
    rw [rowK_zero]
    simpa using this
  have HO0 := Lib.hid HO0'
  clear HO0'
  clear hR hS hC
  go_enter Tryd.func59, Tryd.ntmps59
  go_wp2
  generalize (w.alloc (.cells #[.int .i64 m, .slice A n c, .slice Ac n cc] 111)) = wb at *
  generalize (wb.alloc (.cells (ints (List.replicate m 0)).toArray 3)) = wc at *
  go_loopw [16] (fun x wr => ∃ k : Nat, k ≤ n' ∧ x = .int .i64 k ∧ Hid (wr.ownsRow (w.heap.size + 1) 3 1 (.slice (some ⟨w.heap.size + 1, 0, none⟩) m m) m (ints (rowK m cnt l s k 0))) ∧ Hid (Below (w.heap.size + 1) wb wr)) (fun x _ => n' - (intOf x).toNat)
  case atStart => exact ⟨0, by omega, rfl, HO0, HX0⟩
  case round =>
    clear HO0 HX0 hmk
    obtain ⟨k, hk, rfl, hown, hX⟩ := hrel
    obtain ⟨⟨m0, m1, m2⟩, hz, hRw, hSw, hCw⟩ := HB.out wr hX.out
    by_cases hlt : k < n'
    · obtain ⟨bs, os, rfl, hbs, hcs⟩ := hSw.int (k := k) hlt
      have hyy := get_of_lt (l := s) (k := k) (by omega)
      generalize s[k]?.getD 0 = y at *
      clear hRw hCw m1 m2
      go_wp2
      go_loopw [24] (fun x wr => ∃ j : Nat, j ≤ m ∧ x = .int .i64 j ∧ Hid (wr.ownsRow (w.heap.size + 1) 3 1 (.slice (some ⟨w.heap.size + 1, 0, none⟩) m m) m (ints (rowK m cnt l s k j))) ∧ Hid (Below (w.heap.size + 1) wb wr)) (fun x _ => m - (intOf x).toNat)
      case atStart => exact ⟨0, by omega, rfl, hown, hX⟩
      case round =>
        clear hown hX hSw hcs
        obtain ⟨j, hj, rfl, hown, hX⟩ := hrel
        obtain ⟨⟨m0, m1, m2⟩, hz, hRw, hSw, hCw⟩ := HB.out wr hX.out
        by_cases hjm : j < m
        · obtain ⟨b, o, C, U, P, rfl, hb, hx, cC, cU, cP⟩ := hRw.st (k := k) (by omega)
          obtain ⟨bc, oc, rfl, hbc, hcc⟩ := hCw.int (k := k) (by omega)
          obtain ⟨hC1, hC2, hCM, hU1, hU2, -, -⟩ := shaft_st hv.out hx
          obtain ⟨hy0, hy1⟩ := hs.out.2 k _ _ hx hyy
          have HA := Lib.hid (apart_any m (some ⟨b, o, none⟩) n c k l wr (by omega) (by omega) (by omega) hRw C ⟨U, P, hx⟩ hC1)
          obtain ⟨hp0, hp1⟩ := hc.out _ (List.mem_of_getElem? hx)
          rw [List.getElem?_map, hx] at hcc
          simp only [Option.map_some, Option.getD_some] at hcc
          have hsn := Lib.hid (loadL_snoc (M := m) (cnt := cnt) (mark := j) hx hyy)
          have hupd : part m cnt j ((C, U, P), y) = if (j - y + m) % (m / C) < U then cnt (C, U, P) else 0 := by
            unfold part upB; simp
          rw [hupd] at hsn
          have hg := rowK_get (m := m) (cnt := cnt) (l := l) (s := s) (k := k) (j := j) j hjm
          rw [if_neg (by omega)] at hg
          have hb0 : 0 ≤ loadL m cnt l (s.take k) j := loadL_nonneg (fun x hx => (hc.out x hx).1)
          have hb1 : loadL m cnt l (s.take k) j ≤ 2000 := by
            have := loadL_le (M := m) (cnt := cnt) (l := l) (s := s.take k) (mark := j) (B := 500) (by omega) (fun x hx => (hc.out x hx).2)
            omega
          have hset := Lib.hid (fun v (hv : v = loadL m cnt l (s.take (k + 1)) j) => rowK_set (m := m) (cnt := cnt) (l := l) (s := s) (k := k) hjm hv)
          have hkeep := Lib.hid (rowK_keep (m := m) (cnt := cnt) (l := l) (s := s) (k := k) hjm)
          have hG := Lib.hid hg
          clear hupd hRw hSw hCw hx hg cC cP
          generalize loadL m cnt l (s.take k) j = v at *
          generalize loadL m cnt l (s.take (k + 1)) j = v' at *
          generalize cnt (C, U, P) = p at *
          have hd1 : (m : Int) / C ≤ m := Int.ediv_le_self _ (by omega)
          have hd0 : 0 < (m : Int) / C := by omega
          generalize hdd : (m : Int) / C = d at *
          have hrem : ((j : Int) - y + m).tmod d = ((j : Int) - y + m) % d := Int.tmod_eq_emod_of_nonneg (by omega)
          have hr0 := Int.emod_nonneg ((j : Int) - y + m) (by omega : d ≠ 0)
          have hr1 := Int.emod_lt_of_pos ((j : Int) - y + m) hd0
          have y1 : wrap64 ((j : Int) - y) = j - y := w64 (by omega) (by omega)
          have y2 : wrap64 ((j : Int) - y + m) = j - y + m := w64 (by omega) (by omega)
          have y3 : wrap64 (((j : Int) - y + m) % d) = ((j : Int) - y + m) % d := w64 (by omega) (by omega)
          have y4 : wrap64 (v + p) = v + p := w64 (by omega) (by omega)
          have dz : ¬ d = 0 := by omega
          have dz' : (d == 0) = false := by simpa using dz
          clear hdd hC1 hC2 hCM hU1 hU2 hy0 hy1
          go_wp2_with fail
          refine HA.out.mono ?_
          rintro e w5 ⟨rfl, hb5⟩
          have hX5 := Lib.hid (below_via hX.out (by omega) hb5)
          have hO5 := Lib.hid (own_below hown.out hb5)
          obtain ⟨⟨m0, m1, m2⟩, hz, -, -, -⟩ := HB.out w5 hX5.out
          have cU := (hb5.cell (p := ⟨b, o + k * 3 + 1, none⟩) hb).trans cU
          have cp := (hb5.cell (p := ⟨bc, oc + k, none⟩) hbc).trans hcc
          have cv : w5.cell? ⟨w.heap.size + 1, j, none⟩ = some (.int .i64 v) := by
            have h := hO5.out.cellAt j (by omega)
            rw [ints_get, hG.out] at h
            exact h
          have fv := hO5.out.frozenAt j
          clear hb5 hown hX HA
          by_cases hup : ((j : Int) - y + m) % d < U
          · have hne : v' = v + p := by rw [hsn.out, if_pos hup]
            go_wp2
            go_quiet (fail)
            go_wp2_with fail
            rename_i nq
            have hkn : k < n := by omega
            have n2 : (w5.drewN nq).cell? ⟨w.heap.size, 2, none⟩ = some (.slice (some ⟨bc, oc, none⟩) n cc) := m2
            have nc : (w5.drewN nq).cell? ⟨bc, oc + k, none⟩ = some (.int .i64 p) := cp
            have nv : (w5.drewN nq).cell? ⟨w.heap.size + 1, j, none⟩ = some (.int .i64 v) := cv
            have nf : (w5.drewN nq).frozen? ⟨w.heap.size + 1, j, none⟩ = false := fv
            have hX6 := Lib.hid (below_drewN hX5.out nq)
            have hO6 : Hid ((w5.drewN nq).ownsRow (w.heap.size + 1) 3 1 (.slice (some ⟨w.heap.size + 1, 0, none⟩) m m) m (ints (rowK m cnt l s k j))) := hO5
            clear m0 m1 m2 cp cv fv hX5 hO5 cU
            generalize w5.drewN nq = wq at *
            have ws : IntKind.i64.wrap (v + p) = v + p := IntWalk.i64_in _ (by omega)
            go_still_tail 11, (by kernel_rfl)
            change wpList _ _ _ _ _ wq.drew
            replace nv : wq.drew.cell? ⟨w.heap.size + 1, j, none⟩ = some (.int .i64 v) := nv
            replace nf : wq.drew.frozen? ⟨w.heap.size + 1, j, none⟩ = false := nf
            replace hX6 : Hid (Below (w.heap.size + 1) wb wq.drew) := Lib.hid hX6.out.drew
            replace hO6 : Hid (wq.drew.ownsRow (w.heap.size + 1) 3 1 (.slice (some ⟨w.heap.size + 1, 0, none⟩) m m) m (ints (rowK m cnt l s k j))) := hO6
            clear n2 nc
            generalize wq.drew = w6 at *
            go_wp2
            go_roundw
            case rel =>
              refine ⟨j + 1, by omega, by go_num, ?_, hX6.out.setCell (by simp) _⟩
              have := (hO6.out.stored j (.int .i64 (v + p))).1
              rw [ints_set, hset.out _ hne.symm] at this
              exact this
            case measure => simp [intOf]; omega
          · have hne : v = v' := by rw [hsn.out, if_neg hup]; omega
            go_wp2
            go_quiet (fail)
            go_wp2
            go_roundw
            case rel =>
              refine ⟨j + 1, by omega, by go_num, ?_, below_drewN hX5.out _⟩
              have := hO5.out
              rw [hkeep.out hne] at this
              exact this
            case measure => simp [intOf]; omega
        · have hjm' : j = m := by omega
          subst hjm'
          rw [rowK_last] at hown
          clear hRw hSw hCw m1 m2
          go_wp2
          go_roundw
          case rel => exact ⟨k + 1, by omega, by go_num, hown, hX⟩
          case measure => simp [intOf]; omega
    · have hkn : k = n' := by omega
      subst hkn
      have hfin : Hid (wr.ownsRow (w.heap.size + 1) 3 1 (.slice (some ⟨w.heap.size + 1, 0, none⟩) m m) m (ints (loadsL m cnt l s))) := by
        have := hown.out
        rw [rowK_first, List.take_of_length_le (by omega)] at this
        exact this
      clear hown hRw hSw hCw m1 m2
      go_wp2
      go_ret
      exact ⟨_, rfl, own_mono hfin.out (by omega), HW.out _ hX.out⟩
end Go.Proofs.YtlmmjaolmmcklaaDoor
