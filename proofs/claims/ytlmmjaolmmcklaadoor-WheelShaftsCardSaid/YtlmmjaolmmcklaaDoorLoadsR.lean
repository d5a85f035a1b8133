/-
  The walk of the reference's loads of (a part of) a setting.
-/
import Derived.Test.YtlmmjaolmmcklaaDoorUp
namespace Go.Proofs.YtlmmjaolmmcklaaDoor
open Go.RowKit

/-- What a stamper counts: one, or what it weighs. -/
def cntO (ones : Bool) (x : St3) : Int := if ones then 1 else x.2.2

/-- The loads while mark j is looked at, of the first i stampers. -/
def rowR (m : Nat) (cnt : St3 → Int) (l : List St3) (s : List Int) (j i : Nat) : List Int :=
  (List.range m).map fun (t : Nat) => if t < j then loadL m cnt l s t else if t = j then loadL m cnt l (s.take i) t else 0
section
variable {m : Nat} {cnt : St3 → Int} {l : List St3} {s : List Int} {i j : Nat}
theorem rowR_len : (rowR m cnt l s j i).length = m := by simp [rowR]
theorem rowR_get (t : Nat) (h : t < m) : (rowR m cnt l s j i)[t]? = some (if t < j then loadL m cnt l s t else if t = j then loadL m cnt l (s.take i) t else 0) := by
  unfold rowR; rw [List.getElem?_map, List.getElem?_range h]; rfl
theorem rowR_first : rowR m cnt l s 0 0 = List.replicate m 0 := by
  refine List.eq_replicate_iff.2 ⟨rowR_len, fun b hb => ?_⟩
  obtain ⟨a, _, rfl⟩ := List.mem_map.1 hb
  simp only [Nat.not_lt_zero, if_false, List.take_zero, loadL_nil]
  split <;> rfl
theorem rowR_next : rowR m cnt l s j s.length = rowR m cnt l s (j + 1) 0 := by
  unfold rowR
  apply List.map_congr_left
  intro t _
  by_cases h1 : t < j
  · rw [if_pos h1, if_pos (by omega)]
  · by_cases h2 : t = j
    · subst h2
      rw [if_neg h1, if_pos rfl, if_pos (by omega), List.take_of_length_le (Nat.le_refl _)]
    · rw [if_neg h1, if_neg h2, if_neg (by omega)]
      split
      · rw [List.take_zero, loadL_nil]
      · rfl
theorem rowR_end : rowR m cnt l s m 0 = loadsL m cnt l s := by
  unfold rowR loadsL
  rw [Int.toNat_natCast]
  apply List.map_congr_left
  intro t ht
  rw [if_pos (List.mem_range.1 ht)]
theorem rowR_set (h : j < m) {v : Int} (hv : v = loadL m cnt l (s.take (i + 1)) j) : (rowR m cnt l s j i).set j v = rowR m cnt l s j (i + 1) := by
  apply List.ext_getElem?
  intro t
  by_cases ht : t = j
  · subst ht
    rw [List.getElem?_set_self (by rw [rowR_len]; exact h), rowR_get t h, if_neg (by omega), if_pos rfl, hv]
  · rw [List.getElem?_set_ne (fun e => ht e.symm)]
    by_cases htm : t < m
    · rw [rowR_get t htm, rowR_get t htm, if_neg ht, if_neg ht]
    · rw [List.getElem?_eq_none (by rw [rowR_len]; omega), List.getElem?_eq_none (by rw [rowR_len]; omega)]
theorem rowR_keep (h : j < m) (hv : loadL m cnt l (s.take i) j = loadL m cnt l (s.take (i + 1)) j) : rowR m cnt l s j i = rowR m cnt l s j (i + 1) := by
  rw [← rowR_set h hv]
  apply List.ext_getElem?
  intro t
  by_cases ht : t = j
  · subst ht
    rw [List.getElem?_set_self (by rw [rowR_len]; exact h), rowR_get t h, if_neg (by omega), if_pos rfl]
  · rw [List.getElem?_set_ne (fun e => ht e.symm)]
end

set_option maxRecDepth 100000 in
set_option maxHeartbeats 2000000 in
theorem rloads_any (m : Nat) (ones : Bool) (A A' : Option Addr) (n c n' c' : Nat) (l : List St3) (s : List Int) (w : World) (hR : Reads w w.heap.size 3 A n (sts l)) (hSr : Reads w w.heap.size 1 A' n' (ints s))
    (hv : Hid (shaftB m l = true)) (hs : Hid (SetOk m l s)) :
    Calls Tryd.prog 60 #[.agg #[.int .i64 m, .slice A n c], .slice A' n' c', .bool ones] w fun e w' =>
      ∃ v, e = .returned v ∧ w'.ownsRow w.heap.size 3 1 v m (ints (loadsL m (cntO ones) l s)) ∧ Below w.heap.size w w' := by
  obtain ⟨hM1, hM2, hn4⟩ := shaft_bounds hv.out
  have hl : l.length = n := hR.st_len
  have hsl : s.length = n' := by simpa using hSr.len
  have hn' : n' ≤ n := by have := hs.out.1; omega
  have hmk := make_ints m (by omega)
  have hc : Hid (∀ x ∈ l, 0 ≤ cntO ones x ∧ cntO ones x ≤ 500) := by
    intro x hx
    obtain ⟨k, hk⟩ := List.getElem?_of_mem hx
    obtain ⟨C, U, P⟩ := x
    have := shaft_st hv.out hk
    unfold cntO
    split
    · omega
    · simp only; omega
  have HB : Hid (∀ x, Below (w.heap.size + 1) (w.alloc (.cells #[.int .i64 m, .slice A n c] 24)) x →
      (x.cell? ⟨w.heap.size, 0, none⟩ = some (.int .i64 m) ∧ x.cell? ⟨w.heap.size, 1, none⟩ = some (.slice A n c)) ∧ w.heap.size + 1 ≤ x.heap.size ∧ Reads x x.heap.size 3 A n (sts l) ∧ Reads x x.heap.size 1 A' n' (ints s)) := by
    intro x hx
    have hz : w.heap.size + 1 ≤ x.heap.size := by simpa using hx.size
    refine ⟨⟨?_, ?_⟩, hz, ?_, ?_⟩
    · rw [hx.cell (by simp), World.cell?_alloc_at _ _ _ _ rfl]; rfl
    · rw [hx.cell (by simp), World.cell?_alloc_at _ _ _ _ rfl]; rfl
    · exact ((hR.alloc (Nat.le_refl _) _).below (hx.mono (by omega))).more (by omega)
    · exact ((hSr.alloc (Nat.le_refl _) _).below (hx.mono (by omega))).more (by omega)
  have HW : Hid (∀ x, Below (w.heap.size + 1) (w.alloc (.cells #[.int .i64 m, .slice A n c] 24)) x → Below w.heap.size w x) := fun x hx => ((Below.refl _ _).alloc (Nat.le_refl _) _).trans (hx.mono (by omega))
  have HX0 : Hid (Below (w.heap.size + 1) (w.alloc (.cells #[.int .i64 m, .slice A n c] 24)) ((w.alloc (.cells #[.int .i64 m, .slice A n c] 24)).alloc (.cells (ints (List.replicate m 0)).toArray 3))) := (Below.refl _ _).alloc (by simp) _
  have HO0' : ((w.alloc (.cells #[.int .i64 m, .slice A n c] 24)).alloc (.cells (ints (List.replicate m 0)).toArray 3)).ownsRow (w.heap.size + 1) 3 1 (.slice (some ⟨w.heap.size + 1, 0, none⟩) m m) m (ints (rowR m (cntO ones) l s 0 0)) := by
    have := World.ownsRow_lit (base := w.heap.size + 1) (e := 3) (size := 1) (w.alloc (.cells #[.int .i64 m, .slice A n c] 24)) (ints (List.replicate m 0)).toArray m (by simp) (by unfold maxLen; omega) (by simp)
    rw [rowR_first]
    simpa using this
  have HO0 := Lib.hid HO0'
  clear hR hSr HO0'
  go_enter Tryd.func60, Tryd.ntmps60
  go_wp2
  generalize (w.alloc (.cells #[.int .i64 m, .slice A n c] 24)) = wb at *
  generalize (wb.alloc (.cells (ints (List.replicate m 0)).toArray 3)) = wc at *
  go_loopw [8] (fun x wr => ∃ j : Nat, j ≤ m ∧ x = .int .i64 j ∧ Hid (wr.ownsRow (w.heap.size + 1) 3 1 (.slice (some ⟨w.heap.size + 1, 0, none⟩) m m) m (ints (rowR m (cntO ones) l s j 0))) ∧ Hid (Below (w.heap.size + 1) wb wr)) (fun x _ => m - (intOf x).toNat)
  case atStart => exact ⟨0, by omega, rfl, HO0, HX0⟩
  case round =>
    clear HO0 HX0 hmk
    obtain ⟨j, hj, rfl, hown, hX⟩ := hrel
    obtain ⟨⟨m0, m1⟩, hz, -, -⟩ := HB.out wr hX.out
    by_cases hjm : j < m
    · clear m1
      go_wp2
      go_loopw [9] (fun x wr => ∃ i : Nat, i ≤ n' ∧ x = .int .i64 i ∧ Hid (wr.ownsRow (w.heap.size + 1) 3 1 (.slice (some ⟨w.heap.size + 1, 0, none⟩) m m) m (ints (rowR m (cntO ones) l s j i))) ∧ Hid (Below (w.heap.size + 1) wb wr)) (fun x _ => n' - (intOf x).toNat)
      case atStart => exact ⟨0, by omega, rfl, hown, hX⟩
      case round =>
        clear hown hX
        obtain ⟨i, hi, rfl, hown, hX⟩ := hrel
        obtain ⟨⟨m0, m1⟩, hz, hRw, hSw⟩ := HB.out wr hX.out
        by_cases hlt : i < n'
        · have hin : i < n := by omega
          obtain ⟨b, o, C, U, P, rfl, hb, hx, cC, cU, cP⟩ := hRw.st hin
          obtain ⟨bs, os, rfl, hbs, hcs⟩ := hSw.int (k := i) hlt
          have hyy := get_of_lt (l := s) (k := i) (by omega)
          generalize s[i]?.getD 0 = y at *
          obtain ⟨hy0, hy1⟩ := hs.out.2 i _ _ hx hyy
          have HU := Lib.hid (fun z (hz : Below wr.heap.size wr z) => up_any m (some ⟨b, o, none⟩) n c i j l y C U P z hx hv.out hin ((hRw.below hz).more hz.size) hy0 hy1 hjm)
          obtain ⟨hp0, hp1⟩ := hc.out _ (List.mem_of_getElem? hx)
          have hsn := Lib.hid (loadL_snoc (M := m) (cnt := cntO ones) (mark := j) hx hyy)
          have hupd : part m (cntO ones) j ((C, U, P), y) = if upB m (C, U, P) y j then cntO ones (C, U, P) else 0 := rfl
          rw [hupd] at hsn
          have hg := rowR_get (m := m) (cnt := cntO ones) (l := l) (s := s) (i := i) (j := j) j hjm
          rw [if_neg (by omega), if_pos rfl] at hg
          have hb0 : 0 ≤ loadL m (cntO ones) l (s.take i) j := loadL_nonneg (fun x hx => (hc.out x hx).1)
          have hb1 : loadL m (cntO ones) l (s.take i) j ≤ 2000 := by
            have := loadL_le (M := m) (cnt := cntO ones) (l := l) (s := s.take i) (mark := j) (B := 500) (by omega) (fun x hx => (hc.out x hx).2)
            omega
          have hset := Lib.hid (fun v (hv : v = loadL m (cntO ones) l (s.take (i + 1)) j) => rowR_set (m := m) (cnt := cntO ones) (l := l) (s := s) (i := i) hjm hv)
          have hkeep := Lib.hid (rowR_keep (m := m) (cnt := cntO ones) (l := l) (s := s) (i := i) hjm)
          have hG := Lib.hid hg
          have hcP := Lib.hid cP
          clear hupd hRw hSw hx hg cC cU cP hyy hy0 hy1
          generalize loadL m (cntO ones) l (s.take i) j = v at *
          generalize loadL m (cntO ones) l (s.take (i + 1)) j = v' at *
          generalize hup : upB m (C, U, P) y j = up at *
          clear hup
          obtain ⟨S, hS⟩ : ∃ S : World → Prop, S = fun z => (z.cell? ⟨w.heap.size, 0, none⟩ = some (.int .i64 m) ∧ z.cell? ⟨w.heap.size, 1, none⟩ = some (.slice (some ⟨b, o, none⟩) n c) ∧ z.cell? ⟨bs, os + i, none⟩ = some (.int .i64 y)) ∧ Hid (Below wr.heap.size wr z) := ⟨_, rfl⟩
          have HS := Lib.hid (fun z (hz' : Below wr.heap.size wr z) => (by rw [hS]; exact ⟨⟨(hz'.cell (p := ⟨w.heap.size, 0, none⟩) (by simp; omega)).trans m0, (hz'.cell (p := ⟨w.heap.size, 1, none⟩) (by simp; omega)).trans m1, (hz'.cell (p := ⟨bs, os + i, none⟩) hbs).trans hcs⟩, Lib.hid hz'⟩ : S z))
          have HSB := Lib.hid (fun z (hz' : S z) => (show Hid (Below wr.heap.size wr z) from (by rw [hS] at hz'; exact hz'.2)).out)
          go_wp2_with fail
          refine wp_region_held_drew (S := S) (by kernel_rfl) ?_ (fun hHeld => ?_)
          · exact HS.out _ (Below.refl _ _).drew
          refine tkY (v := ?_) 0 25 rfl rfl (by kernel_rfl) (by kernel_rfl) (by kernel_rfl) (fun _ _ _ h => h) (by kernel_rfl) ?_ (by assumption) ?_
          rotate_left
          · intro w hSw; rw [hS] at hSw; obtain ⟨⟨q0, q1, qs⟩, -⟩ := hSw; go_simp; (try with_reducible rfl)
          try simp only [Act.put, List.setIfInBounds_toArray, List.set_cons_zero, List.set_cons_succ]
          refine tkY (v := ?_) 1 26 rfl rfl (by kernel_rfl) (by kernel_rfl) (by kernel_rfl) (fun _ _ _ h => h) (by kernel_rfl) ?_ (by assumption) ?_
          rotate_left
          · intro w hSw; rw [hS] at hSw; obtain ⟨⟨q0, q1, qs⟩, -⟩ := hSw; go_simp; (try with_reducible rfl)
          try simp only [Act.put, List.setIfInBounds_toArray, List.set_cons_zero, List.set_cons_succ]
          refine tkY (v := ?_) 2 27 rfl rfl (by kernel_rfl) (by kernel_rfl) (by kernel_rfl) (fun _ _ _ h => h) (by kernel_rfl) ?_ (by assumption) ?_
          rotate_left
          · intro w hSw; rw [hS] at hSw; obtain ⟨⟨q0, q1, qs⟩, -⟩ := hSw; go_simp; (try with_reducible rfl)
          try simp only [Act.put, List.setIfInBounds_toArray, List.set_cons_zero, List.set_cons_succ]
          refine tkY (v := ?_) 3 28 rfl rfl (by kernel_rfl) (by kernel_rfl) (by kernel_rfl) (fun _ _ _ h => h) (by kernel_rfl) ?_ (by assumption) ?_
          rotate_left
          · intro w hSw; rw [hS] at hSw; obtain ⟨⟨q0, q1, qs⟩, -⟩ := hSw; go_simp; (try with_reducible rfl)
          try simp only [Act.put, List.setIfInBounds_toArray, List.set_cons_zero, List.set_cons_succ]
          refine tkY (v := ?_) 4 29 rfl rfl (by kernel_rfl) (by kernel_rfl) (by kernel_rfl) (fun _ _ _ h => h) (by kernel_rfl) ?_ (by assumption) ?_
          rotate_left
          · intro w hSw; rw [hS] at hSw; obtain ⟨⟨q0, q1, qs⟩, -⟩ := hSw; go_simp; (try with_reducible rfl)
          try simp only [Act.put, List.setIfInBounds_toArray, List.set_cons_zero, List.set_cons_succ]
          refine tkY (v := ?_) 5 30 rfl rfl (by kernel_rfl) (by kernel_rfl) (by kernel_rfl) (fun _ _ _ h => h) (by kernel_rfl) ?_ (by assumption) ?_
          rotate_left
          · intro w hSw; rw [hS] at hSw; obtain ⟨⟨q0, q1, qs⟩, -⟩ := hSw; go_simp; (try with_reducible rfl)
          try simp only [Act.put, List.setIfInBounds_toArray, List.set_cons_zero, List.set_cons_succ]
          refine tkY (v := ?_) 6 31 rfl rfl (by kernel_rfl) (by kernel_rfl) (by kernel_rfl) (fun _ _ _ h => h) (by kernel_rfl) ?_ (by assumption) ?_
          rotate_left
          · intro w hSw; rw [hS] at hSw; obtain ⟨⟨q0, q1, qs⟩, -⟩ := hSw; go_simp; (try with_reducible rfl)
          try simp only [Act.put, List.setIfInBounds_toArray, List.set_cons_zero, List.set_cons_succ]
          refine wpAnyH_ready (rs := [7]) (by kernel_rfl) (by simp) ?_
          refine AllReadyH.cons (o := _) rfl (fun K hK => ?_) AllReadyH.nil
          go_simp
          refine (HU.out _ (HSB.out _ (by assumption))).mono ?_
          rintro e z7 ⟨rfl, hb7⟩
          try go_simp
          have hz7 := Lib.hid (below_via (HSB.out _ (by assumption)) (HSB.out _ (by assumption)).size hb7)
          refine hK.out _ _ ?_ (fun hHeld => ?_)
          · exact HS.out _ hz7.out
          clear hK K hb7
          try simp only [Act.put, List.setIfInBounds_toArray, List.set_cons_zero, List.set_cons_succ]
          refine wpAnyH_done (by kernel_rfl) ?_ _
          have hX5 := Lib.hid (below_via hX.out (by omega) hz7.out)
          have hO5 := Lib.hid (own_below hown.out hz7.out)
          obtain ⟨⟨m0, m1⟩, hz, -, -⟩ := HB.out z7 hX5.out
          have cp := (hz7.out.cell (p := ⟨b, o + i * 3 + 2, none⟩) hb).trans hcP.out
          have cv : z7.cell? ⟨w.heap.size + 1, j, none⟩ = some (.int .i64 v) := by
            have h := hO5.out.cellAt j (by omega)
            rw [ints_get, hG.out] at h
            exact h
          have fv := hO5.out.frozenAt j
          clear hown hX HS HSB HU hcs hS hcP hz7
          cases up
          · have hne : v = v' := by rw [hsn.out]; simp
            go_wp2
            go_roundw
            case rel =>
              refine ⟨i + 1, by omega, by go_num, ?_, hX5⟩
              have := hO5.out
              rw [hkeep.out hne] at this
              exact this
            case measure => simp [intOf]; omega
          · cases ones
            · have hcn : cntO false (C, U, P) = P := rfl
              rw [hcn] at hp0 hp1 hsn
              have hne : v' = v + P := by rw [hsn.out, if_pos rfl]
              go_wp2_with fail
              have ws : IntKind.i64.wrap (v + P) = v + P := IntWalk.i64_in _ (by omega)
              clear m0
              go_still_tail 12, (by kernel_rfl)
              change wpList _ _ _ _ _ z7.drew
              replace cv : z7.drew.cell? ⟨w.heap.size + 1, j, none⟩ = some (.int .i64 v) := cv
              replace fv : z7.drew.frozen? ⟨w.heap.size + 1, j, none⟩ = false := fv
              replace hX5 : Hid (Below (w.heap.size + 1) wb z7.drew) := Lib.hid hX5.out.drew
              replace hO5 : Hid (z7.drew.ownsRow (w.heap.size + 1) 3 1 (.slice (some ⟨w.heap.size + 1, 0, none⟩) m m) m (ints (rowR m (cntO false) l s j i))) := hO5
              clear m1 cp hHeld
              generalize z7.drew = w6 at *
              go_wp2
              go_roundw
              case rel =>
                refine ⟨i + 1, by omega, by go_num, ?_, hX5.out.setCell (by simp) _⟩
                have := (hO5.out.stored j (.int .i64 (v + P))).1
                rw [ints_set, hset.out _ hne.symm] at this
                exact this
              case measure => simp [intOf]; omega
            · have hcn : cntO true (C, U, P) = 1 := rfl
              rw [hcn] at hp0 hp1 hsn
              have hne : v' = v + 1 := by rw [hsn.out, if_pos rfl]
              have y4 : wrap64 (v + 1) = v + 1 := w64 (by omega) (by omega)
              go_wp2
              go_roundw
              case rel =>
                refine ⟨i + 1, by omega, by go_num, ?_, hX5.out.setCell (by simp) _⟩
                have := (hO5.out.stored j (.int .i64 (v + 1))).1
                rw [ints_set, hset.out _ hne.symm] at this
                exact this
              case measure => simp [intOf]; omega
        · have hin : i = n' := by omega
          subst hin
          have hown2 : Hid (wr.ownsRow (w.heap.size + 1) 3 1 (.slice (some ⟨w.heap.size + 1, 0, none⟩) m m) m (ints (rowR m (cntO ones) l s (j + 1) 0))) := by
            have := hown.out
            rw [← hsl, rowR_next] at this
            exact this
          clear hown hRw hSw m1
          go_wp2
          go_roundw
          case rel => exact ⟨j + 1, by omega, by go_num, hown2, hX⟩
          case measure => simp [intOf]; omega
    · have hjm' : j = m := by omega
      subst hjm'
      rw [rowR_end] at hown
      clear m1
      go_wp2
      go_ret
      exact ⟨_, rfl, own_mono hown.out (by omega), HW.out _ hX.out⟩
end Go.Proofs.YtlmmjaolmmcklaaDoor
