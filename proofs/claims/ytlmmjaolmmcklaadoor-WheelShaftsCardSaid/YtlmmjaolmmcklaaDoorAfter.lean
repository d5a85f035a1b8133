/-
  The walk of the reference's setting after one.
-/
import Derived.Test.YtlmmjaolmmcklaaDoorBound
namespace Go.Proofs.YtlmmjaolmmcklaaDoor
open Go.RowKit

/-- How many places each stamper has. -/
def places (M : Int) (l : List St3) : List Nat := l.map fun x => (M / x.1).toNat
theorem places_len {M : Int} {l : List St3} : (places M l).length = l.length := by simp [places]
theorem places_get {M : Int} {l : List St3} {k : Nat} {C U P : Int} (hx : l[k]? = some (C, U, P)) : (places M l)[k]? = some (M / C).toNat := by
  unfold places; rw [List.getElem?_map, hx]; rfl
theorem places_pos {M : Int} {l : List St3} (h : shaftB M l = true) : ∀ d ∈ places M l, 0 < d := by
  intro d hd
  obtain ⟨x, hx, rfl⟩ := List.mem_map.1 hd
  obtain ⟨k, hk⟩ := List.getElem?_of_mem hx
  obtain ⟨C, U, P⟩ := x
  have := shaft_st h hk
  simp only
  omega
theorem zeros_eq (ds : List Nat) : zeros ds = List.replicate ds.length 0 := by
  unfold zeros
  exact List.eq_replicate_iff.2 ⟨by simp, fun b hb => by obtain ⟨a, _, rfl⟩ := List.mem_map.1 hb; rfl⟩

theorem after_at {d : Nat} {x : Int} {db : List Nat} {sb : List Int} (h : afterL db sb = none) (hx : x + 1 < (d : Int)) : ∀ (da : List Nat) (sa : List Int), da.length = sa.length →
    afterL (da ++ d :: db) (sa ++ x :: sb) = some (sa ++ (x + 1) :: zeros db)
  | [], [], _ => by
    show afterL (d :: db) (x :: sb) = _
    unfold afterL
    rw [h]
    simp only
    rw [if_pos hx]
    rfl
  | e :: da, y :: sa, hl => by
    have ih := after_at h hx da sa (by simpa using hl)
    show afterL (e :: (da ++ d :: db)) (y :: (sa ++ x :: sb)) = _
    unfold afterL
    rw [ih]
    rfl
  | [], y :: sa, hl => by simp at hl
  | e :: da, [], hl => by simp at hl
theorem after_not {d : Nat} {x : Int} {db : List Nat} {sb : List Int} (h : afterL db sb = none) (hx : ¬ x + 1 < (d : Int)) : afterL (d :: db) (x :: sb) = none := by
  unfold afterL
  rw [h]
  simp only
  rw [if_neg hx]

/-- The copy while its last places are looked at: so many are still as they were. -/
def outA (s : List Int) (k : Nat) : List Int := s.take k ++ List.replicate (s.length - k) 0
theorem outA_len {s : List Int} {k : Nat} (h : k ≤ s.length) : (outA s k).length = s.length := by simp [outA]; omega
theorem outA_all (s : List Int) : outA s s.length = s := by simp [outA]
theorem outA_get {s : List Int} {k : Nat} (h : k < s.length) : (outA s (k + 1))[k]? = s[k]? := by
  unfold outA
  rw [List.getElem?_append_left (by simp; omega), List.getElem?_take_of_lt (by omega)]
theorem outA_set {s : List Int} {k : Nat} (h : k < s.length) (v : Int) : (outA s (k + 1)).set k v = s.take k ++ v :: List.replicate (s.length - (k + 1)) 0 := by
  unfold outA
  have h1 : (s.take (k + 1)).length = k + 1 := by simp; omega
  rw [List.set_append_left _ _ (by omega), List.take_add_one, get_of_lt h]
  simp only [Option.toList_some]
  have h2 : (s.take k).length = k := by simp; omega
  rw [List.set_append_right _ _ (by omega), h2, Nat.sub_self]
  simp
theorem outA_zero {s : List Int} {k : Nat} (h : k < s.length) : s.take k ++ 0 :: List.replicate (s.length - (k + 1)) 0 = outA s k := by
  unfold outA
  rw [← List.replicate_succ, show s.length - (k + 1) + 1 = s.length - k by omega]

theorem after_step {ds : List Nat} {s : List Int} {k d : Nat} {x : Int} (hl : ds.length = s.length) (hd : ds[k]? = some d) (hx : s[k]? = some x) (h : afterL (ds.drop (k + 1)) (s.drop (k + 1)) = none) :
    (x + 1 < (d : Int) → afterL ds s = some (s.take k ++ (x + 1) :: List.replicate (s.length - (k + 1)) 0)) ∧ (¬ x + 1 < (d : Int) → afterL (ds.drop k) (s.drop k) = none) := by
  have hk : k < ds.length := (List.getElem?_eq_some_iff.1 hd).1
  have e1 : ds.drop k = d :: ds.drop (k + 1) := by
    rw [List.drop_eq_getElem_cons hk]; congr 1
    have := (List.getElem?_eq_some_iff.1 hd).2; exact this
  have e2 : s.drop k = x :: s.drop (k + 1) := by
    rw [List.drop_eq_getElem_cons (by omega)]; congr 1
    have := (List.getElem?_eq_some_iff.1 hx).2; exact this
  constructor
  · intro hlt
    have := after_at h hlt (ds.take k) (s.take k) (by simp; omega)
    rw [← e1, ← e2, List.take_append_drop, List.take_append_drop, zeros_eq, List.length_drop, hl] at this
    exact this
  · intro hn
    rw [e1, e2]
    exact after_not h hn

set_option maxRecDepth 100000 in
set_option maxHeartbeats 1000000 in
theorem after_any (m : Nat) (A A' : Option Addr) (n c c' : Nat) (l : List St3) (s : List Int) (w : World) (hR : Reads w w.heap.size 3 A n (sts l)) (hS : Reads w w.heap.size 1 A' n (ints s)) (hv : Hid (shaftB m l = true)) (hs : Hid (SetOk m l s)) :
    Calls Tryd.prog 83 #[.agg #[.int .i64 m, .slice A n c], .slice A' n c'] w fun e w' =>
      ∃ v t, e = .returned (.tuple #[v, .bool (afterL (places m l) s).isSome]) ∧ w'.ownsRow w.heap.size 3 1 v n (ints t) ∧ (∀ u, afterL (places m l) s = some u → t = u) ∧ Below w.heap.size w w' := by
  obtain ⟨hM1, hM2, hn4⟩ := shaft_bounds hv.out
  have hl : l.length = n := hR.st_len
  have hsl : s.length = n := by simpa using hS.len
  obtain ⟨i0, hi, hz0, hz1, hz2⟩ := info_parts info_int
  have HK := Lib.hid (fun x (hx : Below (w.heap.size + 1) (w.alloc (.cells #[.int .i64 m, .slice A n c] 24)) x) => shaft_box hR hx)
  have HW := Lib.hid (fun x (hx : Below (w.heap.size + 1) (w.alloc (.cells #[.int .i64 m, .slice A n c] 24)) x) => box_below hx)
  have HRb := Lib.hid (fun x (hx : Below (w.heap.size + 1) (w.alloc (.cells #[.int .i64 m, .slice A n c] 24)) x) => (hR.alloc (Nat.le_refl _) (.cells #[.int .i64 m, .slice A n c] 24)).below (hx.mono (by omega : w.heap.size ≤ w.heap.size + 1)))
  have HO := Lib.hid (World.ownsRow_lit (w.alloc (.cells #[.int .i64 m, .slice A n c] 24)) (base := w.heap.size + 1) (e := 3) (size := 1) #[] 0 (by simp) (by unfold maxLen; omega) rfl)
  rw [show (w.alloc (.cells #[.int .i64 m, .slice A n c] 24)).heap.size = w.heap.size + 1 by simp] at HO
  have HSr := Lib.hid ((hS.alloc (Nat.le_refl _) (.cells #[.int .i64 m, .slice A n c] 24)).alloc (by simp) (.cells #[] 3))
  have HX0 : Hid (Below (w.heap.size + 1) (w.alloc (.cells #[.int .i64 m, .slice A n c] 24)) ((w.alloc (.cells #[.int .i64 m, .slice A n c] 24)).alloc (.cells #[] 3))) := (Below.refl _ _).alloc (by simp) _
  have hds : Hid ((places m l).length = s.length) := by show _ = _; rw [places_len]; omega
  clear hR hS
  go_enter Tryd.func83, Tryd.ntmps83
  go_wp2_with (first
    | (at_builtin; refine wpList_app _ rfl _ _ 25 rfl (w.heap.size + 1) 3 i0 _ 1 8 Tryd.underlying25 hi hz0 hz1 hz2 rfl (by decide) _ 0 [] rfl (by exact HO.out) w.heap.size A' n c' _ rfl (HSr.out) (ints_one _) ?c3 ?c4 ?c5 ?_)
    | fail)
  case c3 => unfold maxLen; omega
  case c4 => omega
  intro v' w' hown hgr hat
  have hown2 : w'.ownsRow (w.heap.size + 1) 3 1 v' n (ints (outA s n)) := by
    have e : outA s n = s := by rw [← hsl]; exact outA_all s
    rw [e]
    simpa using hown
  obtain ⟨Av, cv, rfl, -⟩ := own_slice hown2
  have hO1 := Lib.hid hown2
  have hX1 : Hid (Below (w.heap.size + 1) (w.alloc (.cells #[.int .i64 m, .slice A n c] 24)) w') := HX0.out.grown hgr (by simp) (fun k hk => by simp [Value.ownBlock] at hk; omega)
  have hno0 : Hid (afterL ((places m l).drop n) (s.drop n) = none) := by
    show _ = _
    rw [List.drop_eq_nil_of_le (by rw [hds.out]; omega), List.drop_eq_nil_of_le (by omega)]
    rfl
  clear hown hown2 hgr hat HO HSr HX0
  go_wp2
  generalize (w.alloc (.cells #[.int .i64 m, .slice A n c] 24)) = wb at *
  go_loopw [7] (fun x wr => ∃ k : Nat, k ≤ n ∧ x = .int .i64 ((k : Int) - 1) ∧ Hid (afterL ((places m l).drop k) (s.drop k) = none) ∧ Hid (wr.ownsRow (w.heap.size + 1) 3 1 (.slice Av n cv) n (ints (outA s k))) ∧ Hid (Below (w.heap.size + 1) wb wr)) (fun x _ => ((intOf x) + 1).toNat)
  case atStart => exact ⟨n, by omega, by go_num, hno0, hO1, hX1⟩
  case round =>
    clear hno0 hO1 hX1
    obtain ⟨k, hk, rfl, hno, hown, hX⟩ := hrel
    obtain ⟨m0, m1, hz, hRw⟩ := HK.out wr hX.out
    rcases k with _ | k
    · rw [show (((0 : Nat) : Int) - 1) = -1 from rfl]
      have hno' : Hid (afterL (places m l) s = none) := by
        have := hno.out
        rw [List.drop_zero, List.drop_zero] at this
        exact this
      clear m1 hRw hno
      go_wp2
      go_ret2
      refine ⟨_, outA s 0, ?_, own_mono hown.out (by omega), fun u hu => ?_, HW.out _ hX.out⟩
      · rw [hno'.out]; rfl
      · rw [hno'.out] at hu; cases hu
    · rw [show (((k + 1 : Nat) : Int) - 1) = (k : Int) by push_cast; omega]
      obtain ⟨b, o, C, U, P, rfl, hb, hx, c0, -, -⟩ := (HRb.out wr hX.out).st (k := k) (by omega)
      have hy := get_of_lt (l := s) (k := k) (by omega)
      obtain ⟨hC1, hC2, -, -, -, -, -⟩ := shaft_st hv.out hx
      obtain ⟨hy0, hy1⟩ := hs.out.2 k _ _ hx hy
      obtain ⟨g, cap, hvv, -, hgl⟩ := hown.out.form (by omega)
      simp only [Value.slice.injEq] at hvv
      obtain ⟨rfl, -, rfl⟩ := hvv
      have hgb := (hown.out.lt g rfl).1
      have cy : wr.cell? ⟨g, k, none⟩ = some (.int .i64 (s[k]?.getD 0)) := by
        have h := hown.out.cellAt k (by omega)
        rw [ints_get, outA_get (by omega), hy] at h
        exact h
      have fy := hown.out.frozenAt k
      have hst := Lib.hid (after_step (ds := places m l) hds.out (places_get hx) hy hno.out)
      have hset := Lib.hid (outA_set (s := s) (k := k) (by omega))
      have hzer := Lib.hid (outA_zero (s := s) (k := k) (by omega))
      have hlen : Hid ((s.take k).length = k) := by show _ = _; simp; omega
      clear hRw hno hx
      simp only at hy1
      generalize s[k]?.getD 0 = x at *
      have hd1 : (m : Int) / C ≤ m := Int.ediv_le_self _ (by omega)
      have hd0 : 0 < (m : Int) / C := by omega
      have hdn : (((m : Int) / C).toNat : Int) = (m : Int) / C := by omega
      have q1 : (m : Int).tdiv C = m / C := Int.tdiv_eq_ediv_of_nonneg (by omega)
      have hst2 := hst.out
      rw [hdn] at hst2
      have hst3 := Lib.hid hst2
      clear hst hst2 hdn
      generalize (m : Int) / C = d at *
      have z1 : wrap64 (x + 1) = x + 1 := w64 (by omega) (by omega)
      have z2 : wrap64 d = d := w64 (by omega) (by omega)
      have Cz : ¬ C = 0 := by omega
      have Cz' : (C == 0) = false := by simpa using Cz
      have hkn : k < n := by omega
      have g0 : (wr.setCell ⟨g, k, none⟩ (.int .i64 (x + 1))).cell? ⟨w.heap.size, 0, none⟩ = some (.int .i64 m) := by rw [World.cell?_setCell_far _ _ _ _ (by simp; omega)]; exact m0
      have g1 : (wr.setCell ⟨g, k, none⟩ (.int .i64 (x + 1))).cell? ⟨w.heap.size, 1, none⟩ = some (.slice (some ⟨b, o, none⟩) n c) := by rw [World.cell?_setCell_far _ _ _ _ (by simp; omega)]; exact m1
      have g2 : (wr.setCell ⟨g, k, none⟩ (.int .i64 (x + 1))).cell? ⟨b, o + k * 3, none⟩ = some (.int .i64 C) := by rw [World.cell?_setCell_far _ _ _ _ (by simp; omega)]; exact c0
      have g3 : (wr.setCell ⟨g, k, none⟩ (.int .i64 (x + 1))).cell? ⟨g, k, none⟩ = some (.int .i64 (x + 1)) := World.cell?_setCell_same _ _ _ cy
      have hO5 : Hid ((wr.setCell ⟨g, k, none⟩ (.int .i64 (x + 1))).ownsRow (w.heap.size + 1) 3 1 (.slice (some ⟨g, 0, none⟩) n cv) n (ints (s.take k ++ (x + 1) :: List.replicate (s.length - (k + 1)) 0))) := by
        have := (hown.out.stored k (.int .i64 (x + 1))).1
        rw [ints_set, hset.out] at this
        exact this
      have hX5 : Hid (Below (w.heap.size + 1) wb (wr.setCell ⟨g, k, none⟩ (.int .i64 (x + 1)))) := hX.out.setCell (by simpa using hgb) _
      clear m0 m1 c0 hown hX
      by_cases hlt : x + 1 < d
      · have hres := Lib.hid (hst3.out.1 hlt)
        go_wp2_with fail
        clear cy fy
        generalize wr.setCell ⟨g, k, none⟩ (.int .i64 (x + 1)) = w5 at *
        go_quiet (fail)
        go_wp2
        go_ret2
        refine ⟨_, s.take k ++ (x + 1) :: List.replicate (s.length - (k + 1)) 0, ?_, own_mono (hO5.out) (by omega), fun u hu => ?_, below_drewN (HW.out _ hX5.out) _⟩
        · rw [hres.out]; rfl
        · rw [hres.out] at hu; exact Option.some.inj hu
      · have hno2 := Lib.hid (hst3.out.2 hlt)
        go_wp2_with fail
        clear cy fy
        generalize wr.setCell ⟨g, k, none⟩ (.int .i64 (x + 1)) = w5 at *
        have f5 := hO5.out.frozenAt k
        go_quiet (fail)
        go_wp2
        go_roundw
        case rel =>
          refine ⟨k, by omega, by go_num, hno2, ?_, ?_⟩
          · have := (hO5.out.stored k (.int .i64 0)).1
            rw [ints_set, List.set_append_right _ _ (by rw [hlen.out]; omega), hlen.out, Nat.sub_self, List.set_cons_zero, hzer.out] at this
            exact this
          · exact (below_drewN hX5.out _).setCell (by simpa using hgb) _
        case measure => simp [intOf]
end Go.Proofs.YtlmmjaolmmcklaaDoor
