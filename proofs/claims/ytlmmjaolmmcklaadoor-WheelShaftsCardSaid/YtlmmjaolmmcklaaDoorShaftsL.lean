/-
  The walk of the law on shafts: loads, best settings and the bound are as the reference says, whatever the input.
-/
import Derived.Test.YtlmmjaolmmcklaaDoorBests
import Derived.Test.YtlmmjaolmmcklaaDoorTwin
import Derived.Test.YtlmmjaolmmcklaaDoorSameS
import Derived.Test.YtlmmjaolmmcklaaDoorSame
namespace Go.Proofs.YtlmmjaolmmcklaaDoor
open Go.RowKit
set_option linter.unusedVariables false
set_option linter.unusedSimpArgs false

theorem RSound_any (M : Int) (A : Option Addr) (n c : Nat) (l : List St3) (w : World) (hn : n ≤ maxLen) (hR : Reads w w.heap.size 3 A n (sts l)) :
    Calls Tryd.prog 33 #[.agg #[.int .i64 M, .slice A n c]] w fun e w' => e = .returned (.int .i64 (soundS M l)) ∧ Below w.heap.size w w' := by
  have H1 := Lib.hid (Shaft_any M A n c l (w.alloc (.cells #[.int .i64 M, .slice A n c] 24)) hn ((hR.alloc (Nat.le_refl _) _).more (by simp)))
  have hW := Lib.hid ((Below.refl w.heap.size w).alloc (Nat.le_refl _) (.cells #[.int .i64 M, .slice A n c] 24))
  clear hR
  cases h1 : shaftB M l
  · have hf : Hid (soundS M l = 102) := by show soundS M l = _; unfold soundS; rw [h1]; rfl
    rw [h1] at H1
    rw [hf.out]
    clear h1
    go_enter Tryd.func33, Tryd.ntmps33
    go_wp2_with fail
    refine H1.out.mono ?_
    rintro e w1 ⟨rfl, hb1⟩
    have hB := Lib.hid (hW.out.trans (hb1.mono (by simp)))
    clear hb1 H1
    go_wp2
    go_ret
    exact ⟨rfl, hB.out⟩
  · have hf : Hid (soundS M l = 0) := by show soundS M l = _; unfold soundS; rw [h1]; rfl
    rw [h1] at H1
    rw [hf.out]
    clear h1
    go_enter Tryd.func33, Tryd.ntmps33
    go_wp2_with fail
    refine H1.out.mono ?_
    rintro e w1 ⟨rfl, hb1⟩
    have hB := Lib.hid (hW.out.trans (hb1.mono (by simp)))
    clear hb1 H1
    go_wp2
    go_ret
    exact ⟨rfl, hB.out⟩

theorem same_true (A A' : Option Addr) (n m c c' : Nat) (l : List Int) (w : World) (hn : n ≤ maxLen) (hm : m ≤ maxLen) (h : Reads w w.heap.size 1 A n (ints l)) (h' : Reads w w.heap.size 1 A' m (ints l)) :
    Calls Tryd.prog 13 #[.slice A n c, .slice A' m c'] w fun e w' => e = .returned (.bool true) ∧ Below w.heap.size w w' := by
  refine (sameInts_any A A' n m c c' l l w hn hm h h').mono ?_
  rintro e w' ⟨rfl, k, rfl⟩
  exact ⟨by simp, below_drewN (Below.refl _ _) _⟩
theorem reads_max {w : World} {B n : Nat} {A : Option Addr} {l : List Int} (h : Reads w B 1 A n (ints l)) (hl : l.length ≤ 4096) : n ≤ maxLen := by
  have : l.length = n := by simpa using h.len
  unfold maxLen
  omega
theorem loadsS_len (M : Int) (l : List St3) (s : List Int) : (loadsS M l s).1.length ≤ 4096 := by
  unfold loadsS
  split
  · rename_i h
    obtain ⟨h1, h2, h3⟩ := shaft_bounds h
    split
    · rw [loadsL_len]; omega
    · simp
  · simp
theorem bestS_len (f : List Int → Int) (ds : List Nat) : (bestS f ds).1.length ≤ ds.length := by
  have : ∀ (L : List (List Int)) (st : List Int × Int), st.1.length ≤ ds.length → (∀ s ∈ L, s.length = ds.length) → (L.foldl (upd f) st).1.length ≤ ds.length := by
    intro L
    induction L with
    | nil => intro st h _; exact h
    | cons s L ih =>
      intro st h hs
      rw [List.foldl_cons]
      refine ih _ ?_ (fun t ht => hs t (by simp [ht]))
      unfold upd
      split
      · exact h
      · have := hs s (by simp); simp only; omega
  refine this _ _ (by simp) ?_
  clear this
  induction ds with
  | nil => intro s hs; simp [allL] at hs; subst hs; rfl
  | cons d ds ih =>
    intro s hs
    rw [allL_cons] at hs
    obtain ⟨x, -, hx⟩ := List.mem_flatMap.1 hs
    obtain ⟨r, hr, rfl⟩ := List.mem_map.1 hx
    simp [ih r hr]
theorem bestV_len (ones : Bool) (M : Int) (l : List St3) : (bestV ones M l).1.1.length ≤ 4096 := by
  unfold bestV
  split
  · rename_i h
    obtain ⟨h1, h2, h3⟩ := shaft_bounds h
    have := bestS_len (mostL M (cntO ones) l) (places M l)
    rw [places_len] at this
    simp only
    omega
  · simp

set_option maxRecDepth 100000 in
set_option maxHeartbeats 2000000 in
theorem law_shafts (M : Int) (A A' : Option Addr) (n c n' c' : Nat) (l : List St3) (s : List Int) (w : World) (hR : Reads w w.heap.size 3 A n (sts l)) (hS : Reads w w.heap.size 1 A' n' (ints s)) (hL : Laid w) :
    Calls Tryd.prog 5 #[.agg #[.int .i64 M, .slice A n c], .slice A' n' c'] w fun e w' => e = .returned (.bool true) ∧ Below w.heap.size w w' := by
  have H1 := Lib.hid (Great_any M A n c (w.alloc (.cells #[.int .i64 M, .slice A n c] 24)))
  have hB := Lib.hid ((Below.refl w.heap.size w).alloc (Nat.le_refl _) (.cells #[.int .i64 M, .slice A n c] 24))
  by_cases hn : n ≤ 10
  · have hg : decide (10 < n) = false := by simp; omega
    rw [hg] at H1
    by_cases hm : n' ≤ 10
    · obtain ⟨i0, hi, hzi0, hzi1, hzi2⟩ := info_parts info_int
      go_enter Tryd.func5, Tryd.ntmps5
      go_wp2_with fail
      refine H1.out.mono ?_
      rintro e w1 ⟨rfl, hb1⟩
      have hB1 := Lib.hid (hB.out.trans (hb1.mono (by simp)))
      have hz1 : w.heap.size + 1 ≤ w1.heap.size := by have := hb1.size; simpa using this
      have k0 : w1.heap[w.heap.size]? = some (.cells #[.int .i64 M, .slice A n c] 24 (0, 0)) := (hb1.block _ (by simp)).trans (heap_alloc_new w _)
      have c0 : w1.cell? ⟨w.heap.size, 0, none⟩ = some (.int .i64 M) := by simp [World.cell?, k0]
      have c1 : w1.cell? ⟨w.heap.size, 1, none⟩ = some (.slice A n c) := by simp [World.cell?, k0]
      have H2 := Lib.hid (Twin_any M A n c l w1 (by omega) ((hR.below hB1.out).more hB1.out.size))
      clear hb1 H1 hB
      go_wp2_with fail
      refine H2.out.mono ?_
      rintro e w2 ⟨v, rfl, hv, hb2⟩
      have hB2 := Lib.hid (below_via hB1.out hB1.out.size hb2)
      have hz2 : w.heap.size + 1 ≤ w2.heap.size := Nat.le_trans hz1 hb2.size
      have k0' := (hb2.block w.heap.size (by omega)).trans k0
      obtain ⟨Ao, co, rfl, hO⟩ := own_slice hv
      have hOwn := Lib.hid (World.ownsRow_lit w2 (base := w2.heap.size) (e := 3) (size := 1) #[] 0 (Nat.le_refl _) (by unfold maxLen; omega) rfl)
      have hS2 := Lib.hid (hS.below hB2.out)
      clear hb2 H2 hv c0 c1 k0
      go_wp2_with (first
        | (at_builtin; refine wpList_app _ rfl _ _ 25 rfl w2.heap.size 3 i0 _ 1 8 Tryd.underlying25 hi hzi0 hzi1 hzi2 rfl (by decide) _ 0 [] rfl (by exact hOwn.out) w.heap.size A' n' c' _ rfl (hS2.out.alloc hB2.out.size _) (ints_one _) ?c3 ?c4 ?c5 ?_)
        | fail)
      case c3 => unfold maxLen; omega
      case c4 => omega
      try (case c5 => simp)
      intro v' w3 hown hgr hat
      have hz3 : w2.heap.size + 1 ≤ w3.heap.size := by have := hgr.size; simpa using this
      have hB3 := Lib.hid ((hB2.out.alloc hB2.out.size (.cells #[] 3)).grown hgr (by simp; omega) (fun k hk => by simp [Value.ownBlock] at hk; omega))
      have k0'' : w3.heap[w.heap.size]? = some (.cells #[.int .i64 M, .slice A n c] 24 (0, 0)) := (hgr.block _ (by simp; omega) (by simp [Value.ownBlock]; omega)).trans ((heap_lt_alloc' _ _ _ (by omega)).trans k0')
      have hO3 : Hid (Reads w3 w3.heap.size 3 Ao n (sts l)) := Lib.hid (((hO.alloc (Nat.le_refl _) (.cells #[] 3)).grown hgr (by simp) (fun k hk => by simp [Value.ownBlock] at hk; omega)).more (by omega))
      obtain ⟨Al, cl, rfl, hLr⟩ := own_slice hown
      have hL3 : Hid (Reads w3 w3.heap.size 1 Al n' (ints s)) := Lib.hid (by simpa using hLr)
      clear hOwn hS2 hown hgr hat hO hLr k0'
      have hz4 : w.heap.size + 1 ≤ w3.heap.size := by omega
      have hl : l.length = n := hR.st_len
      have K := Lib.hid (fun (y : World) (hy : Below (w3.heap.size + 1) (w3.alloc (.cells #[.int .i64 M, .slice Ao n co] 24)) y) =>
        (⟨⟨(hy.cell (p := ⟨w.heap.size, 0, none⟩) (by simp; omega)).trans (by rw [World.cell?_alloc_lt w3 _ _ (by simp; omega)]; simp [World.cell?, k0'']), (hy.cell (p := ⟨w.heap.size, 1, none⟩) (by simp; omega)).trans (by rw [World.cell?_alloc_lt w3 _ _ (by simp; omega)]; simp [World.cell?, k0'']), (hy.cell (p := ⟨w3.heap.size, 0, none⟩) (by simp)).trans (by rw [World.cell?_alloc_at _ _ _ _ rfl]; rfl), (hy.cell (p := ⟨w3.heap.size, 1, none⟩) (by simp)).trans (by rw [World.cell?_alloc_at _ _ _ _ rfl]; rfl)⟩,
          hB3.out.trans (box_below hy |>.mono hB3.out.size)⟩ : (y.cell? ⟨w.heap.size, 0, none⟩ = some (.int .i64 M) ∧ y.cell? ⟨w.heap.size, 1, none⟩ = some (.slice A n c) ∧ y.cell? ⟨w3.heap.size, 0, none⟩ = some (.int .i64 M) ∧ y.cell? ⟨w3.heap.size, 1, none⟩ = some (.slice Ao n co)) ∧ Below w.heap.size w y))
      have KZ := Lib.hid (fun (y : World) (hy : Below (w3.heap.size + 1) (w3.alloc (.cells #[.int .i64 M, .slice Ao n co] 24)) y) => (by have := hy.size; simpa using this : w3.heap.size + 1 ≤ y.heap.size))
      have KR := Lib.hid (fun (y : World) (hy : Below (w3.heap.size + 1) (w3.alloc (.cells #[.int .i64 M, .slice Ao n co] 24)) y) => And.intro ((hR.below (K.out y hy).2).more (K.out y hy).2.size) (And.intro ((hS.below (K.out y hy).2).more (K.out y hy).2.size) (And.intro (keep_reads hO3.out hy) (And.intro (keep_reads hL3.out hy) (hL.below (K.out y hy).2 hL.2.2)))))
      have hX0 : Hid (Below (w3.heap.size + 1) (w3.alloc (.cells #[.int .i64 M, .slice Ao n co] 24)) (w3.alloc (.cells #[.int .i64 M, .slice Ao n co] 24))) := Below.refl _ _
      have hnm : n ≤ maxLen := by unfold maxLen; omega
      have hnm' : n' ≤ maxLen := by unfold maxLen; omega
      obtain ⟨⟨m0, m1, m2, m3⟩, -⟩ := K.out _ hX0.out
      clear hO3 hL3 hR hS hL k0'' hB3 hB2 hB1
      go_wp2_with fail
      generalize (w3.alloc (.cells #[.int .i64 M, .slice Ao n co] 24)) = x0 at *
      refine (Loads_any M Ao Al n co n' cl l s x0 hnm (KR.out _ hX0.out).2.2.1 (KR.out _ hX0.out).2.2.2.1 (KR.out _ hX0.out).2.2.2.2).mono ?_
      rintro e y1 ⟨v1, rfl, hv1, hb1⟩
      have hd1 := Lib.hid (below_via hX0.out (KZ.out _ hX0.out) hb1)
      obtain ⟨A1, a1, rfl, hr1⟩ := own_slice hv1
      have r1 := Lib.hid hr1
      clear hv1 hr1 hb1 m0 m1 m2 m3
      obtain ⟨⟨m0, m1, m2, m3⟩, -⟩ := K.out _ hd1.out
      go_wp2_with fail
      refine (RLoads_any M A A' n c n' c' l s y1 hnm (KR.out _ hd1.out).1 (KR.out _ hd1.out).2.1).mono ?_
      rintro e y2 ⟨v2, rfl, hv2, hb2⟩
      have hd2 := Lib.hid (below_via hd1.out (KZ.out _ hd1.out) hb2)
      obtain ⟨A2, a2, rfl, hr2⟩ := own_slice hv2
      have r2 := Lib.hid hr2
      have r12 := Lib.hid ((r1.out.below hb2).more hb2.size)
      clear hv2 hr2 hb2 r1 m0 m1 m2 m3
      obtain ⟨⟨m0, m1, m2, m3⟩, -⟩ := K.out _ hd2.out
      go_wp2_with fail
      refine (Best_any M Ao n co l y2 hnm (KR.out _ hd2.out).2.2.1 (KR.out _ hd2.out).2.2.2.2).mono ?_
      rintro e y3 ⟨A3, k3, a3, rfl, hr3, hb3⟩
      have hd3 := Lib.hid (below_via hd2.out (KZ.out _ hd2.out) hb3)
      have r3 := Lib.hid hr3
      have r12' := Lib.hid ((r12.out.below hb3).more hb3.size)
      have r2' := Lib.hid ((r2.out.below hb3).more hb3.size)
      clear hr3 hb3 r12 r2 m0 m1 m2 m3
      have r12 := r12'
      clear r12'
      have r2 := r2'
      clear r2'
      obtain ⟨⟨m0, m1, m2, m3⟩, -⟩ := K.out _ hd3.out
      go_wp2_with fail
      refine (RBest_any M A n c l y3 hnm (KR.out _ hd3.out).1).mono ?_
      rintro e y4 ⟨A4, k4, a4, rfl, hr4, hb4⟩
      have hd4 := Lib.hid (below_via hd3.out (KZ.out _ hd3.out) hb4)
      have r4 := Lib.hid hr4
      have r12' := Lib.hid ((r12.out.below hb4).more hb4.size)
      have r2' := Lib.hid ((r2.out.below hb4).more hb4.size)
      have r3' := Lib.hid ((r3.out.below hb4).more hb4.size)
      clear hr4 hb4 r12 r2 r3 m0 m1 m2 m3
      have r12 := r12'
      clear r12'
      have r2 := r2'
      clear r2'
      have r3 := r3'
      clear r3'
      obtain ⟨⟨m0, m1, m2, m3⟩, -⟩ := K.out _ hd4.out
      go_wp2_with fail
      refine (Fewest_any M Ao n co l y4 hnm (KR.out _ hd4.out).2.2.1 (KR.out _ hd4.out).2.2.2.2).mono ?_
      rintro e y5 ⟨A5, k5, a5, rfl, hr5, hb5⟩
      have hd5 := Lib.hid (below_via hd4.out (KZ.out _ hd4.out) hb5)
      have r5 := Lib.hid hr5
      have r12' := Lib.hid ((r12.out.below hb5).more hb5.size)
      have r2' := Lib.hid ((r2.out.below hb5).more hb5.size)
      have r3' := Lib.hid ((r3.out.below hb5).more hb5.size)
      have r4' := Lib.hid ((r4.out.below hb5).more hb5.size)
      clear hr5 hb5 r12 r2 r3 r4 m0 m1 m2 m3
      have r12 := r12'
      clear r12'
      have r2 := r2'
      clear r2'
      have r3 := r3'
      clear r3'
      have r4 := r4'
      clear r4'
      obtain ⟨⟨m0, m1, m2, m3⟩, -⟩ := K.out _ hd5.out
      go_wp2_with fail
      refine (RFewest_any M A n c l y5 hnm (KR.out _ hd5.out).1).mono ?_
      rintro e y6 ⟨A6, k6, a6, rfl, hr6, hb6⟩
      have hd6 := Lib.hid (below_via hd5.out (KZ.out _ hd5.out) hb6)
      have r6 := Lib.hid hr6
      have r12' := Lib.hid ((r12.out.below hb6).more hb6.size)
      have r2' := Lib.hid ((r2.out.below hb6).more hb6.size)
      have r3' := Lib.hid ((r3.out.below hb6).more hb6.size)
      have r4' := Lib.hid ((r4.out.below hb6).more hb6.size)
      have r5' := Lib.hid ((r5.out.below hb6).more hb6.size)
      clear hr6 hb6 r12 r2 r3 r4 r5 m0 m1 m2 m3
      have r12 := r12'
      clear r12'
      have r2 := r2'
      clear r2'
      have r3 := r3'
      clear r3'
      have r4 := r4'
      clear r4'
      have r5 := r5'
      clear r5'
      obtain ⟨⟨m0, m1, m2, m3⟩, -⟩ := K.out _ hd6.out
      go_wp2_with fail
      refine (Bound_any M Ao n co l y6 hnm (KR.out _ hd6.out).2.2.1 (KR.out _ hd6.out).2.2.2.2).mono ?_
      rintro e y7 ⟨rfl, hb7⟩
      have hd7 := Lib.hid (below_via hd6.out (KZ.out _ hd6.out) hb7)
      have r12' := Lib.hid ((r12.out.below hb7).more hb7.size)
      have r2' := Lib.hid ((r2.out.below hb7).more hb7.size)
      have r3' := Lib.hid ((r3.out.below hb7).more hb7.size)
      have r4' := Lib.hid ((r4.out.below hb7).more hb7.size)
      have r5' := Lib.hid ((r5.out.below hb7).more hb7.size)
      have r6' := Lib.hid ((r6.out.below hb7).more hb7.size)
      clear hb7 r12 r2 r3 r4 r5 r6 m0 m1 m2 m3
      have r12 := r12'
      clear r12'
      have r2 := r2'
      clear r2'
      have r3 := r3'
      clear r3'
      have r4 := r4'
      clear r4'
      have r5 := r5'
      clear r5'
      have r6 := r6'
      clear r6'
      obtain ⟨⟨m0, m1, m2, m3⟩, -⟩ := K.out _ hd7.out
      go_wp2_with fail
      refine (RBound_any M A n c l y7 hnm (KR.out _ hd7.out).1).mono ?_
      rintro e y8 ⟨rfl, hb8⟩
      have hd8 := Lib.hid (below_via hd7.out (KZ.out _ hd7.out) hb8)
      have r12' := Lib.hid ((r12.out.below hb8).more hb8.size)
      have r2' := Lib.hid ((r2.out.below hb8).more hb8.size)
      have r3' := Lib.hid ((r3.out.below hb8).more hb8.size)
      have r4' := Lib.hid ((r4.out.below hb8).more hb8.size)
      have r5' := Lib.hid ((r5.out.below hb8).more hb8.size)
      have r6' := Lib.hid ((r6.out.below hb8).more hb8.size)
      clear hb8 r12 r2 r3 r4 r5 r6 m0 m1 m2 m3
      have r12 := r12'
      clear r12'
      have r2 := r2'
      clear r2'
      have r3 := r3'
      clear r3'
      have r4 := r4'
      clear r4'
      have r5 := r5'
      clear r5'
      have r6 := r6'
      clear r6'
      obtain ⟨⟨m0, m1, m2, m3⟩, -⟩ := K.out _ hd8.out
      clear m0 m1 m2 m3
      have KB := Lib.hid (fun (z : World) (hz : Below y8.heap.size y8 z) => below_via hd8.out (KZ.out _ hd8.out) hz)
      obtain ⟨S, hS⟩ : ∃ S : World → Prop, S = fun z => (z.cell? ⟨w.heap.size, 0, none⟩ = some (.int .i64 M) ∧ z.cell? ⟨w.heap.size, 1, none⟩ = some (.slice A n c) ∧ z.cell? ⟨w3.heap.size, 0, none⟩ = some (.int .i64 M) ∧ z.cell? ⟨w3.heap.size, 1, none⟩ = some (.slice Ao n co)) ∧ Hid (Below y8.heap.size y8 z) := ⟨_, rfl⟩
      have HS := Lib.hid (fun z (hz : Below y8.heap.size y8 z) => (by rw [hS]; exact ⟨(K.out z (KB.out z hz)).1, Lib.hid hz⟩ : S z))
      have HB := Lib.hid (fun z (hz : S z) => (show Hid (Below y8.heap.size y8 z) from (by rw [hS] at hz; exact hz.2)).out)
      have C1 := Lib.hid (fun z (hz : Below y8.heap.size y8 z) => Sound_any M Ao n co l z hnm (KR.out z (KB.out z hz)).2.2.1 (KR.out z (KB.out z hz)).2.2.2.2)
      have C2 := Lib.hid (fun z (hz : Below y8.heap.size y8 z) => RSound_any M A n c l z hnm (KR.out z (KB.out z hz)).1)
      have C3 := Lib.hid (fun z (hz : Below y8.heap.size y8 z) => same_true A1 A2 _ _ a1 a2 _ z (reads_max r12.out (loadsS_len _ _ _)) (reads_max r2.out (loadsS_len _ _ _)) ((r12.out.below hz).more hz.size) ((r2.out.below hz).more hz.size))
      have C4 := Lib.hid (fun z (hz : Below y8.heap.size y8 z) => same_true A3 A4 k3 k4 a3 a4 _ z (reads_max r3.out (bestV_len _ _ _)) (reads_max r4.out (bestV_len _ _ _)) ((r3.out.below hz).more hz.size) ((r4.out.below hz).more hz.size))
      have C5 := Lib.hid (fun z (hz : Below y8.heap.size y8 z) => same_true A5 A6 k5 k6 a5 a6 _ z (reads_max r5.out (bestV_len _ _ _)) (reads_max r6.out (bestV_len _ _ _)) ((r5.out.below hz).more hz.size) ((r6.out.below hz).more hz.size))
      have C6 := Lib.hid (fun z (hz : Below y8.heap.size y8 z) => Same_eq M Ao A n co c l z hnm (KR.out z (KB.out z hz)).2.2.1 (KR.out z (KB.out z hz)).1)
      have C7 := Lib.hid (fun z (hz : Below y8.heap.size y8 z) => same_true Al A' n' n' cl c' s z hnm' hnm' (KR.out z (KB.out z hz)).2.2.2.1 (KR.out z (KB.out z hz)).2.1)
      have hW := Lib.hid (fun z (hz : Below y8.heap.size y8 z) => (K.out z (KB.out z hz)).2)
      clear K KZ KR KB r12 r2 r3 r4 r5 r6 hX0 hd1 hd2 hd3 hd4 hd5 hd6 hd7 hd8 hl hnm hnm'
      go_wp2_with fail
      refine wp_region_held_drew (S := S) (by kernel_rfl) ?_ (fun hHeld => ?_)
      · exact HS.out _ (Below.refl _ _).drew
      refine tkY (v := ?_) 0 85 rfl rfl (by kernel_rfl) (by kernel_rfl) (by kernel_rfl) (fun _ _ _ h => h) (by kernel_rfl) ?_ (by assumption) ?_
      rotate_left
      · intro w hSw; rw [hS] at hSw; obtain ⟨⟨q0, q1, q2, q3⟩, -⟩ := hSw; go_simp; (try with_reducible rfl)
      try simp only [Act.put, List.setIfInBounds_toArray, List.set_cons_zero, List.set_cons_succ]
      refine tkY (v := ?_) 2 87 rfl rfl (by kernel_rfl) (by kernel_rfl) (by kernel_rfl) (fun _ _ _ h => h) (by kernel_rfl) ?_ (by assumption) ?_
      rotate_left
      · intro w hSw; rw [hS] at hSw; obtain ⟨⟨q0, q1, q2, q3⟩, -⟩ := hSw; go_simp; (try with_reducible rfl)
      try simp only [Act.put, List.setIfInBounds_toArray, List.set_cons_zero, List.set_cons_succ]
      refine wpAnyH_ready (rs := [1]) (by kernel_rfl) (by simp) ?_
      refine AllReadyH.cons (o := _) rfl (fun K hK => ?_) AllReadyH.nil
      go_simp
      refine (C1.out _ (HB.out _ (by assumption))).mono ?_
      rintro e z1 ⟨rfl, hb1⟩
      try go_simp
      have hz1 := Lib.hid (below_via (HB.out _ (by assumption)) (HB.out _ (by assumption)).size hb1)
      refine hK.out _ _ ?_ (fun hHeld => ?_)
      · exact HS.out _ hz1.out
      clear hK K hb1 hz1
      try simp only [Act.put, List.setIfInBounds_toArray, List.set_cons_zero, List.set_cons_succ]
      refine wpAnyH_ready (rs := [3]) (by kernel_rfl) (by simp) ?_
      refine AllReadyH.cons (o := _) rfl (fun K hK => ?_) AllReadyH.nil
      go_simp
      refine (C2.out _ (HB.out _ (by assumption))).mono ?_
      rintro e z3 ⟨rfl, hb3⟩
      try go_simp
      have hz3 := Lib.hid (below_via (HB.out _ (by assumption)) (HB.out _ (by assumption)).size hb3)
      refine hK.out _ _ ?_ (fun hHeld => ?_)
      · exact HS.out _ hz3.out
      clear hK K hb3 hz3
      try simp only [Act.put, List.setIfInBounds_toArray, List.set_cons_zero, List.set_cons_succ]
      refine tkY (v := ?_) 4 89 rfl rfl (by kernel_rfl) (by kernel_rfl) (by kernel_rfl) (fun _ _ _ h => h) (by kernel_rfl) ?_ (by assumption) ?_
      rotate_left
      · intro w hSw; rw [hS] at hSw; obtain ⟨⟨q0, q1, q2, q3⟩, -⟩ := hSw; go_simp; (try with_reducible rfl)
      try simp only [Act.put, List.setIfInBounds_toArray, List.set_cons_zero, List.set_cons_succ]
      refine tkY (v := ?_) 5 90 rfl rfl (by kernel_rfl) (by kernel_rfl) (by kernel_rfl) (fun _ _ _ h => h) (by kernel_rfl) ?_ (by assumption) ?_
      rotate_left
      · intro w hSw; rw [hS] at hSw; obtain ⟨⟨q0, q1, q2, q3⟩, -⟩ := hSw; go_simp; (try with_reducible rfl)
      try simp only [Act.put, List.setIfInBounds_toArray, List.set_cons_zero, List.set_cons_succ]
      refine tkY (v := ?_) 6 91 rfl rfl (by kernel_rfl) (by kernel_rfl) (by kernel_rfl) (fun _ _ _ h => h) (by kernel_rfl) ?_ (by assumption) ?_
      rotate_left
      · intro w hSw; rw [hS] at hSw; obtain ⟨⟨q0, q1, q2, q3⟩, -⟩ := hSw; go_simp; (try with_reducible rfl)
      try simp only [Act.put, List.setIfInBounds_toArray, List.set_cons_zero, List.set_cons_succ]
      refine tkY (v := ?_) 7 92 rfl rfl (by kernel_rfl) (by kernel_rfl) (by kernel_rfl) (fun _ _ _ h => h) (by kernel_rfl) ?_ (by assumption) ?_
      rotate_left
      · intro w hSw; rw [hS] at hSw; obtain ⟨⟨q0, q1, q2, q3⟩, -⟩ := hSw; go_simp; (try with_reducible rfl)
      try simp only [Act.put, List.setIfInBounds_toArray, List.set_cons_zero, List.set_cons_succ]
      refine wpAnyH_ready (rs := [8]) (by kernel_rfl) (by simp) ?_
      refine AllReadyH.cons (o := _) rfl (fun K hK => ?_) AllReadyH.nil
      go_simp
      refine (C3.out _ (HB.out _ (by assumption))).mono ?_
      rintro e z8 ⟨rfl, hb8⟩
      try go_simp
      have hz8 := Lib.hid (below_via (HB.out _ (by assumption)) (HB.out _ (by assumption)).size hb8)
      refine hK.out _ _ ?_ (fun hHeld => ?_)
      · exact HS.out _ hz8.out
      clear hK K hb8 hz8
      try simp only [Act.put, List.setIfInBounds_toArray, List.set_cons_zero, List.set_cons_succ]
      refine tkY (v := ?_) 9 94 rfl rfl (by kernel_rfl) (by kernel_rfl) (by kernel_rfl) (fun _ _ _ h => h) (by kernel_rfl) ?_ (by assumption) ?_
      rotate_left
      · intro w hSw; rw [hS] at hSw; obtain ⟨⟨q0, q1, q2, q3⟩, -⟩ := hSw; go_simp; (try with_reducible rfl)
      try simp only [Act.put, List.setIfInBounds_toArray, List.set_cons_zero, List.set_cons_succ]
      refine tkY (v := ?_) 10 95 rfl rfl (by kernel_rfl) (by kernel_rfl) (by kernel_rfl) (fun _ _ _ h => h) (by kernel_rfl) ?_ (by assumption) ?_
      rotate_left
      · intro w hSw; rw [hS] at hSw; obtain ⟨⟨q0, q1, q2, q3⟩, -⟩ := hSw; go_simp; (try with_reducible rfl)
      try simp only [Act.put, List.setIfInBounds_toArray, List.set_cons_zero, List.set_cons_succ]
      refine tkY (v := ?_) 11 96 rfl rfl (by kernel_rfl) (by kernel_rfl) (by kernel_rfl) (fun _ _ _ h => h) (by kernel_rfl) ?_ (by assumption) ?_
      rotate_left
      · intro w hSw; rw [hS] at hSw; obtain ⟨⟨q0, q1, q2, q3⟩, -⟩ := hSw; go_simp; (try with_reducible rfl)
      try simp only [Act.put, List.setIfInBounds_toArray, List.set_cons_zero, List.set_cons_succ]
      refine tkY (v := ?_) 12 97 rfl rfl (by kernel_rfl) (by kernel_rfl) (by kernel_rfl) (fun _ _ _ h => h) (by kernel_rfl) ?_ (by assumption) ?_
      rotate_left
      · intro w hSw; rw [hS] at hSw; obtain ⟨⟨q0, q1, q2, q3⟩, -⟩ := hSw; go_simp; (try with_reducible rfl)
      try simp only [Act.put, List.setIfInBounds_toArray, List.set_cons_zero, List.set_cons_succ]
      refine tkY (v := ?_) 13 98 rfl rfl (by kernel_rfl) (by kernel_rfl) (by kernel_rfl) (fun _ _ _ h => h) (by kernel_rfl) ?_ (by assumption) ?_
      rotate_left
      · intro w hSw; rw [hS] at hSw; obtain ⟨⟨q0, q1, q2, q3⟩, -⟩ := hSw; go_simp; (try with_reducible rfl)
      try simp only [Act.put, List.setIfInBounds_toArray, List.set_cons_zero, List.set_cons_succ]
      refine tkY (v := ?_) 14 99 rfl rfl (by kernel_rfl) (by kernel_rfl) (by kernel_rfl) (fun _ _ _ h => h) (by kernel_rfl) ?_ (by assumption) ?_
      rotate_left
      · intro w hSw; rw [hS] at hSw; obtain ⟨⟨q0, q1, q2, q3⟩, -⟩ := hSw; go_simp; (try with_reducible rfl)
      try simp only [Act.put, List.setIfInBounds_toArray, List.set_cons_zero, List.set_cons_succ]
      refine tkY (v := ?_) 15 100 rfl rfl (by kernel_rfl) (by kernel_rfl) (by kernel_rfl) (fun _ _ _ h => h) (by kernel_rfl) ?_ (by assumption) ?_
      rotate_left
      · intro w hSw; rw [hS] at hSw; obtain ⟨⟨q0, q1, q2, q3⟩, -⟩ := hSw; go_simp; (try with_reducible rfl)
      try simp only [Act.put, List.setIfInBounds_toArray, List.set_cons_zero, List.set_cons_succ]
      refine tkY (v := ?_) 16 101 rfl rfl (by kernel_rfl) (by kernel_rfl) (by kernel_rfl) (fun _ _ _ h => h) (by kernel_rfl) ?_ (by assumption) ?_
      rotate_left
      · intro w hSw; rw [hS] at hSw; obtain ⟨⟨q0, q1, q2, q3⟩, -⟩ := hSw; go_simp; (try with_reducible rfl)
      try simp only [Act.put, List.setIfInBounds_toArray, List.set_cons_zero, List.set_cons_succ]
      refine tkY (v := ?_) 17 102 rfl rfl (by kernel_rfl) (by kernel_rfl) (by kernel_rfl) (fun _ _ _ h => h) (by kernel_rfl) ?_ (by assumption) ?_
      rotate_left
      · intro w hSw; rw [hS] at hSw; obtain ⟨⟨q0, q1, q2, q3⟩, -⟩ := hSw; go_simp; (try with_reducible rfl)
      try simp only [Act.put, List.setIfInBounds_toArray, List.set_cons_zero, List.set_cons_succ]
      refine wpAnyH_ready (rs := [18]) (by kernel_rfl) (by simp) ?_
      refine AllReadyH.cons (o := _) rfl (fun K hK => ?_) AllReadyH.nil
      go_simp
      refine (C4.out _ (HB.out _ (by assumption))).mono ?_
      rintro e z18 ⟨rfl, hb18⟩
      try go_simp
      have hz18 := Lib.hid (below_via (HB.out _ (by assumption)) (HB.out _ (by assumption)).size hb18)
      refine hK.out _ _ ?_ (fun hHeld => ?_)
      · exact HS.out _ hz18.out
      clear hK K hb18 hz18
      try simp only [Act.put, List.setIfInBounds_toArray, List.set_cons_zero, List.set_cons_succ]
      refine tkY (v := ?_) 19 104 rfl rfl (by kernel_rfl) (by kernel_rfl) (by kernel_rfl) (fun _ _ _ h => h) (by kernel_rfl) ?_ (by assumption) ?_
      rotate_left
      · intro w hSw; rw [hS] at hSw; obtain ⟨⟨q0, q1, q2, q3⟩, -⟩ := hSw; go_simp; (try with_reducible rfl)
      try simp only [Act.put, List.setIfInBounds_toArray, List.set_cons_zero, List.set_cons_succ]
      refine tkY (v := ?_) 20 105 rfl rfl (by kernel_rfl) (by kernel_rfl) (by kernel_rfl) (fun _ _ _ h => h) (by kernel_rfl) ?_ (by assumption) ?_
      rotate_left
      · intro w hSw; rw [hS] at hSw; obtain ⟨⟨q0, q1, q2, q3⟩, -⟩ := hSw; go_simp; (try with_reducible rfl)
      try simp only [Act.put, List.setIfInBounds_toArray, List.set_cons_zero, List.set_cons_succ]
      refine tkY (v := ?_) 21 106 rfl rfl (by kernel_rfl) (by kernel_rfl) (by kernel_rfl) (fun _ _ _ h => h) (by kernel_rfl) ?_ (by assumption) ?_
      rotate_left
      · intro w hSw; rw [hS] at hSw; obtain ⟨⟨q0, q1, q2, q3⟩, -⟩ := hSw; go_simp; (try with_reducible rfl)
      try simp only [Act.put, List.setIfInBounds_toArray, List.set_cons_zero, List.set_cons_succ]
      refine tkY (v := ?_) 22 107 rfl rfl (by kernel_rfl) (by kernel_rfl) (by kernel_rfl) (fun _ _ _ h => h) (by kernel_rfl) ?_ (by assumption) ?_
      rotate_left
      · intro w hSw; rw [hS] at hSw; obtain ⟨⟨q0, q1, q2, q3⟩, -⟩ := hSw; go_simp; (try with_reducible rfl)
      try simp only [Act.put, List.setIfInBounds_toArray, List.set_cons_zero, List.set_cons_succ]
      refine tkY (v := ?_) 23 108 rfl rfl (by kernel_rfl) (by kernel_rfl) (by kernel_rfl) (fun _ _ _ h => h) (by kernel_rfl) ?_ (by assumption) ?_
      rotate_left
      · intro w hSw; rw [hS] at hSw; obtain ⟨⟨q0, q1, q2, q3⟩, -⟩ := hSw; go_simp; (try with_reducible rfl)
      try simp only [Act.put, List.setIfInBounds_toArray, List.set_cons_zero, List.set_cons_succ]
      refine tkY (v := ?_) 24 109 rfl rfl (by kernel_rfl) (by kernel_rfl) (by kernel_rfl) (fun _ _ _ h => h) (by kernel_rfl) ?_ (by assumption) ?_
      rotate_left
      · intro w hSw; rw [hS] at hSw; obtain ⟨⟨q0, q1, q2, q3⟩, -⟩ := hSw; go_simp; (try with_reducible rfl)
      try simp only [Act.put, List.setIfInBounds_toArray, List.set_cons_zero, List.set_cons_succ]
      refine tkY (v := ?_) 25 110 rfl rfl (by kernel_rfl) (by kernel_rfl) (by kernel_rfl) (fun _ _ _ h => h) (by kernel_rfl) ?_ (by assumption) ?_
      rotate_left
      · intro w hSw; rw [hS] at hSw; obtain ⟨⟨q0, q1, q2, q3⟩, -⟩ := hSw; go_simp; (try with_reducible rfl)
      try simp only [Act.put, List.setIfInBounds_toArray, List.set_cons_zero, List.set_cons_succ]
      refine tkY (v := ?_) 26 111 rfl rfl (by kernel_rfl) (by kernel_rfl) (by kernel_rfl) (fun _ _ _ h => h) (by kernel_rfl) ?_ (by assumption) ?_
      rotate_left
      · intro w hSw; rw [hS] at hSw; obtain ⟨⟨q0, q1, q2, q3⟩, -⟩ := hSw; go_simp; (try with_reducible rfl)
      try simp only [Act.put, List.setIfInBounds_toArray, List.set_cons_zero, List.set_cons_succ]
      refine tkY (v := ?_) 27 112 rfl rfl (by kernel_rfl) (by kernel_rfl) (by kernel_rfl) (fun _ _ _ h => h) (by kernel_rfl) ?_ (by assumption) ?_
      rotate_left
      · intro w hSw; rw [hS] at hSw; obtain ⟨⟨q0, q1, q2, q3⟩, -⟩ := hSw; go_simp; (try with_reducible rfl)
      try simp only [Act.put, List.setIfInBounds_toArray, List.set_cons_zero, List.set_cons_succ]
      refine tkY (v := ?_) 28 113 rfl rfl (by kernel_rfl) (by kernel_rfl) (by kernel_rfl) (fun _ _ _ h => h) (by kernel_rfl) ?_ (by assumption) ?_
      rotate_left
      · intro w hSw; rw [hS] at hSw; obtain ⟨⟨q0, q1, q2, q3⟩, -⟩ := hSw; go_simp; (try with_reducible rfl)
      try simp only [Act.put, List.setIfInBounds_toArray, List.set_cons_zero, List.set_cons_succ]
      refine tkY (v := ?_) 29 114 rfl rfl (by kernel_rfl) (by kernel_rfl) (by kernel_rfl) (fun _ _ _ h => h) (by kernel_rfl) ?_ (by assumption) ?_
      rotate_left
      · intro w hSw; rw [hS] at hSw; obtain ⟨⟨q0, q1, q2, q3⟩, -⟩ := hSw; go_simp; (try with_reducible rfl)
      try simp only [Act.put, List.setIfInBounds_toArray, List.set_cons_zero, List.set_cons_succ]
      refine tkY (v := ?_) 30 115 rfl rfl (by kernel_rfl) (by kernel_rfl) (by kernel_rfl) (fun _ _ _ h => h) (by kernel_rfl) ?_ (by assumption) ?_
      rotate_left
      · intro w hSw; rw [hS] at hSw; obtain ⟨⟨q0, q1, q2, q3⟩, -⟩ := hSw; go_simp; (try with_reducible rfl)
      try simp only [Act.put, List.setIfInBounds_toArray, List.set_cons_zero, List.set_cons_succ]
      refine tkY (v := ?_) 31 116 rfl rfl (by kernel_rfl) (by kernel_rfl) (by kernel_rfl) (fun _ _ _ h => h) (by kernel_rfl) ?_ (by assumption) ?_
      rotate_left
      · intro w hSw; rw [hS] at hSw; obtain ⟨⟨q0, q1, q2, q3⟩, -⟩ := hSw; go_simp; (try with_reducible rfl)
      try simp only [Act.put, List.setIfInBounds_toArray, List.set_cons_zero, List.set_cons_succ]
      refine tkY (v := ?_) 32 117 rfl rfl (by kernel_rfl) (by kernel_rfl) (by kernel_rfl) (fun _ _ _ h => h) (by kernel_rfl) ?_ (by assumption) ?_
      rotate_left
      · intro w hSw; rw [hS] at hSw; obtain ⟨⟨q0, q1, q2, q3⟩, -⟩ := hSw; go_simp; (try with_reducible rfl)
      try simp only [Act.put, List.setIfInBounds_toArray, List.set_cons_zero, List.set_cons_succ]
      refine wpAnyH_ready (rs := [33]) (by kernel_rfl) (by simp) ?_
      refine AllReadyH.cons (o := _) rfl (fun K hK => ?_) AllReadyH.nil
      go_simp
      refine (C5.out _ (HB.out _ (by assumption))).mono ?_
      rintro e z33 ⟨rfl, hb33⟩
      try go_simp
      have hz33 := Lib.hid (below_via (HB.out _ (by assumption)) (HB.out _ (by assumption)).size hb33)
      refine hK.out _ _ ?_ (fun hHeld => ?_)
      · exact HS.out _ hz33.out
      clear hK K hb33 hz33
      try simp only [Act.put, List.setIfInBounds_toArray, List.set_cons_zero, List.set_cons_succ]
      refine tkY (v := ?_) 34 119 rfl rfl (by kernel_rfl) (by kernel_rfl) (by kernel_rfl) (fun _ _ _ h => h) (by kernel_rfl) ?_ (by assumption) ?_
      rotate_left
      · intro w hSw; rw [hS] at hSw; obtain ⟨⟨q0, q1, q2, q3⟩, -⟩ := hSw; go_simp; (try with_reducible rfl)
      try simp only [Act.put, List.setIfInBounds_toArray, List.set_cons_zero, List.set_cons_succ]
      refine tkY (v := ?_) 35 120 rfl rfl (by kernel_rfl) (by kernel_rfl) (by kernel_rfl) (fun _ _ _ h => h) (by kernel_rfl) ?_ (by assumption) ?_
      rotate_left
      · intro w hSw; rw [hS] at hSw; obtain ⟨⟨q0, q1, q2, q3⟩, -⟩ := hSw; go_simp; (try with_reducible rfl)
      try simp only [Act.put, List.setIfInBounds_toArray, List.set_cons_zero, List.set_cons_succ]
      refine tkY (v := ?_) 36 121 rfl rfl (by kernel_rfl) (by kernel_rfl) (by kernel_rfl) (fun _ _ _ h => h) (by kernel_rfl) ?_ (by assumption) ?_
      rotate_left
      · intro w hSw; rw [hS] at hSw; obtain ⟨⟨q0, q1, q2, q3⟩, -⟩ := hSw; go_simp; (try with_reducible rfl)
      try simp only [Act.put, List.setIfInBounds_toArray, List.set_cons_zero, List.set_cons_succ]
      refine tkY (v := ?_) 37 122 rfl rfl (by kernel_rfl) (by kernel_rfl) (by kernel_rfl) (fun _ _ _ h => h) (by kernel_rfl) ?_ (by assumption) ?_
      rotate_left
      · intro w hSw; rw [hS] at hSw; obtain ⟨⟨q0, q1, q2, q3⟩, -⟩ := hSw; go_simp; (try with_reducible rfl)
      try simp only [Act.put, List.setIfInBounds_toArray, List.set_cons_zero, List.set_cons_succ]
      refine tkY (v := ?_) 38 123 rfl rfl (by kernel_rfl) (by kernel_rfl) (by kernel_rfl) (fun _ _ _ h => h) (by kernel_rfl) ?_ (by assumption) ?_
      rotate_left
      · intro w hSw; rw [hS] at hSw; obtain ⟨⟨q0, q1, q2, q3⟩, -⟩ := hSw; go_simp; (try with_reducible rfl)
      try simp only [Act.put, List.setIfInBounds_toArray, List.set_cons_zero, List.set_cons_succ]
      refine tkY (v := ?_) 39 124 rfl rfl (by kernel_rfl) (by kernel_rfl) (by kernel_rfl) (fun _ _ _ h => h) (by kernel_rfl) ?_ (by assumption) ?_
      rotate_left
      · intro w hSw; rw [hS] at hSw; obtain ⟨⟨q0, q1, q2, q3⟩, -⟩ := hSw; go_simp; (try with_reducible rfl)
      try simp only [Act.put, List.setIfInBounds_toArray, List.set_cons_zero, List.set_cons_succ]
      refine tkY (v := ?_) 40 125 rfl rfl (by kernel_rfl) (by kernel_rfl) (by kernel_rfl) (fun _ _ _ h => h) (by kernel_rfl) ?_ (by assumption) ?_
      rotate_left
      · intro w hSw; rw [hS] at hSw; obtain ⟨⟨q0, q1, q2, q3⟩, -⟩ := hSw; go_simp; (try with_reducible rfl)
      try simp only [Act.put, List.setIfInBounds_toArray, List.set_cons_zero, List.set_cons_succ]
      refine tkY (v := ?_) 41 126 rfl rfl (by kernel_rfl) (by kernel_rfl) (by kernel_rfl) (fun _ _ _ h => h) (by kernel_rfl) ?_ (by assumption) ?_
      rotate_left
      · intro w hSw; rw [hS] at hSw; obtain ⟨⟨q0, q1, q2, q3⟩, -⟩ := hSw; go_simp; (try with_reducible rfl)
      try simp only [Act.put, List.setIfInBounds_toArray, List.set_cons_zero, List.set_cons_succ]
      refine tkY (v := ?_) 42 127 rfl rfl (by kernel_rfl) (by kernel_rfl) (by kernel_rfl) (fun _ _ _ h => h) (by kernel_rfl) ?_ (by assumption) ?_
      rotate_left
      · intro w hSw; rw [hS] at hSw; obtain ⟨⟨q0, q1, q2, q3⟩, -⟩ := hSw; go_simp; (try with_reducible rfl)
      try simp only [Act.put, List.setIfInBounds_toArray, List.set_cons_zero, List.set_cons_succ]
      refine tkY (v := ?_) 43 128 rfl rfl (by kernel_rfl) (by kernel_rfl) (by kernel_rfl) (fun _ _ _ h => h) (by kernel_rfl) ?_ (by assumption) ?_
      rotate_left
      · intro w hSw; rw [hS] at hSw; obtain ⟨⟨q0, q1, q2, q3⟩, -⟩ := hSw; go_simp; (try with_reducible rfl)
      try simp only [Act.put, List.setIfInBounds_toArray, List.set_cons_zero, List.set_cons_succ]
      refine tkY (v := ?_) 44 129 rfl rfl (by kernel_rfl) (by kernel_rfl) (by kernel_rfl) (fun _ _ _ h => h) (by kernel_rfl) ?_ (by assumption) ?_
      rotate_left
      · intro w hSw; rw [hS] at hSw; obtain ⟨⟨q0, q1, q2, q3⟩, -⟩ := hSw; go_simp; (try with_reducible rfl)
      try simp only [Act.put, List.setIfInBounds_toArray, List.set_cons_zero, List.set_cons_succ]
      refine tkY (v := ?_) 45 130 rfl rfl (by kernel_rfl) (by kernel_rfl) (by kernel_rfl) (fun _ _ _ h => h) (by kernel_rfl) ?_ (by assumption) ?_
      rotate_left
      · intro w hSw; rw [hS] at hSw; obtain ⟨⟨q0, q1, q2, q3⟩, -⟩ := hSw; go_simp; (try with_reducible rfl)
      try simp only [Act.put, List.setIfInBounds_toArray, List.set_cons_zero, List.set_cons_succ]
      refine tkY (v := ?_) 46 131 rfl rfl (by kernel_rfl) (by kernel_rfl) (by kernel_rfl) (fun _ _ _ h => h) (by kernel_rfl) ?_ (by assumption) ?_
      rotate_left
      · intro w hSw; rw [hS] at hSw; obtain ⟨⟨q0, q1, q2, q3⟩, -⟩ := hSw; go_simp; (try with_reducible rfl)
      try simp only [Act.put, List.setIfInBounds_toArray, List.set_cons_zero, List.set_cons_succ]
      refine tkY (v := ?_) 47 132 rfl rfl (by kernel_rfl) (by kernel_rfl) (by kernel_rfl) (fun _ _ _ h => h) (by kernel_rfl) ?_ (by assumption) ?_
      rotate_left
      · intro w hSw; rw [hS] at hSw; obtain ⟨⟨q0, q1, q2, q3⟩, -⟩ := hSw; go_simp; (try with_reducible rfl)
      try simp only [Act.put, List.setIfInBounds_toArray, List.set_cons_zero, List.set_cons_succ]
      refine tkY (v := ?_) 48 133 rfl rfl (by kernel_rfl) (by kernel_rfl) (by kernel_rfl) (fun _ _ _ h => h) (by kernel_rfl) ?_ (by assumption) ?_
      rotate_left
      · intro w hSw; rw [hS] at hSw; obtain ⟨⟨q0, q1, q2, q3⟩, -⟩ := hSw; go_simp; (try with_reducible rfl)
      try simp only [Act.put, List.setIfInBounds_toArray, List.set_cons_zero, List.set_cons_succ]
      refine tkY (v := ?_) 49 134 rfl rfl (by kernel_rfl) (by kernel_rfl) (by kernel_rfl) (fun _ _ _ h => h) (by kernel_rfl) ?_ (by assumption) ?_
      rotate_left
      · intro w hSw; rw [hS] at hSw; obtain ⟨⟨q0, q1, q2, q3⟩, -⟩ := hSw; go_simp; (try with_reducible rfl)
      try simp only [Act.put, List.setIfInBounds_toArray, List.set_cons_zero, List.set_cons_succ]
      refine tkY (v := ?_) 50 135 rfl rfl (by kernel_rfl) (by kernel_rfl) (by kernel_rfl) (fun _ _ _ h => h) (by kernel_rfl) ?_ (by assumption) ?_
      rotate_left
      · intro w hSw; rw [hS] at hSw; obtain ⟨⟨q0, q1, q2, q3⟩, -⟩ := hSw; go_simp; (try with_reducible rfl)
      try simp only [Act.put, List.setIfInBounds_toArray, List.set_cons_zero, List.set_cons_succ]
      refine tkY (v := ?_) 51 136 rfl rfl (by kernel_rfl) (by kernel_rfl) (by kernel_rfl) (fun _ _ _ h => h) (by kernel_rfl) ?_ (by assumption) ?_
      rotate_left
      · intro w hSw; rw [hS] at hSw; obtain ⟨⟨q0, q1, q2, q3⟩, -⟩ := hSw; go_simp; (try with_reducible rfl)
      try simp only [Act.put, List.setIfInBounds_toArray, List.set_cons_zero, List.set_cons_succ]
      refine tkY (v := ?_) 52 137 rfl rfl (by kernel_rfl) (by kernel_rfl) (by kernel_rfl) (fun _ _ _ h => h) (by kernel_rfl) ?_ (by assumption) ?_
      rotate_left
      · intro w hSw; rw [hS] at hSw; obtain ⟨⟨q0, q1, q2, q3⟩, -⟩ := hSw; go_simp; (try with_reducible rfl)
      try simp only [Act.put, List.setIfInBounds_toArray, List.set_cons_zero, List.set_cons_succ]
      refine tkY (v := ?_) 53 138 rfl rfl (by kernel_rfl) (by kernel_rfl) (by kernel_rfl) (fun _ _ _ h => h) (by kernel_rfl) ?_ (by assumption) ?_
      rotate_left
      · intro w hSw; rw [hS] at hSw; obtain ⟨⟨q0, q1, q2, q3⟩, -⟩ := hSw; go_simp; (try with_reducible rfl)
      try simp only [Act.put, List.setIfInBounds_toArray, List.set_cons_zero, List.set_cons_succ]
      refine tkY (v := ?_) 54 139 rfl rfl (by kernel_rfl) (by kernel_rfl) (by kernel_rfl) (fun _ _ _ h => h) (by kernel_rfl) ?_ (by assumption) ?_
      rotate_left
      · intro w hSw; rw [hS] at hSw; obtain ⟨⟨q0, q1, q2, q3⟩, -⟩ := hSw; go_simp; (try with_reducible rfl)
      try simp only [Act.put, List.setIfInBounds_toArray, List.set_cons_zero, List.set_cons_succ]
      refine tkY (v := ?_) 55 140 rfl rfl (by kernel_rfl) (by kernel_rfl) (by kernel_rfl) (fun _ _ _ h => h) (by kernel_rfl) ?_ (by assumption) ?_
      rotate_left
      · intro w hSw; rw [hS] at hSw; obtain ⟨⟨q0, q1, q2, q3⟩, -⟩ := hSw; go_simp; (try with_reducible rfl)
      try simp only [Act.put, List.setIfInBounds_toArray, List.set_cons_zero, List.set_cons_succ]
      refine tkY (v := ?_) 56 141 rfl rfl (by kernel_rfl) (by kernel_rfl) (by kernel_rfl) (fun _ _ _ h => h) (by kernel_rfl) ?_ (by assumption) ?_
      rotate_left
      · intro w hSw; rw [hS] at hSw; obtain ⟨⟨q0, q1, q2, q3⟩, -⟩ := hSw; go_simp; (try with_reducible rfl)
      try simp only [Act.put, List.setIfInBounds_toArray, List.set_cons_zero, List.set_cons_succ]
      refine tkY (v := ?_) 57 142 rfl rfl (by kernel_rfl) (by kernel_rfl) (by kernel_rfl) (fun _ _ _ h => h) (by kernel_rfl) ?_ (by assumption) ?_
      rotate_left
      · intro w hSw; rw [hS] at hSw; obtain ⟨⟨q0, q1, q2, q3⟩, -⟩ := hSw; go_simp; (try with_reducible rfl)
      try simp only [Act.put, List.setIfInBounds_toArray, List.set_cons_zero, List.set_cons_succ]
      refine wpAnyH_ready (rs := [58]) (by kernel_rfl) (by simp) ?_
      refine AllReadyH.cons (o := _) rfl (fun K hK => ?_) AllReadyH.nil
      go_simp
      refine (C6.out _ (HB.out _ (by assumption))).mono ?_
      rintro e z58 ⟨rfl, hb58⟩
      try go_simp
      have hz58 := Lib.hid (below_via (HB.out _ (by assumption)) (HB.out _ (by assumption)).size hb58)
      refine hK.out _ _ ?_ (fun hHeld => ?_)
      · exact HS.out _ hz58.out
      clear hK K hb58 hz58
      try simp only [Act.put, List.setIfInBounds_toArray, List.set_cons_zero, List.set_cons_succ]
      refine tkY (v := ?_) 59 144 rfl rfl (by kernel_rfl) (by kernel_rfl) (by kernel_rfl) (fun _ _ _ h => h) (by kernel_rfl) ?_ (by assumption) ?_
      rotate_left
      · intro w hSw; rw [hS] at hSw; obtain ⟨⟨q0, q1, q2, q3⟩, -⟩ := hSw; go_simp; (try with_reducible rfl)
      try simp only [Act.put, List.setIfInBounds_toArray, List.set_cons_zero, List.set_cons_succ]
      refine tkY (v := ?_) 60 145 rfl rfl (by kernel_rfl) (by kernel_rfl) (by kernel_rfl) (fun _ _ _ h => h) (by kernel_rfl) ?_ (by assumption) ?_
      rotate_left
      · intro w hSw; rw [hS] at hSw; obtain ⟨⟨q0, q1, q2, q3⟩, -⟩ := hSw; go_simp; (try with_reducible rfl)
      try simp only [Act.put, List.setIfInBounds_toArray, List.set_cons_zero, List.set_cons_succ]
      refine tkY (v := ?_) 61 146 rfl rfl (by kernel_rfl) (by kernel_rfl) (by kernel_rfl) (fun _ _ _ h => h) (by kernel_rfl) ?_ (by assumption) ?_
      rotate_left
      · intro w hSw; rw [hS] at hSw; obtain ⟨⟨q0, q1, q2, q3⟩, -⟩ := hSw; go_simp; (try with_reducible rfl)
      try simp only [Act.put, List.setIfInBounds_toArray, List.set_cons_zero, List.set_cons_succ]
      refine tkY (v := ?_) 62 147 rfl rfl (by kernel_rfl) (by kernel_rfl) (by kernel_rfl) (fun _ _ _ h => h) (by kernel_rfl) ?_ (by assumption) ?_
      rotate_left
      · intro w hSw; rw [hS] at hSw; obtain ⟨⟨q0, q1, q2, q3⟩, -⟩ := hSw; go_simp; (try with_reducible rfl)
      try simp only [Act.put, List.setIfInBounds_toArray, List.set_cons_zero, List.set_cons_succ]
      refine wpAnyH_ready (rs := [63]) (by kernel_rfl) (by simp) ?_
      refine AllReadyH.cons (o := _) rfl (fun K hK => ?_) AllReadyH.nil
      go_simp
      refine (C7.out _ (HB.out _ (by assumption))).mono ?_
      rintro e z63 ⟨rfl, hb63⟩
      try go_simp
      have hz63 := Lib.hid (below_via (HB.out _ (by assumption)) (HB.out _ (by assumption)).size hb63)
      refine hK.out _ _ ?_ (fun hHeld => ?_)
      · exact HS.out _ hz63.out
      clear hK K hb63 hz63
      try simp only [Act.put, List.setIfInBounds_toArray, List.set_cons_zero, List.set_cons_succ]
      refine tkY (v := ?_) 64 149 rfl rfl (by kernel_rfl) (by kernel_rfl) (by kernel_rfl) (fun _ _ _ h => h) (by kernel_rfl) ?_ (by assumption) ?_
      rotate_left
      · intro w hSw; rw [hS] at hSw; obtain ⟨⟨q0, q1, q2, q3⟩, -⟩ := hSw; go_simp; (try with_reducible rfl)
      try simp only [Act.put, List.setIfInBounds_toArray, List.set_cons_zero, List.set_cons_succ]
      refine tkY (v := ?_) 65 4 rfl rfl (by kernel_rfl) (by kernel_rfl) (by kernel_rfl) (fun _ _ _ h => h) (by kernel_rfl) ?_ (by assumption) ?_
      rotate_left
      · intro w hSw; rw [hS] at hSw; obtain ⟨⟨q0, q1, q2, q3⟩, -⟩ := hSw; go_simp; (try with_reducible rfl)
      try simp only [Act.put, List.setIfInBounds_toArray, List.set_cons_zero, List.set_cons_succ]
      refine wpAnyH_done (by kernel_rfl) ?_ _
      go_wp2
      go_ret
      exact ⟨rfl, hW.out _ (HB.out _ (by assumption))⟩
    · have hm' : (10 : Int) < n' := by omega
      go_enter Tryd.func5, Tryd.ntmps5
      go_wp2_with fail
      refine H1.out.mono ?_
      rintro e w1 ⟨rfl, hb1⟩
      have hB1 := Lib.hid (hB.out.trans (hb1.mono (by simp)))
      clear hb1 H1 hB hg
      go_wp2
      go_ret
      exact ⟨rfl, hB1.out⟩
  · have hg : decide (10 < n) = true := by simp; omega
    rw [hg] at H1
    go_enter Tryd.func5, Tryd.ntmps5
    go_wp2_with fail
    refine H1.out.mono ?_
    rintro e w1 ⟨rfl, hb1⟩
    have hB1 := Lib.hid (hB.out.trans (hb1.mono (by simp)))
    clear hb1 H1 hB hg
    go_wp2
    go_ret
    exact ⟨rfl, hB1.out⟩
end Go.Proofs.YtlmmjaolmmcklaaDoor
