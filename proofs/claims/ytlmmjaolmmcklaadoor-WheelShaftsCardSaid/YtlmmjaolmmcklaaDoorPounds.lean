/-
  The walk of the function that sets a shaft to work, its stampers counting as they weigh.
-/
import Derived.Test.YtlmmjaolmmcklaaDoorTurned
import Derived.Test.YtlmmjaolmmcklaaDoorBestM
namespace Go.Proofs.YtlmmjaolmmcklaaDoor
open Go.RowKit

theorem heap_lt_alloc' (w : World) (o : Obj) (b : Nat) (h : b < w.heap.size) : (w.alloc o).heap[b]? = w.heap[b]? := Below.heap_alloc w o b h

/-- The blocks of a call of pounds: what will be returned, the shaft at work so far. -/
structure PF (w : World) (M : Int) (A : Option Addr) (n c : Nat) (v : Value) (xs : List Int) (x : World) : Prop where
  b1 : x.heap[w.heap.size + 1]? = some (.cells #[.int .i64 0, .slice none 0 0, .slice none 0 0] 111 (0, 0))
  b2 : x.heap[w.heap.size + 2]? = some (.cells #[.int .i64 M, .slice A n c, v] 111 (0, 0))
  own : x.ownsRow (w.heap.size + 3) 3 1 v xs.length (ints xs)
  bel : Below w.heap.size w x
  size : w.heap.size + 3 ≤ x.heap.size
section
variable {w x y : World} {M : Int} {A : Option Addr} {n c : Nat} {v : Value} {xs : List Int}
theorem PF.c0 (h : PF w M A n c v xs x) : x.cell? ⟨w.heap.size + 1 + 1, 0, none⟩ = some (.int .i64 M) := by simp [World.cell?, h.b2]
theorem PF.c1 (h : PF w M A n c v xs x) : x.cell? ⟨w.heap.size + 1 + 1, 1, none⟩ = some (.slice A n c) := by simp [World.cell?, h.b2]
theorem PF.c2 (h : PF w M A n c v xs x) : x.cell? ⟨w.heap.size + 1 + 1, 2, none⟩ = some v := by simp [World.cell?, h.b2]
theorem PF.f2 (h : PF w M A n c v xs x) (k : Nat) : x.frozen? ⟨w.heap.size + 1 + 1, k, none⟩ = false := by simp [World.frozen?, h.b2]
theorem PF.d (h : PF w M A n c v xs x) (k : Nat) (hk : k < 3) : x.cell? ⟨w.heap.size + 1, k, none⟩ = some (#[.int .i64 0, .slice none 0 0, .slice none 0 0][k]'(by simpa using hk)) := by
  simp [World.cell?, h.b1, hk]
theorem PF.f1 (h : PF w M A n c v xs x) (k : Nat) : x.frozen? ⟨w.heap.size + 1, k, none⟩ = false := by simp [World.frozen?, h.b1]
theorem PF.alloc (h : PF w M A n c v xs x) (o : Obj) : PF w M A n c v xs (x.alloc o) :=
  have hz := h.size
  ⟨(heap_lt_alloc' _ _ _ (by omega)).trans h.b1, (heap_lt_alloc' _ _ _ (by omega)).trans h.b2, h.own.alloc _, h.bel.alloc (by omega) _, by simp; omega⟩
theorem PF.at_ (h : PF w M A n c v xs x) (hg : x.grownBy y v.ownBlock) : y.cell? ⟨w.heap.size + 1 + 1, 2, none⟩ = some v ∧ y.frozen? ⟨w.heap.size + 1 + 1, 2, none⟩ = false := by
  have hz := h.size
  have hr : ∀ k, v.ownBlock = some k → w.heap.size + 3 ≤ k := fun k hk => (h.own.lt k hk).1
  have b2 := (hg.block (w.heap.size + 2) (by omega) (fun e => by have := hr _ e.symm; omega)).trans h.b2
  exact ⟨by simp [World.cell?, b2], by simp [World.frozen?, b2]⟩
theorem PF.app (h : PF w M A n c v xs x) {v' : Value} {xs' : List Int} (hg : x.grownBy y v.ownBlock) (ho : y.ownsRow (w.heap.size + 3) 3 1 v' xs'.length (ints xs')) :
    PF w M A n c v' xs' (y.setCell ⟨w.heap.size + 1 + 1, 2, none⟩ v') := by
  have hz := h.size
  have hr : ∀ k, v.ownBlock = some k → w.heap.size + 3 ≤ k := fun k hk => (h.own.lt k hk).1
  have hne : ∀ b, b < w.heap.size + 3 → v.ownBlock ≠ some b := fun b hb e => by have := hr b e; omega
  have b1 := (hg.block (w.heap.size + 1) (by omega) (fun e => hne _ (by omega) e.symm)).trans h.b1
  have b2 := (hg.block (w.heap.size + 2) (by omega) (fun e => hne _ (by omega) e.symm)).trans h.b2
  refine ⟨?_, ?_, own_far ho (by simp) _, (h.bel.grown hg (by omega) (fun k hk => by have := hr k hk; omega)).setCell (by simp; omega) _, by have := hg.size; simp; omega⟩
  · simp [World.setCell, Array.getElem?_modify, b1]
  · simp [World.setCell, Array.getElem?_modify, b2]
end

set_option maxRecDepth 100000 in
set_option maxHeartbeats 1000000 in
theorem pounds_any (M : Int) (A : Option Addr) (n c : Nat) (l : List (Int × Int × Int)) (w : World) (hn : n ≤ 4) (hR : Reads w w.heap.size 3 A n (sts l)) :
    Calls Tryd.prog 58 #[.agg #[.int .i64 M, .slice A n c]] w fun e w' => ∃ v, e = .returned (.agg #[.int .i64 M, .slice A n c, v]) ∧ w'.ownsRow w.heap.size 3 1 v n (ints (l.map fun x => x.2.2)) ∧ Below w.heap.size w w' := by
  have hl : l.length = n := hR.st_len
  obtain ⟨i0, hi, hz0, hz1, hz2⟩ := info_parts info_int
  have hH : Hid (PF w M A n c (.slice none 0 0) [] (((w.alloc (.cells #[.int .i64 M, .slice A n c] 24)).alloc (.cells #[.int .i64 0, .slice none 0 0, .slice none 0 0] 111)).alloc (.cells #[.int .i64 M, .slice A n c, .slice none 0 0] 111))) := by
    refine ⟨?_, ?_, World.ownsRow_nil _ _ _ _, (((Below.refl _ _).alloc (Nat.le_refl _) _).alloc (by simp) _).alloc (by simp; omega) _, by simp⟩
    · rw [heap_lt_alloc' _ _ _ (by simp)]
      have := heap_alloc_new (w.alloc (.cells #[.int .i64 M, .slice A n c] 24)) (.cells #[.int .i64 0, .slice none 0 0, .slice none 0 0] 111)
      simpa using this
    · have := heap_alloc_new ((w.alloc (.cells #[.int .i64 M, .slice A n c] 24)).alloc (.cells #[.int .i64 0, .slice none 0 0, .slice none 0 0] 111)) (.cells #[.int .i64 M, .slice A n c, .slice none 0 0] 111)
      simpa using this
  have HR : Hid (∀ x, Below w.heap.size w x → Reads x w.heap.size 3 A n (sts l)) := fun x hx => hR.below hx
  clear hR
  go_enter Tryd.func58, Tryd.ntmps58
  go_wp2
  generalize (((w.alloc (.cells #[.int .i64 M, .slice A n c] 24)).alloc (.cells #[.int .i64 0, .slice none 0 0, .slice none 0 0] 111)).alloc (.cells #[.int .i64 M, .slice A n c, .slice none 0 0] 111)) = wb at *
  go_loopw [11] (fun x wr => ∃ k : Nat, k ≤ n ∧ x = .int .i64 k ∧ ∃ Av cv, Hid (PF w M A n c (.slice Av k cv) ((l.map fun x => x.2.2).take k) wr)) (fun x _ => n - (intOf x).toNat)
  case atStart => exact ⟨0, by omega, rfl, none, 0, hH⟩
  case round =>
    clear hH
    obtain ⟨k, hk, rfl, Av, cv, hX⟩ := hrel
    by_cases hlt : k < n
    · obtain ⟨b, o, C, U, P, rfl, hb, hx, c0, c1, c2⟩ := (HR.out _ hX.out.bel).st hlt
      have hxs : Hid (((l.map fun x => x.2.2).take (k + 1)) = ((l.map fun x => x.2.2).take k) ++ [P]) := by
        show _ = _
        rw [List.take_add_one, List.getElem?_map, hx]; rfl
      have hlen : Hid (((l.map fun x => x.2.2).take k).length = k) := by show _ = _; simp; omega
      have e2 : ∀ o, (wr.alloc o).cell? ⟨w.heap.size + 1 + 1, 2, none⟩ = some (.slice Av k cv) := fun o => (hX.out.alloc o).c2
      have HX : Hid (∀ o1 o2, PF w M (some ⟨b, o, none⟩) n c (.slice Av k cv) ((l.map fun x => x.2.2).take k) ((wr.alloc o1).alloc o2)) := fun o1 o2 => (hX.out.alloc o1).alloc o2
      clear hx
      go_wp2_with (first
        | (at_builtin; refine wpList_append_own _ rfl _ _ 25 rfl (w.heap.size + 3) 3 i0 (.int .i64 0) 1 8 Tryd.underlying25 hi hz0 hz1 hz2 rfl (by decide) _ _ _ rfl (HX.out _ _).own ⟨wr.heap.size + 1, 0, none⟩ 1 1 [.int .i64 P] rfl rfl ?c1 ?c2 ?c3 ?c4 ?c5 ?_)
        | fail)
      case c1 => have := cell_one_new (wr.alloc (.cells #[.int .i64 C, .int .i64 U, .int .i64 P] 27)) (.int .i64 P) 3; simpa using this
      case c2 => simp [Value.oneCell']
      case c3 => rw [hlen.out]; unfold maxLen; omega
      case c4 => rw [hlen.out]; omega
      case c5 => have := hX.out.size; simp; omega
      intro v' w' hown' hgr _
      have hown2 : w'.ownsRow (w.heap.size + 3) 3 1 v' (k + 1) (ints ((l.map fun x => x.2.2).take k ++ [P])) := by
        simpa [ints] using hown'
      clear hown'
      obtain ⟨Av', cv', rfl, -⟩ := own_slice hown2
      obtain ⟨d2, f2⟩ := (HX.out _ _).at_ hgr
      have HY : Hid (PF w M (some ⟨b, o, none⟩) n c (.slice Av' (k + 1) cv') ((l.map fun x => x.2.2).take (k + 1)) (w'.setCell ⟨w.heap.size + 1 + 1, 2, none⟩ (.slice Av' (k + 1) cv'))) := by
        have := (HX.out _ _).app hgr (v' := .slice Av' (k + 1) cv') (xs' := (l.map fun x => x.2.2).take k ++ [P]) (by rw [List.length_append, hlen.out]; exact hown2)
        rw [hxs.out]
        exact this
      clear hown2 hgr HX hX
      go_wp2
      go_roundw
      case rel => exact ⟨k + 1, by omega, by go_num, _, _, HY⟩
      case measure => simp [intOf]; omega
    · have hkn : k = n := by omega
      subst hkn
      have t0 := hX.out.c0
      have t1 := hX.out.c1
      have t2 := hX.out.c2
      have d0 := hX.out.d 0 (by omega)
      have d1 := hX.out.d 1 (by omega)
      have d2 := hX.out.d 2 (by omega)
      have f0 := hX.out.f1 0
      have f1 := hX.out.f1 1
      have f2 := hX.out.f1 2
      go_wp2
      have hbk : (((wr.setCell ⟨w.heap.size + 1, 0, none⟩ (.int .i64 M)).setCell ⟨w.heap.size + 1, 1, none⟩ (.slice A k c)).setCell ⟨w.heap.size + 1, 2, none⟩ (.slice Av k cv)).heap[w.heap.size + 1]? = some (.cells #[.int .i64 M, .slice A k c, .slice Av k cv] 111 (0, 0)) := by
        simp [World.setCell, Array.getElem?_modify, hX.out.b1]
      have g0 : (((wr.setCell ⟨w.heap.size + 1, 0, none⟩ (.int .i64 M)).setCell ⟨w.heap.size + 1, 1, none⟩ (.slice A k c)).setCell ⟨w.heap.size + 1, 2, none⟩ (.slice Av k cv)).cell? ⟨w.heap.size + 1, 0, none⟩ = some (.int .i64 M) := by simp only [World.cell?, hbk]; rfl
      have g1 : (((wr.setCell ⟨w.heap.size + 1, 0, none⟩ (.int .i64 M)).setCell ⟨w.heap.size + 1, 1, none⟩ (.slice A k c)).setCell ⟨w.heap.size + 1, 2, none⟩ (.slice Av k cv)).cell? ⟨w.heap.size + 1, 1, none⟩ = some (.slice A k c) := by simp only [World.cell?, hbk]; rfl
      have g2 : (((wr.setCell ⟨w.heap.size + 1, 0, none⟩ (.int .i64 M)).setCell ⟨w.heap.size + 1, 1, none⟩ (.slice A k c)).setCell ⟨w.heap.size + 1, 2, none⟩ (.slice Av k cv)).cell? ⟨w.heap.size + 1, 2, none⟩ = some (.slice Av k cv) := by simp only [World.cell?, hbk]; rfl
      have hO0 : wr.ownsRow (w.heap.size + 3) 3 1 (.slice Av k cv) k (ints (l.map fun x => x.2.2)) := by
        have := hX.out.own
        rw [List.take_of_length_le (by simp; omega)] at this
        simpa [hl] using this
      have hO := Lib.hid hO0
      have hB := Lib.hid hX.out.bel
      clear hX hbk hO0
      refine bodyPost_ret (v := .agg #[.int .i64 M, .slice A k c, .slice Av k cv]) (by simp [results, Tryd.results58, go_sem, g0, g1, g2]) rfl ⟨_, rfl, ?_, ((hB.out.setCell (by simp) _).setCell (by simp) _).setCell (by simp) _⟩
      exact own_mono (own_far (own_far (own_far hO.out (by simp) _) (by simp) _) (by simp) _) (by omega)
end Go.Proofs.YtlmmjaolmmcklaaDoor
