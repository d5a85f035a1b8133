/-
  The walk of a press without some weighings.
-/
import Derived.Test.YtoakeclpakjbiaaDoorTk
import Derived.Test.YtoakeclpakjbiaaDoorDel2
import Derived.Test.YtoakeclpakjbiaaDoorPApp
namespace Go.Proofs.YtoakeclpakjbiaaDoor
open Go.RowKit
set_option linter.unusedVariables false
set_option linter.unusedSimpArgs false

theorem own_val {w : World} {base : Nat} {e : TypeId} {size n : Nat} {v : Value} {xs : List Value} (h : w.ownsRow base e size v n xs) : ∃ A c, v = .slice A n c := by
  rcases h.2 with ⟨rfl, rfl⟩ | ⟨g, cap, cur, rfl, _⟩
  · exact ⟨_, _, rfl⟩
  · exact ⟨_, _, rfl⟩

theorem own_below {w w' : World} {base : Nat} {e : TypeId} {size n : Nat} {v : Value} {xs : List Value} (h : w.ownsRow base e size v n xs) (hb : Below w.heap.size w w') : w'.ownsRow base e size v n xs := by
  refine ⟨h.1, ?_⟩
  rcases h.2 with h0 | ⟨g1, cap', cur, h1, h2, h3, h4⟩
  · exact .inl h0
  · exact .inr ⟨g1, cap', cur, h1, h2, (hb.block g1 (Array.getElem?_eq_some_iff.1 h3).1).trans h3, h4⟩

theorem deleteW_own (p : WE → Bool) (g : Nat) (lb : Array Value) (v : Value) (n base : Nat) (ws : List WE) (w : World)
    (eg : ∀ args w, (callFunc g args).run Tryd.prog w = .ok (.enter g args) w) (hown : w.ownsRow base 76 5 v n (wgs ws)) (hb : base ≤ w.heap.size)
    (hf : ∀ (x : WE) w1, Below base w w1 → Calls Tryd.prog g (#[.agg #[.int .i64 x.1, .int .i64 x.2.1, .int .i64 x.2.2.1, .int .i64 x.2.2.2.1, .int .i64 x.2.2.2.2]] ++ lb) w1 fun e w' => e = .returned (.bool (p x)) ∧ Below w1.heap.size w1 w') :
    Calls Tryd.prog 113 #[v, .func (.func g) #[] lb] w fun e w' => ∃ v' m, e = .returned v' ∧
      w'.ownsRow base 76 5 v' m (wgs (ws.filter fun x => !p x)) ∧ Below base w w' := by
  have h0 := hown
  rcases hown.2 with ⟨rfl, rfl⟩ | ⟨gb, cap, cur, rfl, hg, _⟩
  · have hx : ws = [] := List.eq_nil_of_length_eq_zero (Reads.wg_len (w := w) (B := 0) (A := none) ⟨h0.1, fun h => absurd h (by omega)⟩)
    subst hx
    have hI := Lib.hid (indexW_any p g lb none 0 0 [] w (by unfold maxLen; omega) eg Reads.none_ (fun x w1 hb1 => hf x w1 (hb1.mono hb)))
    have hi : Hid (idxW p [] = -1) := rfl
    rw [hi.out] at hI
    have HB := Lib.hid hb
    clear hf h0 hown hb
    go_enter Tryd.func113, Tryd.ntmps113
    go_wp2_with fail
    refine hI.out.mono ?_
    rintro e w1 ⟨rfl, hb1⟩
    have HB1 := Lib.hid hb1
    clear hb1
    go_wp2
    go_ret
    exact ⟨_, 0, rfl, World.ownsRow_nil _ _ _ _, HB1.out.mono HB.out⟩
  · refine (deleteW_any p g lb gb n cap base ws w eg h0 (fun x w1 hk => hf x w1 (hk.below hb (by simpa using hg)))).mono ?_
    rintro e w' ⟨m, rfl, h1, h2⟩
    exact ⟨_, m, rfl, h1, h2.below hb (by simpa using hg)⟩

theorem without1_any (x : WE) (bl : Nat) (Al : Option Addr) (nl cl : Nat) (L : List Int) (w : World) (hc : w.cell? ⟨bl, 0, none⟩ = some (.slice Al nl cl)) (hR : Reads w w.heap.size 1 Al nl (ints L)) (hn : nl ≤ maxLen) :
    Calls Tryd.prog 115 (#[.agg #[.int .i64 x.1, .int .i64 x.2.1, .int .i64 x.2.2.1, .int .i64 x.2.2.2.1, .int .i64 x.2.2.2.2]] ++ #[.pointer (some ⟨bl, 0, none⟩)]) w fun e w' => e = .returned (.bool (hasI L x.1)) ∧ Below w.heap.size w w' := by
  obtain ⟨N, P, K, Lo, H⟩ := x
  have hblt : bl < w.heap.size := by
    rcases Nat.lt_or_ge bl w.heap.size with h | h
    · exact h
    · have : w.heap[bl]? = none := Array.getElem?_eq_none h
      simp [World.cell?, this] at hc
  have hc' : ∀ o, (w.alloc o).cell? ⟨bl, 0, none⟩ = some (.slice Al nl cl) := fun o => by rw [World.cell?_alloc_lt _ _ _ hblt]; exact hc
  have hH := Lib.hid (fun o => containsI_any N Al nl cl L (w.alloc o) hn ((hR.alloc (Nat.le_refl _) o).more (by simp)))
  clear hR hc hblt hn
  simp only
  generalize hasI L N = r at *
  go_enter Tryd.func115, Tryd.ntmps115
  go_wp2_with fail
  refine (hH.out _).mono ?_
  rintro e w1 ⟨rfl, rfl⟩
  go_wp2
  go_ret
  exact ⟨rfl, (Below.refl _ _).alloc (Nat.le_refl _) _⟩

/-- The weighings that are none of some. -/
def lessW (ws : List WE) (L : List Int) : List WE := ws.filter fun x => !hasI L x.1

set_option maxRecDepth 100000 in
set_option maxHeartbeats 2000000 in
theorem without_any (A A' : Option Addr) (n c n' c' : Nat) (ps : List PR) (ws : List WE) (Al : Option Addr) (nl cl : Nat) (L : List Int) (w : World) (hn4 : n ≤ 4096) (hn4' : n' ≤ 4096) (hnl : nl ≤ maxLen)
    (hR : Reads w w.heap.size 4 A n (pgs ps)) (hW : Reads w w.heap.size 5 A' n' (wgs ws)) (hLr : Reads w w.heap.size 1 Al nl (ints L)) :
    Calls Tryd.prog 76 #[.agg #[.slice A n c, .slice A' n' c'], .slice Al nl cl] w fun e w' => ∃ A1 c1 A2 m2 c2, e = .returned (.agg #[.slice A1 n c1, .slice A2 m2 c2]) ∧
      w'.ownsRow w.heap.size 87 4 (.slice A1 n c1) n (pgs ps) ∧ w'.ownsRow w.heap.size 76 5 (.slice A2 m2 c2) m2 (wgs (lessW ws L)) ∧ Below w.heap.size w w' := by
  have eg : ∀ args w, (callFunc 115 args).run Tryd.prog w = .ok (.enter 115 args) w := fun _ _ => by kernel_rfl
  obtain ⟨wz, hwz⟩ : ∃ wz, wz = (((w.alloc (.cells #[.slice A n c, .slice A' n' c'] 25)).alloc (.cells #[.slice Al nl cl] 51)).alloc (.cells #[.slice none 0 0, .slice none 0 0] 25)) := ⟨_, rfl⟩
  have hWz : Below w.heap.size w wz := by rw [hwz]; exact (((Below.refl _ _).alloc (Nat.le_refl _) _).alloc (by simp) _).alloc (by simp <;> omega) _
  have hz3 : wz.heap.size = w.heap.size + 3 := by rw [hwz]; simp
  have hb0 : wz.heap[w.heap.size]? = some (.cells #[.slice A n c, .slice A' n' c'] 25 (0, 0)) := by
    rw [hwz, heap_lt_alloc' _ _ _ (by simp <;> omega), heap_lt_alloc' _ _ _ (by simp)]; exact heap_alloc_new w _
  have hb1 : wz.heap[w.heap.size + 1]? = some (.cells #[.slice Al nl cl] 51 (0, 0)) := by
    rw [hwz, heap_lt_alloc' _ _ _ (by simp)]
    have := heap_alloc_new (w.alloc (.cells #[.slice A n c, .slice A' n' c'] 25)) (.cells #[.slice Al nl cl] 51)
    simpa using this
  have hb2 : wz.heap[w.heap.size + 2]? = some (.cells #[.slice none 0 0, .slice none 0 0] 25 (0, 0)) := by
    rw [hwz]
    have := heap_alloc_new ((w.alloc (.cells #[.slice A n c, .slice A' n' c'] 25)).alloc (.cells #[.slice Al nl cl] 51)) (.cells #[.slice none 0 0, .slice none 0 0] 25)
    simpa using this
  obtain ⟨S, hSd⟩ : ∃ S : World → Prop, S = fun z => (z.cell? ⟨w.heap.size, 0, none⟩ = some (.slice A n c) ∧ z.cell? ⟨w.heap.size, 1, none⟩ = some (.slice A' n' c')) ∧ Hid (Below (w.heap.size + 2) wz z) := ⟨_, rfl⟩
  have HS := Lib.hid (fun z (hz : Hid (Below (w.heap.size + 2) wz z)) => (by
    rw [hSd]
    have e0 := (hz.out.block w.heap.size (by omega)).trans hb0
    exact ⟨⟨by simp [World.cell?, e0], by simp [World.cell?, e0]⟩, hz⟩ : S z))
  have HSB := Lib.hid (fun z (hz : S z) => (show Hid (Below (w.heap.size + 2) wz z) from (by rw [hSd] at hz; exact hz.2)).out)
  have HSZ := Lib.hid (fun z (hz : S z) => (Nat.le_trans (by omega) (HSB.out z hz).size : w.heap.size + 2 ≤ z.heap.size))
  have HR := Lib.hid (fun z (hz : Below (w.heap.size + 2) wz z) => ((hR.below hWz).below (hz.mono (by omega))).more (by have := hz.size; omega : w.heap.size ≤ z.heap.size))
  have HW := Lib.hid (fun z (hz : Below (w.heap.size + 2) wz z) => ((hW.below hWz).below (hz.mono (by omega))).more (by have := hz.size; omega : w.heap.size ≤ z.heap.size))
  have HCl := Lib.hid (fun z (hz : Below (w.heap.size + 2) wz z) => ((hLr.below hWz).below (hz.mono (by omega))).more (by have := hz.size; omega : w.heap.size ≤ z.heap.size))
  have HC := Lib.hid (fun z (hz : Below (w.heap.size + 2) wz z) => (by
    have e0 := (hz.block (w.heap.size + 1) (by omega)).trans hb1
    simp [World.cell?, e0] : z.cell? ⟨w.heap.size + 1, 0, none⟩ = some (.slice Al nl cl)))
  have hB3z : Below (w.heap.size + 3) wz wz := Below.refl _ _
  have hZ0 : Hid (Below (w.heap.size + 2) wz wz.drew) := (Below.refl _ _).drew
  have hO0 : Hid (wz.drew.heap[w.heap.size + 2]? = some (.cells #[.slice none 0 0, .slice none 0 0] 25 (0, 0))) := hb2
  have HWZ := Lib.hid hWz
  have HZ3 := Lib.hid hz3
  clear hR hW hLr hb0 hb1 hb2 hB3z hWz hz3
  go_enter Tryd.func76, Tryd.ntmps76
  go_wp2_with fail
  rw [← hwz]
  clear hwz
  refine wp_region_held_drew (S := S) (by kernel_rfl) ?_ (fun hHeld => ?_)
  · exact HS.out _ hZ0
  refine tY (v := ?_) 0 5 ?_ ?_
  rotate_left
  · intro w hSw; rw [hSd] at hSw; obtain ⟨⟨q0, q1⟩, -⟩ := hSw; go_simp; (try with_reducible rfl)
  try simp only [N0]
  refine tY (v := ?_) 1 6 ?_ ?_
  rotate_left
  · intro w hSw; rw [hSd] at hSw; obtain ⟨⟨q0, q1⟩, -⟩ := hSw; go_simp; (try with_reducible rfl)
  try simp only [N0]
  refine tY (v := ?_) 3 8 ?_ ?_
  rotate_left
  · intro w hSw; rw [hSd] at hSw; obtain ⟨⟨q0, q1⟩, -⟩ := hSw; go_simp; (try with_reducible rfl)
  try simp only [N0]
  refine tY (v := ?_) 4 9 ?_ ?_
  rotate_left
  · intro w hSw; rw [hSd] at hSw; obtain ⟨⟨q0, q1⟩, -⟩ := hSw; go_simp; (try with_reducible rfl)
  try simp only [N0]
  refine tY (v := ?_) 6 11 ?_ ?_
  rotate_left
  · intro w hSw; rw [hSd] at hSw; obtain ⟨⟨q0, q1⟩, -⟩ := hSw; go_simp; (try with_reducible rfl)
  try simp only [N0]
  refine wpAnyH_ready (rs := [2]) (by kernel_rfl) (by simp) ?_
  refine AllReadyH.cons (o := _) rfl (fun Kq hK => ?_) AllReadyH.nil
  go_simp
  refine (clonePg_any A n c ps _ hn4 ((HR.out _ (HSB.out _ hHeld)))).mono ?_
  rintro e z1 ⟨v1, rfl, hw1, hb1⟩
  have hB1 := Lib.hid (below_via (HSB.out _ hHeld) (HSZ.out _ hHeld) hb1)
  have HO1 := Lib.hid hw1
  have HB1 := Lib.hid hb1
  have hO1 := Lib.hid (keepO hb1 hO0.out)
  clear hb1 hw1
  have HS1 := Lib.hid (HS.out _ hB1)
  try go_simp
  refine hK.out _ _ ?_ (fun hHeld => ?_)
  · exact HS1.out
  clear hK Kq
  try simp only [N0]
  refine wpAnyH_ready (rs := [5]) (by kernel_rfl) (by simp) ?_
  refine AllReadyH.cons (o := _) rfl (fun Kq hK => ?_) AllReadyH.nil
  go_simp
  refine (cloneWg_any A' n' c' ws _ hn4' ((HW.out _ (HSB.out _ hHeld)))).mono ?_
  rintro e z2 ⟨v2, rfl, hw2, hb2⟩
  have hB2 := Lib.hid (below_via (HSB.out _ hHeld) (HSZ.out _ hHeld) hb2)
  have HO2 := Lib.hid hw2
  have HB2 := Lib.hid hb2
  have hO2 := Lib.hid (keepO hb2 hO1.out)
  clear hb2 hw2
  have HS2 := Lib.hid (HS.out _ hB2)
  try go_simp
  refine hK.out _ _ ?_ (fun hHeld => ?_)
  · exact HS2.out
  clear hK Kq
  try simp only [N0]
  refine wpAnyH_ready (rs := [7]) (by kernel_rfl) (by simp) ?_
  refine AllReadyH.cons (o := _) rfl (fun Kq hK => ?_) AllReadyH.nil
  go_simp
  refine (deleteW_own (fun x => hasI L x.1) 115 #[.pointer (some ⟨w.heap.size + 1, 0, none⟩)] v2 n' z1.heap.size ws z2 eg HO2.out HB2.out.size (fun x x1 hx1 => without1_any x (w.heap.size + 1) Al nl cl L x1 (HC.out _ (below_via (HSB.out _ HS1.out) (HSZ.out _ HS1.out) (HB2.out.trans hx1))) (HCl.out _ (below_via (HSB.out _ HS1.out) (HSZ.out _ HS1.out) (HB2.out.trans hx1))) hnl)).mono ?_
  rintro e z3 ⟨v3, m3, rfl, hw3, hb3⟩
  have hB3 := Lib.hid (below_via (HSB.out _ HS1.out) (HSZ.out _ HS1.out) (HB2.out.trans hb3))
  have HO3 := Lib.hid hw3
  have HB3 := Lib.hid (HB2.out.trans hb3)
  have hO3 := Lib.hid ((hb3.block _ (Nat.lt_of_lt_of_le (Array.getElem?_eq_some_iff.1 hO1.out).1 (Nat.le_refl _))).trans hO2.out)
  clear hb3 hw3
  obtain ⟨A3, c3, hv3⟩ := own_val HO3.out
  obtain ⟨A1, c1, hv1⟩ := own_val HO1.out
  rw [hv3]
  obtain ⟨g0, g1, f0, f1⟩ := two_facts hO3.out
  try go_simp
  refine hK.out _ _ ?_ (fun hHeld => ?_)
  · exact HS.out _ hB3
  clear hK Kq
  try simp only [N0]
  refine tY (v := ?_) 8 13 ?_ ?_
  rotate_left
  · intro w hSw; rw [hSd] at hSw; obtain ⟨⟨q0, q1⟩, -⟩ := hSw; go_simp; (try with_reducible rfl)
  try simp only [N0]
  refine wpAnyH_ready (rs := [9]) (by kernel_rfl) (by simp) ?_
  refine AllReadyH.cons (o := _) rfl (fun Kq hK => ?_) AllReadyH.nil
  go_simp
  refine hK.out _ _ ?_ (fun hHeld => ?_)
  · exact HS.out _ (Lib.hid (((hB3.out).setCell (by simp) _).setCell (by simp) _))
  clear hK Kq
  try simp only [N0]
  refine wpAnyH_done (by kernel_rfl) ?_ _
  go_wp2_with fail
  have hbk := set_two z3 (w.heap.size + 2) 25 (.slice A1 n c1) (.slice A3 m3 c3) _ _ hO3.out
  obtain ⟨e0, e1, -, -⟩ := two_facts hbk
  have hF := HSB.out _ hHeld
  have hz := HZ3.out
  have hz1 := HB1.out.size
  have hzd : wz.drew.heap.size = wz.heap.size := rfl
  refine bodyPost_ret (v := .agg #[.slice A1 n c1, .slice A3 m3 c3]) (by simp [results, Tryd.results76, go_sem, e0, e1]) rfl ⟨A1, c1, A3, m3, c3, rfl, ?_, ?_, HWZ.out.trans (hF.mono (by omega))⟩
  · have h1 := own_below HO1.out HB3.out
    rw [hv1] at h1
    exact own_mono (own_far (p := ⟨w.heap.size + 2, 1, none⟩) (own_far (p := ⟨w.heap.size + 2, 0, none⟩) h1 (by simp only; omega) _) (by simp only; omega) _) (by omega)
  · have h1 := HO3.out
    rw [hv3] at h1
    exact own_mono (own_far (p := ⟨w.heap.size + 2, 1, none⟩) (own_far (p := ⟨w.heap.size + 2, 0, none⟩) h1 (by simp only; omega) _) (by simp only; omega) _) (by omega)
end Go.Proofs.YtoakeclpakjbiaaDoor
