/-
  The walks of the comparison of two lists of weights that are alike, and of the reference's Valid.
-/
import Derived.Test.YtoakeclpakjbiaaDoorTru
import Derived.DeepKeys
import Derived.Laws.StructEq
namespace Go.Proofs.YtoakeclpakjbiaaDoor
open Go.RowKit
set_option linter.unusedVariables false
set_option linter.unusedSimpArgs false

theorem item_same {xs : Array Value} {j d : Nat} {is : List Nat} {x : Int} (w : World) (h1 : xs[j]? = some (.int .i64 x)) :
    (Op.eqItems (d + 1) 3 1 xs xs (j :: is)).run Tryd.prog w = (Op.eqItems (d + 1) 3 1 xs xs is).run Tryd.prog w := by
  have hp : (part 3 xs j).run Tryd.prog w = .ok (.int .i64 x) w := run_part_plain w (by kernel_rfl) h1
  have he : (Op.equalIn (d + 1) 3 (.int .i64 x) (.int .i64 x)).run Tryd.prog w = .ok (x == x) w := run_equalIn_int w d _ .i64 _ x x Tryd.underlying3
  simp only [Op.eqItems, Nat.mul_one, Sem.run_bind, hp, Result.andThen_ok, he]
  simp
theorem eq_same7 (a b c d e f g : Int) (k : Nat) (w : World) :
    (Op.equalIn (k + 2) 99 (.agg #[.int .i64 a, .int .i64 b, .int .i64 c, .int .i64 d, .int .i64 e, .int .i64 f, .int .i64 g]) (.agg #[.int .i64 a, .int .i64 b, .int .i64 c, .int .i64 d, .int .i64 e, .int .i64 f, .int .i64 g])).run Tryd.prog w = .ok true w := by
  obtain ⟨i0, hi, hz0, hz1, hz2⟩ := info_parts info_int
  have hc : Tryd.prog.cellsOf 3 = 1 := by kernel_rfl
  rw [run_equalIn_array (n := 7) (e := 3) w (k + 1) _ _ (by kernel_rfl) hi, hc, show List.range 7 = [0, 1, 2, 3, 4, 5, 6] from rfl]
  rw [item_same w rfl, item_same w rfl, item_same w rfl, item_same w rfl, item_same w rfl, item_same w rfl, item_same w rfl]
  simp [Op.eqItems]
theorem eq_wd (f0 f1 f2 f3 f4 f5 f6 f7 : Int) (w : World) :
    (Op.equalIn 10000 101 (.agg #[.int .i64 f0, .int .i64 f1, .int .i64 f2, .int .i64 f3, .int .i64 f4, .int .i64 f5, .int .i64 f6, .int .i64 f7]) (.agg #[.int .i64 f0, .int .i64 f1, .int .i64 f2, .int .i64 f3, .int .i64 f4, .int .i64 f5, .int .i64 f6, .int .i64 f7])).run Tryd.prog w = .ok true w := by
  have z3 := Tryd.sizeOf3
  have a3 := Tryd.isAgg3
  have u3 := Tryd.underlying3
  have z4 := Tryd.sizeOf99
  have a4 := Tryd.isAgg99
  have hE := eq_same7 f1 f2 f3 f4 f5 f6 f7
  have hS : Tryd.prog.underlying 101 = some (.struct (Tryd.prog.fieldsOf 101)) := by kernel_rfl
  have hp : Tryd.prog.stoodInHeld 101 = false := by kernel_rfl
  rw [show (10000 : Nat) = 9999 + 1 from rfl, run_equalIn_agg w 9999 101 _ _ hS hp]
  simp only [Program.fieldsOf, Tryd.underlying101]
  go_simp

set_option maxRecDepth 100000 in
set_option maxHeartbeats 2000000 in
theorem sameW_eq (A B : Option Addr) (m c d : Nat) (l : List (Nat → Int)) (w : World) (hm : m ≤ maxLen)
    (h : Reads w w.heap.size 8 A m (wds l)) (g : Reads w w.heap.size 8 B m (wds l)) :
    Calls Tryd.prog 15 #[.slice A m c, .slice B m d] w fun e w' => e = .returned (.bool true) ∧ Below w.heap.size w w' := by
  have gEq : Tryd.prog.eqGuardType Tryd.prog.depth 101 = false := by kernel_rfl
  unfold maxLen at hm
  have hh := Lib.hid h
  have gh := Lib.hid g
  have hb : ((m : Int) != (m : Int)) = false := by simp
  clear h g
  go_enter Tryd.func15, Tryd.ntmps15
  go_wp2
  go_loopw [5] (fun x wr => ∃ k : Nat, k ≤ m ∧ x = .int .i64 k ∧ Hid (∃ q, wr = w.drewN q)) (fun x _ => m - (intOf x).toNat)
  case atStart => exact ⟨0, by omega, rfl, ⟨0, rfl⟩⟩
  case round =>
    obtain ⟨k, hk, rfl, hq⟩ := hrel
    obtain ⟨q, rfl⟩ := hq.out
    clear hq
    by_cases hlt : k < m
    · obtain ⟨b, o, f, rfl, hbb, hx, hc⟩ := hh.out.wd hlt
      obtain ⟨b', o', f', rfl, hbb', hx', hc'⟩ := gh.out.wd hlt
      obtain rfl := Option.some.inj (hx.symm.trans hx')
      clear hx hx' hh gh
      have c0 : w.cell? ⟨b, o + k * 8, none⟩ = some (.int .i64 (f 0)) := hc 0 (by omega)
      have c1 := hc 1 (by omega)
      have c2 := hc 2 (by omega)
      have c3 := hc 3 (by omega)
      have c4 := hc 4 (by omega)
      have c5 := hc 5 (by omega)
      have c6 := hc 6 (by omega)
      have c7 := hc 7 (by omega)
      have d0 : w.cell? ⟨b', o' + k * 8, none⟩ = some (.int .i64 (f 0)) := hc' 0 (by omega)
      have d1 := hc' 1 (by omega)
      have d2 := hc' 2 (by omega)
      have d3 := hc' 3 (by omega)
      have d4 := hc' 4 (by omega)
      have d5 := hc' 5 (by omega)
      have d6 := hc' 6 (by omega)
      have d7 := hc' 7 (by omega)
      have hE1 := eq_wd (f 0) (f 1) (f 2) (f 3) (f 4) (f 5) (f 6) (f 7)
      clear hc hc'
      go_wp2
      go_quiet (fail)
      go_wp2
      go_roundw
      case rel => exact ⟨k + 1, by omega, by go_num, (by first | exact ⟨_, rfl⟩ | exact ⟨_, World.drewN_drewN _ _ _⟩)⟩
      case measure => simp [intOf]; omega
    · clear hh gh
      go_wp2
      go_ret
      exact ⟨rfl, below_drewN (Below.refl _ _) _⟩
noncomputable def valB (ps : List PR) (ws : List WE) (l : List (Nat → Int)) : Bool := validP ps ws && truB ps ws l

set_option maxRecDepth 100000 in
set_option maxHeartbeats 2000000 in
theorem rValid_any (A A' Al : Option Addr) (n c n' c' m cl : Nat) (ps : List PR) (ws : List WE) (l : List (Nat → Int)) (w : World) (hnm : n ≤ maxLen) (hnm' : n' ≤ maxLen) (hR : Reads w w.heap.size 4 A n (pgs ps)) (hW : Reads w w.heap.size 5 A' n' (wgs ws)) (hL : Reads w w.heap.size 8 Al m (wds l)) (hm20 : m ≤ 4096) :
    Calls Tryd.prog 14 #[.agg #[.slice A n c, .slice A' n' c'], .slice Al m cl] w fun e w' => e = .returned (.tuple #[.bool (valB ps ws l), .int .i64 (checkS ps ws)]) ∧ Below w.heap.size w w' := by
  have HRd := Lib.hid (fun z (hz : Below w.heap.size w z) => (hR.below hz).more hz.size)
  have HWd := Lib.hid (fun z (hz : Below w.heap.size w z) => (hW.below hz).more hz.size)
  have HLd := Lib.hid (fun z (hz : Below w.heap.size w z) => (hL.below hz).more hz.size)
  have hB0 : Hid (Below w.heap.size w (w.alloc (.cells #[.slice A n c, .slice A' n' c'] 25))) := (Below.refl _ _).alloc (Nat.le_refl _) _
  have hO0 := Lib.hid (heap_alloc_new w (.cells #[.slice A n c, .slice A' n' c'] 25))
  clear hR hW hL
  go_enter Tryd.func14, Tryd.ntmps14
  go_wp2_with fail
  refine (Press_any A A' n c n' c' ps ws _ hnm hnm' (HRd.out _ hB0.out) (HWd.out _ hB0.out)).mono ?_
  rintro e z1 ⟨rfl, hb1⟩
  have hB1 := Lib.hid (below_via hB0.out hB0.out.size hb1)
  have hO1 := Lib.hid (keepO hb1 hO0.out)
  clear hb1
  obtain ⟨p0, p1, -, -⟩ := two_facts hO1.out
  cases hv : validP ps ws
  · have hs : Hid (valB ps ws l = false ∧ checkS ps ws = 20) := by show _ ∧ _; unfold valB checkS; rw [hv]; exact ⟨rfl, rfl⟩
    clear hv
    go_wp2
    exact bodyPost_ret (v := .tuple #[.bool false, .int .i64 20]) (by simp [results, Tryd.results14, go_sem]) rfl ⟨by rw [hs.out.1, hs.out.2], hB1.out⟩
  · have hs : Hid (valB ps ws l = truB ps ws l ∧ checkS ps ws = 0) := by show _ ∧ _; unfold valB checkS; rw [hv]; exact ⟨rfl, rfl⟩
    have hvh := Lib.hid hv
    clear hv
    go_wp2_with fail
    refine (Truth_any A A' Al n c n' c' m cl ps ws l z1 (HRd.out _ hB1.out) (HWd.out _ hB1.out) (HLd.out _ hB1.out) hm20 hvh.out).mono ?_
    rintro e z2 ⟨rfl, hb2⟩
    have hB2 := Lib.hid (below_via hB1.out hB1.out.size hb2)
    clear hb2 p0 p1
    generalize htb : truB ps ws l = tb at *
    go_wp2
    exact bodyPost_ret (v := .tuple #[.bool tb, .int .i64 0]) (by simp [results, Tryd.results14, go_sem]) rfl ⟨by rw [hs.out.1, hs.out.2], hB2.out⟩
end Go.Proofs.YtoakeclpakjbiaaDoor
