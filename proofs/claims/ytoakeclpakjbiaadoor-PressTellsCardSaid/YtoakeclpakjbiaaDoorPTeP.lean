/-
  PressTells, the tied card: for every press and two numbers the law returns true, and its arguments read as before. The package's table of checks is laid as the program's text lays it (the given tie).
-/
import Derived.Test.YtoakeclpakjbiaaDoorTk
import Derived.Test.YtoakeclpakjbiaaDoorUnd
import Derived.Test.YtoakeclpakjbiaaDoorRIn
import Derived.Test.YtoakeclpakjbiaaDoorPSame
import Derived.Test.YtoakeclpakjbiaaDoorSameI
import Derived.Test.YtoakeclpakjbiaaDoorPLaid
import Derived.Test.YtoakeclpakjbiaaDoorCards
import Derived.Test.YtoakeclpakjbiaaDoorTie
import Derived.SevenTiedAt
namespace Go.Proofs.YtoakeclpakjbiaaDoor
open Go.RowKit
set_option linter.unusedVariables false
set_option linter.unusedSimpArgs false

theorem own_maxT {w : World} {base n size : Nat} {t : TypeId} {v : Value} {xs : List Value} (h : w.ownsRow base t size v n xs) : n ≤ maxLen := by
  rcases h.2 with ⟨-, h0⟩ | ⟨g1, cap', cur, h1, h2, h3, h4, h5, -⟩
  · rw [h0]; unfold maxLen; omega
  · omega
theorem RCheck_any (A A' : Option Addr) (n c n' c' : Nat) (ps : List PR) (ws : List WE) (w : World) (hnm : n ≤ maxLen) (hnm' : n' ≤ maxLen) (hR : Reads w w.heap.size 4 A n (pgs ps)) (hW : Reads w w.heap.size 5 A' n' (wgs ws)) :
    Calls Tryd.prog 26 #[.agg #[.slice A n c, .slice A' n' c']] w fun e w' => e = .returned (.int .i64 (checkS ps ws)) ∧ Below w.heap.size w w' := by
  have HRd := Lib.hid (fun z (hz : Below w.heap.size w z) => (hR.below hz).more hz.size)
  have HWd := Lib.hid (fun z (hz : Below w.heap.size w z) => (hW.below hz).more hz.size)
  have hB0 : Hid (Below w.heap.size w (w.alloc (.cells #[.slice A n c, .slice A' n' c'] 25))) := (Below.refl _ _).alloc (Nat.le_refl _) _
  clear hR hW
  go_enter Tryd.func26, Tryd.ntmps26
  go_wp2_with fail
  refine (Press_any A A' n c n' c' ps ws _ hnm hnm' (HRd.out _ hB0.out) (HWd.out _ hB0.out)).mono ?_
  rintro e z1 ⟨rfl, hb1⟩
  have hB1 := Lib.hid (below_via hB0.out hB0.out.size hb1)
  clear hb1
  cases hv : validP ps ws
  · have hc : Hid (checkS ps ws = 20) := by show _ = _; unfold checkS; rw [hv]; rfl
    clear hv
    go_wp2
    exact bodyPost_ret (v := .int .i64 20) (by simp [results, Tryd.results26, go_sem]) rfl ⟨by rw [hc.out], hB1.out⟩
  · have hc : Hid (checkS ps ws = 0) := by show _ = _; unfold checkS; rw [hv]; rfl
    clear hv
    go_wp2
    exact bodyPost_ret (v := .int .i64 0) (by simp [results, Tryd.results26, go_sem]) rfl ⟨by rw [hc.out], hB1.out⟩

/-- What every question reads: the argument and its copy. -/
structure LT (w : World) (ob : Nat) (A A' : Option Addr) (n c n' c' : Nat) (ps : List PR) (ws : List WE) (A1 A2 : Option Addr) (c1 c2 : Nat) (z : World) : Prop where
  b0 : z.heap[w.heap.size]? = some (.cells #[.slice A n c, .slice A' n' c'] 25 (0, 0))
  bo : z.heap[ob]? = some (.cells #[.slice A1 n c1, .slice A2 n' c2] 25 (0, 0))
  bel : Below w.heap.size w z
  r1 : Reads z z.heap.size 4 A n (pgs ps)
  r2 : Reads z z.heap.size 5 A' n' (wgs ws)
  r3 : Reads z z.heap.size 4 A1 n (pgs ps)
  r4 : Reads z z.heap.size 5 A2 n' (wgs ws)
  laid : Laid z
section
variable {w z y : World} {ob : Nat} {A A' : Option Addr} {n c n' c' : Nat} {ps : List PR} {ws : List WE} {A1 A2 : Option Addr} {c1 c2 : Nat}
theorem LT.below (h : LT w ob A A' n c n' c' ps ws A1 A2 c1 c2 z) (hb : Below z.heap.size z y) : LT w ob A A' n c n' c' ps ws A1 A2 c1 c2 y := by
  have hs2 := hb.size
  have h0 := (Array.getElem?_eq_some_iff.1 h.b0).1
  exact ⟨keepO hb h.b0, keepO hb h.bo, below_via h.bel (by omega) hb, (h.r1.below hb).more hs2, (h.r2.below hb).more hs2, (h.r3.below hb).more hs2, (h.r4.below hb).more hs2, h.laid.below hb h.laid.2.2.2⟩
theorem LT.own (h : LT w ob A A' n c n' c' ps ws A1 A2 c1 c2 z) : z.cell? ⟨ob, 0, none⟩ = some (.slice A1 n c1) ∧ z.cell? ⟨ob, 1, none⟩ = some (.slice A2 n' c2) := by
  obtain ⟨a, b, -, -⟩ := two_facts h.bo
  exact ⟨a, b⟩
theorem LT.arg (h : LT w ob A A' n c n' c' ps ws A1 A2 c1 c2 z) : z.cell? ⟨w.heap.size, 0, none⟩ = some (.slice A n c) ∧ z.cell? ⟨w.heap.size, 1, none⟩ = some (.slice A' n' c') := by
  obtain ⟨a, b, -, -⟩ := two_facts h.b0
  exact ⟨a, b⟩
end

set_option maxRecDepth 100000 in
set_option maxHeartbeats 8000000 in
theorem law_tells (A A' : Option Addr) (n c n' c' : Nat) (ps : List PR) (ws : List WE) (id kind : Int) (w : World) (hnm : n ≤ maxLen) (hnm' : n' ≤ maxLen)
    (hR : Reads w w.heap.size 4 A n (pgs ps)) (hW : Reads w w.heap.size 5 A' n' (wgs ws)) (hL : Laid w) :
    Calls Tryd.prog 4 #[.agg #[.slice A n c, .slice A' n' c'], .int .i64 id, .int .i64 kind] w fun e w' => e = .returned (.bool true) ∧ Below w.heap.size w w' := by
  have gEq : Tryd.prog.eqGuardType Tryd.prog.depth 44 = false := by kernel_rfl
  have hO0 := Lib.hid (heap_alloc_new w (.cells #[.slice A n c, .slice A' n' c'] 25))
  have hB0 : Hid (Below w.heap.size w (w.alloc (.cells #[.slice A n c, .slice A' n' c'] 25))) := (Below.refl _ _).alloc (Nat.le_refl _) _
  have hZ0 : Hid ((w.alloc (.cells #[.slice A n c, .slice A' n' c'] 25)).heap.size = w.heap.size + 1) := by show _ = _; simp
  have HGr := Lib.hid (fun z => Great_any A A' n c n' c' z)
  by_cases hg : (decide (20 < n) || decide (50 < n')) = true
  · rw [hg] at HGr
    clear hR hW hL hg
    go_enter Tryd.func4, Tryd.ntmps4
    go_wp2_with fail
    refine (HGr.out _).mono ?_
    rintro e w1 ⟨rfl, hb1⟩
    have HB1 := Lib.hid (below_via hB0.out hB0.out.size hb1)
    clear hb1
    go_wp2
    go_ret
    exact ⟨rfl, HB1.out⟩
  have hg' : (decide (20 < n) || decide (50 < n')) = false := by simpa using hg
  rw [hg'] at HGr
  have hn20 : n ≤ 20 ∧ n' ≤ 50 := by simp at hg'; omega
  clear hg hg'
  have HR0 := Lib.hid (And.intro hR (And.intro hW hL))
  have HTw := Lib.hid (fun z (hz : Below w.heap.size w z) => Twin_any A A' n c n' c' ps ws z (by omega) (by omega) ((hR.below hz).more hz.size) ((hW.below hz).more hz.size))
  clear hR hW hL
  go_enter Tryd.func4, Tryd.ntmps4
  go_wp2_with fail
  refine (HGr.out _).mono ?_
  rintro e w1 ⟨rfl, hb1⟩
  have HB1 := Lib.hid (below_via hB0.out hB0.out.size hb1)
  have HO1 := Lib.hid (keepO hb1 hO0.out)
  clear hb1
  obtain ⟨p0, p1, -, -⟩ := two_facts HO1.out
  go_wp2_with fail
  clear p0 p1
  refine (HTw.out _ HB1.out).mono ?_
  rintro e w3 ⟨A1, c1, A2, c2, rfl, ho1, ho2, hb2⟩
  have HB3 := Lib.hid (below_via HB1.out HB1.out.size hb2)
  have HO3 := Lib.hid (keepO hb2 HO1.out)
  obtain ⟨wl, hwl⟩ : ∃ wl, wl = w3.alloc (.cells #[.slice A1 n c1, .slice A2 n' c2] 25) := ⟨_, rfl⟩
  have hbl : Below w3.heap.size w3 wl := by rw [hwl]; exact (Below.refl _ _).alloc (Nat.le_refl _) _
  have HTwl : Hid (LT w w3.heap.size A A' n c n' c' ps ws A1 A2 c1 c2 wl) := by
    have hbw : Below w.heap.size w wl := below_via HB3.out HB3.out.size hbl
    obtain ⟨q1, q2, q4⟩ := HR0.out
    exact ⟨keepO hbl HO3.out, by rw [hwl]; exact heap_alloc_new _ _, hbw, (q1.below hbw).more hbw.size, (q2.below hbw).more hbw.size, Reads.of_own (own_below ho1 hbl), Reads.of_own (own_below ho2 hbl), q4.below hbw q4.2.2.2⟩
  have hwl' := Lib.hid hwl
  clear hwl hbl ho1 ho2 hb2 HB1 HO1 HB3 HO3 hO0 hB0 hZ0 HGr HTw
  have HC1 := Lib.hid (fun z (K : LT w w3.heap.size A A' n c n' c' ps ws A1 A2 c1 c2 z) => pHolds_any A1 A2 n c1 n' c2 ps ws z K.r3 K.r4 K.laid)
  have HC2 := Lib.hid (fun z (K : LT w w3.heap.size A A' n c n' c' ps ws A1 A2 c1 c2 z) => rHolds_any A A' n c n' c' ps ws z hnm hnm' K.r1 K.r2)
  have HC3 := Lib.hid (fun z (K : LT w w3.heap.size A A' n c n' c' ps ws A1 A2 c1 c2 z) => pSpan_any A1 A2 n c1 n' c2 ps ws id kind z hnm K.r3 K.r4 K.laid)
  have HC4 := Lib.hid (fun z (K : LT w w3.heap.size A A' n c n' c' ps ws A1 A2 c1 c2 z) => rSpan_any A A' n c n' c' ps ws id kind z hnm hnm' K.r1 K.r2)
  have HC5 := Lib.hid (fun z (K : LT w w3.heap.size A A' n c n' c' ps ws A1 A2 c1 c2 z) => pIn_any A1 A2 n c1 n' c2 ps ws id z hnm K.r3 K.r4 K.laid)
  have HC6 := Lib.hid (fun z (K : LT w w3.heap.size A A' n c n' c' ps ws A1 A2 c1 c2 z) => rIn_any A A' n c n' c' ps ws id z hnm hnm' K.r1 K.r2)
  have HC7 := Lib.hid (fun z (K : LT w w3.heap.size A A' n c n' c' ps ws A1 A2 c1 c2 z) => pUnder_any A1 A2 n c1 n' c2 ps ws id z hnm K.r3 K.r4 K.laid)
  have HC8 := Lib.hid (fun z (K : LT w w3.heap.size A A' n c n' c' ps ws A1 A2 c1 c2 z) => rUnder_any A A' n c n' c' ps ws id z hnm hnm' K.r1 K.r2)
  have HCk := Lib.hid (fun z (K : LT w w3.heap.size A A' n c n' c' ps ws A1 A2 c1 c2 z) => Check_any A1 A2 n c1 n' c2 ps ws z K.r3 K.r4 K.laid)
  have HCr := Lib.hid (fun z (K : LT w w3.heap.size A A' n c n' c' ps ws A1 A2 c1 c2 z) => RCheck_any A A' n c n' c' ps ws z hnm hnm' K.r1 K.r2)
  generalize (validP ps ws && hasT ps ws) = bb at *
  generalize spanE ps ws id kind = sA at *
  generalize askE ps ws id kind = eA at *
  generalize inE ps ws id = sB at *
  generalize askE ps ws id 1 = eB at *
  generalize undS ps ws id = lu at *
  generalize undE ps ws id = eC at *
  generalize checkS ps ws = eK at *
  obtain ⟨ob, hob_⟩ : ∃ ob, ob = w3.heap.size := ⟨_, rfl⟩
  rw [← hob_] at HTwl HC1 HC2 HC3 HC4 HC5 HC6 HC7 HC8 HCk HCr
  have hobh := Lib.hid hob_
  clear hob_
  obtain ⟨o0, o1⟩ := HTwl.out.own
  rw [hwl'.out, hobh.out] at o0 o1
  go_wp2_with fail
  rw [← hwl'.out, ← hobh.out]
  clear o0 o1 hwl' hobh
  refine (HC1.out wl HTwl.out).mono ?_
  rintro e z1 ⟨rfl, hb⟩
  have HTz1 := Lib.hid (HTwl.out.below hb)
  clear hb
  obtain ⟨o0, o1⟩ := HTz1.out.arg
  go_wp2_with fail
  clear o0 o1
  refine (HC2.out z1 HTz1.out).mono ?_
  rintro e z2 ⟨rfl, hb⟩
  have HTz2 := Lib.hid (HTz1.out.below hb)
  clear hb
  obtain ⟨o0, o1⟩ := HTz2.out.own
  go_wp2_with fail
  clear o0 o1
  refine (HC3.out z2 HTz2.out).mono ?_
  rintro e z3 ⟨rfl, hb⟩
  have HTz3 := Lib.hid (HTz2.out.below hb)
  clear hb
  obtain ⟨y3, hy3⟩ : ∃ y3, y3 = z3.alloc (.cells #[.int .i64 sA.1, .int .i64 sA.2] 44) := ⟨_, rfl⟩
  have hb : Below z3.heap.size z3 y3 := by rw [hy3]; exact (Below.refl _ _).alloc (Nat.le_refl _) _
  have HTy3 := Lib.hid (HTz3.out.below hb)
  have X2 : Hid (y3.heap[z3.heap.size]? = some (.cells #[.int .i64 sA.1, .int .i64 sA.2] 44 (0, 0))) := by show _ = _; rw [hy3]; exact heap_alloc_new _ _
  have hy3' := Lib.hid hy3
  clear hb hy3
  obtain ⟨o0, o1⟩ := HTy3.out.arg
  rw [hy3'.out] at o0 o1
  go_wp2_with fail
  clear o0 o1
  rw [← hy3'.out]
  clear hy3'
  refine (HC4.out y3 HTy3.out).mono ?_
  rintro e z4 ⟨rfl, hb⟩
  have HTz4 := Lib.hid (HTy3.out.below hb)
  replace X2 := Lib.hid (keepO hb X2.out)
  clear hb
  obtain ⟨y4, hy4⟩ : ∃ y4, y4 = z4.alloc (.cells #[.int .i64 sA.1, .int .i64 sA.2] 44) := ⟨_, rfl⟩
  have hb : Below z4.heap.size z4 y4 := by rw [hy4]; exact (Below.refl _ _).alloc (Nat.le_refl _) _
  have HTy4 := Lib.hid (HTz4.out.below hb)
  replace X2 := Lib.hid (keepO hb X2.out)
  have X3 : Hid (y4.heap[z4.heap.size]? = some (.cells #[.int .i64 sA.1, .int .i64 sA.2] 44 (0, 0))) := by show _ = _; rw [hy4]; exact heap_alloc_new _ _
  have hy4' := Lib.hid hy4
  clear hb hy4
  obtain ⟨o0, o1⟩ := HTy4.out.own
  rw [hy4'.out] at o0 o1
  go_wp2_with fail
  clear o0 o1
  rw [← hy4'.out]
  clear hy4'
  refine (HC5.out y4 HTy4.out).mono ?_
  rintro e z5 ⟨rfl, hb⟩
  have HTz5 := Lib.hid (HTy4.out.below hb)
  replace X2 := Lib.hid (keepO hb X2.out)
  replace X3 := Lib.hid (keepO hb X3.out)
  clear hb
  obtain ⟨y5, hy5⟩ : ∃ y5, y5 = z5.alloc (.cells #[.int .i64 sB.1, .int .i64 sB.2] 44) := ⟨_, rfl⟩
  have hb : Below z5.heap.size z5 y5 := by rw [hy5]; exact (Below.refl _ _).alloc (Nat.le_refl _) _
  have HTy5 := Lib.hid (HTz5.out.below hb)
  replace X2 := Lib.hid (keepO hb X2.out)
  replace X3 := Lib.hid (keepO hb X3.out)
  have X4 : Hid (y5.heap[z5.heap.size]? = some (.cells #[.int .i64 sB.1, .int .i64 sB.2] 44 (0, 0))) := by show _ = _; rw [hy5]; exact heap_alloc_new _ _
  have hy5' := Lib.hid hy5
  clear hb hy5
  obtain ⟨o0, o1⟩ := HTy5.out.arg
  rw [hy5'.out] at o0 o1
  go_wp2_with fail
  clear o0 o1
  rw [← hy5'.out]
  clear hy5'
  refine (HC6.out y5 HTy5.out).mono ?_
  rintro e z6 ⟨rfl, hb⟩
  have HTz6 := Lib.hid (HTy5.out.below hb)
  replace X2 := Lib.hid (keepO hb X2.out)
  replace X3 := Lib.hid (keepO hb X3.out)
  replace X4 := Lib.hid (keepO hb X4.out)
  clear hb
  obtain ⟨y6, hy6⟩ : ∃ y6, y6 = z6.alloc (.cells #[.int .i64 sB.1, .int .i64 sB.2] 44) := ⟨_, rfl⟩
  have hb : Below z6.heap.size z6 y6 := by rw [hy6]; exact (Below.refl _ _).alloc (Nat.le_refl _) _
  have HTy6 := Lib.hid (HTz6.out.below hb)
  replace X2 := Lib.hid (keepO hb X2.out)
  replace X3 := Lib.hid (keepO hb X3.out)
  replace X4 := Lib.hid (keepO hb X4.out)
  have X5 : Hid (y6.heap[z6.heap.size]? = some (.cells #[.int .i64 sB.1, .int .i64 sB.2] 44 (0, 0))) := by show _ = _; rw [hy6]; exact heap_alloc_new _ _
  have hy6' := Lib.hid hy6
  clear hb hy6
  obtain ⟨o0, o1⟩ := HTy6.out.own
  rw [hy6'.out] at o0 o1
  go_wp2_with fail
  clear o0 o1
  rw [← hy6'.out]
  clear hy6'
  refine (HC7.out y6 HTy6.out).mono ?_
  rintro e z7 ⟨⟨Au6, mu6, cu6, rfl, hu6⟩, hb⟩
  have HU6 := Lib.hid hu6
  clear hu6
  have HTz7 := Lib.hid (HTy6.out.below hb)
  replace X2 := Lib.hid (keepO hb X2.out)
  replace X3 := Lib.hid (keepO hb X3.out)
  replace X4 := Lib.hid (keepO hb X4.out)
  replace X5 := Lib.hid (keepO hb X5.out)
  clear hb
  obtain ⟨o0, o1⟩ := HTz7.out.arg
  go_wp2_with fail
  clear o0 o1
  refine (HC8.out z7 HTz7.out).mono ?_
  rintro e z8 ⟨⟨Au7, mu7, cu7, rfl, hu7⟩, hb⟩
  have HU7 := Lib.hid hu7
  clear hu7
  have HTz8 := Lib.hid (HTz7.out.below hb)
  replace X2 := Lib.hid (keepO hb X2.out)
  replace X3 := Lib.hid (keepO hb X3.out)
  replace X4 := Lib.hid (keepO hb X4.out)
  replace X5 := Lib.hid (keepO hb X5.out)
  replace HU6 := Lib.hid (ownR_below HU6.out hb)
  clear hb
  obtain ⟨o0, o1⟩ := HTz8.out.own
  obtain ⟨p0, p1⟩ := HTz8.out.arg
  go_wp2_with fail
  clear o0 o1 p0 p1
  obtain ⟨wq, hwq⟩ : ∃ wq, wq = z8 := ⟨_, rfl⟩
  rw [← hwq] at HTz8 X2 X3 X4 X5 HU6 HU7 ⊢
  clear hwq
  have HT := HTz8.out
  have hO6 := HU6.out
  have hO7 := HU7.out
  clear HTz8 HU6 HU7
  generalize z3.heap.size = b2 at *
  generalize z4.heap.size = b3 at *
  generalize z5.heap.size = b4 at *
  generalize z6.heap.size = b5 at *
  obtain ⟨o0, o1⟩ := HT.own
  obtain ⟨p0, p1⟩ := HT.arg
  have hob : ob < wq.heap.size := (Array.getElem?_eq_some_iff.1 HT.bo).1
  have hwb : w.heap.size < wq.heap.size := (Array.getElem?_eq_some_iff.1 HT.b0).1
  have hl2 : b2 < wq.heap.size := (Array.getElem?_eq_some_iff.1 X2.out).1
  obtain ⟨m20, m21, -, -⟩ := two_facts X2.out
  have hl3 : b3 < wq.heap.size := (Array.getElem?_eq_some_iff.1 X3.out).1
  obtain ⟨m30, m31, -, -⟩ := two_facts X3.out
  have hl4 : b4 < wq.heap.size := (Array.getElem?_eq_some_iff.1 X4.out).1
  obtain ⟨m40, m41, -, -⟩ := two_facts X4.out
  have hl5 : b5 < wq.heap.size := (Array.getElem?_eq_some_iff.1 X5.out).1
  obtain ⟨m50, m51, -, -⟩ := two_facts X5.out
  have HQ := Lib.hid (fun w' (hz : Hid (Kp wq.heap.size [] wq w')) => (⟨(hz.out.cell (by simp only; omega) (by simp; try omega)).trans o0, (hz.out.cell (by simp only; omega) (by simp; try omega)).trans o1, (hz.out.cell (by simp only; omega) (by simp; try omega)).trans p0, (hz.out.cell (by simp only; omega) (by simp; try omega)).trans p1, (hz.out.cell (by simp only; omega) (by simp; try omega)).trans m20, (hz.out.cell (by simp only; omega) (by simp; try omega)).trans m21, (hz.out.cell (by simp only; omega) (by simp; try omega)).trans m30, (hz.out.cell (by simp only; omega) (by simp; try omega)).trans m31, (hz.out.cell (by simp only; omega) (by simp; try omega)).trans m40, (hz.out.cell (by simp only; omega) (by simp; try omega)).trans m41, (hz.out.cell (by simp only; omega) (by simp; try omega)).trans m50, (hz.out.cell (by simp only; omega) (by simp; try omega)).trans m51⟩ : w'.cell? ⟨ob, 0, none⟩ = some (.slice A1 n c1) ∧ w'.cell? ⟨ob, 1, none⟩ = some (.slice A2 n' c2) ∧ w'.cell? ⟨w.heap.size, 0, none⟩ = some (.slice A n c) ∧ w'.cell? ⟨w.heap.size, 1, none⟩ = some (.slice A' n' c') ∧ w'.cell? ⟨b2, 0, none⟩ = some (.int .i64 sA.1) ∧ w'.cell? ⟨b2, 1, none⟩ = some (.int .i64 sA.2) ∧ w'.cell? ⟨b3, 0, none⟩ = some (.int .i64 sA.1) ∧ w'.cell? ⟨b3, 1, none⟩ = some (.int .i64 sA.2) ∧ w'.cell? ⟨b4, 0, none⟩ = some (.int .i64 sB.1) ∧ w'.cell? ⟨b4, 1, none⟩ = some (.int .i64 sB.2) ∧ w'.cell? ⟨b5, 0, none⟩ = some (.int .i64 sB.1) ∧ w'.cell? ⟨b5, 1, none⟩ = some (.int .i64 sB.2)))
  obtain ⟨S, hSd⟩ : ∃ S : World → Prop, S = fun w' => (w'.cell? ⟨ob, 0, none⟩ = some (.slice A1 n c1) ∧ w'.cell? ⟨ob, 1, none⟩ = some (.slice A2 n' c2) ∧ w'.cell? ⟨w.heap.size, 0, none⟩ = some (.slice A n c) ∧ w'.cell? ⟨w.heap.size, 1, none⟩ = some (.slice A' n' c') ∧ w'.cell? ⟨b2, 0, none⟩ = some (.int .i64 sA.1) ∧ w'.cell? ⟨b2, 1, none⟩ = some (.int .i64 sA.2) ∧ w'.cell? ⟨b3, 0, none⟩ = some (.int .i64 sA.1) ∧ w'.cell? ⟨b3, 1, none⟩ = some (.int .i64 sA.2) ∧ w'.cell? ⟨b4, 0, none⟩ = some (.int .i64 sB.1) ∧ w'.cell? ⟨b4, 1, none⟩ = some (.int .i64 sB.2) ∧ w'.cell? ⟨b5, 0, none⟩ = some (.int .i64 sB.1) ∧ w'.cell? ⟨b5, 1, none⟩ = some (.int .i64 sB.2)) ∧ Hid (Kp wq.heap.size [] wq w') := ⟨_, rfl⟩
  have HS := Lib.hid (fun w' (hz : Hid (Kp wq.heap.size [] wq w')) => (by rw [hSd]; exact ⟨HQ.out w' hz, hz⟩ : S w'))
  clear o0 o1 p0 p1 m20 m21 m30 m31 m40 m41 m50 m51
  refine wp_region_held_drew (S := S) (by kernel_rfl) ?_ (fun hHeld => ?_)
  · exact HS.out _ (Lib.hid (Kp.refl _ _ _).drew)
  have hKyd : Hid (Kp wq.heap.size [] wq wq.drew) := Lib.hid (Kp.refl _ _ _).drew
  have hSyd : wq.heap.size ≤ wq.drew.heap.size := Nat.le_refl _
  have HT := HT.below (Below.refl wq.heap.size wq).drew
  have hO6 := ownR_below hO6 (Below.refl wq.heap.size wq).drew
  have hO7 := ownR_below hO7 (Below.refl wq.heap.size wq).drew
  generalize wq.drew = yd at *
  refine tY (v := ?_) 0 76 ?_ ?_
  rotate_left
  · intro w hSw; rw [hSd] at hSw; obtain ⟨⟨q0, q1, q2, q3, q4, q5, q6, q7, q8, q9, q10, q11⟩, -⟩ := hSw; go_simp; (try with_reducible rfl)
  try simp only [N0]
  refine tY (v := ?_) 2 78 ?_ ?_
  rotate_left
  · intro w hSw; rw [hSd] at hSw; obtain ⟨⟨q0, q1, q2, q3, q4, q5, q6, q7, q8, q9, q10, q11⟩, -⟩ := hSw; go_simp; (try with_reducible rfl)
  try simp only [N0]
  refine wpAnyH_ready (rs := [1]) (by kernel_rfl) (by simp) ?_
  refine AllReadyH.cons (o := _) rfl (fun Kq hK => ?_) AllReadyH.nil
  go_simp
  refine (HCk.out yd HT).mono ?_
  rintro e c1yd ⟨rfl, hb⟩
  have hKc1yd := Lib.hid (hKyd.out.call hSyd hb)
  have hSc1yd := Nat.le_trans hSyd hb.size
  have HT := HT.below hb
  have hO6 := ownR_below hO6 hb
  have hO7 := ownR_below hO7 hb
  clear hb
  try go_simp
  refine hK.out _ _ ?_ (fun hHeld => ?_)
  · exact HS.out _ hKc1yd
  clear hK Kq
  try simp only [N0]
  refine wpAnyH_ready (rs := [3]) (by kernel_rfl) (by simp) ?_
  refine AllReadyH.cons (o := _) rfl (fun Kq hK => ?_) AllReadyH.nil
  go_simp
  refine (HCr.out c1yd HT).mono ?_
  rintro e c3c1yd ⟨rfl, hb⟩
  have hKc3c1yd := Lib.hid (hKc1yd.out.call hSc1yd hb)
  have hSc3c1yd := Nat.le_trans hSc1yd hb.size
  have HT := HT.below hb
  have hO6 := ownR_below hO6 hb
  have hO7 := ownR_below hO7 hb
  clear hb
  try go_simp
  refine hK.out _ _ ?_ (fun hHeld => ?_)
  · exact HS.out _ hKc3c1yd
  clear hK Kq
  try simp only [N0]
  refine tY (v := ?_) 4 80 ?_ ?_
  rotate_left
  · intro w hSw; rw [hSd] at hSw; obtain ⟨⟨q0, q1, q2, q3, q4, q5, q6, q7, q8, q9, q10, q11⟩, -⟩ := hSw; go_simp; (try with_reducible rfl)
  try simp only [N0]
  refine tY (v := ?_) 5 81 ?_ ?_
  rotate_left
  · intro w hSw; rw [hSd] at hSw; obtain ⟨⟨q0, q1, q2, q3, q4, q5, q6, q7, q8, q9, q10, q11⟩, -⟩ := hSw; go_simp; (try with_reducible rfl)
  try simp only [N0]
  refine tY (v := ?_) 6 82 ?_ ?_
  rotate_left
  · intro w hSw; rw [hSd] at hSw; obtain ⟨⟨q0, q1, q2, q3, q4, q5, q6, q7, q8, q9, q10, q11⟩, -⟩ := hSw; go_simp; (try with_reducible rfl)
  try simp only [N0]
  refine tY (v := ?_) 7 83 ?_ ?_
  rotate_left
  · intro w hSw; rw [hSd] at hSw; obtain ⟨⟨q0, q1, q2, q3, q4, q5, q6, q7, q8, q9, q10, q11⟩, -⟩ := hSw; go_simp; (try with_reducible rfl)
  try simp only [N0]
  refine tY (v := ?_) 8 84 ?_ ?_
  rotate_left
  · intro w hSw; rw [hSd] at hSw; obtain ⟨⟨q0, q1, q2, q3, q4, q5, q6, q7, q8, q9, q10, q11⟩, -⟩ := hSw; go_simp; (try with_reducible rfl)
  try simp only [N0]
  refine tY (v := ?_) 9 85 ?_ ?_
  rotate_left
  · intro w hSw; rw [hSd] at hSw; obtain ⟨⟨q0, q1, q2, q3, q4, q5, q6, q7, q8, q9, q10, q11⟩, -⟩ := hSw; go_simp; (try with_reducible rfl)
  try simp only [N0]
  refine tY (v := ?_) 10 86 ?_ ?_
  rotate_left
  · intro w hSw; rw [hSd] at hSw; obtain ⟨⟨q0, q1, q2, q3, q4, q5, q6, q7, q8, q9, q10, q11⟩, -⟩ := hSw; go_simp; (try with_reducible rfl)
  try simp only [N0]
  refine tY (v := ?_) 11 87 ?_ ?_
  rotate_left
  · intro w hSw; rw [hSd] at hSw; obtain ⟨⟨q0, q1, q2, q3, q4, q5, q6, q7, q8, q9, q10, q11⟩, -⟩ := hSw; go_simp; (try with_reducible rfl)
  try simp only [N0]
  refine tY (v := ?_) 12 88 ?_ ?_
  rotate_left
  · intro w hSw; rw [hSd] at hSw; obtain ⟨⟨q0, q1, q2, q3, q4, q5, q6, q7, q8, q9, q10, q11⟩, -⟩ := hSw; go_simp; (try with_reducible rfl)
  try simp only [N0]
  refine tY (v := ?_) 13 89 ?_ ?_
  rotate_left
  · intro w hSw; rw [hSd] at hSw; obtain ⟨⟨q0, q1, q2, q3, q4, q5, q6, q7, q8, q9, q10, q11⟩, -⟩ := hSw; go_simp; (try with_reducible rfl)
  try simp only [N0]
  refine tY (v := ?_) 14 90 ?_ ?_
  rotate_left
  · intro w hSw; rw [hSd] at hSw; obtain ⟨⟨q0, q1, q2, q3, q4, q5, q6, q7, q8, q9, q10, q11⟩, -⟩ := hSw; go_simp; (try with_reducible rfl)
  try simp only [N0]
  refine tY (v := ?_) 15 91 ?_ ?_
  rotate_left
  · intro w hSw; rw [hSd] at hSw; obtain ⟨⟨q0, q1, q2, q3, q4, q5, q6, q7, q8, q9, q10, q11⟩, -⟩ := hSw; go_simp; (try with_reducible rfl)
  try simp only [N0]
  refine tY (v := ?_) 16 92 ?_ ?_
  rotate_left
  · intro w hSw; rw [hSd] at hSw; obtain ⟨⟨q0, q1, q2, q3, q4, q5, q6, q7, q8, q9, q10, q11⟩, -⟩ := hSw; go_simp; (try with_reducible rfl)
  try simp only [N0]
  refine tY (v := ?_) 17 93 ?_ ?_
  rotate_left
  · intro w hSw; rw [hSd] at hSw; obtain ⟨⟨q0, q1, q2, q3, q4, q5, q6, q7, q8, q9, q10, q11⟩, -⟩ := hSw; go_simp; (try with_reducible rfl)
  try simp only [N0]
  refine tY (v := ?_) 18 94 ?_ ?_
  rotate_left
  · intro w hSw; rw [hSd] at hSw; obtain ⟨⟨q0, q1, q2, q3, q4, q5, q6, q7, q8, q9, q10, q11⟩, -⟩ := hSw; go_simp; (try with_reducible rfl)
  try simp only [N0]
  refine tY (v := ?_) 19 95 ?_ ?_
  rotate_left
  · intro w hSw; rw [hSd] at hSw; obtain ⟨⟨q0, q1, q2, q3, q4, q5, q6, q7, q8, q9, q10, q11⟩, -⟩ := hSw; go_simp; (try with_reducible rfl)
  try simp only [N0]
  refine tY (v := ?_) 20 96 ?_ ?_
  rotate_left
  · intro w hSw; rw [hSd] at hSw; obtain ⟨⟨q0, q1, q2, q3, q4, q5, q6, q7, q8, q9, q10, q11⟩, -⟩ := hSw; go_simp; (try with_reducible rfl)
  try simp only [N0]
  refine tY (v := ?_) 21 97 ?_ ?_
  rotate_left
  · intro w hSw; rw [hSd] at hSw; obtain ⟨⟨q0, q1, q2, q3, q4, q5, q6, q7, q8, q9, q10, q11⟩, -⟩ := hSw; go_simp; (try with_reducible rfl)
  try simp only [N0]
  refine tY (v := ?_) 22 98 ?_ ?_
  rotate_left
  · intro w hSw; rw [hSd] at hSw; obtain ⟨⟨q0, q1, q2, q3, q4, q5, q6, q7, q8, q9, q10, q11⟩, -⟩ := hSw; go_simp; (try with_reducible rfl)
  try simp only [N0]
  refine tY (v := ?_) 23 99 ?_ ?_
  rotate_left
  · intro w hSw; rw [hSd] at hSw; obtain ⟨⟨q0, q1, q2, q3, q4, q5, q6, q7, q8, q9, q10, q11⟩, -⟩ := hSw; go_simp; (try with_reducible rfl)
  try simp only [N0]
  refine tY (v := ?_) 24 100 ?_ ?_
  rotate_left
  · intro w hSw; rw [hSd] at hSw; obtain ⟨⟨q0, q1, q2, q3, q4, q5, q6, q7, q8, q9, q10, q11⟩, -⟩ := hSw; go_simp; (try with_reducible rfl)
  try simp only [N0]
  refine tY (v := ?_) 25 101 ?_ ?_
  rotate_left
  · intro w hSw; rw [hSd] at hSw; obtain ⟨⟨q0, q1, q2, q3, q4, q5, q6, q7, q8, q9, q10, q11⟩, -⟩ := hSw; go_simp; (try with_reducible rfl)
  try simp only [N0]
  refine tY (v := ?_) 26 102 ?_ ?_
  rotate_left
  · intro w hSw; rw [hSd] at hSw; obtain ⟨⟨q0, q1, q2, q3, q4, q5, q6, q7, q8, q9, q10, q11⟩, -⟩ := hSw; go_simp; (try with_reducible rfl)
  try simp only [N0]
  refine tY (v := ?_) 27 103 ?_ ?_
  rotate_left
  · intro w hSw; rw [hSd] at hSw; obtain ⟨⟨q0, q1, q2, q3, q4, q5, q6, q7, q8, q9, q10, q11⟩, -⟩ := hSw; go_simp; (try with_reducible rfl)
  try simp only [N0]
  refine tY (v := ?_) 28 104 ?_ ?_
  rotate_left
  · intro w hSw; rw [hSd] at hSw; obtain ⟨⟨q0, q1, q2, q3, q4, q5, q6, q7, q8, q9, q10, q11⟩, -⟩ := hSw; go_simp; (try with_reducible rfl)
  try simp only [N0]
  refine tY (v := ?_) 29 105 ?_ ?_
  rotate_left
  · intro w hSw; rw [hSd] at hSw; obtain ⟨⟨q0, q1, q2, q3, q4, q5, q6, q7, q8, q9, q10, q11⟩, -⟩ := hSw; go_simp; (try with_reducible rfl)
  try simp only [N0]
  refine tY (v := ?_) 30 106 ?_ ?_
  rotate_left
  · intro w hSw; rw [hSd] at hSw; obtain ⟨⟨q0, q1, q2, q3, q4, q5, q6, q7, q8, q9, q10, q11⟩, -⟩ := hSw; go_simp; (try with_reducible rfl)
  try simp only [N0]
  refine tY (v := ?_) 31 107 ?_ ?_
  rotate_left
  · intro w hSw; rw [hSd] at hSw; obtain ⟨⟨q0, q1, q2, q3, q4, q5, q6, q7, q8, q9, q10, q11⟩, -⟩ := hSw; go_simp; (try with_reducible rfl)
  try simp only [N0]
  refine tY (v := ?_) 32 108 ?_ ?_
  rotate_left
  · intro w hSw; rw [hSd] at hSw; obtain ⟨⟨q0, q1, q2, q3, q4, q5, q6, q7, q8, q9, q10, q11⟩, -⟩ := hSw; go_simp; (try with_reducible rfl)
  try simp only [N0]
  refine tY (v := ?_) 33 109 ?_ ?_
  rotate_left
  · intro w hSw; rw [hSd] at hSw; obtain ⟨⟨q0, q1, q2, q3, q4, q5, q6, q7, q8, q9, q10, q11⟩, -⟩ := hSw; go_simp; (try with_reducible rfl)
  try simp only [N0]
  refine tY (v := ?_) 34 110 ?_ ?_
  rotate_left
  · intro w hSw; rw [hSd] at hSw; obtain ⟨⟨q0, q1, q2, q3, q4, q5, q6, q7, q8, q9, q10, q11⟩, -⟩ := hSw; go_simp; (try with_reducible rfl)
  try simp only [N0]
  refine tY (v := ?_) 35 111 ?_ ?_
  rotate_left
  · intro w hSw; rw [hSd] at hSw; obtain ⟨⟨q0, q1, q2, q3, q4, q5, q6, q7, q8, q9, q10, q11⟩, -⟩ := hSw; go_simp; (try with_reducible rfl)
  try simp only [N0]
  refine tY (v := ?_) 36 112 ?_ ?_
  rotate_left
  · intro w hSw; rw [hSd] at hSw; obtain ⟨⟨q0, q1, q2, q3, q4, q5, q6, q7, q8, q9, q10, q11⟩, -⟩ := hSw; go_simp; (try with_reducible rfl)
  try simp only [N0]
  refine tY (v := ?_) 37 113 ?_ ?_
  rotate_left
  · intro w hSw; rw [hSd] at hSw; obtain ⟨⟨q0, q1, q2, q3, q4, q5, q6, q7, q8, q9, q10, q11⟩, -⟩ := hSw; go_simp; (try with_reducible rfl)
  try simp only [N0]
  refine wpAnyH_ready (rs := [38]) (by kernel_rfl) (by simp) ?_
  refine AllReadyH.cons (o := _) rfl (fun Kq hK => ?_) AllReadyH.nil
  go_simp
  refine (sameInts_any Au6 Au7 mu6 mu7 cu6 cu7 lu lu c3c1yd (own_maxT hO6) (own_maxT hO7) (Reads.of_own hO6) (Reads.of_own hO7)).mono ?_
  rintro e c38c3c1yd ⟨rfl, kq, hzq⟩
  have hb : Below c3c1yd.heap.size c3c1yd c38c3c1yd := by rw [hzq]; exact below_drewN (Below.refl _ _) kq
  clear hzq
  have hKc38c3c1yd := Lib.hid (hKc3c1yd.out.call hSc3c1yd hb)
  have hSc38c3c1yd := Nat.le_trans hSc3c1yd hb.size
  have HT := HT.below hb
  have hO6 := ownR_below hO6 hb
  have hO7 := ownR_below hO7 hb
  rw [decide_eq_true (rfl : lu = lu)]
  clear hb
  try go_simp
  refine hK.out _ _ ?_ (fun hHeld => ?_)
  · exact HS.out _ hKc38c3c1yd
  clear hK Kq
  try simp only [N0]
  refine tY (v := ?_) 39 115 ?_ ?_
  rotate_left
  · intro w hSw; rw [hSd] at hSw; obtain ⟨⟨q0, q1, q2, q3, q4, q5, q6, q7, q8, q9, q10, q11⟩, -⟩ := hSw; go_simp; (try with_reducible rfl)
  try simp only [N0]
  refine tY (v := ?_) 40 116 ?_ ?_
  rotate_left
  · intro w hSw; rw [hSd] at hSw; obtain ⟨⟨q0, q1, q2, q3, q4, q5, q6, q7, q8, q9, q10, q11⟩, -⟩ := hSw; go_simp; (try with_reducible rfl)
  try simp only [N0]
  refine tY (v := ?_) 41 117 ?_ ?_
  rotate_left
  · intro w hSw; rw [hSd] at hSw; obtain ⟨⟨q0, q1, q2, q3, q4, q5, q6, q7, q8, q9, q10, q11⟩, -⟩ := hSw; go_simp; (try with_reducible rfl)
  try simp only [N0]
  refine tY (v := ?_) 42 118 ?_ ?_
  rotate_left
  · intro w hSw; rw [hSd] at hSw; obtain ⟨⟨q0, q1, q2, q3, q4, q5, q6, q7, q8, q9, q10, q11⟩, -⟩ := hSw; go_simp; (try with_reducible rfl)
  try simp only [N0]
  refine tY (v := ?_) 43 119 ?_ ?_
  rotate_left
  · intro w hSw; rw [hSd] at hSw; obtain ⟨⟨q0, q1, q2, q3, q4, q5, q6, q7, q8, q9, q10, q11⟩, -⟩ := hSw; go_simp; (try with_reducible rfl)
  try simp only [N0]
  refine tY (v := ?_) 44 120 ?_ ?_
  rotate_left
  · intro w hSw; rw [hSd] at hSw; obtain ⟨⟨q0, q1, q2, q3, q4, q5, q6, q7, q8, q9, q10, q11⟩, -⟩ := hSw; go_simp; (try with_reducible rfl)
  try simp only [N0]
  refine tY (v := ?_) 45 121 ?_ ?_
  rotate_left
  · intro w hSw; rw [hSd] at hSw; obtain ⟨⟨q0, q1, q2, q3, q4, q5, q6, q7, q8, q9, q10, q11⟩, -⟩ := hSw; go_simp; (try with_reducible rfl)
  try simp only [N0]
  refine tY (v := ?_) 46 122 ?_ ?_
  rotate_left
  · intro w hSw; rw [hSd] at hSw; obtain ⟨⟨q0, q1, q2, q3, q4, q5, q6, q7, q8, q9, q10, q11⟩, -⟩ := hSw; go_simp; (try with_reducible rfl)
  try simp only [N0]
  refine tY (v := ?_) 47 123 ?_ ?_
  rotate_left
  · intro w hSw; rw [hSd] at hSw; obtain ⟨⟨q0, q1, q2, q3, q4, q5, q6, q7, q8, q9, q10, q11⟩, -⟩ := hSw; go_simp; (try with_reducible rfl)
  try simp only [N0]
  refine wpAnyH_ready (rs := [48]) (by kernel_rfl) (by simp) ?_
  refine AllReadyH.cons (o := _) rfl (fun Kq hK => ?_) AllReadyH.nil
  go_simp
  refine (Same_eq A1 A2 A A' n c1 n' c2 c c' ps ws c38c3c1yd hnm hnm' HT.r3 HT.r4 HT.r1 HT.r2).mono ?_
  rintro e c48c38c3c1yd ⟨rfl, hb⟩
  have hKc48c38c3c1yd := Lib.hid (hKc38c3c1yd.out.call hSc38c3c1yd hb)
  have hSc48c38c3c1yd := Nat.le_trans hSc38c3c1yd hb.size
  have HT := HT.below hb
  have hO6 := ownR_below hO6 hb
  have hO7 := ownR_below hO7 hb
  clear hb
  try go_simp
  refine hK.out _ _ ?_ (fun hHeld => ?_)
  · exact HS.out _ hKc48c38c3c1yd
  clear hK Kq
  try simp only [N0]
  refine tY (v := ?_) 49 125 ?_ ?_
  rotate_left
  · intro w hSw; rw [hSd] at hSw; obtain ⟨⟨q0, q1, q2, q3, q4, q5, q6, q7, q8, q9, q10, q11⟩, -⟩ := hSw; go_simp; (try with_reducible rfl)
  try simp only [N0]
  refine wpAnyH_ready (rs := [50]) (by kernel_rfl) (by simp) ?_
  refine AllReadyH.cons (o := _) rfl (fun Kq hK => ?_) AllReadyH.nil
  go_simp
  refine hK.out _ _ ?_ (fun hHeld => ?_)
  · exact HS.out _ hKc48c38c3c1yd
  clear hK Kq
  try simp only [N0]
  refine wpAnyH_done (by kernel_rfl) ?_ _
  clear HS HQ hSd
  have hBx := Lib.hid HT.bel
  clear HT hO6 hO7
  go_wp2
  go_ret
  exact ⟨rfl, hBx.out⟩
end Go.Proofs.YtoakeclpakjbiaaDoor
namespace Go.Proofs.YtoakeclpakjbiaaDoor.pressTells
open Go.ChangeShapes Go.WideShapes Go.ChangeAt Go.RowKit Go.Joins
set_option linter.unusedVariables false

theorem laidOut : laidOutB Tryd.prog = true := by kernel_rfl

set_option maxRecDepth 100000 in
theorem lifted (os : Os) (started : os.Started) (H : Type) (enc : TypeId × Value → H) :
    ReturnsInHanded {} Tryd.checked os 4 .any (fun w args => (Rows.pressTellsSpec.pre enc Tryd.prog Tryd.f4 [] false w args ∧ laidMetH Tryd.prog laidList w) ∧ sizedMet enc Tryd.prog Tryd.f4 (OpenSpec.ofChange Rows.pressTellsSpec) false w args)
      (Rows.pressTellsSpec.post enc Tryd.prog Tryd.f4 false true false false) := by
  refine returnsInHanded_of_change_and (C := Tryd.checked) (X := fun w _ => laidMetH Tryd.prog laidList w) (fun _ _ _ hh h => h.of_heap hh) own started (by kernel_rfl) Tryd.func4
    (ChangeSpec.witness_shaped (enc := enc) (C := Tryd.checked) (os := os) (X := fun w _ => laidMetH Tryd.prog laidList w) false (World.doorLaid Tryd.prog 25 os) #[.agg #[.slice none 0 0, .slice none 0 0], .int .i64 0, .int .i64 0] 8 rfl (World.shaped_of_RefB (by kernel_rfl) (by kernel_rfl)) (by kernel_rfl) (by kernel_rfl) (by kernel_rfl) (door_met os _)) ?_
  intro W base args ds gs before hval0 hW _ _ hL _
  have hval : ∀ (j : Nat) t v, Tryd.f4.params[j]? = some t → args[j]? = some v → Value.okWide Tryd.prog W .any base t v := hval0
  have hW' := hW
  have hblk : ∀ x ∈ before, x.block < W.heap.size := fun x hx => hW.lt x hx
  obtain ⟨p, q, hA0, hV, rfl, hfz, hnd⟩ := hW
  have hA : DataW.TrodAll enc Tryd.prog W 0 (fun _ => true) true Tryd.f4.params.toList args.toList ds p := hA0
  have hA' := hA
  have hP := Tryd.params4
  rw [Tryd.params4] at hA hval hA'
  obtain ⟨v0, vs0, d0, ds0, p0, q0, hargs, rfl, rfl, h0, r0⟩ := trodAll_cons hA
  obtain ⟨v1, vs1, d1, ds1, p1, q1, rfl, rfl, rfl, h1, r1⟩ := trodAll_cons r0
  obtain ⟨v2, vs2, d2, ds2, p2, q2, rfl, rfl, rfl, h2, r2⟩ := trodAll_cons r1
  obtain ⟨rfl, rfl, rfl⟩ := trodAll_nil r2
  obtain rfl : args = #[v0, v1, v2] := by cases args; simp_all
  obtain ⟨rfl, rfl⟩ := trodVars_none hV
  simp only [List.append_nil] at hW' hblk
  obtain ⟨c00, c01, y00, y01, m0, rfl, -, -, g00, g01⟩ := open_agg2 Tryd.underlying25 (by kernel_rfl) (by kernel_rfl) (hval 0 25 v0 rfl rfl) h0
  obtain ⟨A, n, c, ps, rfl, hnc, hcm0, -, hRp⟩ := open_recs (f := pgc) (fun _ => rfl) (by omega) Tryd.underlying22 cPg (fun k cs y hl h => dec_pg k cs y hl h) g00
  obtain ⟨A', n', c', ws, rfl, hnc', hcm', hnil, hRw⟩ := open_recs (f := wgc) (fun _ => rfl) (by omega) Tryd.underlying23 cWg (fun k cs y hl h => dec_wg k cs y hl h) g01
  obtain ⟨id_, rfl, rfl, rfl, -⟩ := open_int Tryd.underlying3 (hval 1 3 v1 rfl rfl) h1
  obtain ⟨kd_, rfl, rfl, rfl, -⟩ := open_int Tryd.underlying3 (hval 2 3 v2 rfl rfl) h2
  clear hA0 hval0
  refine (law_tells A A' n c n' c' ps ws id_ kd_ W (by omega) (by omega) hRp hRw (laid_of hL)).mono fun e W' ⟨he, hb⟩ => ?_
  subst he
  refine ⟨_, rfl, post_below (ds := [_, _, _]) (gs := []) (pa := p0 ++ ([] ++ ([] ++ []))) (pv := []) (by simpa using hW') (fun _ _ _ => (trodAll_cons_mk (shut_bool Tryd.underlying4 _) trodAll_mk0)) (fun sp hsp => ?_) (fun _ _ => rfl) (by simp) hb (ok_one (by kernel_rfl) rfl (okWide_bool_mk Tryd.underlying4 _))⟩
  rw [hP]
  refine trodAll_stays laidOut ?_ hA' (fun x hx => hb.same (hblk x (by simpa using hx))) (fun x hx => hsp x (by simpa using hx))
  intro t ht
  have hall : ([25, 3, 3].all fun u => Tryd.prog.readableRec u && decide (u < Tryd.prog.types.size)) = true := by kernel_rfl
  have := List.all_eq_true.1 hall t (by simpa using ht)
  simpa using this

theorem over : Rows.PressTellsSaid :=
  OpenClaim.holds_of_wide 4 Tryd.f4 rfl rfl rfl rfl rfl rfl rfl ⟨rfl, rfl, rfl, rfl, rfl⟩ rfl rfl rfl rfl rfl (by kernel_rfl) Tryd.func4 (by kernel_rfl)
    (of_decide_eq_true (by kernel_rfl)) (by unfold Func.isWrapper; first | (rw [if_pos (by decide +kernel)]; kernel_rfl) | (rw [if_neg (by decide +kernel)]; exact ⟨rfl, rfl⟩))
    (fun os started H enc _ => lifted os started H enc)

/-- The tied card. -/
theorem proved : Rows.PressTellsCardSaid :=
  Claim7.holds_tied_plain_at .later [] [.funcs] true (true, "0b31f141b72e65f31c3cceb1081272df0690a7f2ec44cdc5233557f6ea6fdf11") false
    over (fun _ h => by cases h) (by kernel_rfl) (fun _ h => by cases h) pressTells_row_tie rfl ⟨rfl, rfl⟩ (by kernel_rfl) rfl
    (fun f fn hf hfn => by
      obtain rfl : f = 4 := Option.some.inj ((show Tryd.prog.funcNamed "oilcake/oilcakelaw02.PressTells" = some 4 by kernel_rfl).symm.trans hf) |>.symm
      obtain rfl : fn = Tryd.f4 := (Option.some.inj (Tryd.func4.symm.trans hfn)).symm
      exact ⟨by kernel_rfl, fun j t ht => by
        rw [Tryd.params4] at ht
        have hm : t ∈ [25, 3, 3] := by simpa using Array.mem_of_getElem? ht
        have hall : ([25, 3, 3].all fun u => !Tryd.prog.wantsStandIn u) = true := by kernel_rfl
        exact (show Tryd.prog.wantsStandIn t = false by simpa using List.all_eq_true.1 hall t hm)⟩)
    (by kernel_rfl)
#print axioms proved
end Go.Proofs.YtoakeclpakjbiaaDoor.pressTells
