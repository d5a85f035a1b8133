/-
  The walk of the law on shafts and settings that are changed: it returns true, whatever the input.
-/
import Derived.Test.YtlmmjaolmmcklaaDoorAdd
import Derived.Test.YtlmmjaolmmcklaaDoorTurnedR
import Derived.Test.YtlmmjaolmmcklaaDoorSameS
import Derived.Test.YtlmmjaolmmcklaaDoorSame
namespace Go.Proofs.YtlmmjaolmmcklaaDoor
open Go.RowKit
set_option linter.unusedVariables false
set_option linter.unusedSimpArgs false

theorem turnS_len (M : Int) (l : List (Int × Int × Int)) (s : List Int) (t : Int) : (turnS M l s t).1.length ≤ s.length := by
  unfold turnS
  split
  · split
    · split
      · simp; omega
      · simp
    · simp
  · simp
theorem addS_len (M : Int) (l : List (Int × Int × Int)) (x : Int × Int × Int) : (addS M l x).1.2.length ≤ l.length + 1 := by
  unfold addS
  split
  · split
    · simp
    · split <;> simp
  · simp
theorem setCell_blk (w : World) (p : Addr) (u : Value) (b : Nat) (h : b ≠ p.block) : (w.setCell p u).heap[b]? = w.heap[b]? := Below.heap_setCell w p u b h

/-- What the last questions read, in each world behind the copies. -/
structure LawK (w w4 : World) (M : Int) (A : Option Addr) (n c : Nat) (l : List (Int × Int × Int)) (A' : Option Addr) (n' c' : Nat) (s : List Int) (C U P : Int) (A1 : Option Addr) (c1 : Nat) (A2 : Option Addr) (B9 : Nat) (x : World) : Prop where
  bel : Below w4.heap.size w4 x
  b0 : x.heap[w.heap.size]? = some (.cells #[.int .i64 M, .slice A n c] 24 (0, 0))
  b1 : x.heap[w.heap.size + 1]? = some (.cells #[.int .i64 C, .int .i64 U, .int .i64 P] 27 (0, 0))
  b9 : x.heap[B9]? = some (.cells #[.int .i64 M, .slice A1 n c1] 24 (0, 0))
  r1 : Reads x x.heap.size 3 A n (sts l)
  r2 : Reads x x.heap.size 1 A' n' (ints s)
  r3 : Reads x x.heap.size 3 A1 n (sts l)
  r4 : Reads x x.heap.size 1 A2 n' (ints s)
  laid : Laid x
  old : Below w.heap.size w x
  lt1 : w.heap.size + 2 ≤ w4.heap.size
  lt9 : B9 < w4.heap.size
  lt0 : 0 < w.heap.size
  ra : Reads w4 w4.heap.size 3 A n (sts l)
  rb : Reads w4 w4.heap.size 1 A' n' (ints s)
  rc : Reads w4 w4.heap.size 3 A1 n (sts l)
  rd : Reads w4 w4.heap.size 1 A2 n' (ints s)

section
variable {w w4 x y : World} {M : Int} {A : Option Addr} {n c : Nat} {l : List (Int × Int × Int)} {A' : Option Addr} {n' c' : Nat} {s : List Int} {C U P : Int} {A1 : Option Addr} {c1 : Nat} {A2 : Option Addr} {B9 : Nat}
/-- Whatever leaves the blocks below the copies' end as they were. -/
theorem LawK.step (h : LawK w w4 M A n c l A' n' c' s C U P A1 c1 A2 B9 x) (hb : Below w4.heap.size w4 y) (hxy : ∀ b, b < w4.heap.size → y.heap[b]? = x.heap[b]?) : LawK w w4 M A n c l A' n' c' s C U P A1 c1 A2 B9 y := by
  have h1 := h.lt1
  have h9 := h.lt9
  have hs := hb.size
  have hcell : ∀ p : Addr, p.block < w4.heap.size → y.cell? p = x.cell? p := fun p hp => World.cell?_of_block (hxy p.block hp)
  have h0 := h.lt0
  exact ⟨hb, (hxy _ (by omega)).trans h.b0, (hxy _ (by omega)).trans h.b1, (hxy _ h9).trans h.b9,
    (h.ra.below hb).more hs, (h.rb.below hb).more hs, (h.rc.below hb).more hs, (h.rd.below hb).more hs,
    ⟨(hcell ⟨_, 0, none⟩ (by simp; omega)).trans h.laid.1, (hcell ⟨_, 1, none⟩ (by simp; omega)).trans h.laid.2.1, by have := hs; omega⟩,
    ⟨hb.os.trans (h.bel.os.symm.trans h.old.os), hb.tape.trans (h.bel.tape.symm.trans h.old.tape), hb.output.trans (h.bel.output.symm.trans h.old.output), by omega, fun k hk => (hxy k (by omega)).trans (h.old.block k hk)⟩,
    h1, h9, h0, h.ra, h.rb, h.rc, h.rd⟩
theorem LawK.call (h : LawK w w4 M A n c l A' n' c' s C U P A1 c1 A2 B9 x) (hb : Below x.heap.size x y) : LawK w w4 M A n c l A' n' c' s C U P A1 c1 A2 B9 y :=
  h.step (below_via h.bel h.bel.size hb) (fun b hb' => hb.block b (by have := h.bel.size; omega))
theorem LawK.alloc (h : LawK w w4 M A n c l A' n' c' s C U P A1 c1 A2 B9 x) (o : Obj) : LawK w w4 M A n c l A' n' c' s C U P A1 c1 A2 B9 (x.alloc o) :=
  h.step (h.bel.alloc h.bel.size o) (fun b hb' => heap_lt_alloc _ _ _ (by have := h.bel.size; omega))
theorem LawK.set (h : LawK w w4 M A n c l A' n' c' s C U P A1 c1 A2 B9 x) {p : Addr} (hp : w4.heap.size ≤ p.block) (u : Value) : LawK w w4 M A n c l A' n' c' s C U P A1 c1 A2 B9 (x.setCell p u) :=
  h.step (h.bel.setCell hp u) (fun b hb' => setCell_blk _ _ _ _ (by omega))
theorem LawK.draws (h : LawK w w4 M A n c l A' n' c' s C U P A1 c1 A2 B9 x) (q : Nat) : LawK w w4 M A n c l A' n' c' s C U P A1 c1 A2 B9 (x.drewN q) :=
  h.step (below_drewN h.bel q) (fun b _ => rfl)
theorem LawK.c00 (h : LawK w w4 M A n c l A' n' c' s C U P A1 c1 A2 B9 x) : x.cell? ⟨w.heap.size, 0, none⟩ = some (.int .i64 M) := by simp [World.cell?, h.b0]
theorem LawK.c01 (h : LawK w w4 M A n c l A' n' c' s C U P A1 c1 A2 B9 x) : x.cell? ⟨w.heap.size, 1, none⟩ = some (.slice A n c) := by simp [World.cell?, h.b0]
theorem LawK.c10 (h : LawK w w4 M A n c l A' n' c' s C U P A1 c1 A2 B9 x) : x.cell? ⟨w.heap.size + 1, 0, none⟩ = some (.int .i64 C) := by simp [World.cell?, h.b1]
theorem LawK.c11 (h : LawK w w4 M A n c l A' n' c' s C U P A1 c1 A2 B9 x) : x.cell? ⟨w.heap.size + 1, 1, none⟩ = some (.int .i64 U) := by simp [World.cell?, h.b1]
theorem LawK.c12 (h : LawK w w4 M A n c l A' n' c' s C U P A1 c1 A2 B9 x) : x.cell? ⟨w.heap.size + 1, 2, none⟩ = some (.int .i64 P) := by simp [World.cell?, h.b1]
theorem LawK.c90 (h : LawK w w4 M A n c l A' n' c' s C U P A1 c1 A2 B9 x) : x.cell? ⟨B9, 0, none⟩ = some (.int .i64 M) := by simp [World.cell?, h.b9]
theorem LawK.c91 (h : LawK w w4 M A n c l A' n' c' s C U P A1 c1 A2 B9 x) : x.cell? ⟨B9, 1, none⟩ = some (.slice A1 n c1) := by simp [World.cell?, h.b9]
end

set_option maxHeartbeats 4000000 in
set_option maxRecDepth 100000 in
theorem law_changes (M : Int) (A : Option Addr) (n c : Nat) (l : List (Int × Int × Int)) (A' : Option Addr) (n' c' : Nat) (s : List Int) (t C U P : Int) (w : World)
    (hn0 : n ≤ maxLen) (hn0' : n' ≤ maxLen) (hR : Reads w w.heap.size 3 A n (sts l)) (hS : Reads w w.heap.size 1 A' n' (ints s)) (hL : Laid w) :
    Calls Tryd.prog 3 #[.agg #[.int .i64 M, .slice A n c], .slice A' n' c', .int .i64 t, .agg #[.int .i64 C, .int .i64 U, .int .i64 P]] w fun e w' => e = .returned (.bool true) ∧ Below w.heap.size w w' := by
  obtain ⟨w0, hw0⟩ : ∃ w0 : World, w0 = (w.alloc (.cells #[.int .i64 M, .slice A n c] 24)).alloc (.cells #[.int .i64 C, .int .i64 U, .int .i64 P] 27) := ⟨_, rfl⟩
  have hB0 : Hid (Below w.heap.size w w0) := by show Below _ _ _; rw [hw0]; exact ((Below.refl _ _).alloc (Nat.le_refl _) _).alloc (by simp) _
  have hz0 : w0.heap.size = w.heap.size + 2 := by rw [hw0]; simp
  have k0 : Hid (w0.heap[w.heap.size]? = some (.cells #[.int .i64 M, .slice A n c] 24 (0, 0))) := by show _ = _; rw [hw0, heap_lt_alloc _ _ _ (by simp)]; exact heap_alloc_new w _
  have k1 : Hid (w0.heap[w.heap.size + 1]? = some (.cells #[.int .i64 C, .int .i64 U, .int .i64 P] 27 (0, 0))) := by
    show _ = _; rw [hw0]; have := heap_alloc_new (w.alloc (.cells #[.int .i64 M, .slice A n c] 24)) (.cells #[.int .i64 C, .int .i64 U, .int .i64 P] 27); simpa using this
  have HZ0 := Lib.hid hz0
  have hGr := Lib.hid (fun w => Great_any M A n c w)
  by_cases h10 : 10 < n
  · have e : decide (10 < n) = true := by simpa using h10
    rw [e] at hGr
    clear hR hS hL h10 e
    go_enter Tryd.func3, Tryd.ntmps3
    go_wp2_with fail
    rw [← hw0]
    refine (hGr.out _).mono ?_
    rintro e w1 ⟨rfl, hb1⟩
    have HB1 := Lib.hid hb1
    clear hb1 hw0 hz0
    go_wp2
    go_ret
    exact ⟨rfl, below_via hB0.out (by rw [HZ0.out]; omega) HB1.out⟩
  have e10 : decide (10 < n) = false := by simpa using h10
  rw [e10] at hGr
  have hn : n ≤ 10 := by omega
  clear e10 h10
  by_cases h11 : 10 < n'
  · have e11 : Hid (decide (10 < (n' : Int)) = true) := by show _ = _; simp; omega
    clear hR hS hL
    go_enter Tryd.func3, Tryd.ntmps3
    go_wp2_with fail
    rw [← hw0]
    refine (hGr.out _).mono ?_
    rintro e w1 ⟨rfl, hb1⟩
    have HB1 := Lib.hid hb1
    clear hb1 hw0 hz0
    go_wp2
    go_ret
    exact ⟨rfl, below_via hB0.out (by rw [HZ0.out]; omega) HB1.out⟩
  have hn' : n' ≤ 10 := by omega
  clear h11
  have hl := Lib.hid hR.st_len
  have hs : Hid (s.length = n') := by show _ = _; simpa using hS.len
  obtain ⟨i0, gi, gz0, gz1, gz2⟩ := info_parts info_int
  -- the copies
  have hR0 := Lib.hid (hR.below hB0.out)
  have hS0 := Lib.hid (hS.below hB0.out)
  have hL0 := Lib.hid (hL.below hB0.out hL.2.2)
  have HL := Lib.hid hL.2.2
  clear hR hS hL
  go_enter Tryd.func3, Tryd.ntmps3
  go_wp2_with fail
  rw [← hw0]
  refine (hGr.out _).mono ?_
  rintro e w1 ⟨rfl, hb1⟩
  have z1 : w.heap.size + 2 ≤ w1.heap.size := by have := hb1.size; omega
  have m0 : w1.cell? ⟨w.heap.size, 0, none⟩ = some (.int .i64 M) := by have := (hb1.block _ (by omega)).trans k0.out; simp [World.cell?, this]
  have m1 : w1.cell? ⟨w.heap.size, 1, none⟩ = some (.slice A n c) := by have := (hb1.block _ (by omega)).trans k0.out; simp [World.cell?, this]
  have HB1 := Lib.hid hb1
  have HT := Lib.hid (Twin_any M A n c l w1 (by omega) ((hR0.out.below (hb1.mono (by omega))).more (by omega)))
  clear hb1 hw0
  go_wp2_with fail
  refine HT.out.mono ?_
  rintro e w2 ⟨v1, rfl, hown, hb2⟩
  obtain ⟨A1, c1, rfl, -⟩ := own_slice hown
  have HO1 := Lib.hid hown
  have HB2 := Lib.hid (below_via HB1.out (by omega) hb2)
  have z2 := hb2.size
  clear hown hb2 m0 m1
  go_wp2_with (first
    | (at_builtin; refine wpList_app _ rfl _ _ 25 rfl w2.heap.size 3 i0 _ 1 8 Tryd.underlying25 gi gz0 gz1 gz2 rfl (by decide) (.slice (some ⟨w2.heap.size, 0, none⟩) 0 0) 0 [] rfl (World.ownsRow_lit w2 #[] 0 (Nat.le_refl _) (by unfold maxLen; omega) rfl) w2.heap.size A' n' c' (ints s) rfl ?r (ints_one _) ?c3 ?c4 ?c5 ?_))
  case r => exact (((hS0.out.below (HB2.out.mono (by rw [HZ0.out]; omega))).alloc (by omega) _).more (by omega))
  case c3 => unfold maxLen; omega
  case c4 => omega
  case c5 => simp
  intro v2 w3 hown2 hgr2 hat2
  obtain ⟨A2, c2, rfl, -⟩ := own_slice hown2
  have z3 : w2.heap.size + 1 ≤ w3.heap.size := by have := hgr2.size; simpa using this
  have HB3 : Hid (Below w2.heap.size w2 w3) := ((Below.refl _ _).alloc (Nat.le_refl _) _).grown hgr2 (by simp) (fun k hk => by simp [Value.ownBlock] at hk; omega)
  have HB3' := Lib.hid (below_via HB2.out (by omega) HB3.out)
  obtain ⟨w4, hw4⟩ : ∃ w4 : World, w4 = w3.alloc (.cells #[.int .i64 M, .slice A1 n c1] 24) := ⟨_, rfl⟩
  have HB4 : Hid (Below w0.heap.size w0 w4) := by show Below _ _ _; rw [hw4]; exact HB3'.out.alloc (by omega) _
  have z4 : w4.heap.size = w3.heap.size + 1 := by rw [hw4]; simp
  have K4 : Hid (LawK w w4 M A n c l A' n' c' s C U P A1 c1 A2 w3.heap.size w4) := by
    have ra : Reads w4 w4.heap.size 3 A n (sts l) := (hR0.out.below (HB4.out.mono (by omega))).more (by omega)
    have rb : Reads w4 w4.heap.size 1 A' n' (ints s) := (hS0.out.below (HB4.out.mono (by omega))).more (by omega)
    have rc : Reads w4 w4.heap.size 3 A1 n (sts l) := by rw [hw4]; exact Reads.of_own ((own_below HO1.out HB3.out).alloc _)
    have rd : Reads w4 w4.heap.size 1 A2 n' (ints s) := by rw [hw4]; exact Reads.of_own (World.ownsRow.alloc (n := n') (by simpa using hown2) _)
    have hb := hB0.out.trans (HB4.out.mono (by omega))
    exact ⟨Below.refl _ _, (HB4.out.block _ (by omega)).trans k0.out, (HB4.out.block _ (by omega)).trans k1.out, by rw [hw4]; exact heap_alloc_new w3 _, ra, rb, rc, rd,
      hL0.out.below HB4.out (by have := HL.out; omega), hb, by omega, by omega, HL.out, ra, rb, rc, rd⟩
  have C5 := Lib.hid (turned_any M A1 A2 n c1 n' c2 l s t w4 (by omega) (by omega) K4.out.r3 K4.out.r4 K4.out.laid)
  have C6 := Lib.hid (fun x (K : LawK w w4 M A n c l A' n' c' s C U P A1 c1 A2 w3.heap.size x) => Turned_any M A A' n c n' c' l s t x (by omega) (by omega) K.r1 K.r2)
  have C7 := Lib.hid (fun x (K : LawK w w4 M A n c l A' n' c' s C U P A1 c1 A2 w3.heap.size x) => add_any M A1 n c1 l C U P x (by omega) K.r3 K.laid)
  have C8 := Lib.hid (fun x (K : LawK w w4 M A n c l A' n' c' s C U P A1 c1 A2 w3.heap.size x) => Add_any M A n c l C U P x (by omega) K.r1)
  have La : Hid ((turnS M l s t).1.length ≤ 10) := Nat.le_trans (turnS_len _ _ _ _) (by have := hs.out; omega)
  have Lc : Hid ((addS M l (C, U, P)).1.2.length ≤ 11) := Nat.le_trans (addS_len _ _ _) (by have := hl.out; omega)
  generalize (turnS M l s t).1 = la at *
  generalize (turnS M l s t).2 = ea at *
  generalize (addS M l (C, U, P)).1.1 = Mc at *
  generalize (addS M l (C, U, P)).1.2 = lc at *
  generalize (addS M l (C, U, P)).2 = ec at *
  clear hown2 hgr2 hat2 HB3 HB3' HB4 HB1 HB2 HO1 hR0 hS0 hL0 HL hB0 k0 k1 hz0 HZ0 z1 z2 z3 z4 gz0 gz1 gz2 gi
  go_wp2_with fail
  rw [← hw4]
  refine C5.out.mono ?_
  rintro e w5 ⟨va, rfl, owna, hb5⟩
  obtain ⟨Aa, ca, rfl, -⟩ := own_slice owna
  have K5 := Lib.hid (K4.out.call hb5)
  have Oa := Lib.hid owna
  have LAq : Hid (∀ g, (Value.slice Aa la.length ca).ownBlock = some g → w4.heap.size ≤ g ∧ g < w5.heap.size) := owna.lt
  have m0 := K5.out.c00
  have m1 := K5.out.c01
  have z5 := hb5.size
  clear owna hb5 hw4
  go_wp2_with fail
  refine (C6.out _ K5.out).mono ?_
  rintro e w6 ⟨vb, rfl, ownb, hb6⟩
  obtain ⟨Ab, cb, rfl, -⟩ := own_slice ownb
  have K6 := Lib.hid (K5.out.call hb6)
  have Oa6 := Lib.hid (own_below Oa.out hb6)
  have Ob := Lib.hid ownb
  have z6 := hb6.size
  clear ownb hb6 m0 m1
  have m0 := K6.out.c90
  have m1 := K6.out.c91
  have x0 := K6.out.c10
  have x1 := K6.out.c11
  have x2 := K6.out.c12
  go_wp2_with fail
  refine (C7.out _ K6.out).mono ?_
  rintro e w7 ⟨vc, rfl, ownc, hb7⟩
  obtain ⟨Ac, cc, rfl, -⟩ := own_slice ownc
  have K7 := Lib.hid ((K6.out.call hb7).alloc (.cells #[.int .i64 Mc, .slice Ac lc.length cc] 24))
  have Oa7 := Lib.hid ((own_below Oa6.out hb7).alloc (.cells #[.int .i64 Mc, .slice Ac lc.length cc] 24))
  have Ob7 := Lib.hid ((own_below Ob.out hb7).alloc (.cells #[.int .i64 Mc, .slice Ac lc.length cc] 24))
  have LCq : Hid (∀ g, (Value.slice Ac lc.length cc).ownBlock = some g → w6.heap.size ≤ g ∧ g < w7.heap.size) := ownc.lt
  have Oc7 := Lib.hid (World.ownsRow.alloc ownc (.cells #[.int .i64 Mc, .slice Ac lc.length cc] 24))
  have kc7 : Hid ((w7.alloc (.cells #[.int .i64 Mc, .slice Ac lc.length cc] 24)).heap[w7.heap.size]? = some (.cells #[.int .i64 Mc, .slice Ac lc.length cc] 24 (0, 0))) := heap_alloc_new w7 _
  have z7 := hb7.size
  have y7 : (w7.alloc (.cells #[.int .i64 Mc, .slice Ac lc.length cc] 24)).heap.size = w7.heap.size + 1 := by simp
  clear ownc hb7 m0 m1 x0 x1 x2
  have m0 := K7.out.c00
  have m1 := K7.out.c01
  have x0 := K7.out.c10
  have x1 := K7.out.c11
  have x2 := K7.out.c12
  go_wp2_with fail
  refine (C8.out _ K7.out).mono ?_
  rintro e w8 ⟨vd, rfl, ownd, hb8⟩
  obtain ⟨Ad, cd, rfl, -⟩ := own_slice ownd
  have K8 := Lib.hid ((K7.out.call hb8).alloc (.cells #[.int .i64 Mc, .slice Ad lc.length cd] 24))
  have Oa8 := Lib.hid ((own_below Oa7.out hb8).alloc (.cells #[.int .i64 Mc, .slice Ad lc.length cd] 24))
  have Ob8 := Lib.hid ((own_below Ob7.out hb8).alloc (.cells #[.int .i64 Mc, .slice Ad lc.length cd] 24))
  have Oc8 := Lib.hid ((own_below Oc7.out hb8).alloc (.cells #[.int .i64 Mc, .slice Ad lc.length cd] 24))
  have Od8 := Lib.hid (World.ownsRow.alloc ownd (.cells #[.int .i64 Mc, .slice Ad lc.length cd] 24))
  have z8 : w7.heap.size + 1 ≤ w8.heap.size := by have := hb8.size; simpa using this
  have kc8 : Hid ((w8.alloc (.cells #[.int .i64 Mc, .slice Ad lc.length cd] 24)).heap[w7.heap.size]? = some (.cells #[.int .i64 Mc, .slice Ac lc.length cc] 24 (0, 0))) := (heap_lt_alloc _ _ _ (by omega)).trans ((hb8.block _ (by simp)).trans kc7.out)
  have kd8 : Hid ((w8.alloc (.cells #[.int .i64 Mc, .slice Ad lc.length cd] 24)).heap[w8.heap.size]? = some (.cells #[.int .i64 Mc, .slice Ad lc.length cd] 24 (0, 0))) := heap_alloc_new w8 _
  clear ownd hb8 m0 m1 x0 x1 x2 Oa Oa6 Oa7 Ob Ob7 Oc7 K4 K5 K6 K7 kc7 y7 C5 C6 C7 C8
  generalize hw9 : w8.alloc (.cells #[.int .i64 Mc, .slice Ad lc.length cd] 24) = w9 at *
  have z9 : w8.heap.size + 1 ≤ w9.heap.size := by rw [← hw9]; simp
  have S1 := Lib.hid (sameInts_any Aa Ab la.length la.length ca cb la la w9 (by have := La.out; unfold maxLen; omega) (by have := La.out; unfold maxLen; omega) (Reads.of_own Oa8.out) (Reads.of_own Ob8.out))
  have S2 := Lib.hid (fun q => Same_eq Mc Ac Ad lc.length cc cd lc (w9.drewN q) (by have := Lc.out; unfold maxLen; omega) ((Reads.of_own Oc8.out).drewN q) ((Reads.of_own Od8.out).drewN q))
  have el : decide (la = la) = true := by simp
  rw [el] at S1
  go_wp2_with fail
  refine S1.out.mono ?_
  rintro e w10 ⟨rfl, q, rfl⟩
  clear hw9
  have m0 : (w9.drewN q).cell? ⟨w7.heap.size, 0, none⟩ = some (.int .i64 Mc) := by have := kc8.out; simp [World.cell?, World.drewN, this]
  have m1 : (w9.drewN q).cell? ⟨w7.heap.size, 1, none⟩ = some (.slice Ac lc.length cc) := by have := kc8.out; simp [World.cell?, World.drewN, this]
  have m2 : (w9.drewN q).cell? ⟨w8.heap.size, 0, none⟩ = some (.int .i64 Mc) := by have := kd8.out; simp [World.cell?, World.drewN, this]
  have m3 : (w9.drewN q).cell? ⟨w8.heap.size, 1, none⟩ = some (.slice Ad lc.length cd) := by have := kd8.out; simp [World.cell?, World.drewN, this]
  have S2q := Lib.hid (S2.out q)
  clear S2 S1
  go_wp2_with fail
  refine S2q.out.mono ?_
  rintro e w11 ⟨rfl, hb11⟩
  have K11 := Lib.hid ((K8.out.draws q).call hb11)
  have hb11' : Below w9.heap.size w9 w11 := ⟨hb11.os, hb11.tape, hb11.output, hb11.size, hb11.block⟩
  have Oa11 := Lib.hid (own_below Oa8.out hb11')
  have Oc11 := Lib.hid (own_below Oc8.out hb11')
  have z11 := hb11'.size
  have kc11 : Hid (w11.heap[w7.heap.size]? = some (.cells #[.int .i64 Mc, .slice Ac lc.length cc] 24 (0, 0))) := (hb11'.block _ (by omega)).trans kc8.out
  have la5 : Hid (∀ g, (Value.slice Aa la.length ca).ownBlock = some g → w4.heap.size ≤ g ∧ g < w5.heap.size) := LAq
  clear hb11 hb11' m0 m1 m2 m3 S2q kc8 kd8 Oa8 Ob8 Oc8 Od8 K8
  go_wp2
  have lab := La.out
  have lcb := Lc.out
  -- the first loop: the list that came is spoilt
  obtain ⟨wo, rfl⟩ : ∃ wo : World, wo = w11 := ⟨_, rfl⟩
  go_loopw [80] (fun x wr => ∃ k : Nat, k ≤ la.length ∧ x = .int .i64 k ∧ Hid (∃ ys, wr.ownsRow w4.heap.size 3 1 (.slice Aa la.length ca) la.length (ints ys)) ∧
    Hid (wr.ownsRow w6.heap.size 27 3 (.slice Ac lc.length cc) lc.length (sts lc)) ∧ Hid (wr.heap[w7.heap.size]? = some (.cells #[.int .i64 Mc, .slice Ac lc.length cc] 24 (0, 0))) ∧
    Hid (LawK w w4 M A n c l A' n' c' s C U P A1 c1 A2 w3.heap.size wr)) (fun x _ => la.length - (intOf x).toNat)
  case atStart => exact ⟨0, by omega, rfl, ⟨la, Oa11.out⟩, Oc11, kc11, K11⟩
  case round =>
    clear Oa11 Oc11 kc11 K11
    obtain ⟨k, hk, rfl, ho, hoc, hkc, hK⟩ := hrel
    by_cases hlt : k < la.length
    · obtain ⟨ys, hoa⟩ := ho.out
      have Ho := Lib.hid hoa
      obtain ⟨g, cap, hvv, -, hgl⟩ := hoa.form (by omega)
      simp only [Value.slice.injEq] at hvv
      obtain ⟨rfl, -, rfl⟩ := hvv
      obtain ⟨hg1, hg2⟩ := la5.out g rfl
      have hyl : ys.length = la.length := by have := hoa.1; simpa using this
      have hc : wr.cell? ⟨g, k, none⟩ = some (.int .i64 (ys[k]?.getD 0)) := by
        rw [hoa.cellAt k (by omega), ints_get, List.getElem?_eq_getElem (by omega)]; rfl
      have hfz := hoa.frozenAt k
      clear hoa ho
      go_wp2
      go_roundw
      case rel =>
        refine ⟨k + 1, by omega, by go_num, ⟨ys.set k (-7), ?_⟩, own_far hoc.out (by simp; omega) _, (setCell_blk _ _ _ _ (by simp; omega)).trans hkc.out, hK.out.set (by simp; omega) _⟩
        have := (Ho.out.stored k (.int .i64 (-7))).1
        rw [ints_set] at this
        exact this
      case measure => simp [intOf]; omega
    · have m0 : wr.cell? ⟨w7.heap.size, 0, none⟩ = some (.int .i64 Mc) := by have := hkc.out; simp [World.cell?, this]
      have m1 : wr.cell? ⟨w7.heap.size, 1, none⟩ = some (.slice Ac lc.length cc) := by have := hkc.out; simp [World.cell?, this]
      clear ho
      go_wp2
      clear m0 m1
      obtain ⟨wo, rfl⟩ : ∃ wo : World, wo = wr := ⟨_, rfl⟩
      have lc7 : Hid (∀ g, (Value.slice Ac lc.length cc).ownBlock = some g → w6.heap.size ≤ g ∧ g < w7.heap.size) := LCq
      go_loopw [90] (fun x wr => ∃ k : Nat, k ≤ lc.length ∧ x = .int .i64 k ∧ Hid (∃ ys : List Value, wr.ownsRow w6.heap.size 27 3 (.slice Ac lc.length cc) lc.length ys) ∧
        Hid (wr.heap[w7.heap.size]? = some (.cells #[.int .i64 Mc, .slice Ac lc.length cc] 24 (0, 0))) ∧
        Hid (LawK w w4 M A n c l A' n' c' s C U P A1 c1 A2 w3.heap.size wr)) (fun x _ => lc.length - (intOf x).toNat)
      case atStart => exact ⟨0, by omega, rfl, ⟨sts lc, hoc.out⟩, hkc, hK⟩
      case round =>
        clear hoc hkc hK
        obtain ⟨k2, hk2, rfl, hoc, hkc, hK⟩ := hrel
        by_cases hlt2 : k2 < lc.length
        · obtain ⟨ys, hos⟩ := hoc.out
          have Ho := Lib.hid hos
          obtain ⟨g, cap, hvv, -, hgl⟩ := hos.form (by omega)
          simp only [Value.slice.injEq] at hvv
          obtain ⟨rfl, -, rfl⟩ := hvv
          obtain ⟨hg1, hg2⟩ := lc7.out g rfl
          have hyl := hos.1
          have hc : ∃ v, wr.cell? ⟨g, k2 * 3 + 1, none⟩ = some v := by
            rw [hos.cellAt (k2 * 3 + 1) (by omega)]
            exact ⟨_, List.getElem?_eq_getElem (by omega)⟩
          obtain ⟨v0, hc⟩ := hc
          have hfz := hos.frozenAt (k2 * 3 + 1)
          have m1 : wr.cell? ⟨w7.heap.size, 1, none⟩ = some (.slice (some ⟨g, 0, none⟩) lc.length cc) := by have := hkc.out; simp [World.cell?, this]
          clear hos hoc hyl
          go_wp2
          go_roundw
          case rel =>
            refine ⟨k2 + 1, by omega, by go_num, ⟨ys.set (k2 * 3 + 1) (.int .i64 (-7)), (Ho.out.stored (k2 * 3 + 1) (.int .i64 (-7))).1⟩, (setCell_blk _ _ _ _ (by simp; omega)).trans hkc.out, hK.out.set (by simp; omega) _⟩
          case measure => simp [intOf]; omega
        · have m0 := hK.out.c00
          have m1 := hK.out.c01
          have m2 := hK.out.c90
          have m3 := hK.out.c91
          have F1 := Lib.hid (Same_eq M A1 A n c1 c l wr (by unfold maxLen; omega) hK.out.r3 hK.out.r1)
          clear hoc hkc
          go_wp2_with fail
          refine F1.out.mono ?_
          rintro e w12 ⟨rfl, hb12⟩
          have K12 := Lib.hid (hK.out.call hb12)
          have F2 := Lib.hid (sameInts_any A2 A' n' n' c2 c' s s w12 (by unfold maxLen; omega) (by unfold maxLen; omega) K12.out.r4 K12.out.r2)
          have es : decide (s = s) = true := by simp
          rw [es] at F2
          clear hb12 m0 m1 m2 m3 hK
          go_wp2_with fail
          refine F2.out.mono ?_
          rintro e w13 ⟨rfl, q2, rfl⟩
          go_wp2
          go_ret
          exact ⟨rfl, (K12.out.draws q2).old⟩
end Go.Proofs.YtlmmjaolmmcklaaDoor
