/-
  The walk of the law on presses that are changed: it returns true, whatever the input.
-/
import Derived.Test.YtoakeclpakjbiaaDoorPSame
import Derived.Test.YtoakeclpakjbiaaDoorSameI
import Derived.Test.YtoakeclpakjbiaaDoorRWei
import Derived.Test.YtoakeclpakjbiaaDoorRStk
import Derived.Test.YtoakeclpakjbiaaDoorRLead
namespace Go.Proofs.YtoakeclpakjbiaaDoor
open Go.RowKit
set_option linter.unusedVariables false
set_option linter.unusedSimpArgs false

theorem own_pg_len {w : World} {base n : Nat} {v : Value} {l : List PR} (h : w.ownsRow base 87 4 v n (pgs l)) : n = l.length := by
  have h1 := h.1
  have h2 : (pgs l).length = l.length * 4 := flat_len pgc 4 (fun _ => rfl) l
  omega
theorem own_wg_len {w : World} {base n : Nat} {v : Value} {l : List WE} (h : w.ownsRow base 76 5 v n (wgs l)) : n = l.length := by
  have h1 := h.1
  rw [wgs_len] at h1
  omega
theorem own_max {w : World} {base n size : Nat} {t : TypeId} {v : Value} {xs : List Value} (h : w.ownsRow base t size v n xs) : n ≤ maxLen := by
  rcases h.2 with ⟨-, h0⟩ | ⟨g1, cap', cur, h1, h2, h3, h4, h5, -⟩
  · rw [h0]; unfold maxLen; omega
  · omega
theorem Res.full {base : Nat} {e : Ending} {w' : World} {p : List PR} {q : List WE} {er : Int} (h : Res base ((p, q), er) e w') : ∃ A1 c1 A2 c2, e = .returned (.tuple #[.agg #[.slice A1 p.length c1, .slice A2 q.length c2], .int .i64 er]) ∧
    w'.ownsRow base 87 4 (.slice A1 p.length c1) p.length (pgs p) ∧ w'.ownsRow base 76 5 (.slice A2 q.length c2) q.length (wgs q) := by
  obtain ⟨A1, n1, c1, A2, n2, c2, rfl, h1, h2⟩ := h
  obtain rfl := own_pg_len h1
  obtain rfl := own_wg_len h2
  exact ⟨A1, c1, A2, c2, rfl, h1, h2⟩
/-- A press that was returned lies in a box of its own. -/
structure Bxd (L : Nat) (z : World) (b : Nat) (A1 : Option Addr) (n1 c1 : Nat) (A2 : Option Addr) (n2 c2 : Nat) (p : List PR) (q : List WE) : Prop where
  box : z.heap[b]? = some (.cells #[.slice A1 n1 c1, .slice A2 n2 c2] 25 (0, 0))
  o1 : z.ownsRow L 87 4 (.slice A1 n1 c1) n1 (pgs p)
  o2 : z.ownsRow L 76 5 (.slice A2 n2 c2) n2 (wgs q)
  lt : L ≤ b
theorem Bxd.below {L : Nat} {z y : World} {b : Nat} {A1 : Option Addr} {n1 c1 : Nat} {A2 : Option Addr} {n2 c2 : Nat} {p : List PR} {q : List WE} (h : Bxd L z b A1 n1 c1 A2 n2 c2 p q) (hb : Below z.heap.size z y) : Bxd L y b A1 n1 c1 A2 n2 c2 p q :=
  ⟨keepO hb h.box, own_below h.o1 hb, own_below h.o2 hb, h.lt⟩

/-- What every question reads: the arguments and their copies. -/
structure LK (w : World) (ob : Nat) (A A' : Option Addr) (n c n' c' : Nat) (ps : List PR) (ws : List WE) (x : WE) (Al : Option Addr) (nl : Nat) (l : List Int) (A1 A2 : Option Addr) (c1 c2 : Nat) (A5 : Option Addr) (z : World) : Prop where
  b0 : z.heap[w.heap.size]? = some (.cells #[.slice A n c, .slice A' n' c'] 25 (0, 0))
  bx : z.heap[w.heap.size + 1]? = some (.cells #[.int .i64 x.1, .int .i64 x.2.1, .int .i64 x.2.2.1, .int .i64 x.2.2.2.1, .int .i64 x.2.2.2.2] 76 (0, 0))
  bo : z.heap[ob]? = some (.cells #[.slice A1 n c1, .slice A2 n' c2] 25 (0, 0))
  bel : Below w.heap.size w z
  r1 : Reads z z.heap.size 4 A n (pgs ps)
  r2 : Reads z z.heap.size 5 A' n' (wgs ws)
  r3 : Reads z z.heap.size 4 A1 n (pgs ps)
  r4 : Reads z z.heap.size 5 A2 n' (wgs ws)
  r5 : Reads z z.heap.size 1 Al nl (ints l)
  r6 : Reads z z.heap.size 1 A5 nl (ints l)
  laid : Laid z
section
variable {w z y : World} {ob : Nat} {A A' : Option Addr} {n c n' c' : Nat} {ps : List PR} {ws : List WE} {x : WE} {Al : Option Addr} {nl : Nat} {l : List Int} {A1 A2 : Option Addr} {c1 c2 : Nat} {A5 : Option Addr}
theorem LK.below (h : LK w ob A A' n c n' c' ps ws x Al nl l A1 A2 c1 c2 A5 z) (hb : Below z.heap.size z y) : LK w ob A A' n c n' c' ps ws x Al nl l A1 A2 c1 c2 A5 y := by
  have hs2 := hb.size
  have h0 := (Array.getElem?_eq_some_iff.1 h.b0).1
  exact ⟨keepO hb h.b0, keepO hb h.bx, keepO hb h.bo, below_via h.bel (by omega) hb, (h.r1.below hb).more hs2, (h.r2.below hb).more hs2, (h.r3.below hb).more hs2, (h.r4.below hb).more hs2, (h.r5.below hb).more hs2, (h.r6.below hb).more hs2, h.laid.below hb h.laid.2.2.2⟩
theorem LK.own (h : LK w ob A A' n c n' c' ps ws x Al nl l A1 A2 c1 c2 A5 z) : z.cell? ⟨ob, 0, none⟩ = some (.slice A1 n c1) ∧ z.cell? ⟨ob, 1, none⟩ = some (.slice A2 n' c2) := by
  obtain ⟨a, b, -, -⟩ := two_facts h.bo
  exact ⟨a, b⟩
theorem LK.arg (h : LK w ob A A' n c n' c' ps ws x Al nl l A1 A2 c1 c2 A5 z) : z.cell? ⟨w.heap.size, 0, none⟩ = some (.slice A n c) ∧ z.cell? ⟨w.heap.size, 1, none⟩ = some (.slice A' n' c') := by
  obtain ⟨a, b, -, -⟩ := two_facts h.b0
  exact ⟨a, b⟩
end

/-- A row of the call's own, whatever it holds. -/
def OwnX (w : World) (base : Nat) (t : TypeId) (size : Nat) (v : Value) (n : Nat) : Prop := ∃ xs, w.ownsRow base t size v n xs
theorem OwnX.set {w : World} {base n size : Nat} {t : TypeId} {v : Value} (h : OwnX w base t size v n) (g o : Nat) (u : Value) : OwnX (w.setCell ⟨g, o, none⟩ u) base t size v n := by
  obtain ⟨xs, h1, h2⟩ := h
  rcases h2 with ⟨h3, h4⟩ | ⟨g1, cap, cur, h3, h4, h5, h6, h7, h8, h9⟩
  · exact ⟨xs, h1, .inl ⟨h3, h4⟩⟩
  · by_cases hg : g1 = g
    · subst hg
      refine ⟨(cur.setIfInBounds o u).toList.take (n * size), ?_, .inr ⟨g1, cap, cur.setIfInBounds o u, h3, h4, ?_, h6, h7, by simpa using h8, rfl⟩⟩
      · simp only [List.length_take, Array.length_toList, Array.size_setIfInBounds]
        have : n * size ≤ cap * size := Nat.mul_le_mul_right _ h6
        omega
      · simp [World.setCell, Array.getElem?_modify, h5]
    · exact ⟨xs, h1, .inr ⟨g1, cap, cur, h3, h4, (Below.heap_setCell _ _ _ _ (by simpa using hg)).trans h5, h6, h7, h8, h9⟩⟩
theorem OwnX.below {w w' : World} {base n size : Nat} {t : TypeId} {v : Value} (h : OwnX w base t size v n) (hb : Below w.heap.size w w') : OwnX w' base t size v n := by
  obtain ⟨xs, h1⟩ := h
  exact ⟨xs, own_below h1 hb⟩
theorem OwnX.at_ {w : World} {base n size : Nat} {t : TypeId} {A : Option Addr} {c : Nat} (h : OwnX w base t size (.slice A n c) n) (hn : 0 < n) : ∃ g, A = some ⟨g, 0, none⟩ ∧ base ≤ g ∧ (∃ cur, w.heap[g]? = some (.cells cur t (0, 0))) ∧
    ∀ o, o < n * size → (∃ u, w.cell? ⟨g, o, none⟩ = some u) ∧ w.frozen? ⟨g, o, none⟩ = false := by
  obtain ⟨xs, h1, h2⟩ := h
  rcases h2 with ⟨-, h4⟩ | ⟨g1, cap, cur, h3, h4, h5, h6, h7, h8, h9⟩
  · omega
  · simp only [Value.slice.injEq, true_and] at h3
    obtain ⟨rfl, rfl⟩ := h3
    refine ⟨g1, rfl, h4, ⟨cur, h5⟩, fun o ho => ⟨?_, by simp [World.frozen?, h5]⟩⟩
    have : n * size ≤ c * size := Nat.mul_le_mul_right _ h6
    exact ⟨cur[o]'(by omega), by simp [World.cell?, h5, Array.getElem?_eq_getElem (show o < cur.size by omega)]⟩

abbrev P6 := Option Addr × Nat × Nat × Option Addr × Nat × Nat
/-- What the last loop leaves as it was. -/
structure ML (wl : World) (sb : Nat) (F : Nat → P6) (z : World) : Prop where
  bel : Below wl.heap.size wl z
  sl : z.heap[sb]? = some (.cells #[.slice (F 0).1 (F 0).2.1 (F 0).2.2.1, .slice (F 0).2.2.2.1 (F 0).2.2.2.2.1 (F 0).2.2.2.2.2, .slice (F 1).1 (F 1).2.1 (F 1).2.2.1, .slice (F 1).2.2.2.1 (F 1).2.2.2.2.1 (F 1).2.2.2.2.2, .slice (F 2).1 (F 2).2.1 (F 2).2.2.1, .slice (F 2).2.2.2.1 (F 2).2.2.2.2.1 (F 2).2.2.2.2.2] 25 (0, 0))
  o1 : ∀ k, k < 3 → OwnX z wl.heap.size 87 4 (.slice (F k).1 (F k).2.1 (F k).2.2.1) (F k).2.1
  o2 : ∀ k, k < 3 → OwnX z wl.heap.size 76 5 (.slice (F k).2.2.2.1 (F k).2.2.2.2.1 (F k).2.2.2.2.2) (F k).2.2.2.2.1
theorem ML.below {wl z y : World} {sb : Nat} {F : Nat → P6} (h : ML wl sb F z) (hb : Below z.heap.size z y) : ML wl sb F y :=
  ⟨below_via h.bel h.bel.size hb, keepO hb h.sl, fun k hk => (h.o1 k hk).below hb, fun k hk => (h.o2 k hk).below hb⟩
theorem ML.set {wl z : World} {sb : Nat} {F : Nat → P6} (h : ML wl sb F z) {g : Nat} (hg : wl.heap.size ≤ g) (hs : g ≠ sb) (o : Nat) (u : Value) : ML wl sb F (z.setCell ⟨g, o, none⟩ u) :=
  ⟨h.bel.setCell hg u, (Below.heap_setCell _ _ _ _ (fun e => hs e.symm)).trans h.sl, fun k hk => (h.o1 k hk).set g o u, fun k hk => (h.o2 k hk).set g o u⟩
theorem ML.at_ {wl z : World} {sb : Nat} {F : Nat → P6} (h : ML wl sb F z) : ∀ k, k < 3 → z.cell? ⟨sb, k * 2, none⟩ = some (.slice (F k).1 (F k).2.1 (F k).2.2.1) ∧ z.cell? ⟨sb, k * 2 + 1, none⟩ = some (.slice (F k).2.2.2.1 (F k).2.2.2.2.1 (F k).2.2.2.2.2) := by
  intro k hk
  obtain rfl | rfl | rfl : k = 0 ∨ k = 1 ∨ k = 2 := by omega
  all_goals exact ⟨by simp [World.cell?, h.sl], by simp [World.cell?, h.sl]⟩
theorem typ_ne {w : World} {g b : Nat} {c c' : Array Value} {t t' : TypeId} (h : w.heap[g]? = some (.cells c t (0, 0))) (h' : w.heap[b]? = some (.cells c' t' (0, 0))) (ht : t ≠ t') : g ≠ b := by
  rintro rfl
  rw [h] at h'
  injection h' with h'
  injection h' with _ h5
  exact ht h5

set_option maxRecDepth 100000 in
set_option maxHeartbeats 8000000 in
theorem law_changes (A A' : Option Addr) (n c n' c' : Nat) (ps : List PR) (ws : List WE) (x : WE) (Al : Option Addr) (nl cl : Nat) (l : List Int) (id dst : Int) (w : World) (hnm : n ≤ maxLen) (hnm' : n' ≤ maxLen) (hcap : n' ≤ c') (hcm : c' ≤ maxLen) (hnil : A' = none → c' = 0) (hnl0 : nl ≤ maxLen) (hwf : ∀ y ∈ l, (Lit.int .i64 y).wf = true)
    (hR : Reads w w.heap.size 4 A n (pgs ps)) (hW : Reads w w.heap.size 5 A' n' (wgs ws)) (hLr : Reads w w.heap.size 1 Al nl (ints l)) (hL : Laid w) :
    Calls Tryd.prog 7 #[.agg #[.slice A n c, .slice A' n' c'], .agg #[.int .i64 x.1, .int .i64 x.2.1, .int .i64 x.2.2.1, .int .i64 x.2.2.2.1, .int .i64 x.2.2.2.2], .slice Al nl cl, .int .i64 id, .int .i64 dst] w fun e w' => e = .returned (.bool true) ∧ Below w.heap.size w w' := by
  obtain ⟨w0, hw0⟩ : ∃ w0 : World, w0 = (w.alloc (.cells #[.slice A n c, .slice A' n' c'] 25)).alloc (.cells #[.int .i64 x.1, .int .i64 x.2.1, .int .i64 x.2.2.1, .int .i64 x.2.2.2.1, .int .i64 x.2.2.2.2] 76) := ⟨_, rfl⟩
  have hB0 : Below w.heap.size w w0 := by rw [hw0]; exact ((Below.refl _ _).alloc (Nat.le_refl _) _).alloc (by simp) _
  have hz0 : w0.heap.size = w.heap.size + 2 := by rw [hw0]; simp
  have HGr := Lib.hid (fun z => Great_any A A' n c n' c' z)
  have HB0 := Lib.hid hB0
  have HZ0 := Lib.hid hz0
  by_cases hg : (decide (20 < n) || decide (50 < n')) = true
  · rw [hg] at HGr
    clear hR hW hLr hL hg hB0 hz0 hwf
    go_enter Tryd.func7, Tryd.ntmps7
    go_wp2_with fail
    rw [← hw0]
    clear hw0
    refine (HGr.out _).mono ?_
    rintro e w1 ⟨rfl, hb1⟩
    have HB1 := Lib.hid hb1
    clear hb1
    go_wp2
    go_ret
    exact ⟨rfl, below_via HB0.out (by rw [HZ0.out]; omega) HB1.out⟩
  have hg' : (decide (20 < n) || decide (50 < n')) = false := by simpa using hg
  rw [hg'] at HGr
  have hn20 : n ≤ 20 ∧ n' ≤ 50 := by simp at hg'; omega
  clear hg hg'
  by_cases hl50 : 50 < nl
  · have hl50' : (50 : Int) < (nl : Int) := by omega
    clear hR hW hLr hL hB0 hz0 hwf hl50
    go_enter Tryd.func7, Tryd.ntmps7
    go_wp2_with fail
    rw [← hw0]
    clear hw0
    refine (HGr.out _).mono ?_
    rintro e w1 ⟨rfl, hb1⟩
    have HB1 := Lib.hid hb1
    clear hb1
    go_wp2
    go_ret
    exact ⟨rfl, below_via HB0.out (by rw [HZ0.out]; omega) HB1.out⟩
  have hnl : nl ≤ 4096 := by omega
  have hl50' : ¬ (50 : Int) < (nl : Int) := by omega
  obtain ⟨i0, gi, gz0, gz1, gz2⟩ := info_parts info_int
  have k0 : w0.heap[w.heap.size]? = some (.cells #[.slice A n c, .slice A' n' c'] 25 (0, 0)) := by rw [hw0, heap_lt_alloc' _ _ _ (by simp)]; exact heap_alloc_new w _
  have k1 : w0.heap[w.heap.size + 1]? = some (.cells #[.int .i64 x.1, .int .i64 x.2.1, .int .i64 x.2.2.1, .int .i64 x.2.2.2.1, .int .i64 x.2.2.2.2] 76 (0, 0)) := by
    rw [hw0]
    have := heap_alloc_new (w.alloc (.cells #[.slice A n c, .slice A' n' c'] 25)) (.cells #[.int .i64 x.1, .int .i64 x.2.1, .int .i64 x.2.2.1, .int .i64 x.2.2.2.1, .int .i64 x.2.2.2.2] 76)
    simpa using this
  have HK0 : Hid (w0.heap[w.heap.size]? = some (.cells #[.slice A n c, .slice A' n' c'] 25 (0, 0)) ∧ w0.heap[w.heap.size + 1]? = some (.cells #[.int .i64 x.1, .int .i64 x.2.1, .int .i64 x.2.2.1, .int .i64 x.2.2.2.1, .int .i64 x.2.2.2.2] 76 (0, 0))) := ⟨k0, k1⟩
  have HR0 := Lib.hid (And.intro hR (And.intro hW (And.intro hLr hL)))
  have HTw := Lib.hid (fun z (hz : Below w.heap.size w z) => Twin_any A A' n c n' c' ps ws z (by omega) (by omega) ((hR.below hz).more hz.size) ((hW.below hz).more hz.size))
  clear hR hW hLr hL hB0 hz0 k0 k1 hl50
  go_enter Tryd.func7, Tryd.ntmps7
  go_wp2_with fail
  rw [← hw0]
  clear hw0
  refine (HGr.out _).mono ?_
  rintro e w1 ⟨rfl, hb1⟩
  have HB1 := Lib.hid (below_via HB0.out (by rw [HZ0.out]; omega) hb1)
  have HK1 := Lib.hid (And.intro (keepO hb1 HK0.out.1) (keepO hb1 HK0.out.2))
  have hz1 := HZ0.out
  have HS1 : Hid (w.heap.size + 2 ≤ w1.heap.size) := by have := hb1.size; show _ ≤ _; omega
  clear hb1
  obtain ⟨p0, p1, -, -⟩ := two_facts HK1.out.1
  go_wp2_with fail
  clear p0 p1
  refine (HTw.out _ HB1.out).mono ?_
  rintro e w2 ⟨A1, c1, A2, c2, rfl, ho1, ho2, hb2⟩
  have HB2 := Lib.hid (below_via HB1.out (by have := HS1.out; omega) hb2)
  have HK2 := Lib.hid (And.intro (keepO hb2 HK1.out.1) (keepO hb2 HK1.out.2))
  have HS2 : Hid (w.heap.size + 2 ≤ w2.heap.size) := by have := hb2.size; have := HS1.out; show _ ≤ _; omega
  have HO2 := Lib.hid (And.intro ho1 ho2)
  clear hb2 ho1 ho2
  have HL2 : Hid (Reads (w2.alloc (.cells #[] 3)) w2.heap.size 1 Al nl (ints l)) := (((HR0.out.2.2.1.below HB2.out).more HB2.out.size)).alloc (Nat.le_refl _) _
  go_wp2_with (at_builtin; refine wpList_app _ rfl _ _ 51 rfl w2.heap.size 3 i0 _ 1 8 Tryd.underlying51 gi gz0 gz1 gz2 rfl (by decide) _ _ _ rfl (World.ownsRow_lit w2 #[] 0 (Nat.le_refl _) (by unfold maxLen; omega) rfl) w2.heap.size Al nl cl (ints l) rfl HL2.out (ints_one _) ?c3 ?c4 ?c5 ?_)
  case c3 => unfold maxLen; omega
  case c4 => omega
  case c5 => simp
  intro v5 w3 hown3 hgr3 hat3
  have HO3 := Lib.hid hown3
  have HB3 : Hid (Below w2.heap.size w2 w3) := ((Below.refl _ _).alloc (Nat.le_refl _) _).grown hgr3 (by simp) (fun k hk => by simp [Value.ownBlock] at hk; omega)
  obtain ⟨A5, c5, hv5⟩ := own_val hown3
  rw [hv5]
  clear hown3 hgr3 hat3
  try simp only [Nat.zero_add] at hv5
  have e0 : 0 + nl = nl := Nat.zero_add nl
  obtain ⟨wl, hwl⟩ : ∃ wl, wl = w3.alloc (.cells #[.slice A1 n c1, .slice A2 n' c2] 25) := ⟨_, rfl⟩
  have hbl : Below w3.heap.size w3 wl := by rw [hwl]; exact (Below.refl _ _).alloc (Nat.le_refl _) _
  have h23 := HB3.out.size
  have h3l := hbl.size
  have HKl : Hid (LK w w3.heap.size A A' n c n' c' ps ws x Al nl l A1 A2 c1 c2 A5 wl) := by
    have hb2l : Below w2.heap.size w2 wl := below_via HB3.out h23 hbl
    have hbw : Below w.heap.size w wl := below_via HB2.out HB2.out.size hb2l
    obtain ⟨q1, q2, q3, q4⟩ := HR0.out
    have ho3 := HO3.out
    rw [hv5] at ho3
    try simp only [Nat.zero_add, List.nil_append] at ho3
    exact ⟨keepO hb2l HK2.out.1, keepO hb2l HK2.out.2, by rw [hwl]; exact heap_alloc_new _ _, hbw, (q1.below hbw).more hbw.size, (q2.below hbw).more hbw.size, Reads.of_own (own_below HO2.out.1 hb2l), Reads.of_own (own_below HO2.out.2 hb2l), (q3.below hbw).more hbw.size, Reads.of_own (own_below ho3 hbl), q4.below hbw q4.2.2.2⟩
  have HK := Lib.hid (fun z (hz : Below wl.heap.size wl z) => HKl.out.below hz)
  have HBwl : Hid (Below wl.heap.size wl wl) := Below.refl _ _
  have HZwl : Hid (wl.heap.size ≤ wl.heap.size) := Nat.le_refl _
  obtain ⟨⟨⟨pRa, wRa⟩, eRa⟩, hRa⟩ : ∃ R, R = weighS ps ws x := ⟨_, rfl⟩
  obtain ⟨⟨⟨pRc, wRc⟩, eRc⟩, hRc⟩ : ∃ R, R = strikeS ps ws l := ⟨_, rfl⟩
  obtain ⟨⟨⟨pRy, wRy⟩, eRy⟩, hRy⟩ : ∃ R, R = leadS ps ws id dst := ⟨_, rfl⟩
  have HRa := Lib.hid hRa
  have HRc := Lib.hid hRc
  have HRy := Lib.hid hRy
  have hwl' := Lib.hid hwl
  clear hRa hRc hRy hbl hwl h23 h3l hz1
  try rw [e0]
  clear e0
  have Ka := HK.out wl HBwl.out
  have Ca := Lib.hid (weigh_any A1 A2 n c1 n' c2 ps ws x wl hnm hnm' (Ka.r3) (Ka.r4) Ka.laid)
  rw [← HRa.out] at Ca
  have Fa := Lib.hid Ka
  clear Ka
  obtain ⟨o0, o1⟩ := Fa.out.own
  obtain ⟨p0, p1⟩ := Fa.out.arg
  obtain ⟨x0, x1, x2, x3, x4⟩ := five_facts Fa.out.bx
  rw [hwl'.out] at o0 o1 p0 p1 x0 x1 x2 x3 x4
  go_wp2_with fail
  rw [← hwl'.out]
  clear hwl'
  clear o0 o1 p0 p1 x0 x1 x2 x3 x4
  refine Ca.out.mono ?_
  rintro e va ⟨hres, hb⟩
  obtain ⟨Aa, caa, Ba, cba, rfl, ho1, ho2⟩ := Res.full hres
  obtain ⟨za, hza⟩ : ∃ za, za = va.alloc (.cells #[.slice Aa pRa.length caa, .slice Ba wRa.length cba] 25) := ⟨_, rfl⟩
  have hbz : Below va.heap.size va za := by rw [hza]; exact (Below.refl _ _).alloc (Nat.le_refl _) _
  have HBva := Lib.hid (below_via HBwl.out (HZwl.out) hb)
  have HZva := Lib.hid (Nat.le_trans HZwl.out hb.size)
  have HBza := Lib.hid (below_via HBva.out HZva.out hbz)
  have HZza := Lib.hid (Nat.le_trans HZva.out hbz.size)
  have Xa : Hid (Bxd wl.heap.size za va.heap.size Aa pRa.length caa Ba wRa.length cba pRa wRa) := ⟨by rw [hza]; exact heap_alloc_new _ _, own_below (own_mono ho1 HZwl.out) hbz, own_below (own_mono ho2 HZwl.out) hbz, HZva.out⟩
  clear hbz hb ho1 ho2 hres Ca
  have hza' := Lib.hid hza
  clear hza
  have Kb := HK.out za HBza.out
  have Cb := Lib.hid (rweigh_any A A' n c n' c' ps ws x za hnm hnm' hcap hcm hnil Kb.r1 Kb.r2 Kb.laid)
  rw [← HRa.out] at Cb
  have Fb := Lib.hid Kb
  clear Kb
  obtain ⟨o0, o1⟩ := Fb.out.own
  obtain ⟨p0, p1⟩ := Fb.out.arg
  obtain ⟨x0, x1, x2, x3, x4⟩ := five_facts Fb.out.bx
  rw [hza'.out] at o0 o1 p0 p1 x0 x1 x2 x3 x4
  go_wp2_with fail
  rw [← hza'.out]
  clear hza'
  clear o0 o1 p0 p1 x0 x1 x2 x3 x4
  refine Cb.out.mono ?_
  rintro e vb ⟨hres, hb⟩
  obtain ⟨Ab, cab, Bb, cbb, rfl, ho1, ho2⟩ := Res.full hres
  obtain ⟨zb, hzb⟩ : ∃ zb, zb = vb.alloc (.cells #[.slice Ab pRa.length cab, .slice Bb wRa.length cbb] 25) := ⟨_, rfl⟩
  have hbz : Below vb.heap.size vb zb := by rw [hzb]; exact (Below.refl _ _).alloc (Nat.le_refl _) _
  have HBvb := Lib.hid (below_via HBza.out (HZza.out) hb)
  have HZvb := Lib.hid (Nat.le_trans HZza.out hb.size)
  have HBzb := Lib.hid (below_via HBvb.out HZvb.out hbz)
  have HZzb := Lib.hid (Nat.le_trans HZvb.out hbz.size)
  have Xb : Hid (Bxd wl.heap.size zb vb.heap.size Ab pRa.length cab Bb wRa.length cbb pRa wRa) := ⟨by rw [hzb]; exact heap_alloc_new _ _, own_below (own_mono ho1 HZza.out) hbz, own_below (own_mono ho2 HZza.out) hbz, HZvb.out⟩
  replace Xa := Lib.hid ((Xa.out.below hb).below hbz)
  clear hbz hb ho1 ho2 hres Cb
  have hzb' := Lib.hid hzb
  clear hzb
  have Kc := HK.out zb HBzb.out
  have Cc := Lib.hid (strike_any A1 A2 n c1 n' c2 ps ws A5 nl c5 l zb hnm hnm' hnl hwf Kc.r3 Kc.r4 Kc.r6 Kc.laid)
  rw [← HRc.out] at Cc
  have Fc := Lib.hid Kc
  clear Kc
  obtain ⟨o0, o1⟩ := Fc.out.own
  obtain ⟨p0, p1⟩ := Fc.out.arg
  obtain ⟨x0, x1, x2, x3, x4⟩ := five_facts Fc.out.bx
  rw [hzb'.out] at o0 o1 p0 p1 x0 x1 x2 x3 x4
  go_wp2_with fail
  rw [← hzb'.out]
  clear hzb'
  clear o0 o1 p0 p1 x0 x1 x2 x3 x4
  refine Cc.out.mono ?_
  rintro e vc ⟨hres, hb⟩
  obtain ⟨Ac, cac, Bc, cbc, rfl, ho1, ho2⟩ := Res.full hres
  obtain ⟨zc, hzc⟩ : ∃ zc, zc = vc.alloc (.cells #[.slice Ac pRc.length cac, .slice Bc wRc.length cbc] 25) := ⟨_, rfl⟩
  have hbz : Below vc.heap.size vc zc := by rw [hzc]; exact (Below.refl _ _).alloc (Nat.le_refl _) _
  have HBvc := Lib.hid (below_via HBzb.out (HZzb.out) hb)
  have HZvc := Lib.hid (Nat.le_trans HZzb.out hb.size)
  have HBzc := Lib.hid (below_via HBvc.out HZvc.out hbz)
  have HZzc := Lib.hid (Nat.le_trans HZvc.out hbz.size)
  have Xc : Hid (Bxd wl.heap.size zc vc.heap.size Ac pRc.length cac Bc wRc.length cbc pRc wRc) := ⟨by rw [hzc]; exact heap_alloc_new _ _, own_below (own_mono ho1 HZzb.out) hbz, own_below (own_mono ho2 HZzb.out) hbz, HZvc.out⟩
  replace Xa := Lib.hid ((Xa.out.below hb).below hbz)
  replace Xb := Lib.hid ((Xb.out.below hb).below hbz)
  clear hbz hb ho1 ho2 hres Cc
  have hzc' := Lib.hid hzc
  clear hzc
  have Kd := HK.out zc HBzc.out
  have Cd := Lib.hid (rstrike_any A A' n c n' c' ps ws Al nl cl l zc hnm hnm' hnl Kd.r1 Kd.r2 Kd.r5 Kd.laid)
  rw [← HRc.out] at Cd
  have Fd := Lib.hid Kd
  clear Kd
  obtain ⟨o0, o1⟩ := Fd.out.own
  obtain ⟨p0, p1⟩ := Fd.out.arg
  obtain ⟨x0, x1, x2, x3, x4⟩ := five_facts Fd.out.bx
  rw [hzc'.out] at o0 o1 p0 p1 x0 x1 x2 x3 x4
  go_wp2_with fail
  rw [← hzc'.out]
  clear hzc'
  clear o0 o1 p0 p1 x0 x1 x2 x3 x4
  refine Cd.out.mono ?_
  rintro e vd ⟨hres, hb⟩
  obtain ⟨Ad, cad, Bd, cbd, rfl, ho1, ho2⟩ := Res.full hres
  obtain ⟨zd, hzd⟩ : ∃ zd, zd = vd.alloc (.cells #[.slice Ad pRc.length cad, .slice Bd wRc.length cbd] 25) := ⟨_, rfl⟩
  have hbz : Below vd.heap.size vd zd := by rw [hzd]; exact (Below.refl _ _).alloc (Nat.le_refl _) _
  have HBvd := Lib.hid (below_via HBzc.out (HZzc.out) hb)
  have HZvd := Lib.hid (Nat.le_trans HZzc.out hb.size)
  have HBzd := Lib.hid (below_via HBvd.out HZvd.out hbz)
  have HZzd := Lib.hid (Nat.le_trans HZvd.out hbz.size)
  have Xd : Hid (Bxd wl.heap.size zd vd.heap.size Ad pRc.length cad Bd wRc.length cbd pRc wRc) := ⟨by rw [hzd]; exact heap_alloc_new _ _, own_below (own_mono ho1 HZzc.out) hbz, own_below (own_mono ho2 HZzc.out) hbz, HZvd.out⟩
  replace Xa := Lib.hid ((Xa.out.below hb).below hbz)
  replace Xb := Lib.hid ((Xb.out.below hb).below hbz)
  replace Xc := Lib.hid ((Xc.out.below hb).below hbz)
  clear hbz hb ho1 ho2 hres Cd
  have hzd' := Lib.hid hzd
  clear hzd
  have Ky := HK.out zd HBzd.out
  have Cy := Lib.hid (lead_any A1 A2 n c1 n' c2 ps ws id dst zd hnm hnm' Ky.r3 Ky.r4 Ky.laid)
  rw [← HRy.out] at Cy
  have Fy := Lib.hid Ky
  clear Ky
  obtain ⟨o0, o1⟩ := Fy.out.own
  obtain ⟨p0, p1⟩ := Fy.out.arg
  obtain ⟨x0, x1, x2, x3, x4⟩ := five_facts Fy.out.bx
  rw [hzd'.out] at o0 o1 p0 p1 x0 x1 x2 x3 x4
  go_wp2_with fail
  rw [← hzd'.out]
  clear hzd'
  clear o0 o1 p0 p1 x0 x1 x2 x3 x4
  refine Cy.out.mono ?_
  rintro e vy ⟨hres, hb⟩
  obtain ⟨Ay, cay, By, cby, rfl, ho1, ho2⟩ := Res.full hres
  obtain ⟨zy, hzy⟩ : ∃ zy, zy = vy.alloc (.cells #[.slice Ay pRy.length cay, .slice By wRy.length cby] 25) := ⟨_, rfl⟩
  have hbz : Below vy.heap.size vy zy := by rw [hzy]; exact (Below.refl _ _).alloc (Nat.le_refl _) _
  have HBvy := Lib.hid (below_via HBzd.out (HZzd.out) hb)
  have HZvy := Lib.hid (Nat.le_trans HZzd.out hb.size)
  have HBzy := Lib.hid (below_via HBvy.out HZvy.out hbz)
  have HZzy := Lib.hid (Nat.le_trans HZvy.out hbz.size)
  have Xy : Hid (Bxd wl.heap.size zy vy.heap.size Ay pRy.length cay By wRy.length cby pRy wRy) := ⟨by rw [hzy]; exact heap_alloc_new _ _, own_below (own_mono ho1 HZzd.out) hbz, own_below (own_mono ho2 HZzd.out) hbz, HZvy.out⟩
  replace Xa := Lib.hid ((Xa.out.below hb).below hbz)
  replace Xb := Lib.hid ((Xb.out.below hb).below hbz)
  replace Xc := Lib.hid ((Xc.out.below hb).below hbz)
  replace Xd := Lib.hid ((Xd.out.below hb).below hbz)
  clear hbz hb ho1 ho2 hres Cy
  have hzy' := Lib.hid hzy
  clear hzy
  have Kz := HK.out zy HBzy.out
  have Cz := Lib.hid (rlead_any A A' n c n' c' ps ws id dst zy hnm hnm' Kz.r1 Kz.r2 Kz.laid)
  rw [← HRy.out] at Cz
  have Fz := Lib.hid Kz
  clear Kz
  obtain ⟨o0, o1⟩ := Fz.out.own
  obtain ⟨p0, p1⟩ := Fz.out.arg
  obtain ⟨x0, x1, x2, x3, x4⟩ := five_facts Fz.out.bx
  rw [hzy'.out] at o0 o1 p0 p1 x0 x1 x2 x3 x4
  go_wp2_with fail
  rw [← hzy'.out]
  clear hzy'
  clear o0 o1 p0 p1 x0 x1 x2 x3 x4
  refine Cz.out.mono ?_
  rintro e vz ⟨hres, hb⟩
  obtain ⟨Az, caz, Bz, cbz, rfl, ho1, ho2⟩ := Res.full hres
  obtain ⟨zz, hzz⟩ : ∃ zz, zz = vz.alloc (.cells #[.slice Az pRy.length caz, .slice Bz wRy.length cbz] 25) := ⟨_, rfl⟩
  have hbz : Below vz.heap.size vz zz := by rw [hzz]; exact (Below.refl _ _).alloc (Nat.le_refl _) _
  have HBvz := Lib.hid (below_via HBzy.out (HZzy.out) hb)
  have HZvz := Lib.hid (Nat.le_trans HZzy.out hb.size)
  have HBzz := Lib.hid (below_via HBvz.out HZvz.out hbz)
  have HZzz := Lib.hid (Nat.le_trans HZvz.out hbz.size)
  have Xz : Hid (Bxd wl.heap.size zz vz.heap.size Az pRy.length caz Bz wRy.length cbz pRy wRy) := ⟨by rw [hzz]; exact heap_alloc_new _ _, own_below (own_mono ho1 HZzy.out) hbz, own_below (own_mono ho2 HZzy.out) hbz, HZvz.out⟩
  replace Xa := Lib.hid ((Xa.out.below hb).below hbz)
  replace Xb := Lib.hid ((Xb.out.below hb).below hbz)
  replace Xc := Lib.hid ((Xc.out.below hb).below hbz)
  replace Xd := Lib.hid ((Xd.out.below hb).below hbz)
  replace Xy := Lib.hid ((Xy.out.below hb).below hbz)
  clear hbz hb ho1 ho2 hres Cz
  have hzz' := Lib.hid hzz
  clear hzz
  obtain ⟨ma0, ma1, -, -⟩ := two_facts Xa.out.box
  obtain ⟨mb0, mb1, -, -⟩ := two_facts Xb.out.box
  rw [hzz'.out] at ma0 ma1 mb0 mb1
  go_wp2_with fail
  rw [← hzz'.out]
  clear hzz' ma0 ma1 mb0 mb1
  refine (Same_eq Aa Ba Ab Bb pRa.length caa wRa.length cba cab cbb pRa wRa zz (own_max Xa.out.o1) (own_max Xa.out.o2) (Reads.of_own Xa.out.o1) (Reads.of_own Xa.out.o2) (Reads.of_own Xb.out.o1) (Reads.of_own Xb.out.o2)).mono ?_
  rintro e s1 ⟨rfl, hb⟩
  have HBs1 := Lib.hid (below_via HBzz.out HZzz.out hb)
  have HZs1 := Lib.hid (Nat.le_trans HZzz.out hb.size)
  replace Xa := Lib.hid (Xa.out.below hb)
  replace Xb := Lib.hid (Xb.out.below hb)
  replace Xc := Lib.hid (Xc.out.below hb)
  replace Xd := Lib.hid (Xd.out.below hb)
  replace Xy := Lib.hid (Xy.out.below hb)
  replace Xz := Lib.hid (Xz.out.below hb)
  clear hb
  obtain ⟨mc0, mc1, -, -⟩ := two_facts Xc.out.box
  obtain ⟨md0, md1, -, -⟩ := two_facts Xd.out.box
  go_wp2_with fail
  clear mc0 mc1 md0 md1
  refine (Same_eq Ac Bc Ad Bd pRc.length cac wRc.length cbc cad cbd pRc wRc s1 (own_max Xc.out.o1) (own_max Xc.out.o2) (Reads.of_own Xc.out.o1) (Reads.of_own Xc.out.o2) (Reads.of_own Xd.out.o1) (Reads.of_own Xd.out.o2)).mono ?_
  rintro e s2 ⟨rfl, hb⟩
  have HBs2 := Lib.hid (below_via HBs1.out HZs1.out hb)
  have HZs2 := Lib.hid (Nat.le_trans HZs1.out hb.size)
  replace Xa := Lib.hid (Xa.out.below hb)
  replace Xb := Lib.hid (Xb.out.below hb)
  replace Xc := Lib.hid (Xc.out.below hb)
  replace Xd := Lib.hid (Xd.out.below hb)
  replace Xy := Lib.hid (Xy.out.below hb)
  replace Xz := Lib.hid (Xz.out.below hb)
  clear hb
  obtain ⟨my0, my1, -, -⟩ := two_facts Xy.out.box
  obtain ⟨mz0, mz1, -, -⟩ := two_facts Xz.out.box
  go_wp2_with fail
  clear my0 my1 mz0 mz1
  refine (Same_eq Ay By Az Bz pRy.length cay wRy.length cby caz cbz pRy wRy s2 (own_max Xy.out.o1) (own_max Xy.out.o2) (Reads.of_own Xy.out.o1) (Reads.of_own Xy.out.o2) (Reads.of_own Xz.out.o1) (Reads.of_own Xz.out.o2)).mono ?_
  rintro e s3 ⟨rfl, hb⟩
  have HBs3 := Lib.hid (below_via HBs2.out HZs2.out hb)
  have HZs3 := Lib.hid (Nat.le_trans HZs2.out hb.size)
  replace Xa := Lib.hid (Xa.out.below hb)
  replace Xb := Lib.hid (Xb.out.below hb)
  replace Xc := Lib.hid (Xc.out.below hb)
  replace Xd := Lib.hid (Xd.out.below hb)
  replace Xy := Lib.hid (Xy.out.below hb)
  replace Xz := Lib.hid (Xz.out.below hb)
  clear hb
  obtain ⟨ma0, ma1, -, -⟩ := two_facts Xa.out.box
  obtain ⟨mc0, mc1, -, -⟩ := two_facts Xc.out.box
  obtain ⟨my0, my1, -, -⟩ := two_facts Xy.out.box
  obtain ⟨F, F0, F1, F2⟩ : ∃ F : Nat → P6, F 0 = (Aa, pRa.length, caa, Ba, wRa.length, cba) ∧ F 1 = (Ac, pRc.length, cac, Bc, wRc.length, cbc) ∧ F 2 = (Ay, pRy.length, cay, By, wRy.length, cby) := ⟨fun k => match k with | 0 => _ | 1 => _ | _ => _, rfl, rfl, rfl⟩
  obtain ⟨m0, hm0⟩ : ∃ m0, m0 = s3.alloc (.cells #[.slice Aa pRa.length caa, .slice Ba wRa.length cba, .slice Ac pRc.length cac, .slice Bc wRc.length cbc, .slice Ay pRy.length cay, .slice By wRy.length cby] 25) := ⟨_, rfl⟩
  have hbm : Below s3.heap.size s3 m0 := by rw [hm0]; exact (Below.refl _ _).alloc (Nat.le_refl _) _
  have HM0 : Hid (ML wl s3.heap.size F m0) := by
    refine ⟨below_via HBs3.out HZs3.out hbm, ?_, fun k hk => ?_, fun k hk => ?_⟩
    · rw [F0, F1, F2, hm0]; exact heap_alloc_new _ _
    · obtain rfl | rfl | rfl : k = 0 ∨ k = 1 ∨ k = 2 := by omega
      · rw [F0]; exact ⟨_, own_below Xa.out.o1 hbm⟩
      · rw [F1]; exact ⟨_, own_below Xc.out.o1 hbm⟩
      · rw [F2]; exact ⟨_, own_below Xy.out.o1 hbm⟩
    · obtain rfl | rfl | rfl : k = 0 ∨ k = 1 ∨ k = 2 := by omega
      · rw [F0]; exact ⟨_, own_below Xa.out.o2 hbm⟩
      · rw [F1]; exact ⟨_, own_below Xc.out.o2 hbm⟩
      · rw [F2]; exact ⟨_, own_below Xy.out.o2 hbm⟩
  have HSB : Hid (wl.heap.size ≤ s3.heap.size) := HZs3
  clear hbm F0 F1 F2
  go_wp2
  rw [← hm0]
  clear hm0 ma0 ma1 mc0 mc1 my0 my1
  generalize s3.heap.size = sb at *
  go_loopw [113] (fun s wr => ∃ k : Nat, k ≤ 3 ∧ s = .int .i64 k ∧ Hid (ML wl sb F wr)) (fun s _ => 3 - (intOf s).toNat)
  case atStart => exact ⟨0, by omega, rfl, HM0⟩
  case round =>
    clear HM0
    obtain ⟨k, hk, rfl, hM⟩ := hrel
    by_cases hk3 : k < 3
    · obtain ⟨c0, c1'⟩ := hM.out.at_ k hk3
      have Ho1 := Lib.hid (fun z (hz : ML wl sb F z) => hz.o1 k hk3)
      have Ho2 := Lib.hid (fun z (hz : ML wl sb F z) => hz.o2 k hk3)
      generalize F k = f at *
      obtain ⟨fA, fn, fc, gA, gn, gc⟩ := f
      simp only at c0 c1' Ho1 Ho2
      obtain ⟨wx, hwx⟩ : ∃ wx, wx = wr.alloc (.cells #[.slice fA fn fc, .slice gA gn gc] 25) := ⟨_, rfl⟩
      have hbx : Below wr.heap.size wr wx := by rw [hwx]; exact (Below.refl _ _).alloc (Nat.le_refl _) _
      have HMx := Lib.hid (hM.out.below hbx)
      have HBx : Hid (wx.heap[wr.heap.size]? = some (.cells #[.slice fA fn fc, .slice gA gn gc] 25 (0, 0))) := by show _ = _; rw [hwx]; exact heap_alloc_new _ _
      have hk9 : (k : Int) < 3 := by omega
      have hfm : fn ≤ 9223372036854775807 := by have h := Ho1.out _ HMx.out; obtain ⟨xs, h⟩ := h; have := own_max h; unfold maxLen at this; omega
      have hgm : gn ≤ 9223372036854775807 := by have h := Ho2.out _ HMx.out; obtain ⟨xs, h⟩ := h; have := own_max h; unfold maxLen at this; omega
      obtain ⟨q0, q1, -, -⟩ := two_facts HBx.out
      rw [hwx] at q0 q1
      clear hbx
      go_wp2
      rw [← hwx]
      clear hwx c0 c1' q0 q1
      generalize wr.heap.size = bx at *
      go_loopw [120] (fun s wq => ∃ m : Nat, m ≤ fn ∧ s = .int .i64 m ∧ Hid (ML wl sb F wq) ∧ Hid (wq.heap[bx]? = some (.cells #[.slice fA fn fc, .slice gA gn gc] 25 (0, 0)))) (fun s _ => fn - (intOf s).toNat)
      case atStart => exact ⟨0, by omega, rfl, HMx, HBx⟩
      case round =>
        obtain ⟨m, hm, rfl, hMq, hBq⟩ := hrel
        obtain ⟨q0, q1, -, -⟩ := two_facts hBq.out
        by_cases hmt : m < fn
        · obtain ⟨g, rfl, hgb, ⟨cur, hcur⟩, hcell⟩ := (Ho1.out _ hMq.out).at_ (by omega)
          obtain ⟨⟨u, hu⟩, hf⟩ := hcell (m * 4 + 1) (by omega)
          have hgs := typ_ne hcur hMq.out.sl (by decide)
          have hgx := typ_ne hcur hBq.out (by decide)
          have HN := Lib.hid (hMq.out.set hgb hgs (m * 4 + 1) (.int .i64 (-7)))
          have HNb := Lib.hid ((Below.heap_setCell _ ⟨g, m * 4 + 1, none⟩ (.int .i64 (-7)) _ (fun e => hgx e.symm)).trans hBq.out)
          clear hcell hcur hgs hgx hgb
          go_wp2
          go_roundw
          case rel => exact ⟨m + 1, by omega, by go_num, HN, HNb⟩
          case measure => simp [intOf]; omega
        · obtain rfl : m = fn := by omega
          go_wp2
          go_loopw [132] (fun s wq => ∃ j : Nat, j ≤ gn ∧ s = .int .i64 j ∧ Hid (ML wl sb F wq) ∧ Hid (wq.heap[bx]? = some (.cells #[.slice fA m fc, .slice gA gn gc] 25 (0, 0)))) (fun s _ => gn - (intOf s).toNat)
          case atStart => exact ⟨0, by omega, rfl, hMq, hBq⟩
          case round =>
            clear hMq hBq q0 q1
            obtain ⟨j, hj, rfl, hMq, hBq⟩ := hrel
            obtain ⟨q0, q1, -, -⟩ := two_facts hBq.out
            by_cases hjt : j < gn
            · obtain ⟨g, rfl, hgb, ⟨cur, hcur⟩, hcell⟩ := (Ho2.out _ hMq.out).at_ (by omega)
              obtain ⟨⟨u, hu⟩, hf⟩ := hcell (j * 5 + 2) (by omega)
              have hgs := typ_ne hcur hMq.out.sl (by decide)
              have hgx := typ_ne hcur hBq.out (by decide)
              have HN := Lib.hid (hMq.out.set hgb hgs (j * 5 + 2) (.int .i64 (-7)))
              have HNb := Lib.hid ((Below.heap_setCell _ ⟨g, j * 5 + 2, none⟩ (.int .i64 (-7)) _ (fun e => hgx e.symm)).trans hBq.out)
              clear hcell hcur hgs hgx hgb
              go_wp2
              go_roundw
              case rel => exact ⟨j + 1, by omega, by go_num, HN, HNb⟩
              case measure => simp [intOf]; omega
            · go_wp2
              go_roundw
              case rel => exact ⟨k + 1, by omega, by go_num, hMq⟩
              case measure => simp [intOf]; omega
    · have Kr := Lib.hid (HK.out wr hM.out.bel)
      obtain ⟨o0, o1⟩ := Kr.out.own
      obtain ⟨p0, p1⟩ := Kr.out.arg
      have hk9 : ¬ (k : Int) < 3 := by omega
      go_wp2_with fail
      clear o0 o1 p0 p1
      refine (Same_eq A1 A2 A A' n c1 n' c2 c c' ps ws _ hnm hnm' Kr.out.r3 Kr.out.r4 Kr.out.r1 Kr.out.r2).mono ?_
      rintro e t1 ⟨rfl, hb⟩
      have Kt := Lib.hid (Kr.out.below hb)
      clear hb
      go_wp2_with fail
      refine (sameInts_any A5 Al nl nl c5 cl l l _ hnl0 hnl0 Kt.out.r6 Kt.out.r5).mono ?_
      rintro e t2 ⟨rfl, q, rfl⟩
      have hdd : decide (l = l) = true := by simp
      rw [hdd]
      go_wp2
      go_ret
      exact ⟨rfl, below_drewN Kt.out.bel _⟩
end Go.Proofs.YtoakeclpakjbiaaDoor
