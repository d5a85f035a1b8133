/-
  The train that is just a wish: the program's walk.
-/
import Derived.Test.YtjmegnbjacndpaaWTr
import Derived.Test.YtjmegnbjacndpaaWRng
import Derived.Test.YtjmegnbjacndpaaWtN
import Derived.Test.YtjmegnbjacndpaaRefS
import Derived.Deep.DeepCutAuto
import Derived.Deep.CutBlock
namespace Go.Proofs.Ytjmegnbjacndpaa
open Go.RowKit Go.Maps Go.Shelf
set_option linter.unusedVariables false
set_option linter.unusedSimpArgs false
attribute [local go_sem] Oper.semAt_some

theorem eqP_any (a b c d : Int) (w : World) :
    (Op.equalIn 10000 26 (.agg #[.int .i64 a, .int .i64 b]) (.agg #[.int .i64 c, .int .i64 d])).run Try.prog w = .ok (decide (a = c) && decide (b = d)) w := by
  have z3 := Try.sizeOf3
  have a3 := Try.isAgg3
  have u3 := Try.underlying3
  have hS : Try.prog.underlying 26 = some (.struct (Try.prog.fieldsOf 26)) := by kernel_rfl
  have hp : Try.prog.stoodInHeld 26 = false := by kernel_rfl
  rw [show (10000 : Nat) = 9999 + 1 from rfl, run_equalIn_agg w 9999 26 _ _ hS hp]
  simp only [Program.fieldsOf, Try.underlying26]
  go_simp
  by_cases h : a = c
  · subst h
    by_cases h2 : b = d
    · subst h2
      simp
    · simp [h2]
  · simp [h]
theorem valid_lev {n k : Nat} (hk : k < 3) {l : List (Int × Int)} (h : l ∈ lev n (k + 1)) : validB n l = true := by
  obtain ⟨h1, h2⟩ := (lev_mem (k + 1) (by omega) l).1 h
  unfold validB
  rw [h1, h2]
  simp
  omega
/-- All trains of up to so many pairs. -/
def allT (n k : Nat) : List (List (Int × Int)) := (List.range k).flatMap fun j => lev n (j + 1)
theorem allT_succ (n k : Nat) : allT n (k + 1) = allT n k ++ lev n (k + 1) := by unfold allT; rw [List.range_succ, List.flatMap_append]; simp
def wishB (p q : Int) : Bool := inB 1 1000 [p, q]
theorem wished_any (p q : Int) (w : World) : Calls Try.prog 15 #[.agg #[.int .i64 p, .int .i64 q]] w fun e w' => e = .returned (.bool (wishB p q)) ∧ Below w.heap.size w w' := by
  obtain ⟨wb, hwb_⟩ : ∃ y, y = (w.alloc (.cells #[.int .i64 p, .int .i64 q] 26)).alloc (.cells #[.int .i64 p, .int .i64 q] 3) := ⟨_, rfl⟩
  have H := Lib.hid (in_any 1 1000 (some ⟨w.heap.size + 1, 0, none⟩) 2 2 [p, q] wb (by unfold maxLen; omega) (by
    rw [hwb_]
    have := rdI_two (heap_alloc_new (w.alloc (.cells #[.int .i64 p, .int .i64 q] 26)) (.cells #[.int .i64 p, .int .i64 q] 3))
    rw [show (w.alloc (.cells #[.int .i64 p, .int .i64 q] 26)).heap.size = w.heap.size + 1 by simp] at this
    exact this))
  have hB := Lib.hid (show Below w.heap.size w wb by rw [hwb_]; exact ((Below.refl _ _).alloc (Nat.le_refl _) _).alloc (by simp) _)
  have hwb := Lib.hid hwb_
  clear hwb_
  go_enter Try.func15, Try.ntmps15
  go_wp2_with fail
  rw [← hwb.out]
  refine H.out.mono ?_
  rintro e w1 ⟨rfl, hb⟩
  have hB1 := Lib.hid (hB.out.trans (hb.mono hB.out.size))
  clear hb
  go_wp2
  go_ret
  exact ⟨rfl, hB1.out⟩

/-- What stays while the trains are gone through. -/
structure EK (w : World) (rs : List Nat) (A : Option Addr) (n c : Nat) (p q : Int) (sb tb : Nat) (W : World) : Prop where
  bel : Below w.heap.size w W
  d : ∀ r ∈ rs, W.heap[r]? = some (.deferred (some []))
  s : W.heap[sb]? = some (.cells #[.slice A n c] 50 (0, 0))
  t : W.heap[tb]? = some (.cells #[.int .i64 (redu p q).1, .int .i64 (redu p q).2] 26 (0, 0))
  b2 : W.heap[w.heap.size + 1 + 1]? = some (.cells #[.slice none 0 0] 29 (0, 0))
  b3 : W.heap[w.heap.size + 1 + 1 + 1]? = some (.cells #[.int .i64 0] 30 (0, 0))
  hs : w.heap.size + 1 + 1 + 1 < sb
  ht : w.heap.size + 1 + 1 + 1 < tb
theorem EK.below {w : World} {rs : List Nat} {A : Option Addr} {n c : Nat} {p q : Int} {sb tb : Nat} {W W' : World} (h : EK w rs A n c p q sb tb W) (hb : Below W.heap.size W W') : EK w rs A n c p q sb tb W' :=
  ⟨below_via h.bel h.bel.size hb, fun r hr => keepO hb (h.d r hr), keepO hb h.s, keepO hb h.t, keepO hb h.b2, keepO hb h.b3, h.hs, h.ht⟩
theorem EK.put {w : World} {rs : List Nat} {A : Option Addr} {n c : Nat} {p q : Int} {sb tb : Nat} {W : World} (h : EK w rs A n c p q sb tb W) {lp : Nat} {r : Loop} (hl : W.heap[lp]? = some (.loop r)) (hw : w.heap.size ≤ lp) (o : Obj) : EK w rs A n c p q sb tb (W.putObj lp o) := by
  have hne : ∀ (b : Nat) (x : Obj), W.heap[b]? = some x → (∀ r, x ≠ .loop r) → (W.putObj lp o).heap[b]? = some x := fun b x hx hn => put_other hx (fun e => by subst e; rw [hl] at hx; exact hn r (Option.some.inj hx).symm)
  exact ⟨below_put h.bel o hw, fun r hr => hne _ _ (h.d r hr) (fun r e => by cases e), hne _ _ h.s (fun r e => by cases e), hne _ _ h.t (fun r e => by cases e), hne _ _ h.b2 (fun r e => by cases e), hne _ _ h.b3 (fun r e => by cases e), h.hs, h.ht⟩
theorem EK.mark {w : World} {rs : List Nat} {A : Option Addr} {n c : Nat} {p q : Int} {sb tb : Nat} {W : World} (h : EK w rs A n c p q sb tb W) {D : Nat} (hD : W.heap[D]? = some (.deferred (some []))) : EK w (D :: rs) A n c p q sb tb W :=
  ⟨h.bel, fun r hr => (List.mem_cons.1 hr).elim (fun e => e ▸ hD) (h.d r), h.s, h.t, h.b2, h.b3, h.hs, h.ht⟩
def ExJ (w : World) (rs : List Nat) (lp : Nat) (A : Option Addr) (n c : Nat) (p q : Int) (sb tb : Nat) (ts : List Int) (rc : LoopState → Option Code → Loop) (Q : List (List (Int × Int))) (W : World) : Prop :=
  W.heap[lp]? = some (.loop (rc .ready none)) ∧ EK w rs A n c p q sb tb W ∧ ∀ l ∈ Q, ¬ ratL ts l = redu p q
def ExX (w : World) (rs : List Nat) (lp : Nat) (p q : Int) (ts : List Int) (rc : LoopState → Option Code → Loop) (Q : List (List (Int × Int))) (L : List (Int × Int)) (W : World) : Prop :=
  W.heap[lp]? = some (.loop (rc .done (some .ret))) ∧ (∀ r ∈ rs, W.heap[r]? = some (.deferred (some []))) ∧ Below w.heap.size w W ∧
    (∃ A1 m c1, W.heap[w.heap.size + 1 + 1]? = some (.cells #[.slice A1 m c1] 29 (0, 0)) ∧ W.heap[w.heap.size + 1 + 1 + 1]? = some (.cells #[.int .i64 0] 30 (0, 0)) ∧ m ≤ 3 ∧ Reads W W.heap.size 2 A1 m (prs L) ∧ ∀ r, A1 = some r → 0 < m → lp < r.block) ∧ (∀ l ∈ Q, ¬ ratL ts l = redu p q) ∧ ratL ts L = redu p q
theorem allT_split (n i : Nat) (h : i < 3) : ∃ R, allT n 3 = allT n i ++ lev n (i + 1) ++ R := by
  rcases (by omega : i = 0 ∨ i = 1 ∨ i = 2) with rfl | rfl | rfl
  · exact ⟨lev n 2 ++ lev n 3, by simp [allT, List.range_succ]⟩
  · exact ⟨lev n 3, by simp [allT, List.range_succ]⟩
  · exact ⟨[], by simp [allT, List.range_succ]⟩
theorem find_at {α : Type} (f : α → Bool) (x : α) (R : List α) : ∀ P : List α, (∀ y ∈ P, f y = false) → f x = true → (P ++ x :: R).find? f = some x
  | [], _, h => by simp [h]
  | y :: P, hP, h => by
    rw [List.cons_append, List.find?_cons_of_neg (by simpa using hP y (List.mem_cons_self ..))]
    exact find_at f x R P (fun z hz => hP z (List.mem_cons_of_mem _ hz)) h
def exF (n : Nat) (ts : List Int) (p q : Int) : Option (List (Int × Int)) := (allT n 3).find? fun l => decide (ratL ts l = redu p q)
def exL (n : Nat) (ts : List Int) (p q : Int) : List (Int × Int) := if okW n ts = true then if wishB p q = true then (exF n ts p q).getD [] else [] else []
def exE (n : Nat) (ts : List Int) (p q : Int) : Int := if okW n ts = true then if wishB p q = true then if (exF n ts p q).isSome then 0 else 6 else 2 else 100

def ExP (n : Nat) (ts : List Int) (p q : Int) (w : World) (e : Ending) (w' : World) : Prop := (∃ A1 m c1, e = .returned (.tuple #[.slice A1 m c1, .int .i64 (exE n ts p q)]) ∧ m ≤ 3 ∧ Reads w' w'.heap.size 2 A1 m (prs (exL n ts p q))) ∧ Below w.heap.size w w'
set_option maxRecDepth 100000 in
set_option maxHeartbeats 4000000 in
theorem pExact_any (A : Option Addr) (n c : Nat) (ts : List Int) (hn : n ≤ 20) (p q : Int) (w : World) (hT : Reads w w.heap.size 1 A n (ints ts)) :
    Calls Try.prog 8 #[.agg #[.slice A n c], .agg #[.int .i64 p, .int .i64 q]] w (ExP n ts p q w) := by
  have hl : ts.length = n := by have := hT.len; simpa [ints] using this
  have HCk := Lib.hid (fun z (hz : Below w.heap.size w z) => Check_any A n c ts hn z ((hT.below hz).more hz.size))
  have HWi := Lib.hid (fun z => wished_any p q z)
  have HTd := Lib.hid (fun z (hz : Below w.heap.size w z) => (hT.below hz).more hz.size)
  clear hT
  refine (callsIn_wide (n := 6)).1 ?_
  refine callsIn_of_wp_marks Try.func8 rfl trivial ?_ rfl
  refine wpIn_wide.2 ?_
  simp only [Try.ntmps8, List.size_toArray, List.length_cons, List.length_nil, Nat.reduceAdd, Nat.reduceSub, Array.replicate_succ, Array.replicate_zero, List.push_toArray, List.append_toArray, List.nil_append, List.cons_append]
  obtain ⟨w4, hw4_⟩ : ∃ y, y = (((w.alloc (.cells #[.slice A n c] 24)).alloc (.cells #[.int .i64 p, .int .i64 q] 26)).alloc (.cells #[.slice none 0 0] 29)).alloc (.cells #[.int .i64 0] 30) := ⟨_, rfl⟩
  have hB4 : Below w.heap.size w w4 := by rw [hw4_]; exact ((((Below.refl _ _).alloc (Nat.le_refl _) _).alloc (by simp) _).alloc (by simp; omega) _).alloc (by simp; omega) _
  have e1 : (w.alloc (.cells #[.slice A n c] 24)).heap.size = w.heap.size + 1 := by simp
  have e2 : ((w.alloc (.cells #[.slice A n c] 24)).alloc (.cells #[.int .i64 p, .int .i64 q] 26)).heap.size = w.heap.size + 1 + 1 := by simp
  have e3 : (((w.alloc (.cells #[.slice A n c] 24)).alloc (.cells #[.int .i64 p, .int .i64 q] 26)).alloc (.cells #[.slice none 0 0] 29)).heap.size = w.heap.size + 1 + 1 + 1 := by simp
  have h0 : w4.heap[w.heap.size]? = some (.cells #[.slice A n c] 24 (0, 0)) := by rw [hw4_, Below.heap_alloc _ _ _ (by omega), Below.heap_alloc _ _ _ (by omega), Below.heap_alloc _ _ _ (by omega)]; exact heap_alloc_new w _
  have h1 : w4.heap[w.heap.size + 1]? = some (.cells #[.int .i64 p, .int .i64 q] 26 (0, 0)) := by rw [hw4_, Below.heap_alloc _ _ _ (by omega), Below.heap_alloc _ _ _ (by omega)]; have := heap_alloc_new (w.alloc (.cells #[.slice A n c] 24)) (.cells #[.int .i64 p, .int .i64 q] 26); rw [e1] at this; exact this
  have h2 : w4.heap[w.heap.size + 1 + 1]? = some (.cells #[.slice none 0 0] 29 (0, 0)) := by rw [hw4_, Below.heap_alloc _ _ _ (by omega)]; have := heap_alloc_new ((w.alloc (.cells #[.slice A n c] 24)).alloc (.cells #[.int .i64 p, .int .i64 q] 26)) (.cells #[.slice none 0 0] 29); rw [e2] at this; exact this
  have h3 : w4.heap[w.heap.size + 1 + 1 + 1]? = some (.cells #[.int .i64 0] 30 (0, 0)) := by rw [hw4_]; have := heap_alloc_new (((w.alloc (.cells #[.slice A n c] 24)).alloc (.cells #[.int .i64 p, .int .i64 q] 26)).alloc (.cells #[.slice none 0 0] 29)) (.cells #[.int .i64 0] 30); rw [e3] at this; exact this
  obtain ⟨g0, -⟩ := one_facts h0
  have H1 := Lib.hid h1
  have H2 := Lib.hid h2
  have H3 := Lib.hid h3
  have H0 := Lib.hid h0
  have HB4 := Lib.hid hB4
  have hw4 := Lib.hid hw4_
  clear h0 h1 h2 h3 hB4 hw4_ g0 e1 e2 e3
  go_wp2_with fail
  rw [← hw4.out]
  refine (HCk.out w4 HB4.out).mono ?_
  rintro e z1 ⟨rfl, hb1_⟩
  have hB1 := Lib.hid (below_via HB4.out HB4.out.size hb1_)
  have h0 := Lib.hid (keepO hb1_ H0.out)
  have h1 := Lib.hid (keepO hb1_ H1.out)
  have h2 := Lib.hid (keepO hb1_ H2.out)
  have h3 := Lib.hid (keepO hb1_ H3.out)
  clear hb1_ H0 H1 H2 H3 HB4 hw4 HCk
  cases hok : okW n ts
  · rw [show errW false = 100 from rfl]
    have hE : Hid (exL n ts p q = [] ∧ exE n ts p q = 100) := by show _ ∧ _; unfold exL exE; rw [hok]; exact ⟨rfl, rfl⟩
    obtain ⟨g0, f0⟩ := one_facts h2.out
    obtain ⟨g1, f1⟩ := one_facts h3.out
    have hm := Lib.hid (set_both h2.out h3.out (by omega) (.slice none 0 0) (.int .i64 100))
    have mB := Lib.hid ((hB1.out.setCell (p := ⟨w.heap.size + 1 + 1, 0, none⟩) (by simp only; omega) (.slice none 0 0)).setCell (p := ⟨w.heap.size + 1 + 1 + 1, 0, none⟩) (by simp only; omega) (.int .i64 100))
    clear hok h0 h1 h2 h3 hB1
    go_wp2
    obtain ⟨q0, -⟩ := one_facts hm.out.1
    obtain ⟨q1, -⟩ := one_facts hm.out.2
    refine ⟨.tuple #[.slice none 0 0, .int .i64 100], by simp [results, Try.results8, go_sem, q0, q1], ⟨none, 0, 0, by rw [hE.out.2], by omega, ?_⟩, mB.out⟩
    rw [hE.out.1]
    exact ⟨rfl, fun h => absurd h (by omega)⟩
  rw [show errW true = 0 from rfl]
  obtain ⟨p0, p1, -, -⟩ := two_facts h1.out
  have hok' := Lib.hid hok
  clear hok
  go_wp2_with fail
  refine (HWi.out z1).mono ?_
  rintro e z2 ⟨rfl, hb2_⟩
  have hB2 := Lib.hid (below_via hB1.out hB1.out.size hb2_)
  have h0 := Lib.hid (keepO hb2_ h0.out)
  have h1 := Lib.hid (keepO hb2_ h1.out)
  have h2 := Lib.hid (keepO hb2_ h2.out)
  have h3 := Lib.hid (keepO hb2_ h3.out)
  clear hb2_ hB1 HWi p0 p1
  cases hwi : wishB p q
  · have hE : Hid (exL n ts p q = [] ∧ exE n ts p q = 2) := by show _ ∧ _; unfold exL exE; rw [hok'.out, hwi]; exact ⟨rfl, rfl⟩
    obtain ⟨g0, f0⟩ := one_facts h2.out
    obtain ⟨g1, f1⟩ := one_facts h3.out
    have hm := Lib.hid (set_both h2.out h3.out (by omega) (.slice none 0 0) (.int .i64 2))
    have mB := Lib.hid ((hB2.out.setCell (p := ⟨w.heap.size + 1 + 1, 0, none⟩) (by simp only; omega) (.slice none 0 0)).setCell (p := ⟨w.heap.size + 1 + 1 + 1, 0, none⟩) (by simp only; omega) (.int .i64 2))
    clear hwi h0 h1 h2 h3 hB2
    go_wp2
    obtain ⟨q0, -⟩ := one_facts hm.out.1
    obtain ⟨q1, -⟩ := one_facts hm.out.2
    refine ⟨.tuple #[.slice none 0 0, .int .i64 2], by simp [results, Try.results8, go_sem, q0, q1], ⟨none, 0, 0, by rw [hE.out.2], by omega, ?_⟩, mB.out⟩
    rw [hE.out.1]
    exact ⟨rfl, fun h => absurd h (by omega)⟩
  have hpq : (1 ≤ p ∧ p ≤ 1000) ∧ 1 ≤ q ∧ q ≤ 1000 := by unfold wishB inB at hwi; simp at hwi; omega
  obtain ⟨hp1, hq1⟩ := hpq
  have hEq : Hid (exL n ts p q = (exF n ts p q).getD [] ∧ exE n ts p q = if (exF n ts p q).isSome then 0 else 6) := by show _ ∧ _; unfold exL exE; rw [hok'.out, hwi]; exact ⟨rfl, rfl⟩
  have hz2 : w.heap.size + 1 + 1 + 1 < z2.heap.size := (Array.getElem?_eq_some_iff.1 h3.out).1
  clear hwi
  go_upto_region 6 with (fail)
  obtain ⟨wz, hwz⟩ : ∃ wz, wz = z2 := ⟨_, rfl⟩
  rw [← hwz] at h0 h1 h2 h3 hB2 hz2
  rw [← hwz]
  clear hwz
  go_cut [7, 8] from 11 to 40 (fun s7 s8 wx => ∃ wl, wl = wx ∧ ∃ sb tb, s7 = .pointer (some ⟨sb, 0, none⟩) ∧ s8 = .pointer (some ⟨tb, 0, none⟩) ∧ wx.heap[sb]? = some (.cells #[.slice A n c] 50 (0, 0)) ∧ wx.heap[tb]? = some (.cells #[.int .i64 (redu p q).1, .int .i64 (redu p q).2] 26 (0, 0)) ∧ Hid (Below wz.heap.size wz wx) ∧ w.heap.size + 1 + 1 + 1 < sb ∧ w.heap.size + 1 + 1 + 1 < tb)
  case first =>
    obtain ⟨g0, -⟩ := one_facts h0.out
    obtain ⟨g1, g2, -, -⟩ := two_facts h1.out
    have HQ := Lib.hid (fun z (hz : Hid (Kp wz.heap.size [] wz z)) => (⟨(hz.out.cell (p := ⟨w.heap.size, 0, none⟩) (by simp only; omega) (by simp)).trans g0, (hz.out.cell (p := ⟨w.heap.size + 1, 0, none⟩) (by simp only; omega) (by simp)).trans g1, (hz.out.cell (p := ⟨w.heap.size + 1, 1, none⟩) (by simp only; omega) (by simp)).trans g2⟩ : z.cell? ⟨w.heap.size, 0, none⟩ = some (.slice A n c) ∧ z.cell? ⟨w.heap.size + 1, 0, none⟩ = some (.int .i64 p) ∧ z.cell? ⟨w.heap.size + 1, 1, none⟩ = some (.int .i64 q)))
    obtain ⟨S, hSd⟩ : ∃ S : World → Prop, S = fun z => (z.cell? ⟨w.heap.size, 0, none⟩ = some (.slice A n c) ∧ z.cell? ⟨w.heap.size + 1, 0, none⟩ = some (.int .i64 p) ∧ z.cell? ⟨w.heap.size + 1, 1, none⟩ = some (.int .i64 q)) ∧ Hid (Kp wz.heap.size [] wz z) := ⟨_, rfl⟩
    have HS := Lib.hid (fun z (hz : Hid (Kp wz.heap.size [] wz z)) => (by rw [hSd]; exact ⟨HQ.out z hz, hz⟩ : S z))
    clear g0 g1 g2
    refine region_out (S := S) (by kernel_rfl) ?_ (fun hHeld => ?_)
    · exact HS.out _ (Lib.hid (Kp.refl _ _ _).drew)
    have hKyd : Hid (Kp wz.heap.size [] wz wz.drew) := Lib.hid (Kp.refl _ _ _).drew
    have hSyd : wz.heap.size ≤ wz.drew.heap.size := Nat.le_refl _
    generalize wz.drew = yd at *
    refine tkY (v := ?_) 0 19 rfl rfl (by kernel_rfl) (by kernel_rfl) (by kernel_rfl) (fun _ _ _ h => h) (by kernel_rfl) ?_ (by assumption) ?_
    rotate_left
    · intro w hSw; rw [hSd] at hSw; obtain ⟨⟨q0, q1, q2⟩, -⟩ := hSw; go_simp; (try with_reducible rfl)
    try simp only [Act.put, List.setIfInBounds_toArray, List.set_cons_zero, List.set_cons_succ]
    refine tkY (v := ?_) 1 20 rfl rfl (by kernel_rfl) (by kernel_rfl) (by kernel_rfl) (fun _ _ _ h => h) (by kernel_rfl) ?_ (by assumption) ?_
    rotate_left
    · intro w hSw; rw [hSd] at hSw; obtain ⟨⟨q0, q1, q2⟩, -⟩ := hSw; go_simp; (try with_reducible rfl)
    try simp only [Act.put, List.setIfInBounds_toArray, List.set_cons_zero, List.set_cons_succ]
    refine tkY (v := ?_) 2 21 rfl rfl (by kernel_rfl) (by kernel_rfl) (by kernel_rfl) (fun _ _ _ h => h) (by kernel_rfl) ?_ (by assumption) ?_
    rotate_left
    · intro w hSw; rw [hSd] at hSw; obtain ⟨⟨q0, q1, q2⟩, -⟩ := hSw; go_simp; (try with_reducible rfl)
    try simp only [Act.put, List.setIfInBounds_toArray, List.set_cons_zero, List.set_cons_succ]
    refine tkY (v := ?_) 3 22 rfl rfl (by kernel_rfl) (by kernel_rfl) (by kernel_rfl) (fun _ _ _ h => h) (by kernel_rfl) ?_ (by assumption) ?_
    rotate_left
    · intro w hSw; rw [hSd] at hSw; obtain ⟨⟨q0, q1, q2⟩, -⟩ := hSw; go_simp; (try with_reducible rfl)
    try simp only [Act.put, List.setIfInBounds_toArray, List.set_cons_zero, List.set_cons_succ]
    refine tkY (v := ?_) 4 23 rfl rfl (by kernel_rfl) (by kernel_rfl) (by kernel_rfl) (fun _ _ _ h => h) (by kernel_rfl) ?_ (by assumption) ?_
    rotate_left
    · intro w hSw; rw [hSd] at hSw; obtain ⟨⟨q0, q1, q2⟩, -⟩ := hSw; go_simp; (try with_reducible rfl)
    try simp only [Act.put, List.setIfInBounds_toArray, List.set_cons_zero, List.set_cons_succ]
    refine tkY (v := ?_) 5 24 rfl rfl (by kernel_rfl) (by kernel_rfl) (by kernel_rfl) (fun _ _ _ h => h) (by kernel_rfl) ?_ (by assumption) ?_
    rotate_left
    · intro w hSw; rw [hSd] at hSw; obtain ⟨⟨q0, q1, q2⟩, -⟩ := hSw; go_simp; (try with_reducible rfl)
    try simp only [Act.put, List.setIfInBounds_toArray, List.set_cons_zero, List.set_cons_succ]
    refine wpAnyH_ready (rs := [6, 7, 8]) (by kernel_rfl) (by simp) ?_
    refine AllReadyH.cons (o := _) rfl (fun Kq hK => ?_) ?_
    · go_simp
      refine (lowest_any p q (by omega) (by omega) (by omega) (by omega) yd).mono ?_
      rintro e c6yd ⟨rfl, hb⟩
      have hKc6yd := Lib.hid (hKyd.out.call hSyd hb)
      have hSc6yd := Nat.le_trans hSyd hb.size
      clear hb
      try go_simp
      refine hK.out _ _ ?_ (fun hHeld => ?_)
      · exact HS.out _ hKc6yd
      clear hK Kq
      try simp only [Act.put, List.setIfInBounds_toArray, List.set_cons_zero, List.set_cons_succ]
      refine wpAnyH_ready (rs := [7, 8]) (by kernel_rfl) (by simp) ?_
      refine AllReadyH.cons (o := _) rfl (fun Kq hK => ?_) ?_
      · go_simp
        have hOs := heap_alloc_new c6yd (.cells #[.slice none 0 0] 50)
        have hobs := hSc6yd
        have hKz7c6yd := Lib.hid (hKc6yd.out.alloc hSc6yd (.cells #[.slice none 0 0] 50))
        have hSz7c6yd := Nat.le_trans hSc6yd ((Below.refl c6yd.heap.size c6yd).alloc (Nat.le_refl _) (.cells #[.slice none 0 0] 50)).size
        generalize (c6yd.alloc (.cells #[.slice none 0 0] 50)) = z7c6yd at *
        refine hK.out _ _ ?_ (fun hHeld => ?_)
        · exact HS.out _ hKz7c6yd
        clear hK Kq
        try simp only [Act.put, List.setIfInBounds_toArray, List.set_cons_zero, List.set_cons_succ]
        refine wpAnyH_ready (rs := [8]) (by kernel_rfl) (by simp) ?_
        refine AllReadyH.cons (o := _) rfl (fun Kq hK => ?_) AllReadyH.nil
        go_simp
        have hltts := (Array.getElem?_eq_some_iff.1 hOs).1
        have hOt := heap_alloc_new z7c6yd (.cells #[.int .i64 0, .int .i64 0] 26)
        have hobt := hSz7c6yd
        have hOs := keepO ((Below.refl z7c6yd.heap.size z7c6yd).alloc (Nat.le_refl _) (.cells #[.int .i64 0, .int .i64 0] 26)) hOs
        have hKz8z7c6yd := Lib.hid (hKz7c6yd.out.alloc hSz7c6yd (.cells #[.int .i64 0, .int .i64 0] 26))
        have hSz8z7c6yd := Nat.le_trans hSz7c6yd ((Below.refl z7c6yd.heap.size z7c6yd).alloc (Nat.le_refl _) (.cells #[.int .i64 0, .int .i64 0] 26)).size
        generalize (z7c6yd.alloc (.cells #[.int .i64 0, .int .i64 0] 26)) = z8z7c6yd at *
        refine hK.out _ _ ?_ (fun hHeld => ?_)
        · exact HS.out _ hKz8z7c6yd
        clear hK Kq
        try simp only [Act.put, List.setIfInBounds_toArray, List.set_cons_zero, List.set_cons_succ]
        refine wpAnyH_ready (rs := [9]) (by kernel_rfl) (by simp) ?_
        refine AllReadyH.cons (o := _) rfl (fun Kq hK => ?_) AllReadyH.nil
        obtain ⟨e0, g0⟩ := one_facts hOs
        go_simp
        clear e0 g0
        obtain ⟨s9z8z7c6yd, hz_⟩ : ∃ z, z = z8z7c6yd.setCell ⟨c6yd.heap.size, 0, none⟩ (.slice A n c) := ⟨_, rfl⟩
        rw [← hz_]
        have hOs := set_one hOs (.slice A n c)
        rw [← hz_] at hOs
        have hN := (Below.heap_setCell z8z7c6yd ⟨c6yd.heap.size, 0, none⟩ (.slice A n c) (z7c6yd.heap.size) (by simp only; omega)).trans hOt
        rw [← hz_] at hN
        have hOt := hN
        clear hN
        have hKs9z8z7c6yd := Lib.hid (hKz8z7c6yd.out.set (p := ⟨c6yd.heap.size, 0, none⟩) (Or.inr (by simp only; omega)) (.slice A n c))
        rw [← hz_] at hKs9z8z7c6yd
        have hSs9z8z7c6yd := Nat.le_trans hSz8z7c6yd (show z8z7c6yd.heap.size ≤ s9z8z7c6yd.heap.size by rw [hz_]; simp)
        clear hz_
        refine hK.out _ _ ?_ (fun hHeld => ?_)
        · exact HS.out _ hKs9z8z7c6yd
        clear hK Kq
        try simp only [Act.put, List.setIfInBounds_toArray, List.set_cons_zero, List.set_cons_succ]
        refine wpAnyH_ready (rs := [10]) (by kernel_rfl) (by simp) ?_
        refine AllReadyH.cons (o := _) rfl (fun Kq hK => ?_) AllReadyH.nil
        obtain ⟨e0, e1, g0, g1⟩ := two_facts hOt
        go_simp
        clear e0 e1 g0 g1
        obtain ⟨s10s9z8z7c6yd, hz_⟩ : ∃ z, z = (s9z8z7c6yd.setCell ⟨z7c6yd.heap.size, 0, none⟩ (.int .i64 (redu p q).1)).setCell ⟨z7c6yd.heap.size, 1, none⟩ (.int .i64 (redu p q).2) := ⟨_, rfl⟩
        rw [← hz_]
        have hOt := set_two s9z8z7c6yd z7c6yd.heap.size _ (.int .i64 (redu p q).1) (.int .i64 (redu p q).2) _ _ hOt
        rw [← hz_] at hOt
        have hN := (Below.heap_setCell (s9z8z7c6yd.setCell ⟨z7c6yd.heap.size, 0, none⟩ (.int .i64 (redu p q).1)) ⟨z7c6yd.heap.size, 1, none⟩ (.int .i64 (redu p q).2) (c6yd.heap.size) (by simp only; omega)).trans ((Below.heap_setCell s9z8z7c6yd ⟨z7c6yd.heap.size, 0, none⟩ (.int .i64 (redu p q).1) (c6yd.heap.size) (by simp only; omega)).trans hOs)
        rw [← hz_] at hN
        have hOs := hN
        clear hN
        have hKs10s9z8z7c6yd := Lib.hid ((hKs9z8z7c6yd.out.set (p := ⟨z7c6yd.heap.size, 0, none⟩) (Or.inr (by simp only; omega)) (.int .i64 (redu p q).1)).set (p := ⟨z7c6yd.heap.size, 1, none⟩) (Or.inr (by simp only; omega)) (.int .i64 (redu p q).2))
        rw [← hz_] at hKs10s9z8z7c6yd
        have hSs10s9z8z7c6yd := Nat.le_trans hSs9z8z7c6yd (show s9z8z7c6yd.heap.size ≤ s10s9z8z7c6yd.heap.size by rw [hz_]; simp)
        clear hz_
        refine hK.out _ _ ?_ (fun hHeld => ?_)
        · exact HS.out _ hKs10s9z8z7c6yd
        clear hK Kq
        try simp only [Act.put, List.setIfInBounds_toArray, List.set_cons_zero, List.set_cons_succ]
        refine wpAnyH_done (by kernel_rfl) ?_ _
        clear HS HQ hSd
        have hBW := Lib.hid (hKs10s9z8z7c6yd.out.below (Nat.le_refl _) (fun d hd => by cases hd))
        simp only [only]
        go_wp2_with fail
        go_meet
        exact ⟨_, rfl, _, _, rfl, rfl, hOs, hOt, hBW, by omega, by omega⟩
      refine AllReadyH.cons (o := _) rfl (fun Kq hK => ?_) AllReadyH.nil
      go_simp
      have hOt := heap_alloc_new c6yd (.cells #[.int .i64 0, .int .i64 0] 26)
      have hobt := hSc6yd
      have hKz8c6yd := Lib.hid (hKc6yd.out.alloc hSc6yd (.cells #[.int .i64 0, .int .i64 0] 26))
      have hSz8c6yd := Nat.le_trans hSc6yd ((Below.refl c6yd.heap.size c6yd).alloc (Nat.le_refl _) (.cells #[.int .i64 0, .int .i64 0] 26)).size
      generalize (c6yd.alloc (.cells #[.int .i64 0, .int .i64 0] 26)) = z8c6yd at *
      refine hK.out _ _ ?_ (fun hHeld => ?_)
      · exact HS.out _ hKz8c6yd
      clear hK Kq
      try simp only [Act.put, List.setIfInBounds_toArray, List.set_cons_zero, List.set_cons_succ]
      refine wpAnyH_ready (rs := [7]) (by kernel_rfl) (by simp) ?_
      refine AllReadyH.cons (o := _) rfl (fun Kq hK => ?_) AllReadyH.nil
      go_simp
      have hltst := (Array.getElem?_eq_some_iff.1 hOt).1
      have hOs := heap_alloc_new z8c6yd (.cells #[.slice none 0 0] 50)
      have hobs := hSz8c6yd
      have hOt := keepO ((Below.refl z8c6yd.heap.size z8c6yd).alloc (Nat.le_refl _) (.cells #[.slice none 0 0] 50)) hOt
      have hKz7z8c6yd := Lib.hid (hKz8c6yd.out.alloc hSz8c6yd (.cells #[.slice none 0 0] 50))
      have hSz7z8c6yd := Nat.le_trans hSz8c6yd ((Below.refl z8c6yd.heap.size z8c6yd).alloc (Nat.le_refl _) (.cells #[.slice none 0 0] 50)).size
      generalize (z8c6yd.alloc (.cells #[.slice none 0 0] 50)) = z7z8c6yd at *
      refine hK.out _ _ ?_ (fun hHeld => ?_)
      · exact HS.out _ hKz7z8c6yd
      clear hK Kq
      try simp only [Act.put, List.setIfInBounds_toArray, List.set_cons_zero, List.set_cons_succ]
      refine wpAnyH_ready (rs := [9]) (by kernel_rfl) (by simp) ?_
      refine AllReadyH.cons (o := _) rfl (fun Kq hK => ?_) AllReadyH.nil
      obtain ⟨e0, g0⟩ := one_facts hOs
      go_simp
      clear e0 g0
      obtain ⟨s9z7z8c6yd, hz_⟩ : ∃ z, z = z7z8c6yd.setCell ⟨z8c6yd.heap.size, 0, none⟩ (.slice A n c) := ⟨_, rfl⟩
      rw [← hz_]
      have hOs := set_one hOs (.slice A n c)
      rw [← hz_] at hOs
      have hN := (Below.heap_setCell z7z8c6yd ⟨z8c6yd.heap.size, 0, none⟩ (.slice A n c) (c6yd.heap.size) (by simp only; omega)).trans hOt
      rw [← hz_] at hN
      have hOt := hN
      clear hN
      have hKs9z7z8c6yd := Lib.hid (hKz7z8c6yd.out.set (p := ⟨z8c6yd.heap.size, 0, none⟩) (Or.inr (by simp only; omega)) (.slice A n c))
      rw [← hz_] at hKs9z7z8c6yd
      have hSs9z7z8c6yd := Nat.le_trans hSz7z8c6yd (show z7z8c6yd.heap.size ≤ s9z7z8c6yd.heap.size by rw [hz_]; simp)
      clear hz_
      refine hK.out _ _ ?_ (fun hHeld => ?_)
      · exact HS.out _ hKs9z7z8c6yd
      clear hK Kq
      try simp only [Act.put, List.setIfInBounds_toArray, List.set_cons_zero, List.set_cons_succ]
      refine wpAnyH_ready (rs := [10]) (by kernel_rfl) (by simp) ?_
      refine AllReadyH.cons (o := _) rfl (fun Kq hK => ?_) AllReadyH.nil
      obtain ⟨e0, e1, g0, g1⟩ := two_facts hOt
      go_simp
      clear e0 e1 g0 g1
      obtain ⟨s10s9z7z8c6yd, hz_⟩ : ∃ z, z = (s9z7z8c6yd.setCell ⟨c6yd.heap.size, 0, none⟩ (.int .i64 (redu p q).1)).setCell ⟨c6yd.heap.size, 1, none⟩ (.int .i64 (redu p q).2) := ⟨_, rfl⟩
      rw [← hz_]
      have hOt := set_two s9z7z8c6yd c6yd.heap.size _ (.int .i64 (redu p q).1) (.int .i64 (redu p q).2) _ _ hOt
      rw [← hz_] at hOt
      have hN := (Below.heap_setCell (s9z7z8c6yd.setCell ⟨c6yd.heap.size, 0, none⟩ (.int .i64 (redu p q).1)) ⟨c6yd.heap.size, 1, none⟩ (.int .i64 (redu p q).2) (z8c6yd.heap.size) (by simp only; omega)).trans ((Below.heap_setCell s9z7z8c6yd ⟨c6yd.heap.size, 0, none⟩ (.int .i64 (redu p q).1) (z8c6yd.heap.size) (by simp only; omega)).trans hOs)
      rw [← hz_] at hN
      have hOs := hN
      clear hN
      have hKs10s9z7z8c6yd := Lib.hid ((hKs9z7z8c6yd.out.set (p := ⟨c6yd.heap.size, 0, none⟩) (Or.inr (by simp only; omega)) (.int .i64 (redu p q).1)).set (p := ⟨c6yd.heap.size, 1, none⟩) (Or.inr (by simp only; omega)) (.int .i64 (redu p q).2))
      rw [← hz_] at hKs10s9z7z8c6yd
      have hSs10s9z7z8c6yd := Nat.le_trans hSs9z7z8c6yd (show s9z7z8c6yd.heap.size ≤ s10s9z7z8c6yd.heap.size by rw [hz_]; simp)
      clear hz_
      refine hK.out _ _ ?_ (fun hHeld => ?_)
      · exact HS.out _ hKs10s9z7z8c6yd
      clear hK Kq
      try simp only [Act.put, List.setIfInBounds_toArray, List.set_cons_zero, List.set_cons_succ]
      refine wpAnyH_done (by kernel_rfl) ?_ _
      clear HS HQ hSd
      have hBW := Lib.hid (hKs10s9z7z8c6yd.out.below (Nat.le_refl _) (fun d hd => by cases hd))
      simp only [only]
      go_wp2_with fail
      go_meet
      exact ⟨_, rfl, _, _, rfl, rfl, hOs, hOt, hBW, by omega, by omega⟩
    refine AllReadyH.cons (o := _) rfl (fun Kq hK => ?_) ?_
    · go_simp
      have hOs := heap_alloc_new yd (.cells #[.slice none 0 0] 50)
      have hobs := hSyd
      have hKz7yd := Lib.hid (hKyd.out.alloc hSyd (.cells #[.slice none 0 0] 50))
      have hSz7yd := Nat.le_trans hSyd ((Below.refl yd.heap.size yd).alloc (Nat.le_refl _) (.cells #[.slice none 0 0] 50)).size
      generalize (yd.alloc (.cells #[.slice none 0 0] 50)) = z7yd at *
      refine hK.out _ _ ?_ (fun hHeld => ?_)
      · exact HS.out _ hKz7yd
      clear hK Kq
      try simp only [Act.put, List.setIfInBounds_toArray, List.set_cons_zero, List.set_cons_succ]
      refine wpAnyH_ready (rs := [6, 8]) (by kernel_rfl) (by simp) ?_
      refine AllReadyH.cons (o := _) rfl (fun Kq hK => ?_) ?_
      · go_simp
        refine (lowest_any p q (by omega) (by omega) (by omega) (by omega) z7yd).mono ?_
        rintro e c6z7yd ⟨rfl, hb⟩
        have hKc6z7yd := Lib.hid (hKz7yd.out.call hSz7yd hb)
        have hOs := keepO hb hOs
        have hSc6z7yd := Nat.le_trans hSz7yd hb.size
        clear hb
        try go_simp
        refine hK.out _ _ ?_ (fun hHeld => ?_)
        · exact HS.out _ hKc6z7yd
        clear hK Kq
        try simp only [Act.put, List.setIfInBounds_toArray, List.set_cons_zero, List.set_cons_succ]
        refine wpAnyH_ready (rs := [8]) (by kernel_rfl) (by simp) ?_
        refine AllReadyH.cons (o := _) rfl (fun Kq hK => ?_) AllReadyH.nil
        go_simp
        have hltts := (Array.getElem?_eq_some_iff.1 hOs).1
        have hOt := heap_alloc_new c6z7yd (.cells #[.int .i64 0, .int .i64 0] 26)
        have hobt := hSc6z7yd
        have hOs := keepO ((Below.refl c6z7yd.heap.size c6z7yd).alloc (Nat.le_refl _) (.cells #[.int .i64 0, .int .i64 0] 26)) hOs
        have hKz8c6z7yd := Lib.hid (hKc6z7yd.out.alloc hSc6z7yd (.cells #[.int .i64 0, .int .i64 0] 26))
        have hSz8c6z7yd := Nat.le_trans hSc6z7yd ((Below.refl c6z7yd.heap.size c6z7yd).alloc (Nat.le_refl _) (.cells #[.int .i64 0, .int .i64 0] 26)).size
        generalize (c6z7yd.alloc (.cells #[.int .i64 0, .int .i64 0] 26)) = z8c6z7yd at *
        refine hK.out _ _ ?_ (fun hHeld => ?_)
        · exact HS.out _ hKz8c6z7yd
        clear hK Kq
        try simp only [Act.put, List.setIfInBounds_toArray, List.set_cons_zero, List.set_cons_succ]
        refine wpAnyH_ready (rs := [9]) (by kernel_rfl) (by simp) ?_
        refine AllReadyH.cons (o := _) rfl (fun Kq hK => ?_) AllReadyH.nil
        obtain ⟨e0, g0⟩ := one_facts hOs
        go_simp
        clear e0 g0
        obtain ⟨s9z8c6z7yd, hz_⟩ : ∃ z, z = z8c6z7yd.setCell ⟨yd.heap.size, 0, none⟩ (.slice A n c) := ⟨_, rfl⟩
        rw [← hz_]
        have hOs := set_one hOs (.slice A n c)
        rw [← hz_] at hOs
        have hN := (Below.heap_setCell z8c6z7yd ⟨yd.heap.size, 0, none⟩ (.slice A n c) (c6z7yd.heap.size) (by simp only; omega)).trans hOt
        rw [← hz_] at hN
        have hOt := hN
        clear hN
        have hKs9z8c6z7yd := Lib.hid (hKz8c6z7yd.out.set (p := ⟨yd.heap.size, 0, none⟩) (Or.inr (by simp only; omega)) (.slice A n c))
        rw [← hz_] at hKs9z8c6z7yd
        have hSs9z8c6z7yd := Nat.le_trans hSz8c6z7yd (show z8c6z7yd.heap.size ≤ s9z8c6z7yd.heap.size by rw [hz_]; simp)
        clear hz_
        refine hK.out _ _ ?_ (fun hHeld => ?_)
        · exact HS.out _ hKs9z8c6z7yd
        clear hK Kq
        try simp only [Act.put, List.setIfInBounds_toArray, List.set_cons_zero, List.set_cons_succ]
        refine wpAnyH_ready (rs := [10]) (by kernel_rfl) (by simp) ?_
        refine AllReadyH.cons (o := _) rfl (fun Kq hK => ?_) AllReadyH.nil
        obtain ⟨e0, e1, g0, g1⟩ := two_facts hOt
        go_simp
        clear e0 e1 g0 g1
        obtain ⟨s10s9z8c6z7yd, hz_⟩ : ∃ z, z = (s9z8c6z7yd.setCell ⟨c6z7yd.heap.size, 0, none⟩ (.int .i64 (redu p q).1)).setCell ⟨c6z7yd.heap.size, 1, none⟩ (.int .i64 (redu p q).2) := ⟨_, rfl⟩
        rw [← hz_]
        have hOt := set_two s9z8c6z7yd c6z7yd.heap.size _ (.int .i64 (redu p q).1) (.int .i64 (redu p q).2) _ _ hOt
        rw [← hz_] at hOt
        have hN := (Below.heap_setCell (s9z8c6z7yd.setCell ⟨c6z7yd.heap.size, 0, none⟩ (.int .i64 (redu p q).1)) ⟨c6z7yd.heap.size, 1, none⟩ (.int .i64 (redu p q).2) (yd.heap.size) (by simp only; omega)).trans ((Below.heap_setCell s9z8c6z7yd ⟨c6z7yd.heap.size, 0, none⟩ (.int .i64 (redu p q).1) (yd.heap.size) (by simp only; omega)).trans hOs)
        rw [← hz_] at hN
        have hOs := hN
        clear hN
        have hKs10s9z8c6z7yd := Lib.hid ((hKs9z8c6z7yd.out.set (p := ⟨c6z7yd.heap.size, 0, none⟩) (Or.inr (by simp only; omega)) (.int .i64 (redu p q).1)).set (p := ⟨c6z7yd.heap.size, 1, none⟩) (Or.inr (by simp only; omega)) (.int .i64 (redu p q).2))
        rw [← hz_] at hKs10s9z8c6z7yd
        have hSs10s9z8c6z7yd := Nat.le_trans hSs9z8c6z7yd (show s9z8c6z7yd.heap.size ≤ s10s9z8c6z7yd.heap.size by rw [hz_]; simp)
        clear hz_
        refine hK.out _ _ ?_ (fun hHeld => ?_)
        · exact HS.out _ hKs10s9z8c6z7yd
        clear hK Kq
        try simp only [Act.put, List.setIfInBounds_toArray, List.set_cons_zero, List.set_cons_succ]
        refine wpAnyH_done (by kernel_rfl) ?_ _
        clear HS HQ hSd
        have hBW := Lib.hid (hKs10s9z8c6z7yd.out.below (Nat.le_refl _) (fun d hd => by cases hd))
        simp only [only]
        go_wp2_with fail
        go_meet
        exact ⟨_, rfl, _, _, rfl, rfl, hOs, hOt, hBW, by omega, by omega⟩
      refine AllReadyH.cons (o := _) rfl (fun Kq hK => ?_) AllReadyH.nil
      go_simp
      have hltts := (Array.getElem?_eq_some_iff.1 hOs).1
      have hOt := heap_alloc_new z7yd (.cells #[.int .i64 0, .int .i64 0] 26)
      have hobt := hSz7yd
      have hOs := keepO ((Below.refl z7yd.heap.size z7yd).alloc (Nat.le_refl _) (.cells #[.int .i64 0, .int .i64 0] 26)) hOs
      have hKz8z7yd := Lib.hid (hKz7yd.out.alloc hSz7yd (.cells #[.int .i64 0, .int .i64 0] 26))
      have hSz8z7yd := Nat.le_trans hSz7yd ((Below.refl z7yd.heap.size z7yd).alloc (Nat.le_refl _) (.cells #[.int .i64 0, .int .i64 0] 26)).size
      generalize (z7yd.alloc (.cells #[.int .i64 0, .int .i64 0] 26)) = z8z7yd at *
      refine hK.out _ _ ?_ (fun hHeld => ?_)
      · exact HS.out _ hKz8z7yd
      clear hK Kq
      try simp only [Act.put, List.setIfInBounds_toArray, List.set_cons_zero, List.set_cons_succ]
      refine wpAnyH_ready (rs := [6]) (by kernel_rfl) (by simp) ?_
      refine AllReadyH.cons (o := _) rfl (fun Kq hK => ?_) AllReadyH.nil
      go_simp
      refine (lowest_any p q (by omega) (by omega) (by omega) (by omega) z8z7yd).mono ?_
      rintro e c6z8z7yd ⟨rfl, hb⟩
      have hKc6z8z7yd := Lib.hid (hKz8z7yd.out.call hSz8z7yd hb)
      have hOs := keepO hb hOs
      have hOt := keepO hb hOt
      have hSc6z8z7yd := Nat.le_trans hSz8z7yd hb.size
      clear hb
      try go_simp
      refine hK.out _ _ ?_ (fun hHeld => ?_)
      · exact HS.out _ hKc6z8z7yd
      clear hK Kq
      try simp only [Act.put, List.setIfInBounds_toArray, List.set_cons_zero, List.set_cons_succ]
      refine wpAnyH_ready (rs := [9]) (by kernel_rfl) (by simp) ?_
      refine AllReadyH.cons (o := _) rfl (fun Kq hK => ?_) AllReadyH.nil
      obtain ⟨e0, g0⟩ := one_facts hOs
      go_simp
      clear e0 g0
      obtain ⟨s9c6z8z7yd, hz_⟩ : ∃ z, z = c6z8z7yd.setCell ⟨yd.heap.size, 0, none⟩ (.slice A n c) := ⟨_, rfl⟩
      rw [← hz_]
      have hOs := set_one hOs (.slice A n c)
      rw [← hz_] at hOs
      have hN := (Below.heap_setCell c6z8z7yd ⟨yd.heap.size, 0, none⟩ (.slice A n c) (z7yd.heap.size) (by simp only; omega)).trans hOt
      rw [← hz_] at hN
      have hOt := hN
      clear hN
      have hKs9c6z8z7yd := Lib.hid (hKc6z8z7yd.out.set (p := ⟨yd.heap.size, 0, none⟩) (Or.inr (by simp only; omega)) (.slice A n c))
      rw [← hz_] at hKs9c6z8z7yd
      have hSs9c6z8z7yd := Nat.le_trans hSc6z8z7yd (show c6z8z7yd.heap.size ≤ s9c6z8z7yd.heap.size by rw [hz_]; simp)
      clear hz_
      refine hK.out _ _ ?_ (fun hHeld => ?_)
      · exact HS.out _ hKs9c6z8z7yd
      clear hK Kq
      try simp only [Act.put, List.setIfInBounds_toArray, List.set_cons_zero, List.set_cons_succ]
      refine wpAnyH_ready (rs := [10]) (by kernel_rfl) (by simp) ?_
      refine AllReadyH.cons (o := _) rfl (fun Kq hK => ?_) AllReadyH.nil
      obtain ⟨e0, e1, g0, g1⟩ := two_facts hOt
      go_simp
      clear e0 e1 g0 g1
      obtain ⟨s10s9c6z8z7yd, hz_⟩ : ∃ z, z = (s9c6z8z7yd.setCell ⟨z7yd.heap.size, 0, none⟩ (.int .i64 (redu p q).1)).setCell ⟨z7yd.heap.size, 1, none⟩ (.int .i64 (redu p q).2) := ⟨_, rfl⟩
      rw [← hz_]
      have hOt := set_two s9c6z8z7yd z7yd.heap.size _ (.int .i64 (redu p q).1) (.int .i64 (redu p q).2) _ _ hOt
      rw [← hz_] at hOt
      have hN := (Below.heap_setCell (s9c6z8z7yd.setCell ⟨z7yd.heap.size, 0, none⟩ (.int .i64 (redu p q).1)) ⟨z7yd.heap.size, 1, none⟩ (.int .i64 (redu p q).2) (yd.heap.size) (by simp only; omega)).trans ((Below.heap_setCell s9c6z8z7yd ⟨z7yd.heap.size, 0, none⟩ (.int .i64 (redu p q).1) (yd.heap.size) (by simp only; omega)).trans hOs)
      rw [← hz_] at hN
      have hOs := hN
      clear hN
      have hKs10s9c6z8z7yd := Lib.hid ((hKs9c6z8z7yd.out.set (p := ⟨z7yd.heap.size, 0, none⟩) (Or.inr (by simp only; omega)) (.int .i64 (redu p q).1)).set (p := ⟨z7yd.heap.size, 1, none⟩) (Or.inr (by simp only; omega)) (.int .i64 (redu p q).2))
      rw [← hz_] at hKs10s9c6z8z7yd
      have hSs10s9c6z8z7yd := Nat.le_trans hSs9c6z8z7yd (show s9c6z8z7yd.heap.size ≤ s10s9c6z8z7yd.heap.size by rw [hz_]; simp)
      clear hz_
      refine hK.out _ _ ?_ (fun hHeld => ?_)
      · exact HS.out _ hKs10s9c6z8z7yd
      clear hK Kq
      try simp only [Act.put, List.setIfInBounds_toArray, List.set_cons_zero, List.set_cons_succ]
      refine wpAnyH_done (by kernel_rfl) ?_ _
      clear HS HQ hSd
      have hBW := Lib.hid (hKs10s9c6z8z7yd.out.below (Nat.le_refl _) (fun d hd => by cases hd))
      simp only [only]
      go_wp2_with fail
      go_meet
      exact ⟨_, rfl, _, _, rfl, rfl, hOs, hOt, hBW, by omega, by omega⟩
    refine AllReadyH.cons (o := _) rfl (fun Kq hK => ?_) AllReadyH.nil
    go_simp
    have hOt := heap_alloc_new yd (.cells #[.int .i64 0, .int .i64 0] 26)
    have hobt := hSyd
    have hKz8yd := Lib.hid (hKyd.out.alloc hSyd (.cells #[.int .i64 0, .int .i64 0] 26))
    have hSz8yd := Nat.le_trans hSyd ((Below.refl yd.heap.size yd).alloc (Nat.le_refl _) (.cells #[.int .i64 0, .int .i64 0] 26)).size
    generalize (yd.alloc (.cells #[.int .i64 0, .int .i64 0] 26)) = z8yd at *
    refine hK.out _ _ ?_ (fun hHeld => ?_)
    · exact HS.out _ hKz8yd
    clear hK Kq
    try simp only [Act.put, List.setIfInBounds_toArray, List.set_cons_zero, List.set_cons_succ]
    refine wpAnyH_ready (rs := [6, 7]) (by kernel_rfl) (by simp) ?_
    refine AllReadyH.cons (o := _) rfl (fun Kq hK => ?_) ?_
    · go_simp
      refine (lowest_any p q (by omega) (by omega) (by omega) (by omega) z8yd).mono ?_
      rintro e c6z8yd ⟨rfl, hb⟩
      have hKc6z8yd := Lib.hid (hKz8yd.out.call hSz8yd hb)
      have hOt := keepO hb hOt
      have hSc6z8yd := Nat.le_trans hSz8yd hb.size
      clear hb
      try go_simp
      refine hK.out _ _ ?_ (fun hHeld => ?_)
      · exact HS.out _ hKc6z8yd
      clear hK Kq
      try simp only [Act.put, List.setIfInBounds_toArray, List.set_cons_zero, List.set_cons_succ]
      refine wpAnyH_ready (rs := [7]) (by kernel_rfl) (by simp) ?_
      refine AllReadyH.cons (o := _) rfl (fun Kq hK => ?_) AllReadyH.nil
      go_simp
      have hltst := (Array.getElem?_eq_some_iff.1 hOt).1
      have hOs := heap_alloc_new c6z8yd (.cells #[.slice none 0 0] 50)
      have hobs := hSc6z8yd
      have hOt := keepO ((Below.refl c6z8yd.heap.size c6z8yd).alloc (Nat.le_refl _) (.cells #[.slice none 0 0] 50)) hOt
      have hKz7c6z8yd := Lib.hid (hKc6z8yd.out.alloc hSc6z8yd (.cells #[.slice none 0 0] 50))
      have hSz7c6z8yd := Nat.le_trans hSc6z8yd ((Below.refl c6z8yd.heap.size c6z8yd).alloc (Nat.le_refl _) (.cells #[.slice none 0 0] 50)).size
      generalize (c6z8yd.alloc (.cells #[.slice none 0 0] 50)) = z7c6z8yd at *
      refine hK.out _ _ ?_ (fun hHeld => ?_)
      · exact HS.out _ hKz7c6z8yd
      clear hK Kq
      try simp only [Act.put, List.setIfInBounds_toArray, List.set_cons_zero, List.set_cons_succ]
      refine wpAnyH_ready (rs := [9]) (by kernel_rfl) (by simp) ?_
      refine AllReadyH.cons (o := _) rfl (fun Kq hK => ?_) AllReadyH.nil
      obtain ⟨e0, g0⟩ := one_facts hOs
      go_simp
      clear e0 g0
      obtain ⟨s9z7c6z8yd, hz_⟩ : ∃ z, z = z7c6z8yd.setCell ⟨c6z8yd.heap.size, 0, none⟩ (.slice A n c) := ⟨_, rfl⟩
      rw [← hz_]
      have hOs := set_one hOs (.slice A n c)
      rw [← hz_] at hOs
      have hN := (Below.heap_setCell z7c6z8yd ⟨c6z8yd.heap.size, 0, none⟩ (.slice A n c) (yd.heap.size) (by simp only; omega)).trans hOt
      rw [← hz_] at hN
      have hOt := hN
      clear hN
      have hKs9z7c6z8yd := Lib.hid (hKz7c6z8yd.out.set (p := ⟨c6z8yd.heap.size, 0, none⟩) (Or.inr (by simp only; omega)) (.slice A n c))
      rw [← hz_] at hKs9z7c6z8yd
      have hSs9z7c6z8yd := Nat.le_trans hSz7c6z8yd (show z7c6z8yd.heap.size ≤ s9z7c6z8yd.heap.size by rw [hz_]; simp)
      clear hz_
      refine hK.out _ _ ?_ (fun hHeld => ?_)
      · exact HS.out _ hKs9z7c6z8yd
      clear hK Kq
      try simp only [Act.put, List.setIfInBounds_toArray, List.set_cons_zero, List.set_cons_succ]
      refine wpAnyH_ready (rs := [10]) (by kernel_rfl) (by simp) ?_
      refine AllReadyH.cons (o := _) rfl (fun Kq hK => ?_) AllReadyH.nil
      obtain ⟨e0, e1, g0, g1⟩ := two_facts hOt
      go_simp
      clear e0 e1 g0 g1
      obtain ⟨s10s9z7c6z8yd, hz_⟩ : ∃ z, z = (s9z7c6z8yd.setCell ⟨yd.heap.size, 0, none⟩ (.int .i64 (redu p q).1)).setCell ⟨yd.heap.size, 1, none⟩ (.int .i64 (redu p q).2) := ⟨_, rfl⟩
      rw [← hz_]
      have hOt := set_two s9z7c6z8yd yd.heap.size _ (.int .i64 (redu p q).1) (.int .i64 (redu p q).2) _ _ hOt
      rw [← hz_] at hOt
      have hN := (Below.heap_setCell (s9z7c6z8yd.setCell ⟨yd.heap.size, 0, none⟩ (.int .i64 (redu p q).1)) ⟨yd.heap.size, 1, none⟩ (.int .i64 (redu p q).2) (c6z8yd.heap.size) (by simp only; omega)).trans ((Below.heap_setCell s9z7c6z8yd ⟨yd.heap.size, 0, none⟩ (.int .i64 (redu p q).1) (c6z8yd.heap.size) (by simp only; omega)).trans hOs)
      rw [← hz_] at hN
      have hOs := hN
      clear hN
      have hKs10s9z7c6z8yd := Lib.hid ((hKs9z7c6z8yd.out.set (p := ⟨yd.heap.size, 0, none⟩) (Or.inr (by simp only; omega)) (.int .i64 (redu p q).1)).set (p := ⟨yd.heap.size, 1, none⟩) (Or.inr (by simp only; omega)) (.int .i64 (redu p q).2))
      rw [← hz_] at hKs10s9z7c6z8yd
      have hSs10s9z7c6z8yd := Nat.le_trans hSs9z7c6z8yd (show s9z7c6z8yd.heap.size ≤ s10s9z7c6z8yd.heap.size by rw [hz_]; simp)
      clear hz_
      refine hK.out _ _ ?_ (fun hHeld => ?_)
      · exact HS.out _ hKs10s9z7c6z8yd
      clear hK Kq
      try simp only [Act.put, List.setIfInBounds_toArray, List.set_cons_zero, List.set_cons_succ]
      refine wpAnyH_done (by kernel_rfl) ?_ _
      clear HS HQ hSd
      have hBW := Lib.hid (hKs10s9z7c6z8yd.out.below (Nat.le_refl _) (fun d hd => by cases hd))
      simp only [only]
      go_wp2_with fail
      go_meet
      exact ⟨_, rfl, _, _, rfl, rfl, hOs, hOt, hBW, by omega, by omega⟩
    refine AllReadyH.cons (o := _) rfl (fun Kq hK => ?_) AllReadyH.nil
    go_simp
    have hltst := (Array.getElem?_eq_some_iff.1 hOt).1
    have hOs := heap_alloc_new z8yd (.cells #[.slice none 0 0] 50)
    have hobs := hSz8yd
    have hOt := keepO ((Below.refl z8yd.heap.size z8yd).alloc (Nat.le_refl _) (.cells #[.slice none 0 0] 50)) hOt
    have hKz7z8yd := Lib.hid (hKz8yd.out.alloc hSz8yd (.cells #[.slice none 0 0] 50))
    have hSz7z8yd := Nat.le_trans hSz8yd ((Below.refl z8yd.heap.size z8yd).alloc (Nat.le_refl _) (.cells #[.slice none 0 0] 50)).size
    generalize (z8yd.alloc (.cells #[.slice none 0 0] 50)) = z7z8yd at *
    refine hK.out _ _ ?_ (fun hHeld => ?_)
    · exact HS.out _ hKz7z8yd
    clear hK Kq
    try simp only [Act.put, List.setIfInBounds_toArray, List.set_cons_zero, List.set_cons_succ]
    refine wpAnyH_ready (rs := [6]) (by kernel_rfl) (by simp) ?_
    refine AllReadyH.cons (o := _) rfl (fun Kq hK => ?_) AllReadyH.nil
    go_simp
    refine (lowest_any p q (by omega) (by omega) (by omega) (by omega) z7z8yd).mono ?_
    rintro e c6z7z8yd ⟨rfl, hb⟩
    have hKc6z7z8yd := Lib.hid (hKz7z8yd.out.call hSz7z8yd hb)
    have hOt := keepO hb hOt
    have hOs := keepO hb hOs
    have hSc6z7z8yd := Nat.le_trans hSz7z8yd hb.size
    clear hb
    try go_simp
    refine hK.out _ _ ?_ (fun hHeld => ?_)
    · exact HS.out _ hKc6z7z8yd
    clear hK Kq
    try simp only [Act.put, List.setIfInBounds_toArray, List.set_cons_zero, List.set_cons_succ]
    refine wpAnyH_ready (rs := [9]) (by kernel_rfl) (by simp) ?_
    refine AllReadyH.cons (o := _) rfl (fun Kq hK => ?_) AllReadyH.nil
    obtain ⟨e0, g0⟩ := one_facts hOs
    go_simp
    clear e0 g0
    obtain ⟨s9c6z7z8yd, hz_⟩ : ∃ z, z = c6z7z8yd.setCell ⟨z8yd.heap.size, 0, none⟩ (.slice A n c) := ⟨_, rfl⟩
    rw [← hz_]
    have hOs := set_one hOs (.slice A n c)
    rw [← hz_] at hOs
    have hN := (Below.heap_setCell c6z7z8yd ⟨z8yd.heap.size, 0, none⟩ (.slice A n c) (yd.heap.size) (by simp only; omega)).trans hOt
    rw [← hz_] at hN
    have hOt := hN
    clear hN
    have hKs9c6z7z8yd := Lib.hid (hKc6z7z8yd.out.set (p := ⟨z8yd.heap.size, 0, none⟩) (Or.inr (by simp only; omega)) (.slice A n c))
    rw [← hz_] at hKs9c6z7z8yd
    have hSs9c6z7z8yd := Nat.le_trans hSc6z7z8yd (show c6z7z8yd.heap.size ≤ s9c6z7z8yd.heap.size by rw [hz_]; simp)
    clear hz_
    refine hK.out _ _ ?_ (fun hHeld => ?_)
    · exact HS.out _ hKs9c6z7z8yd
    clear hK Kq
    try simp only [Act.put, List.setIfInBounds_toArray, List.set_cons_zero, List.set_cons_succ]
    refine wpAnyH_ready (rs := [10]) (by kernel_rfl) (by simp) ?_
    refine AllReadyH.cons (o := _) rfl (fun Kq hK => ?_) AllReadyH.nil
    obtain ⟨e0, e1, g0, g1⟩ := two_facts hOt
    go_simp
    clear e0 e1 g0 g1
    obtain ⟨s10s9c6z7z8yd, hz_⟩ : ∃ z, z = (s9c6z7z8yd.setCell ⟨yd.heap.size, 0, none⟩ (.int .i64 (redu p q).1)).setCell ⟨yd.heap.size, 1, none⟩ (.int .i64 (redu p q).2) := ⟨_, rfl⟩
    rw [← hz_]
    have hOt := set_two s9c6z7z8yd yd.heap.size _ (.int .i64 (redu p q).1) (.int .i64 (redu p q).2) _ _ hOt
    rw [← hz_] at hOt
    have hN := (Below.heap_setCell (s9c6z7z8yd.setCell ⟨yd.heap.size, 0, none⟩ (.int .i64 (redu p q).1)) ⟨yd.heap.size, 1, none⟩ (.int .i64 (redu p q).2) (z8yd.heap.size) (by simp only; omega)).trans ((Below.heap_setCell s9c6z7z8yd ⟨yd.heap.size, 0, none⟩ (.int .i64 (redu p q).1) (z8yd.heap.size) (by simp only; omega)).trans hOs)
    rw [← hz_] at hN
    have hOs := hN
    clear hN
    have hKs10s9c6z7z8yd := Lib.hid ((hKs9c6z7z8yd.out.set (p := ⟨yd.heap.size, 0, none⟩) (Or.inr (by simp only; omega)) (.int .i64 (redu p q).1)).set (p := ⟨yd.heap.size, 1, none⟩) (Or.inr (by simp only; omega)) (.int .i64 (redu p q).2))
    rw [← hz_] at hKs10s9c6z7z8yd
    have hSs10s9c6z7z8yd := Nat.le_trans hSs9c6z7z8yd (show s9c6z7z8yd.heap.size ≤ s10s9c6z7z8yd.heap.size by rw [hz_]; simp)
    clear hz_
    refine hK.out _ _ ?_ (fun hHeld => ?_)
    · exact HS.out _ hKs10s9c6z7z8yd
    clear hK Kq
    try simp only [Act.put, List.setIfInBounds_toArray, List.set_cons_zero, List.set_cons_succ]
    refine wpAnyH_done (by kernel_rfl) ?_ _
    clear HS HQ hSd
    have hBW := Lib.hid (hKs10s9c6z7z8yd.out.below (Nat.le_refl _) (fun d hd => by cases hd))
    simp only [only]
    go_wp2_with fail
    go_meet
    exact ⟨_, rfl, _, _, rfl, rfl, hOs, hOt, hBW, by omega, by omega⟩

  obtain ⟨wl, rfl, sb, tb, rfl, rfl, hs, ht, hBx, hsb, htb⟩ := ‹∃ wl, wl = _ ∧ _›
  have HE0 : Hid (EK w [] A n c p q sb tb wl) := Lib.hid ⟨below_via hB2.out hB2.out.size hBx.out, fun r hr => (by cases hr), hs, ht, keepO hBx.out h2.out, keepO hBx.out h3.out, hsb, htb⟩
  clear hs ht hBx h0 h1 h2 h3 hB2 hz2
  go_wp2_with fail
  obtain ⟨II, hII⟩ : ∃ II : Act → World → Prop, II = fun a' w' => ∃ (v9 v10 v27 v28 v29 v30 v31 v32 v33 v34 v35 v36 v37 v38 v39 v40 : Value), ∃ (i : Nat) (rs : List Nat), i ≤ 3 ∧ a' = ⟨#[.agg #[.slice A n c], .agg #[.int .i64 p, .int .i64 q], .pointer (some ⟨w.heap.size, 0, none⟩), .pointer (some ⟨w.heap.size + 1, 0, none⟩), .pointer (some ⟨w.heap.size + 1 + 1, 0, none⟩), .pointer (some ⟨w.heap.size + 1 + 1 + 1, 0, none⟩), .int .i64 0, .pointer (some ⟨sb, 0, none⟩), .pointer (some ⟨tb, 0, none⟩), v9, v10, u11, u12, u13, u14, u15, u16, u17, u18, u19, u20, u21, u22, u23, u24, u25, .int .i64 (i : Int), v27, v28, v29, v30, v31, v32, v33, v34, v35, v36, v37, v38, v39, v40], rs.map mkD⟩ ∧ rs.Nodup ∧ (∀ r ∈ rs, w.heap.size + 1 + 1 + 1 < r) ∧ Hid (EK w rs A n c p q sb tb w') ∧ Hid (∀ l ∈ allT n i, ¬ ratL ts l = redu p q) := ⟨_, rfl⟩
  refine wp_loop II (fun a' _ => 3 - (RowKit.intOf (a'.tmps.getD 26 undef)).toNat) ?_ ?_
  · rw [hII]
    exact ⟨_, _, _, _, _, _, _, _, _, _, _, _, _, _, _, _, 0, [], by omega, rfl, List.nodup_nil, fun r hr => by (cases hr), HE0, Lib.hid (fun l hl => by simp [allT] at hl)⟩
  clear HE0
  intro a' wr hI
  have hI2 := hI
  rw [hII] at hI2
  obtain ⟨v9, v10, v27, v28, v29, v30, v31, v32, v33, v34, v35, v36, v37, v38, v39, v40, i, rs, hi, rfl, hnd, hrs, HE, HN⟩ := hI2
  have hIIh := Lib.hid hII
  clear hII hI
  by_cases hi3 : i < 3
  · have hii : (i : Int) < 3 := by omega
    obtain ⟨s0, -⟩ := one_facts HE.out.s
    go_wp2_with fail
    refine (trains_any A n c ((i : Int) + 1) wr).mono ?_
    rintro e z3 ⟨rfl, hz3⟩
    have hb3 : Below wr.heap.size wr z3 := by rw [hz3]; exact ((Below.refl _ _).alloc (Nat.le_refl _) _).alloc (by simp) _
    have hsb3 : Hid (z3.heap[wr.heap.size]? = some (.cells #[.slice A n c] 50 (0, 0))) := by show _ = _; rw [hz3, Below.heap_alloc _ _ _ (by simp)]; exact heap_alloc_new wr _
    have hpb3 : Hid (z3.heap[wr.heap.size + 1]? = some (.cells #[.int .i64 (((i + 1 : Nat)) : Int)] 3 (0, 0))) := by show _ = _; rw [hz3, show ((i + 1 : Nat) : Int) = (i : Int) + 1 by omega]; have := heap_alloc_new (wr.alloc (.cells #[.slice A n c] 50)) (.cells #[.int .i64 ((i : Int) + 1)] 3); simpa using this
    have HE3 := Lib.hid (HE.out.below hb3)
    have hwl : w.heap.size + 1 + 1 + 1 < wr.heap.size := (Array.getElem?_eq_some_iff.1 HE.out.b3).1
    have hwr3 : wr.heap.size + 1 < z3.heap.size := (Array.getElem?_eq_some_iff.1 hpb3.out).1
    have hrs3 : ∀ r ∈ rs, r < z3.heap.size := fun r hr => (Array.getElem?_eq_some_iff.1 (HE3.out.d r hr)).1
    clear hz3 hb3 s0 HE
    go_wp2_with fail
    refine wp_range rfl (by intro args w; kernel_rfl) ?_
    intro fn rc hrc_
    have hrc := Lib.hid hrc_
    clear hrc_
    obtain ⟨W1, hW1⟩ : ∃ W1, W1 = (z3.alloc (.deferred (some []))).alloc (.loop (rc .ready none)) := ⟨_, rfl⟩
    rw [← hW1]
    obtain ⟨lp, hlp⟩ : ∃ lp, lp = z3.heap.size + 1 := ⟨_, rfl⟩
    rw [← hlp]
    have hb12 : Below z3.heap.size z3 W1 := by rw [hW1]; exact ((Below.refl _ _).alloc (Nat.le_refl _) _).alloc (by simp) _
    have hL1 : W1.heap[lp]? = some (.loop (rc .ready none)) := by
      rw [hW1, hlp]; have := World.alloc_heap_new (z3.alloc (.deferred (some []))) (.loop (rc .ready none)); rwa [World.size_alloc] at this
    have hD1 : W1.heap[z3.heap.size]? = some (.deferred (some [])) := by
      rw [hW1]; exact (Below.heap_alloc _ _ _ (by simp)).trans (World.alloc_heap_new z3 _)
    have HE6 := Lib.hid (HE3.out.below hb12)
    have hpb := Lib.hid (keepO hb12 hpb3.out)
    have hsb' := Lib.hid (keepO hb12 hsb3.out)
    have hlp2 : z3.heap.size < lp := by omega
    clear hb12 hW1 HE3 hpb3 hsb3 hlp
    have HJ0 : Hid (ExJ w (z3.heap.size :: rs) lp A n c p q sb tb ts rc [] W1) := Lib.hid ⟨hL1, HE6.out.mark hD1, fun l hl => by simp at hl⟩
    clear hL1 hD1 HE6
    have HRO : RoundT lp [lp, w.heap.size + 1 + 1, w.heap.size + 1 + 1 + 1] (lev n (i + 1)) (ExJ w (z3.heap.size :: rs) lp A n c p q sb tb ts rc) (ExX w (z3.heap.size :: rs) lp p q ts rc) := by
      intro Q L A1 m c1 W hJ hLT hm hr hAl
      obtain ⟨hl1, hEK, hQ⟩ := hJ
      have hlt : lp < W.heap.size := (Array.getElem?_eq_some_iff.1 hl1).1
      have hL2 : (W.putObj lp (.loop { rc .ready none with state := .busy })).heap[lp]? = some (.loop { rc .ready none with state := .busy }) := World.putObj_heap_same hlt
      have hr2 := reads_put hr (by omega) (.loop { rc .ready none with state := .busy }) hl1
      have hE2 := hEK.put hl1 (by omega) (.loop { rc .ready none with state := .busy })
      have hK2 : Kp W.heap.size [lp, w.heap.size + 1 + 1, w.heap.size + 1 + 1 + 1] W (W.putObj lp (.loop { rc .ready none with state := .busy })) := (Kp.refl _ _ _).put _ (Or.inl (by simp))
      have ks : (W.putObj lp (.loop { rc .ready none with state := .busy })).heap.size = W.heap.size := World.putObj_size
      have hbr := run_beginRound (P := Try.prog) hl1 (by rw [hrc.out]; rfl)
      have hy := run_yield (P := Try.prog) (args := #[.slice A1 m c1]) hl1 (by rw [hrc.out]; rfl)
      generalize hW2 : W.putObj lp (.loop { rc .ready none with state := .busy }) = W2 at *
      have hoj : ∀ W3 : World, W3.heap[lp]? = some (.loop { rc .ready none with state := .busy }) → ∀ jump, (Instr.endRound lp jump).run Try.prog W3 = .ok (.bool jump.isNone) (W3.putObj lp (.loop (rc (if jump.isNone then .ready else .done) jump))) := fun W3 h jump => by
        have := run_endRound (P := Try.prog) jump h
        rw [hrc.out] at this ⊢
        exact this
      rw [hrc.out] at hy
      refine ⟨_, _, _, _, hy, roundIn_of_wpIn trivial ?_⟩
      have hoj := Lib.hid hoj
      have HE2 := Lib.hid hE2
      have HL2 := Lib.hid hL2
      have HKW := Lib.hid hK2
      have HR2 := Lib.hid (show Reads W2 W2.heap.size 2 A1 m (prs L) by rw [ks]; exact hr2)
      have hbr := Lib.hid hbr
      have hQ' := Lib.hid hQ
      have hAl' := Lib.hid hAl
      have hlt2 : lp < W2.heap.size := by rw [ks]; exact hlt
      have hOk := okay_of hl hok'.out (valid_lev (by omega) hLT)
      obtain ⟨g0, -⟩ := one_facts HE2.out.s
      obtain ⟨g1, g2, -, -⟩ := two_facts HE2.out.t
      have hls : sb < W2.heap.size := (Array.getElem?_eq_some_iff.1 HE2.out.s).1
      have hlt' : tb < W2.heap.size := (Array.getElem?_eq_some_iff.1 HE2.out.t).1
      have HRt := Lib.hid (fun z (hz : Hid (Kp W2.heap.size [] W2 z)) => ratio_any A A1 n c m c1 hn ts L hOk z (HTd.out z (below_via HE2.out.bel HE2.out.bel.size (hz.out.below (Nat.le_refl _) (fun d hd => by cases hd)))) ((HR2.out.below (hz.out.below (Nat.le_refl _) (fun d hd => by cases hd))).more hz.out.size))
      obtain ⟨bq, hbq_⟩ : ∃ bq, (decide ((redu (numT ts L) (denT ts L)).1 = (redu p q).1) && decide ((redu (numT ts L) (denT ts L)).2 = (redu p q).2)) = bq := ⟨_, rfl⟩
      have heqP := fun w => eqP_any (redu (numT ts L) (denT ts L)).1 (redu (numT ts L) (denT ts L)).2 (redu p q).1 (redu p q).2 w
      rw [hbq_] at heqP
      have hbq : Hid (bq = true ↔ ratL ts L = redu p q) := Lib.hid (by rw [← hbq_, Bool.and_eq_true, decide_eq_true_eq, decide_eq_true_eq]; unfold ratL; exact ⟨fun h => Prod.ext h.1 h.2, fun h => by rw [h]; exact ⟨rfl, rfl⟩⟩)
      have HQ := Lib.hid (fun z (hz : Hid (Kp W2.heap.size [] W2 z)) => (⟨(hz.out.cell (p := ⟨sb, 0, none⟩) hls (by simp)).trans g0, (hz.out.cell (p := ⟨tb, 0, none⟩) hlt' (by simp)).trans g1, (hz.out.cell (p := ⟨tb, 1, none⟩) hlt' (by simp)).trans g2⟩ : z.cell? ⟨sb, 0, none⟩ = some (.slice A n c) ∧ z.cell? ⟨tb, 0, none⟩ = some (.int .i64 (redu p q).1) ∧ z.cell? ⟨tb, 1, none⟩ = some (.int .i64 (redu p q).2)))
      obtain ⟨S4, hSd⟩ : ∃ S : World → Prop, S = fun z => (z.cell? ⟨sb, 0, none⟩ = some (.slice A n c) ∧ z.cell? ⟨tb, 0, none⟩ = some (.int .i64 (redu p q).1) ∧ z.cell? ⟨tb, 1, none⟩ = some (.int .i64 (redu p q).2)) ∧ Hid (Kp W2.heap.size [] W2 z) := ⟨_, rfl⟩
      have HS := Lib.hid (fun z (hz : Hid (Kp W2.heap.size [] W2 z)) => (by rw [hSd]; exact ⟨HQ.out z hz, hz⟩ : S4 z))
      clear hy hEK hQ hl1 hr hr2 hE2 hK2 ks hL2 hW2 hOk hAl g0 g1 g2 hbq_ hlt hls hlt' HJ0 hpb hsb'
      simp only [rcd]
      gi_wp2_with fail
      refine region_in (S := S4) (by kernel_rfl) (by kernel_rfl) ?_ (fun hHeld => ?_)
      · exact HS.out _ (Lib.hid (Kp.refl _ _ _).drew)
      have hKyd : Hid (Kp W2.heap.size [] W2 W2.drew) := Lib.hid (Kp.refl _ _ _).drew
      have hSyd : W2.heap.size ≤ W2.drew.heap.size := Nat.le_refl _
      generalize W2.drew = yd at *
      refine tkY (v := ?_) 0 34 rfl rfl (by kernel_rfl) (by kernel_rfl) (by kernel_rfl) (fun _ _ _ h => h) (by kernel_rfl) ?_ (by assumption) ?_
      rotate_left
      · intro w hSw; rw [hSd] at hSw; obtain ⟨⟨q0, q1, q2⟩, -⟩ := hSw; go_simp; (try with_reducible rfl)
      try simp only [Act.put, List.setIfInBounds_toArray, List.set_cons_zero, List.set_cons_succ]
      refine tkY (v := ?_) 1 35 rfl rfl (by kernel_rfl) (by kernel_rfl) (by kernel_rfl) (fun _ _ _ h => h) (by kernel_rfl) ?_ (by assumption) ?_
      rotate_left
      · intro w hSw; rw [hSd] at hSw; obtain ⟨⟨q0, q1, q2⟩, -⟩ := hSw; go_simp; (try with_reducible rfl)
      try simp only [Act.put, List.setIfInBounds_toArray, List.set_cons_zero, List.set_cons_succ]
      refine tkY (v := ?_) 3 37 rfl rfl (by kernel_rfl) (by kernel_rfl) (by kernel_rfl) (fun _ _ _ h => h) (by kernel_rfl) ?_ (by assumption) ?_
      rotate_left
      · intro w hSw; rw [hSd] at hSw; obtain ⟨⟨q0, q1, q2⟩, -⟩ := hSw; go_simp; (try with_reducible rfl)
      try simp only [Act.put, List.setIfInBounds_toArray, List.set_cons_zero, List.set_cons_succ]
      refine wpAnyH_ready (rs := [2]) (by kernel_rfl) (by simp) ?_
      refine AllReadyH.cons (o := _) rfl (fun Kq hK => ?_) AllReadyH.nil
      go_simp
      refine (HRt.out yd hKyd).mono ?_
      rintro e c2yd ⟨rfl, hb⟩
      have hKc2yd := Lib.hid (hKyd.out.call hSyd hb)
      have hSc2yd := Nat.le_trans hSyd hb.size
      clear hb
      try go_simp
      refine hK.out _ _ ?_ (fun hHeld => ?_)
      · exact HS.out _ hKc2yd
      clear hK Kq
      try simp only [Act.put, List.setIfInBounds_toArray, List.set_cons_zero, List.set_cons_succ]
      refine wpAnyH_ready (rs := [4]) (by kernel_rfl) (by simp) ?_
      refine AllReadyH.cons (o := _) rfl (fun Kq hK => ?_) AllReadyH.nil
      go_simp
      refine hK.out _ _ ?_ (fun hHeld => ?_)
      · exact HS.out _ hKc2yd
      clear hK Kq
      try simp only [Act.put, List.setIfInBounds_toArray, List.set_cons_zero, List.set_cons_succ]
      refine wpAnyH_done (by kernel_rfl) ?_ _
      clear HS HQ hSd heqP HRt
      have HX3 := Lib.hid (hKc2yd.out.below (Nat.le_refl _) (fun d hd => by cases hd))
      have h4 := keepO HX3.out HL2.out
      have HE3x := Lib.hid (HE2.out.below HX3.out)
      have HK3 := Lib.hid (HKW.out.trans ((Kp.of_below (D := [lp, w.heap.size + 1 + 1, w.heap.size + 1 + 1 + 1]) HX3.out).mono HKW.out.size (fun d hd => Or.inl hd)))
      have HR3 := Lib.hid ((HR2.out.below HX3.out).more HX3.out.size)
      have hlt3 : lp < c2yd.heap.size := Nat.lt_of_lt_of_le hlt2 HX3.out.size
      clear hKc2yd hSc2yd HE2 HR2 HL2 HKW
      simp only [only]
      cases bq
      · have hne : ¬ ratL ts L = redu p q := fun e => by have := hbq.out.2 e; cases this
        have h4h := Lib.hid h4
        clear h4 hbq
        gi_wp2
        refine ⟨_, _, hoj.out _ h4h.out none, .inr ⟨rfl, HK3.out.put _ (Or.inl (by simp)), World.putObj_heap_same hlt3, HE3x.out.put h4h.out (by omega) _, fun x hx => ?_⟩⟩
        rcases List.mem_append.1 hx with hx | hx
        · exact hQ'.out x hx
        · rw [List.mem_singleton] at hx; rw [hx]; exact hne
      · have hyes := Lib.hid (hbq.out.1 rfl)
        obtain ⟨q0, f0⟩ := one_facts HE3x.out.b2
        obtain ⟨q1, f1⟩ := one_facts HE3x.out.b3
        have hm2 := Lib.hid (set_both HE3x.out.b2 HE3x.out.b3 (by omega) (.slice A1 m c1) (.int .i64 0))
        have mB := Lib.hid ((HE3x.out.bel.setCell (p := ⟨w.heap.size + 1 + 1, 0, none⟩) (by simp only; omega) (.slice A1 m c1)).setCell (p := ⟨w.heap.size + 1 + 1 + 1, 0, none⟩) (by simp only; omega) (.int .i64 0))
        have mk := Lib.hid (fun (q : Nat) (h1 : q ≠ w.heap.size + 1 + 1) (h2 : q ≠ w.heap.size + 1 + 1 + 1) => (Below.heap_setCell (c2yd.setCell ⟨w.heap.size + 1 + 1, 0, none⟩ (.slice A1 m c1)) ⟨w.heap.size + 1 + 1 + 1, 0, none⟩ (.int .i64 0) q h2).trans (Below.heap_setCell c2yd ⟨w.heap.size + 1 + 1, 0, none⟩ (.slice A1 m c1) q h1))
        have hmk := Lib.hid (fun r (hr : r ∈ z3.heap.size :: rs) => (mk.out r (fun e => by have := HE3x.out.d r hr; rw [e, HE3x.out.b2] at this; cases this) (fun e => by have := HE3x.out.d r hr; rw [e, HE3x.out.b3] at this; cases this)).trans (HE3x.out.d r hr))
        have h4' := Lib.hid ((mk.out lp (by omega) (by omega)).trans h4)
        have hKr := Lib.hid ((HK3.out.set (p := ⟨w.heap.size + 1 + 1, 0, none⟩) (Or.inl (by simp)) (.slice A1 m c1)).set (p := ⟨w.heap.size + 1 + 1 + 1, 0, none⟩) (Or.inl (by simp)) (.int .i64 0))
        have mR : Hid (Reads ((c2yd.setCell ⟨w.heap.size + 1 + 1, 0, none⟩ (.slice A1 m c1)).setCell ⟨w.heap.size + 1 + 1 + 1, 0, none⟩ (.int .i64 0)) c2yd.heap.size 2 A1 m (prs L)) := by
          refine ⟨HR3.out.1, fun hn => ?_⟩
          obtain ⟨b, o, e, hb, hc⟩ := HR3.out.2 hn
          have hlb := hAl'.out _ e hn
          simp only at hlb
          refine ⟨b, o, e, hb, fun j u hu => ?_⟩
          have hcc := hc j u hu
          rw [World.cell?] at hcc ⊢
          rw [mk.out b (by omega) (by omega)]
          exact hcc
        clear h4 hbq HE3x HK3 HR3
        gi_wp2
        refine ⟨_, _, hoj.out _ h4'.out (some .ret), .inl ⟨rfl, hKr.out.put _ (Or.inl (by simp)), ?_⟩⟩
        exact ⟨World.putObj_heap_same (by simpa using hlt3), fun r hr => put_other (hmk.out r hr) (fun e => by have := hmk.out r hr; rw [e, h4'.out] at this; cases this), below_put mB.out _ (by omega),
          ⟨A1, m, c1, put_other hm2.out.1 (by omega), put_other hm2.out.2 (by omega), hm, by have := reads_put mR.out (by omega) (.loop (rc .done (some .ret))) h4'.out; simpa using this, hAl'.out⟩, hQ'.out, hyes.out⟩
    have hds : ∀ d ∈ [lp, w.heap.size + 1 + 1, w.heap.size + 1 + 1 + 1], d ≤ lp := fun d hd => by simp at hd; omega
    refine (trn1_any lp [lp, w.heap.size + 1 + 1, w.heap.size + 1 + 1 + 1] (wr.heap.size + 1) wr.heap.size A n c (i + 1) (lev n (i + 1)) _ _ (fun Q W W' h hb => ⟨keepO hb h.1, h.2.1.below hb, h.2.2⟩) HRO hn (by omega) (fun x hx => by rw [dfs_lev n (i + 1) (by omega)] at hx; exact hx) [] W1 HJ0.out hpb.out (by simp; omega) hsb'.out (by simp; omega) hds (Array.getElem?_eq_some_iff.1 HJ0.out.1).1).mono ?_
    rintro e W3 ⟨hv, -, bb, hout⟩
    refine ⟨hv, ?_⟩
    rw [dfs_lev n (i + 1) (by omega)] at hout
    have hnd' : (z3.heap.size :: rs).Nodup := List.nodup_cons.2 ⟨fun h => by have := hrs3 _ h; omega, hnd⟩
    have hrs' : ∀ r ∈ z3.heap.size :: rs, w.heap.size + 1 + 1 + 1 < r := fun r hr => by
      rcases List.mem_cons.1 hr with rfl | hr
      · omega
      · exact hrs r hr
    clear HRO HJ0 hv hds
    rcases hout with ⟨-, hJ⟩ | ⟨-, M1, L, M2, hM, hJ⟩
    · obtain ⟨hl1, hE, hQ⟩ := hJ
      refine ⟨.ready, none, hl1, by simp, ?_⟩
      show Exit.inBlock _ _ _ _ _
      have HE4 := Lib.hid (hE.put hl1 (by omega) (.loop (rc .exhausted none)))
      obtain ⟨W4, hW4⟩ : ∃ W4, W4 = W3.putObj lp (.loop (rc .exhausted none)) := ⟨_, rfl⟩
      rw [← hW4] at HE4 ⊢
      have hN' : Hid (∀ l ∈ allT n (i + 1), ¬ ratL ts l = redu p q) := Lib.hid (fun l hl => by
        rw [allT_succ] at hl
        rcases List.mem_append.1 hl with h | h
        · exact HN.out l h
        · exact hQ l (by simpa using h))
      clear hl1 hE hQ hW4 HN
      go_wp2
      refine ⟨by rw [hIIh.out]; exact ⟨_, _, _, _, _, _, _, _, _, _, _, _, _, _, _, _, i + 1, z3.heap.size :: rs, by omega, rfl, hnd', hrs', HE4, hN'⟩, ?_⟩
      simp [RowKit.intOf]; omega
    · obtain ⟨hl1, hd, hB, ⟨A1, m, c1, hx1, hx2, hm, hr, hAl⟩, hQ, hyes⟩ := hJ
      refine ⟨.done, some .ret, hl1, by simp, ?_⟩
      show Code.wp _ _ _ _ _
      have hne : ∀ (b : Nat) (x : Obj), W3.heap[b]? = some x → (∀ r, x ≠ .loop r) → (W3.putObj lp (.loop (rc .exhausted (some .ret)))).heap[b]? = some x := fun b x hx hn => put_other hx (fun e => by subst e; rw [hl1] at hx; exact hn _ (Option.some.inj hx).symm)
      have k1 := Lib.hid (hne _ _ hx1 (fun r e => by cases e))
      have k2 := Lib.hid (hne _ _ hx2 (fun r e => by cases e))
      have kd := Lib.hid (fun r hr => hne _ _ (hd r hr) (fun r e => by cases e))
      have kB := Lib.hid (below_put hB (.loop (rc .exhausted (some .ret))) (l := lp) (by omega))
      have kR := Lib.hid (reads_put hr (by omega) (.loop (rc .exhausted (some .ret))) hl1)
      have hF : exF n ts p q = some L := by
        unfold exF
        obtain ⟨R, hR⟩ := allT_split n i hi3
        rw [hR, hM]
        have e : allT n i ++ (M1 ++ L :: M2) ++ R = (allT n i ++ M1) ++ L :: (M2 ++ R) := by simp
        rw [e]
        exact find_at _ _ _ _ (fun x hx => by
          rcases List.mem_append.1 hx with h | h
          · simpa using HN.out x h
          · simpa using hQ x (by simpa using h)) (by simpa using hyes)
      have hE : Hid (exL n ts p q = L ∧ exE n ts p q = 0) := Lib.hid (by rw [hEq.out.1, hEq.out.2, hF]; exact ⟨rfl, rfl⟩)
      obtain ⟨W4, hW4⟩ : ∃ W4, W4 = W3.putObj lp (.loop (rc .exhausted (some .ret))) := ⟨_, rfl⟩
      rw [← hW4] at k1 k2 kd kB kR ⊢
      have hsz : W3.heap.size = W4.heap.size := by rw [hW4]; simp
      rw [hsz] at kR
      clear hne hl1 hd hB hx1 hx2 hr hQ hyes hF hM HN hW4
      go_wp2
      refine leaves_marks (z3.heap.size :: rs) W4 hnd' kd.out fun W' o1 o2 o3 o4 o5 => ?_
      have nb : ∀ r ∈ z3.heap.size :: rs, ∀ x, W4.heap[r]? = some x → x = .deferred (some []) := fun r hr x hx => by rw [kd.out r hr] at hx; exact (Option.some.inj hx).symm
      obtain ⟨q0, -⟩ := one_facts ((o5 _ (fun hm => by have := nb _ hm _ k1.out; cases this)).trans k1.out)
      obtain ⟨q1, -⟩ := one_facts ((o5 _ (fun hm => by have := nb _ hm _ k2.out; cases this)).trans k2.out)
      refine ⟨.tuple #[.slice A1 m c1, .int .i64 0], by simp [results, Try.results8, go_sem, q0, q1], ⟨A1, m, c1, by rw [hE.out.2], hm, ?_⟩, ⟨o1.trans kB.out.os, o2.trans kB.out.tape, o3.trans kB.out.output, by rw [o4]; exact kB.out.size, fun k hk => (o5 k (fun hm => by have := hrs' k hm; omega)).trans (kB.out.block k hk)⟩⟩
      rw [hE.out.1]
      refine ⟨kR.out.1, fun hn => ?_⟩
      obtain ⟨b, o, e, hb, hc⟩ := kR.out.2 hn
      refine ⟨b, o, e, by rw [o4]; exact hb, fun j u hu => ?_⟩
      have hcc := hc j u hu
      rw [World.cell?] at hcc ⊢
      rw [o5 b (fun hm => by rw [kd.out b hm] at hcc; simp at hcc)]
      exact hcc
  · have hii : ¬ (i : Int) < 3 := by omega
    have hi' : i = 3 := by omega
    have hF : exF n ts p q = none := by
      unfold exF
      rw [List.find?_eq_none]
      intro x hx
      have := HN.out x (by rw [hi']; exact hx)
      simpa using this
    have hE : Hid (exL n ts p q = [] ∧ exE n ts p q = 6) := Lib.hid (by rw [hEq.out.1, hEq.out.2, hF]; exact ⟨rfl, rfl⟩)
    obtain ⟨q0, f0⟩ := one_facts HE.out.b2
    obtain ⟨q1, f1⟩ := one_facts HE.out.b3
    have hm2 := Lib.hid (set_both HE.out.b2 HE.out.b3 (by omega) (.slice none 0 0) (.int .i64 6))
    have mB := Lib.hid ((HE.out.bel.setCell (p := ⟨w.heap.size + 1 + 1, 0, none⟩) (by simp only; omega) (.slice none 0 0)).setCell (p := ⟨w.heap.size + 1 + 1 + 1, 0, none⟩) (by simp only; omega) (.int .i64 6))
    have mk := Lib.hid (fun (q : Nat) (h1 : q ≠ w.heap.size + 1 + 1) (h2 : q ≠ w.heap.size + 1 + 1 + 1) => (Below.heap_setCell (wr.setCell ⟨w.heap.size + 1 + 1, 0, none⟩ (.slice none 0 0)) ⟨w.heap.size + 1 + 1 + 1, 0, none⟩ (.int .i64 6) q h2).trans (Below.heap_setCell wr ⟨w.heap.size + 1 + 1, 0, none⟩ (.slice none 0 0) q h1))
    have kd := Lib.hid (fun r (hr : r ∈ rs) => (mk.out r (by have := hrs r hr; omega) (by have := hrs r hr; omega)).trans (HE.out.d r hr))
    clear HE HN hF mk
    go_wp2
    refine leaves_marks rs _ hnd kd.out fun W' o1 o2 o3 o4 o5 => ?_
    obtain ⟨q0, -⟩ := one_facts ((o5 _ (fun hm => by have := hrs _ hm; omega)).trans hm2.out.1)
    obtain ⟨q1, -⟩ := one_facts ((o5 _ (fun hm => by have := hrs _ hm; omega)).trans hm2.out.2)
    refine ⟨.tuple #[.slice none 0 0, .int .i64 6], by simp [results, Try.results8, go_sem, q0, q1], ⟨none, 0, 0, by rw [hE.out.2], by omega, ?_⟩, ⟨o1.trans mB.out.os, o2.trans mB.out.tape, o3.trans mB.out.output, by rw [o4]; exact mB.out.size, fun k hk => (o5 k (fun hm => by have := hrs k hm; omega)).trans (mB.out.block k hk)⟩⟩
    rw [hE.out.1]
    exact ⟨rfl, fun h => absurd h (by omega)⟩
end Go.Proofs.Ytjmegnbjacndpaa
