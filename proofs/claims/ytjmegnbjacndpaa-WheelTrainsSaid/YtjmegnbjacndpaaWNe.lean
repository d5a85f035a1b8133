/-
  The train that is nearest to a wish: the program's walk.
-/
import Derived.Test.YtjmegnbjacndpaaWFi
namespace Go.Proofs.Ytjmegnbjacndpaa
open Go.RowKit Go.Maps Go.Shelf
set_option linter.unusedVariables false
set_option linter.unusedSimpArgs false
attribute [local go_sem] Oper.semAt_some

abbrev Best := Option (List (Int × Int) × Int × Int)
/-- The nearest so far. -/
def bestS (n : Nat) (ts : List Int) (p q : Int) (i : Nat) (Q : List (List (Int × Int))) : Best := ((allT n i ++ Q).map (candL ts p q)).foldl nearF none
theorem bestS_snoc (n : Nat) (ts : List Int) (p q : Int) (i : Nat) (Q : List (List (Int × Int))) (L : List (Int × Int)) : bestS n ts p q i (Q ++ [L]) = nearF (bestS n ts p q i Q) (candL ts p q L) := by
  unfold bestS
  rw [← List.append_assoc, List.map_append, List.foldl_append]
  rfl
theorem bestS_next (n : Nat) (ts : List Int) (p q : Int) (i : Nat) : bestS n ts p q i (lev n (i + 1)) = bestS n ts p q (i + 1) [] := by
  unfold bestS
  rw [allT_succ, List.append_nil]
/-- Where the best one lies. -/
def BestAt (vb : Nat) (b : Best) (W : World) : Prop := match b with
  | none => W.heap[vb]? = some (.cells #[.slice none 0 0] 51 (0, 0))
  | some y => ∃ cb A m c, W.heap[vb]? = some (.cells #[.slice (some ⟨cb, 0, none⟩) 1 1] 51 (0, 0)) ∧ W.heap[cb]? = some (.cells #[.slice A m c, .int .i64 y.2.1, .int .i64 y.2.2] 58 (0, 0)) ∧ m ≤ 3 ∧ Reads W W.heap.size 2 A m (prs y.1) ∧ (∀ r, A = some r → 0 < m → vb < r.block) ∧ FarOk y.2
theorem BestAt.below {vb : Nat} {b : Best} {W W' : World} (h : BestAt vb b W) (hb : Below W.heap.size W W') : BestAt vb b W' := by
  cases b with
  | none => exact keepO hb h
  | some y =>
    obtain ⟨cb, A, m, c, h1, h2, h3, h4, h5, h6⟩ := h
    exact ⟨cb, A, m, c, keepO hb h1, keepO hb h2, h3, (h4.below hb).more hb.size, h5, h6⟩
theorem BestAt.put {vb : Nat} {b : Best} {W : World} (h : BestAt vb b W) {lp : Nat} {r : Loop} (hl : W.heap[lp]? = some (.loop r)) (o : Obj) : BestAt vb b (W.putObj lp o) := by
  have hne : ∀ (b : Nat) (x : Obj), W.heap[b]? = some x → (∀ r, x ≠ .loop r) → (W.putObj lp o).heap[b]? = some x := fun b x hx hn => put_other hx (fun e => by subst e; rw [hl] at hx; exact hn r (Option.some.inj hx).symm)
  cases b with
  | none => exact hne _ _ h (fun r e => by cases e)
  | some y =>
    obtain ⟨cb, A, m, c, h1, h2, h3, h4, h5, h6⟩ := h
    exact ⟨cb, A, m, c, hne _ _ h1 (fun r e => by cases e), hne _ _ h2 (fun r e => by cases e), h3, by have := reads_put h4 (by omega) o hl; simpa using this, h5, h6⟩
def neE (n : Nat) (ts : List Int) (p q P : Int) : Int := if okW n ts = true then if (wishB p q && inB 1 3 [P]) = true then (if (bestS n ts p q P.toNat []).isSome then 0 else 6) else 2 else 100
def neB (n : Nat) (ts : List Int) (p q P : Int) : Best := if okW n ts = true then if (wishB p q && inB 1 3 [P]) = true then bestS n ts p q P.toNat [] else none else none
def neL (b : Best) : List (Int × Int) := match b with | some y => y.1 | none => []
def neF (b : Best) : Int × Int := match b with | some y => y.2 | none => (0, 0)
def NeP (n : Nat) (ts : List Int) (p q P : Int) (w : World) (e : Ending) (w' : World) : Prop := (∃ A1 m c1, e = .returned (.tuple #[.slice A1 m c1, .agg #[.int .i64 (neF (neB n ts p q P)).1, .int .i64 (neF (neB n ts p q P)).2], .int .i64 (neE n ts p q P)]) ∧ m ≤ 3 ∧ Reads w' w'.heap.size 2 A1 m (prs (neL (neB n ts p q P)))) ∧ Below w.heap.size w w'
/-- What stays while the trains are gone through. -/
structure NK (w : World) (rs : List Nat) (A : Option Addr) (n c : Nat) (p q : Int) (sb : Nat) (W : World) : Prop where
  bel : Below w.heap.size w W
  d : ∀ r ∈ rs, W.heap[r]? = some (.deferred (some []))
  s : W.heap[sb]? = some (.cells #[.slice A n c] 50 (0, 0))
  wi : W.heap[w.heap.size + 1]? = some (.cells #[.int .i64 p, .int .i64 q] 26 (0, 0))
  r0 : W.heap[w.heap.size + 1 + 1]? = some (.cells #[.int .i64 0, .int .i64 0] 26 (0, 0))
theorem NK.below {w : World} {rs : List Nat} {A : Option Addr} {n c : Nat} {p q : Int} {sb : Nat} {W W' : World} (h : NK w rs A n c p q sb W) (hb : Below W.heap.size W W') : NK w rs A n c p q sb W' :=
  ⟨below_via h.bel h.bel.size hb, fun r hr => keepO hb (h.d r hr), keepO hb h.s, keepO hb h.wi, keepO hb h.r0⟩
theorem NK.put {w : World} {rs : List Nat} {A : Option Addr} {n c : Nat} {p q : Int} {sb : Nat} {W : World} (h : NK w rs A n c p q sb W) {lp : Nat} {r : Loop} (hl : W.heap[lp]? = some (.loop r)) (hw : w.heap.size ≤ lp) (o : Obj) : NK w rs A n c p q sb (W.putObj lp o) := by
  have hne : ∀ (b : Nat) (x : Obj), W.heap[b]? = some x → (∀ r, x ≠ .loop r) → (W.putObj lp o).heap[b]? = some x := fun b x hx hn => put_other hx (fun e => by subst e; rw [hl] at hx; exact hn r (Option.some.inj hx).symm)
  exact ⟨below_put h.bel o hw, fun r hr => hne _ _ (h.d r hr) (fun r e => by cases e), hne _ _ h.s (fun r e => by cases e), hne _ _ h.wi (fun r e => by cases e), hne _ _ h.r0 (fun r e => by cases e)⟩
theorem NK.mark {w : World} {rs : List Nat} {A : Option Addr} {n c : Nat} {p q : Int} {sb : Nat} {W : World} (h : NK w rs A n c p q sb W) {D : Nat} (hD : W.heap[D]? = some (.deferred (some []))) : NK w (D :: rs) A n c p q sb W :=
  ⟨h.bel, fun r hr => (List.mem_cons.1 hr).elim (fun e => e ▸ hD) (h.d r), h.s, h.wi, h.r0⟩

def NeJ (w : World) (rs : List Nat) (lp : Nat) (A : Option Addr) (n c : Nat) (p q : Int) (sb vb : Nat) (ts : List Int) (i : Nat) (rc : LoopState → Option Code → Loop) (Q : List (List (Int × Int))) (W : World) : Prop :=
  W.heap[lp]? = some (.loop (rc .ready none)) ∧ NK w rs A n c p q sb W ∧ BestAt vb (bestS n ts p q i Q) W ∧ ∀ l ∈ Q, l ∈ lev n (i + 1)
theorem BestAt.lt {vb : Nat} {b : Best} {W : World} (h : BestAt vb b W) : vb < W.heap.size := by
  cases b with
  | none => exact (Array.getElem?_eq_some_iff.1 h).1
  | some y =>
    obtain ⟨cb, A, m, c, h1, h2⟩ := h
    exact (Array.getElem?_eq_some_iff.1 h1).1
/-- A new best one. -/
theorem BestAt.new {vb : Nat} {y : World} {u : Value} {A : Option Addr} {m c : Nat} {L : List (Int × Int)} {f1 f2 : Int} (h : y.heap[vb]? = some (.cells #[u] 51 (0, 0))) (hm : m ≤ 3) (hR : Reads y y.heap.size 2 A m (prs L)) (hA : ∀ r, A = some r → 0 < m → vb < r.block) (hF : FarOk (f1, f2)) :
    BestAt vb (some (L, f1, f2)) ((y.alloc (.cells #[.slice A m c, .int .i64 f1, .int .i64 f2] 58)).setCell ⟨vb, 0, none⟩ (.slice (some ⟨y.heap.size, 0, none⟩) 1 1)) := by
  have hlt : vb < y.heap.size := (Array.getElem?_eq_some_iff.1 h).1
  have hb := (Below.refl y.heap.size y).alloc (Nat.le_refl _) (.cells #[.slice A m c, .int .i64 f1, .int .i64 f2] 58)
  refine ⟨y.heap.size, A, m, c, set_one (keepO hb h) _, (Below.heap_setCell _ _ _ _ (by simp only; omega)).trans (heap_alloc_new y _), hm, ?_, hA, hF⟩
  refine ⟨hR.1, fun hn => ?_⟩
  obtain ⟨b, o, e, hlb, hc⟩ := hR.2 hn
  have hvb := hA _ e hn
  simp only at hvb
  refine ⟨b, o, e, by simp; omega, fun j u hu => ?_⟩
  have hcc := hc j u hu
  have hk : ((y.alloc (.cells #[.slice A m c, .int .i64 f1, .int .i64 f2] 58)).setCell ⟨vb, 0, none⟩ (.slice (some ⟨y.heap.size, 0, none⟩) 1 1)).heap[b]? = y.heap[b]? := (Below.heap_setCell _ _ _ _ (by simp only; omega)).trans (hb.block b hlb)
  rw [World.cell?] at hcc ⊢
  rw [hk]
  exact hcc
theorem NK.setb {w : World} {rs : List Nat} {A : Option Addr} {n c : Nat} {p q : Int} {sb vb : Nat} {W : World} {u : Value} (h : NK w rs A n c p q sb W) (hV : W.heap[vb]? = some (.cells #[u] 51 (0, 0))) (hw : w.heap.size ≤ vb) (v : Value) (o : Obj) : NK w rs A n c p q sb ((W.alloc o).setCell ⟨vb, 0, none⟩ v) := by
  have hb := (Below.refl W.heap.size W).alloc (Nat.le_refl _) o
  have hne : ∀ (b : Nat) (x : Obj), W.heap[b]? = some x → x ≠ .cells #[u] 51 (0, 0) → ((W.alloc o).setCell ⟨vb, 0, none⟩ v).heap[b]? = some x := fun b x hx hn => (Below.heap_setCell _ _ _ _ (fun e => by simp only at e; subst e; rw [hV] at hx; exact hn (Option.some.inj hx).symm)).trans (keepO hb hx)
  exact ⟨(below_via h.bel h.bel.size hb).setCell (by simpa using hw) v, fun r hr => hne _ _ (h.d r hr) (fun e => by cases e), hne _ _ h.s (fun e => by injection e with _ e2; exact absurd e2 (by decide)), hne _ _ h.wi (fun e => by injection e with _ e2; exact absurd e2 (by decide)), hne _ _ h.r0 (fun e => by injection e with _ e2; exact absurd e2 (by decide))⟩
section
variable {P : Program} {ops : Array Oper} {Q : Exit → Act → World → Prop} {n l : Nat} {KK : Act → World → Prop}
theorem upon_inK {o : Oper} {a : Act} {K K' : Act → World → Prop} (h : ∀ a w, K a w → K' a w) : ∀ r : Result Next, o.upon P a K (only KK) r → o.uponIn (Fence.wide.inRound l) n P a K' Q r
  | .ok (.value v) w', g => h _ _ g
  | .ok .skip w', g => h _ _ g
  | .ok (.defer d) w', g => h _ _ g
  | .ok (.enter f args) w', g => ⟨fun e => by simp [Fence.wide] at e, CallsIn.inRound l (callsIn_wide.2 (Calls.mono g (by
      rintro e w'' he
      cases e with
      | returned v => exact h _ _ he
      | panicked c => exact he.elim
      | outgrown => exact (only_out he).elim)))⟩
  | .ok (.row row args) w', g => ⟨fun e => by simp [Fence.wide] at e, fun c cs _ => by
      obtain ⟨v, w2, r, s⟩ := g c cs
      exact ⟨v, w2, h _ _ r, stepsIn_wide.2 s⟩⟩
  | .ok (.round ..) w', g => False.elim g
  | .ok .recover w', g => False.elim g
  | .ok (.spawn ..) w', g => False.elim g
  | .halt h w', g => by cases h <;> exact False.elim g
theorem any_inK (hd : nodef ops = true) (hK : ∀ a w, KK a w → Q .normal a w) : ∀ (fuel : Nat) (listed : Array Bool) (a : Act) (w : World), wpAny P .any ops (only KK) fuel listed a w → wpAnyIn (Fence.wide.inRound l) n P .any ops Q fuel listed a w
  | 0, listed, a, w, h => ⟨h.1, hK _ _ h.2⟩
  | fuel + 1, listed, a, w, h => ⟨fun e => hK _ _ (h.1 e), fun i hi => by
    have g := h.2 i hi
    unfold wpOp at g
    unfold wpOpIn
    cases ho : ops[i]? with
    | none => rw [ho] at g; exact any_inK hd hK fuel _ a w g
    | some o =>
      rw [ho] at g
      simp only at g ⊢
      split
      · rename_i hw
        rw [if_pos hw] at g
        rcases g with g | ⟨-, g⟩
        · refine ⟨fun _ _ => trivial, ?_⟩
          rw [Oper.semAt_plain _ _ _ (nodef_op hd ho)]
          exact upon_inK (fun a w h => any_inK hd hK fuel _ a w h) _ g
        · exact (only_out g).elim
      · rename_i hw
        rw [if_neg hw] at g
        exact ⟨fun _ _ => trivial, any_inK hd hK fuel _ _ w g⟩⟩
/-- A region inside of a round, behind which a fact holds. -/
theorem region_inK (KK : Act → World → Prop) {S : World → Prop} {id : Nat} {a : Act} {w : World} (hm : P.follows .mixedOrders = true) (hd : nodef ops = true) (hS : S w.drew)
    (h : S w.drew → wpAnyH P .any ops (only KK) S ops.size (Array.replicate ops.size false) a w.drew) (hK : ∀ a w, KK a w → Q .normal a w) : (Code.region id ops true).wpIn (Fence.wide.inRound l) n P Q a w :=
  wpIn_region_any hm (any_inK hd hK _ _ _ _ (wpAny_of_held _ _ _ _ (h hS)))
end

set_option maxRecDepth 100000 in
set_option maxHeartbeats 4000000 in
theorem pNearest_any (A : Option Addr) (n c : Nat) (ts : List Int) (hn : n ≤ 20) (p q P : Int) (w : World) (hT : Reads w w.heap.size 1 A n (ints ts)) :
    Calls Try.prog 6 #[.agg #[.slice A n c], .agg #[.int .i64 p, .int .i64 q], .int .i64 P] w (NeP n ts p q P w) := by
  have hl : ts.length = n := by have := hT.len; simpa [ints] using this
  have HCk := Lib.hid (fun z (hz : Below w.heap.size w z) => Check_any A n c ts hn z ((hT.below hz).more hz.size))
  have HWi := Lib.hid (fun z => wished_any p q z)
  have HTd := Lib.hid (fun z (hz : Below w.heap.size w z) => (hT.below hz).more hz.size)
  clear hT
  refine (callsIn_wide (n := 6)).1 ?_
  refine callsIn_of_wp_marks Try.func6 rfl trivial ?_ rfl
  refine wpIn_wide.2 ?_
  simp only [Try.ntmps6, List.size_toArray, List.length_cons, List.length_nil, Nat.reduceAdd, Nat.reduceSub, Array.replicate_succ, Array.replicate_zero, List.push_toArray, List.append_toArray, List.nil_append, List.cons_append]
  obtain ⟨w4, hw4_⟩ : ∃ y, y = ((w.alloc (.cells #[.slice A n c] 24)).alloc (.cells #[.int .i64 p, .int .i64 q] 26)).alloc (.cells #[.int .i64 0, .int .i64 0] 26) := ⟨_, rfl⟩
  have hB4 : Below w.heap.size w w4 := by rw [hw4_]; exact (((Below.refl _ _).alloc (Nat.le_refl _) _).alloc (by simp) _).alloc (by simp; omega) _
  have e1 : (w.alloc (.cells #[.slice A n c] 24)).heap.size = w.heap.size + 1 := by simp
  have e2 : ((w.alloc (.cells #[.slice A n c] 24)).alloc (.cells #[.int .i64 p, .int .i64 q] 26)).heap.size = w.heap.size + 1 + 1 := by simp
  have h0 : w4.heap[w.heap.size]? = some (.cells #[.slice A n c] 24 (0, 0)) := by rw [hw4_, Below.heap_alloc _ _ _ (by omega), Below.heap_alloc _ _ _ (by omega)]; exact heap_alloc_new w _
  have h1 : w4.heap[w.heap.size + 1]? = some (.cells #[.int .i64 p, .int .i64 q] 26 (0, 0)) := by rw [hw4_, Below.heap_alloc _ _ _ (by omega)]; have := heap_alloc_new (w.alloc (.cells #[.slice A n c] 24)) (.cells #[.int .i64 p, .int .i64 q] 26); rw [e1] at this; exact this
  have h2 : w4.heap[w.heap.size + 1 + 1]? = some (.cells #[.int .i64 0, .int .i64 0] 26 (0, 0)) := by rw [hw4_]; have := heap_alloc_new ((w.alloc (.cells #[.slice A n c] 24)).alloc (.cells #[.int .i64 p, .int .i64 q] 26)) (.cells #[.int .i64 0, .int .i64 0] 26); rw [e2] at this; exact this
  have H1 := Lib.hid h1
  have H2 := Lib.hid h2
  have H0 := Lib.hid h0
  have HB4 := Lib.hid hB4
  have hw4 := Lib.hid hw4_
  clear h0 h1 h2 hB4 hw4_ e1 e2
  go_wp2_with fail
  rw [← hw4.out]
  refine (HCk.out w4 HB4.out).mono ?_
  rintro e z1 ⟨rfl, hb1_⟩
  have hB1 := Lib.hid (below_via HB4.out HB4.out.size hb1_)
  have h0 := Lib.hid (keepO hb1_ H0.out)
  have h1 := Lib.hid (keepO hb1_ H1.out)
  have h2 := Lib.hid (keepO hb1_ H2.out)
  clear hb1_ H0 H1 H2 HB4 hw4 HCk
  cases hok : okW n ts
  · rw [show errW false = 100 from rfl]
    have hE : Hid (neB n ts p q P = none ∧ neE n ts p q P = 100) := by show _ ∧ _; unfold neB neE; rw [hok]; exact ⟨rfl, rfl⟩
    obtain ⟨g0, g1, f0, f1⟩ := two_facts h2.out
    have hm := Lib.hid (set_two z1 (w.heap.size + 1 + 1) _ (.int .i64 0) (.int .i64 0) _ _ h2.out)
    have mB := Lib.hid ((hB1.out.setCell (p := ⟨w.heap.size + 1 + 1, 0, none⟩) (by simp only; omega) (.int .i64 0)).setCell (p := ⟨w.heap.size + 1 + 1, 1, none⟩) (by simp only; omega) (.int .i64 0))
    clear hok h0 h1 h2 hB1
    go_wp2
    obtain ⟨q0, q1, -, -⟩ := two_facts hm.out
    refine ⟨.tuple #[.slice none 0 0, .agg #[.int .i64 0, .int .i64 0], .int .i64 100], by simp [results, Try.results6, go_sem, q0, q1], ⟨none, 0, 0, by rw [hE.out.1, hE.out.2]; rfl, by omega, ?_⟩, mB.out⟩
    rw [hE.out.1]
    exact ⟨rfl, fun h => absurd h (by omega)⟩
  rw [show errW true = 0 from rfl]
  obtain ⟨p0, p1, -, -⟩ := two_facts h1.out
  have hok' := Lib.hid hok
  clear hok
  go_wp2_with fail
  refine (HWi.out z1).mono ?_
  rintro e z2 ⟨rfl, hb2_⟩
  have hB2 := Lib.hid (below_via hB1.out hB1.out.size hb2_)
  have h0 := Lib.hid (keepO hb2_ h0.out)
  have h1 := Lib.hid (keepO hb2_ h1.out)
  have h2 := Lib.hid (keepO hb2_ h2.out)
  clear hb2_ hB1 HWi p0 p1
  cases hwi : wishB p q
  · have hE : Hid (neB n ts p q P = none ∧ neE n ts p q P = 2) := by show _ ∧ _; unfold neB neE; rw [hok'.out, hwi]; exact ⟨rfl, rfl⟩
    obtain ⟨g0, g1, f0, f1⟩ := two_facts h2.out
    have hm := Lib.hid (set_two z2 (w.heap.size + 1 + 1) _ (.int .i64 0) (.int .i64 0) _ _ h2.out)
    have mB := Lib.hid ((hB2.out.setCell (p := ⟨w.heap.size + 1 + 1, 0, none⟩) (by simp only; omega) (.int .i64 0)).setCell (p := ⟨w.heap.size + 1 + 1, 1, none⟩) (by simp only; omega) (.int .i64 0))
    clear hwi h0 h1 h2 hB2
    go_wp2
    obtain ⟨q0, q1, -, -⟩ := two_facts hm.out
    refine ⟨.tuple #[.slice none 0 0, .agg #[.int .i64 0, .int .i64 0], .int .i64 2], by simp [results, Try.results6, go_sem, q0, q1], ⟨none, 0, 0, by rw [hE.out.1, hE.out.2]; rfl, by omega, ?_⟩, mB.out⟩
    rw [hE.out.1]
    exact ⟨rfl, fun h => absurd h (by omega)⟩
  have hwi' := Lib.hid hwi
  have hpq : (1 ≤ p ∧ p ≤ 1000) ∧ 1 ≤ q ∧ q ≤ 1000 := by unfold wishB inB at hwi; simp at hwi; omega
  obtain ⟨hp1, hq1⟩ := hpq
  obtain ⟨zb, hzb_⟩ : ∃ zb, zb = z2.alloc (.cells #[.int .i64 P] 3) := ⟨_, rfl⟩
  have HIn := Lib.hid (in_any 1 3 (some ⟨z2.heap.size, 0, none⟩) 1 1 [P] zb (by unfold maxLen; omega) (by rw [hzb_]; exact rdI_one (heap_alloc_new z2 _)))
  have hbz : Below z2.heap.size z2 zb := by rw [hzb_]; exact (Below.refl _ _).alloc (Nat.le_refl _) _
  have hBz := Lib.hid (below_via hB2.out hB2.out.size hbz)
  have h0 := Lib.hid (keepO hbz h0.out)
  have h1 := Lib.hid (keepO hbz h1.out)
  have h2 := Lib.hid (keepO hbz h2.out)
  have hzb := Lib.hid hzb_
  clear hwi hzb_ hB2 hbz
  go_wp2_with fail
  rw [← hzb.out]
  refine HIn.out.mono ?_
  rintro e z3 ⟨rfl, hb3_⟩
  have hB3 := Lib.hid (below_via hBz.out hBz.out.size hb3_)
  have h0 := Lib.hid (keepO hb3_ h0.out)
  have h1 := Lib.hid (keepO hb3_ h1.out)
  have h2 := Lib.hid (keepO hb3_ h2.out)
  clear hb3_ hBz hzb HIn
  cases hin : inB 1 3 [P]
  · have hE : Hid (neB n ts p q P = none ∧ neE n ts p q P = 2) := by show _ ∧ _; unfold neB neE; rw [hok'.out, hwi'.out, hin]; exact ⟨rfl, rfl⟩
    obtain ⟨g0, g1, f0, f1⟩ := two_facts h2.out
    have hm := Lib.hid (set_two z3 (w.heap.size + 1 + 1) _ (.int .i64 0) (.int .i64 0) _ _ h2.out)
    have mB := Lib.hid ((hB3.out.setCell (p := ⟨w.heap.size + 1 + 1, 0, none⟩) (by simp only; omega) (.int .i64 0)).setCell (p := ⟨w.heap.size + 1 + 1, 1, none⟩) (by simp only; omega) (.int .i64 0))
    clear hin h0 h1 h2 hB3
    go_wp2
    obtain ⟨q0, q1, -, -⟩ := two_facts hm.out
    refine ⟨.tuple #[.slice none 0 0, .agg #[.int .i64 0, .int .i64 0], .int .i64 2], by simp [results, Try.results6, go_sem, q0, q1], ⟨none, 0, 0, by rw [hE.out.1, hE.out.2]; rfl, by omega, ?_⟩, mB.out⟩
    rw [hE.out.1]
    exact ⟨rfl, fun h => absurd h (by omega)⟩
  obtain ⟨PP, rfl, hP1, hP3⟩ : ∃ PP : Nat, P = (PP : Int) ∧ 1 ≤ PP ∧ PP ≤ 3 := ⟨P.toNat, by unfold inB at hin; simp at hin; omega, by unfold inB at hin; simp at hin; omega, by unfold inB at hin; simp at hin; omega⟩
  have hEq : Hid (neB n ts p q PP = bestS n ts p q PP [] ∧ neE n ts p q PP = if (bestS n ts p q PP []).isSome then 0 else 6) := by show _ ∧ _; unfold neB neE; rw [hok'.out, hwi'.out, hin]; exact ⟨rfl, rfl⟩
  have hn8 : n ≤ 8 := by have h := hok'.out; unfold okW at h; simp at h; omega
  obtain ⟨g0, -⟩ := one_facts h0.out
  clear hin
  go_wp2_with fail
  have HE0 : Hid (NK w [] A n c p q z3.heap.size ((z3.alloc (.cells #[.slice A n c] 50)).alloc (.cells #[.slice none 0 0] 51))) := by
    have hb : Below z3.heap.size z3 ((z3.alloc (.cells #[.slice A n c] 50)).alloc (.cells #[.slice none 0 0] 51)) := ((Below.refl _ _).alloc (Nat.le_refl _) _).alloc (by simp) _
    refine Lib.hid ⟨below_via hB3.out hB3.out.size hb, fun r hr => (by cases hr), ?_, keepO hb h1.out, keepO hb h2.out⟩
    rw [Below.heap_alloc _ _ _ (by simp)]; exact heap_alloc_new z3 _
  have HO0 : Hid (BestAt (z3.heap.size + 1) (bestS n ts p q 0 []) ((z3.alloc (.cells #[.slice A n c] 50)).alloc (.cells #[.slice none 0 0] 51))) := by
    have : ((z3.alloc (.cells #[.slice A n c] 50)).alloc (.cells #[.slice none 0 0] 51)).heap[z3.heap.size + 1]? = some (.cells #[.slice none 0 0] 51 (0, 0)) := by have := heap_alloc_new (z3.alloc (.cells #[.slice A n c] 50)) (.cells #[.slice none 0 0] 51); simpa using this
    exact Lib.hid (by show BestAt _ (bestS n ts p q 0 []) _; rw [show bestS n ts p q 0 [] = none by simp [bestS, allT]]; exact this)
  have hzz : w.heap.size + 1 + 1 < z3.heap.size := (Array.getElem?_eq_some_iff.1 h2.out).1
  obtain ⟨II, hII⟩ : ∃ II : Act → World → Prop, II = fun a' w' => ∃ (v12 v13 v14 v36 v37 v38 v39 v40 v41 v42 v43 v44 v45 v46 v47 v48 v49 v50 v51 v52 v53 v54 v55 v56 v57 v58 v59 v60 v61 v62 v63 v64 v65 : Value), ∃ (i : Nat) (rs : List Nat), i ≤ PP ∧ a' = ⟨#[.agg #[.slice A n c], .agg #[.int .i64 p, .int .i64 q], .int .i64 (PP : Int), .pointer (some ⟨w.heap.size, 0, none⟩), .pointer (some ⟨w.heap.size + 1, 0, none⟩), undef, .slice none 0 0, .pointer (some ⟨w.heap.size + 1 + 1, 0, none⟩), .int .i64 0, .int .i64 0, .pointer (some ⟨z3.heap.size, 0, none⟩), .pointer (some ⟨z3.heap.size + 1, 0, none⟩), v12, v13, v14, undef, .agg #[.slice A n c], .int .i64 0, .int .i64 0, .bool false, undef, undef, .agg #[.int .i64 p, .int .i64 q], .bool true, .bool false, .bool false, .int .i64 (PP : Int), .slice (some ⟨z2.heap.size, 0, none⟩) 1 1, .bool true, .bool false, .bool false, undef, .agg #[.slice A n c], .agg #[.slice A n c], .int .i64 (PP : Int), .int .i64 (i : Int), v36, v37, v38, v39, v40, v41, v42, v43, v44, v45, v46, v47, v48, v49, v50, v51, v52, v53, v54, v55, v56, v57, v58, v59, v60, v61, v62, v63, v64, v65, undef, undef, undef, undef, undef, undef, undef, undef, undef, undef], rs.map mkD⟩ ∧ rs.Nodup ∧ (∀ r ∈ rs, z3.heap.size + 1 < r) ∧ Hid (NK w rs A n c p q z3.heap.size w') ∧ Hid (BestAt (z3.heap.size + 1) (bestS n ts p q i []) w') := ⟨_, rfl⟩
  refine wp_loop II (fun a' _ => PP - (RowKit.intOf (a'.tmps.getD 35 undef)).toNat) ?_ ?_
  · rw [hII]
    exact ⟨_, _, _, _, _, _, _, _, _, _, _, _, _, _, _, _, _, _, _, _, _, _, _, _, _, _, _, _, _, _, _, _, _, 0, [], by omega, rfl, List.nodup_nil, fun r hr => by (cases hr), HE0, HO0⟩
  clear HE0 HO0 hB3 h0 h1 h2 g0
  intro a' wr hI
  have hI2 := hI
  rw [hII] at hI2
  obtain ⟨v12, v13, v14, v36, v37, v38, v39, v40, v41, v42, v43, v44, v45, v46, v47, v48, v49, v50, v51, v52, v53, v54, v55, v56, v57, v58, v59, v60, v61, v62, v63, v64, v65, i, rs, hi, rfl, hnd, hrs, HE, HO⟩ := hI2
  have hIIh := Lib.hid hII
  clear hII hI
  by_cases hi3 : i < PP
  · have hii : (i : Int) < (PP : Int) := by omega
    obtain ⟨s0, -⟩ := one_facts HE.out.s
    go_wp2_with fail
    go_step3
    go_wp2_with fail
    go_step3
    go_wp2_with fail
    refine (trains_any A n c ((i : Int) + 1) wr).mono ?_
    rintro e z4 ⟨rfl, hz3⟩
    have hb3 : Below wr.heap.size wr z4 := by rw [hz3]; exact ((Below.refl _ _).alloc (Nat.le_refl _) _).alloc (by simp) _
    have hsb3 : Hid (z4.heap[wr.heap.size]? = some (.cells #[.slice A n c] 50 (0, 0))) := by show _ = _; rw [hz3, Below.heap_alloc _ _ _ (by simp)]; exact heap_alloc_new wr _
    have hpb3 : Hid (z4.heap[wr.heap.size + 1]? = some (.cells #[.int .i64 (((i + 1 : Nat)) : Int)] 3 (0, 0))) := by show _ = _; rw [hz3, show ((i + 1 : Nat) : Int) = (i : Int) + 1 by omega]; have := heap_alloc_new (wr.alloc (.cells #[.slice A n c] 50)) (.cells #[.int .i64 ((i : Int) + 1)] 3); simpa using this
    have HE3 := Lib.hid (HE.out.below hb3)
    have HO3 := Lib.hid (HO.out.below hb3)
    have hwl : z3.heap.size + 1 < wr.heap.size := HO.out.lt
    have hwr3 : wr.heap.size + 1 < z4.heap.size := (Array.getElem?_eq_some_iff.1 hpb3.out).1
    have hrs3 : ∀ r ∈ rs, r < z4.heap.size := fun r hr => (Array.getElem?_eq_some_iff.1 (HE3.out.d r hr)).1
    clear hz3 hb3 s0 HE HO
    go_wp2_with fail
    refine wp_range rfl (by intro args w; kernel_rfl) ?_
    intro fn rc hrc_
    have hrc := Lib.hid hrc_
    clear hrc_
    obtain ⟨W1, hW1⟩ : ∃ W1, W1 = (z4.alloc (.deferred (some []))).alloc (.loop (rc .ready none)) := ⟨_, rfl⟩
    rw [← hW1]
    obtain ⟨lp, hlp⟩ : ∃ lp, lp = z4.heap.size + 1 := ⟨_, rfl⟩
    rw [← hlp]
    have hb12 : Below z4.heap.size z4 W1 := by rw [hW1]; exact ((Below.refl _ _).alloc (Nat.le_refl _) _).alloc (by simp) _
    have hL1 : W1.heap[lp]? = some (.loop (rc .ready none)) := by
      rw [hW1, hlp]; have := World.alloc_heap_new (z4.alloc (.deferred (some []))) (.loop (rc .ready none)); rwa [World.size_alloc] at this
    have hD1 : W1.heap[z4.heap.size]? = some (.deferred (some [])) := by
      rw [hW1]; exact (Below.heap_alloc _ _ _ (by simp)).trans (World.alloc_heap_new z4 _)
    have HE6 := Lib.hid (HE3.out.below hb12)
    have HO6 := Lib.hid (HO3.out.below hb12)
    have hpb := Lib.hid (keepO hb12 hpb3.out)
    have hsb' := Lib.hid (keepO hb12 hsb3.out)
    have hlp2 : z4.heap.size < lp := by omega
    clear hb12 hW1 HE3 HO3 hpb3 hsb3 hlp
    have HJ0 : Hid (NeJ w (z4.heap.size :: rs) lp A n c p q z3.heap.size (z3.heap.size + 1) ts i rc [] W1) := Lib.hid ⟨hL1, HE6.out.mark hD1, HO6.out, fun l hl => by simp at hl⟩
    clear hL1 hD1 HE6 HO6
    obtain ⟨JX, hJX⟩ : ∃ JX : List (List (Int × Int)) → List (Int × Int) → World → Prop, JX = fun _ _ _ => False := ⟨_, rfl⟩
    have HRO : RoundT lp [lp, z3.heap.size + 1] (lev n (i + 1)) (NeJ w (z4.heap.size :: rs) lp A n c p q z3.heap.size (z3.heap.size + 1) ts i rc) JX := by
      intro Q L A1 m c1 W hJ hLT hm hr hAl
      obtain ⟨hl1, hEK, hOK, hQ⟩ := hJ
      have hlt : lp < W.heap.size := (Array.getElem?_eq_some_iff.1 hl1).1
      have hL2 : (W.putObj lp (.loop { rc .ready none with state := .busy })).heap[lp]? = some (.loop { rc .ready none with state := .busy }) := World.putObj_heap_same hlt
      have hr2 := reads_put hr (by omega) (.loop { rc .ready none with state := .busy }) hl1
      have hE2 := hEK.put hl1 (by omega) (.loop { rc .ready none with state := .busy })
      have hO2 := hOK.put hl1 (.loop { rc .ready none with state := .busy })
      have hK2 : Kp W.heap.size [lp, z3.heap.size + 1] W (W.putObj lp (.loop { rc .ready none with state := .busy })) := (Kp.refl _ _ _).put _ (Or.inl (by simp))
      have ks : (W.putObj lp (.loop { rc .ready none with state := .busy })).heap.size = W.heap.size := World.putObj_size
      have hbr := run_beginRound (P := Try.prog) hl1 (by rw [hrc.out]; rfl)
      have hy := run_yield (P := Try.prog) (args := #[.slice A1 m c1]) hl1 (by rw [hrc.out]; rfl)
      generalize hW2 : W.putObj lp (.loop { rc .ready none with state := .busy }) = W2 at *
      have hoj : ∀ W3 : World, W3.heap[lp]? = some (.loop { rc .ready none with state := .busy }) → ∀ jump, (Instr.endRound lp jump).run Try.prog W3 = .ok (.bool jump.isNone) (W3.putObj lp (.loop (rc (if jump.isNone then .ready else .done) jump))) := fun W3 h jump => by
        have := run_endRound (P := Try.prog) jump h
        rw [hrc.out] at this ⊢
        exact this
      rw [hrc.out] at hy
      refine ⟨_, _, _, _, hy, roundIn_of_wpIn trivial ?_⟩
      have hoj := Lib.hid hoj
      have HN2 := Lib.hid hE2
      have HB2 := Lib.hid hO2
      have HL2 := Lib.hid hL2
      have HKW := Lib.hid hK2
      have HR2 := Lib.hid (show Reads W2 W2.heap.size 2 A1 m (prs L) by rw [ks]; exact hr2)
      have hbr := Lib.hid hbr
      have hQm : Hid (∀ l ∈ Q ++ [L], l ∈ lev n (i + 1)) := Lib.hid (fun x hx => by
        rcases List.mem_append.1 hx with hx | hx
        · exact hQ x hx
        · rw [List.mem_singleton] at hx; rw [hx]; exact hLT)
      have hAv : Hid (∀ r, A1 = some r → 0 < m → z3.heap.size + 1 < r.block) := Lib.hid (fun r h1 h2 => by have := hAl r h1 h2; omega)
      have hlt2 : lp < W2.heap.size := by rw [ks]; exact hlt
      have hOk := okay_of hl hok'.out (valid_lev (by omega) hLT)
      have hl3 : L.length ≤ 3 := by rw [((lev_mem (i + 1) (by omega) L).1 hLT).1]; omega
      have hrb := rat_bound hOk hl3
      have hFo1 := far_ok hrb hp1 hq1
      obtain ⟨⟨r1, r2⟩, hrr⟩ : ∃ r, ratL ts L = r := ⟨_, rfl⟩
      obtain ⟨⟨f1, f2⟩, hff⟩ : ∃ f, offF (ratL ts L) (p, q) = f := ⟨_, rfl⟩
      have hcand : candL ts p q L = (L, f1, f2) := by unfold candL; rw [hff]
      rw [hff] at hFo1
      have hFo := Lib.hid hFo1
      rw [hrr] at hrb hff
      simp only at hrb
      have HOf : Hid (∀ z : World, Calls Try.prog 18 #[.agg #[.int .i64 r1, .int .i64 r2], .agg #[.int .i64 p, .int .i64 q]] z fun e w' => e = .returned (.agg #[.int .i64 f1, .int .i64 f2]) ∧ Below z.heap.size z w') := Lib.hid (fun z => by have := off_any r1 r2 p q z (by omega) (by omega) hp1 hq1; rw [hff] at this; exact this)
      obtain ⟨g0, -⟩ := one_facts HN2.out.s
      obtain ⟨g1, g2, -, -⟩ := two_facts HN2.out.wi
      have hls : z3.heap.size < W2.heap.size := (Array.getElem?_eq_some_iff.1 HN2.out.s).1
      have hlw : w.heap.size + 1 < W2.heap.size := (Array.getElem?_eq_some_iff.1 HN2.out.wi).1
      have HRt : Hid (∀ z (hz : Hid (Kp W2.heap.size [] W2 z)), Calls Try.prog 19 #[.agg #[.slice A n c], .slice A1 m c1] z fun e w' => e = .returned (.agg #[.int .i64 r1, .int .i64 r2]) ∧ Below z.heap.size z w') := Lib.hid (fun z hz => by
        have := ratio_any A A1 n c m c1 hn ts L hOk z (HTd.out z (below_via HN2.out.bel HN2.out.bel.size (hz.out.below (Nat.le_refl _) (fun d hd => by cases hd)))) ((HR2.out.below (hz.out.below (Nat.le_refl _) (fun d hd => by cases hd))).more hz.out.size)
        rw [show redu (numT ts L) (denT ts L) = (r1, r2) from hrr] at this
        exact this)
      have HQ := Lib.hid (fun z (hz : Hid (Kp W2.heap.size [] W2 z)) => (⟨(hz.out.cell (p := ⟨z3.heap.size, 0, none⟩) hls (by simp)).trans g0, (hz.out.cell (p := ⟨w.heap.size + 1, 0, none⟩) hlw (by simp)).trans g1, (hz.out.cell (p := ⟨w.heap.size + 1, 1, none⟩) hlw (by simp)).trans g2⟩ : z.cell? ⟨z3.heap.size, 0, none⟩ = some (.slice A n c) ∧ z.cell? ⟨w.heap.size + 1, 0, none⟩ = some (.int .i64 p) ∧ z.cell? ⟨w.heap.size + 1, 1, none⟩ = some (.int .i64 q)))
      obtain ⟨S4, hSd⟩ : ∃ S : World → Prop, S = fun z => (z.cell? ⟨z3.heap.size, 0, none⟩ = some (.slice A n c) ∧ z.cell? ⟨w.heap.size + 1, 0, none⟩ = some (.int .i64 p) ∧ z.cell? ⟨w.heap.size + 1, 1, none⟩ = some (.int .i64 q)) ∧ Hid (Kp W2.heap.size [] W2 z) := ⟨_, rfl⟩
      have HS := Lib.hid (fun z (hz : Hid (Kp W2.heap.size [] W2 z)) => (by rw [hSd]; exact ⟨HQ.out z hz, hz⟩ : S4 z))
      have hcandh := Lib.hid hcand
      have hltW : lp < W.heap.size := hlt
      have hW2s : W2.heap.size = W.heap.size := ks
      clear hy hEK hOK hQ hl1 hr hr2 hE2 hO2 hK2 ks hL2 hW2 hOk hAl g0 g1 g2 hlt hls hlw HJ0 hpb hsb' hJX hLT hFo1 hcand hff hrr hrb hl3
      obtain ⟨KK, hKK_⟩ : ∃ KK : Act → World → Prop, KK = fun a' w' => ∃ (y43 y44 y45 y46 y47 y48 y49 : Value), ∃ xb : Nat, a' = ⟨#[.agg #[.slice A n c], .agg #[.int .i64 p, .int .i64 q], .int .i64 (PP : Int), .pointer (some ⟨w.heap.size, 0, none⟩), .pointer (some ⟨w.heap.size + 1, 0, none⟩), undef, .slice none 0 0, .pointer (some ⟨w.heap.size + 1 + 1, 0, none⟩), .int .i64 0, .int .i64 0, .pointer (some ⟨z3.heap.size, 0, none⟩), .pointer (some ⟨z3.heap.size + 1, 0, none⟩), .int .i64 (i : Int), .slice A1 m c1, .pointer (some ⟨xb, 0, none⟩), undef, .agg #[.slice A n c], .int .i64 0, .int .i64 0, .bool false, undef, undef, .agg #[.int .i64 p, .int .i64 q], .bool true, .bool false, .bool false, .int .i64 (PP : Int), .slice (some ⟨z2.heap.size, 0, none⟩) 1 1, .bool true, .bool false, .bool false, undef, .agg #[.slice A n c], .agg #[.slice A n c], .int .i64 (PP : Int), .int .i64 (i : Int), .bool true, .int .i64 (i : Int), .agg #[.slice A n c], .int .i64 (i : Int), .int .i64 ((i : Int) + 1), .func (.func 35) #[] #[.pointer (some ⟨wr.heap.size + 1, 0, none⟩), .pointer (some ⟨wr.heap.size, 0, none⟩)], .slice A1 m c1, y43, y44, y45, y46, y47, y48, y49, v50, v51, v52, v53, v54, v55, v56, v57, v58, v59, v60, v61, v62, v63, v64, v65, undef, undef, undef, undef, undef, undef, undef, undef, undef, undef], []⟩ ∧ w'.heap[xb]? = some (.cells #[.slice A1 m c1, .int .i64 f1, .int .i64 f2] 58 (0, 0)) ∧ W2.heap.size ≤ xb ∧ Hid (Below W2.heap.size W2 w') := ⟨_, rfl⟩
      have hKK := Lib.hid hKK_
      clear hKK_
      simp only [rcd]
      gi_wp2_with fail
      refine region_inK KK (S := S4) (by kernel_rfl) (by kernel_rfl) ?_ (fun hHeld => ?_) ?_
      · exact HS.out _ (Lib.hid (Kp.refl _ _ _).drew)
      have hKyd : Hid (Kp W2.heap.size [] W2 W2.drew) := Lib.hid (Kp.refl _ _ _).drew
      have hSyd : W2.heap.size ≤ W2.drew.heap.size := Nat.le_refl _
      generalize W2.drew = yd at *
      refine tkY (v := ?_) 0 43 rfl rfl (by kernel_rfl) (by kernel_rfl) (by kernel_rfl) (fun _ _ _ h => h) (by kernel_rfl) ?_ (by assumption) ?_
      rotate_left
      · intro w hSw; rw [hSd] at hSw; obtain ⟨⟨q0, q1, q2⟩, -⟩ := hSw; go_simp; (try with_reducible rfl)
      try simp only [Act.put, List.setIfInBounds_toArray, List.set_cons_zero, List.set_cons_succ]
      refine tkY (v := ?_) 1 44 rfl rfl (by kernel_rfl) (by kernel_rfl) (by kernel_rfl) (fun _ _ _ h => h) (by kernel_rfl) ?_ (by assumption) ?_
      rotate_left
      · intro w hSw; rw [hSd] at hSw; obtain ⟨⟨q0, q1, q2⟩, -⟩ := hSw; go_simp; (try with_reducible rfl)
      try simp only [Act.put, List.setIfInBounds_toArray, List.set_cons_zero, List.set_cons_succ]
      refine tkY (v := ?_) 2 45 rfl rfl (by kernel_rfl) (by kernel_rfl) (by kernel_rfl) (fun _ _ _ h => h) (by kernel_rfl) ?_ (by assumption) ?_
      rotate_left
      · intro w hSw; rw [hSd] at hSw; obtain ⟨⟨q0, q1, q2⟩, -⟩ := hSw; go_simp; (try with_reducible rfl)
      try simp only [Act.put, List.setIfInBounds_toArray, List.set_cons_zero, List.set_cons_succ]
      refine tkY (v := ?_) 4 47 rfl rfl (by kernel_rfl) (by kernel_rfl) (by kernel_rfl) (fun _ _ _ h => h) (by kernel_rfl) ?_ (by assumption) ?_
      rotate_left
      · intro w hSw; rw [hSd] at hSw; obtain ⟨⟨q0, q1, q2⟩, -⟩ := hSw; go_simp; (try with_reducible rfl)
      try simp only [Act.put, List.setIfInBounds_toArray, List.set_cons_zero, List.set_cons_succ]
      refine wpAnyH_ready (rs := [3, 7]) (by kernel_rfl) (by simp) ?_
      refine AllReadyH.cons (o := _) rfl (fun Kq hK => ?_) ?_
      · go_simp
        refine (HRt.out yd hKyd).mono ?_
        rintro e c3yd ⟨rfl, hb⟩
        have hKc3yd := Lib.hid (hKyd.out.call hSyd hb)
        have hSc3yd := Nat.le_trans hSyd hb.size
        clear hb
        try go_simp
        refine hK.out _ _ ?_ (fun hHeld => ?_)
        · exact HS.out _ hKc3yd
        clear hK Kq
        try simp only [Act.put, List.setIfInBounds_toArray, List.set_cons_zero, List.set_cons_succ]
        refine wpAnyH_ready (rs := [5, 7]) (by kernel_rfl) (by simp) ?_
        refine AllReadyH.cons (o := _) rfl (fun Kq hK => ?_) ?_
        · go_simp
          refine (HOf.out c3yd).mono ?_
          rintro e c5c3yd ⟨rfl, hb⟩
          have hKc5c3yd := Lib.hid (hKc3yd.out.call hSc3yd hb)
          have hSc5c3yd := Nat.le_trans hSc3yd hb.size
          clear hb
          try go_simp
          refine hK.out _ _ ?_ (fun hHeld => ?_)
          · exact HS.out _ hKc5c3yd
          clear hK Kq
          try simp only [Act.put, List.setIfInBounds_toArray, List.set_cons_zero, List.set_cons_succ]
          refine wpAnyH_ready (rs := [6, 7]) (by kernel_rfl) (by simp) ?_
          refine AllReadyH.cons (o := _) rfl (fun Kq hK => ?_) ?_
          · go_simp
            refine hK.out _ _ ?_ (fun hHeld => ?_)
            · exact HS.out _ hKc5c3yd
            clear hK Kq
            try simp only [Act.put, List.setIfInBounds_toArray, List.set_cons_zero, List.set_cons_succ]
            refine wpAnyH_ready (rs := [7]) (by kernel_rfl) (by simp) ?_
            refine AllReadyH.cons (o := _) rfl (fun Kq hK => ?_) AllReadyH.nil
            go_simp
            have hOx := heap_alloc_new c5c3yd (.cells #[.slice none 0 0, .int .i64 0, .int .i64 0] 58)
            have hobx := hSc5c3yd
            have hKz7c5c3yd := Lib.hid (hKc5c3yd.out.alloc hSc5c3yd (.cells #[.slice none 0 0, .int .i64 0, .int .i64 0] 58))
            have hSz7c5c3yd := Nat.le_trans hSc5c3yd ((Below.refl c5c3yd.heap.size c5c3yd).alloc (Nat.le_refl _) (.cells #[.slice none 0 0, .int .i64 0, .int .i64 0] 58)).size
            generalize (c5c3yd.alloc (.cells #[.slice none 0 0, .int .i64 0, .int .i64 0] 58)) = z7c5c3yd at *
            refine hK.out _ _ ?_ (fun hHeld => ?_)
            · exact HS.out _ hKz7c5c3yd
            clear hK Kq
            try simp only [Act.put, List.setIfInBounds_toArray, List.set_cons_zero, List.set_cons_succ]
            refine wpAnyH_ready (rs := [8]) (by kernel_rfl) (by simp) ?_
            refine AllReadyH.cons (o := _) rfl (fun Kq hK => ?_) AllReadyH.nil
            obtain ⟨e0, e1, e2, g0, g1, g2⟩ := three_facts hOx
            go_simp
            clear e0 e1 e2 g0 g1 g2
            obtain ⟨s8z7c5c3yd, hz_⟩ : ∃ z, z = ((z7c5c3yd.setCell ⟨c5c3yd.heap.size, 0, none⟩ (.slice A1 m c1)).setCell ⟨c5c3yd.heap.size, 1, none⟩ (.int .i64 f1)).setCell ⟨c5c3yd.heap.size, 2, none⟩ (.int .i64 f2) := ⟨_, rfl⟩
            rw [← hz_]
            have hOx := set_three z7c5c3yd c5c3yd.heap.size _ (.slice A1 m c1) (.int .i64 f1) (.int .i64 f2) _ _ _ hOx
            rw [← hz_] at hOx
            have hKs8z7c5c3yd := Lib.hid (((hKz7c5c3yd.out.set (p := ⟨c5c3yd.heap.size, 0, none⟩) (Or.inr (by simp only; omega)) (.slice A1 m c1)).set (p := ⟨c5c3yd.heap.size, 1, none⟩) (Or.inr (by simp only; omega)) (.int .i64 f1)).set (p := ⟨c5c3yd.heap.size, 2, none⟩) (Or.inr (by simp only; omega)) (.int .i64 f2))
            rw [← hz_] at hKs8z7c5c3yd
            have hSs8z7c5c3yd := Nat.le_trans hSz7c5c3yd (show z7c5c3yd.heap.size ≤ s8z7c5c3yd.heap.size by rw [hz_]; simp)
            clear hz_
            refine hK.out _ _ ?_ (fun hHeld => ?_)
            · exact HS.out _ hKs8z7c5c3yd
            clear hK Kq
            try simp only [Act.put, List.setIfInBounds_toArray, List.set_cons_zero, List.set_cons_succ]
            refine wpAnyH_done (by kernel_rfl) ?_ _
            have hBW := Lib.hid (hKs8z7c5c3yd.out.below (Nat.le_refl _) (fun d hd => by cases hd))
            show KK _ _
            rw [hKK.out]
            exact ⟨_, _, _, _, _, _, _, _, rfl, hOx, hobx, hBW⟩
          refine AllReadyH.cons (o := _) rfl (fun Kq hK => ?_) AllReadyH.nil
          go_simp
          have hOx := heap_alloc_new c5c3yd (.cells #[.slice none 0 0, .int .i64 0, .int .i64 0] 58)
          have hobx := hSc5c3yd
          have hKz7c5c3yd := Lib.hid (hKc5c3yd.out.alloc hSc5c3yd (.cells #[.slice none 0 0, .int .i64 0, .int .i64 0] 58))
          have hSz7c5c3yd := Nat.le_trans hSc5c3yd ((Below.refl c5c3yd.heap.size c5c3yd).alloc (Nat.le_refl _) (.cells #[.slice none 0 0, .int .i64 0, .int .i64 0] 58)).size
          generalize (c5c3yd.alloc (.cells #[.slice none 0 0, .int .i64 0, .int .i64 0] 58)) = z7c5c3yd at *
          refine hK.out _ _ ?_ (fun hHeld => ?_)
          · exact HS.out _ hKz7c5c3yd
          clear hK Kq
          try simp only [Act.put, List.setIfInBounds_toArray, List.set_cons_zero, List.set_cons_succ]
          refine wpAnyH_ready (rs := [6]) (by kernel_rfl) (by simp) ?_
          refine AllReadyH.cons (o := _) rfl (fun Kq hK => ?_) AllReadyH.nil
          go_simp
          refine hK.out _ _ ?_ (fun hHeld => ?_)
          · exact HS.out _ hKz7c5c3yd
          clear hK Kq
          try simp only [Act.put, List.setIfInBounds_toArray, List.set_cons_zero, List.set_cons_succ]
          refine wpAnyH_ready (rs := [8]) (by kernel_rfl) (by simp) ?_
          refine AllReadyH.cons (o := _) rfl (fun Kq hK => ?_) AllReadyH.nil
          obtain ⟨e0, e1, e2, g0, g1, g2⟩ := three_facts hOx
          go_simp
          clear e0 e1 e2 g0 g1 g2
          obtain ⟨s8z7c5c3yd, hz_⟩ : ∃ z, z = ((z7c5c3yd.setCell ⟨c5c3yd.heap.size, 0, none⟩ (.slice A1 m c1)).setCell ⟨c5c3yd.heap.size, 1, none⟩ (.int .i64 f1)).setCell ⟨c5c3yd.heap.size, 2, none⟩ (.int .i64 f2) := ⟨_, rfl⟩
          rw [← hz_]
          have hOx := set_three z7c5c3yd c5c3yd.heap.size _ (.slice A1 m c1) (.int .i64 f1) (.int .i64 f2) _ _ _ hOx
          rw [← hz_] at hOx
          have hKs8z7c5c3yd := Lib.hid (((hKz7c5c3yd.out.set (p := ⟨c5c3yd.heap.size, 0, none⟩) (Or.inr (by simp only; omega)) (.slice A1 m c1)).set (p := ⟨c5c3yd.heap.size, 1, none⟩) (Or.inr (by simp only; omega)) (.int .i64 f1)).set (p := ⟨c5c3yd.heap.size, 2, none⟩) (Or.inr (by simp only; omega)) (.int .i64 f2))
          rw [← hz_] at hKs8z7c5c3yd
          have hSs8z7c5c3yd := Nat.le_trans hSz7c5c3yd (show z7c5c3yd.heap.size ≤ s8z7c5c3yd.heap.size by rw [hz_]; simp)
          clear hz_
          refine hK.out _ _ ?_ (fun hHeld => ?_)
          · exact HS.out _ hKs8z7c5c3yd
          clear hK Kq
          try simp only [Act.put, List.setIfInBounds_toArray, List.set_cons_zero, List.set_cons_succ]
          refine wpAnyH_done (by kernel_rfl) ?_ _
          have hBW := Lib.hid (hKs8z7c5c3yd.out.below (Nat.le_refl _) (fun d hd => by cases hd))
          show KK _ _
          rw [hKK.out]
          exact ⟨_, _, _, _, _, _, _, _, rfl, hOx, hobx, hBW⟩
        refine AllReadyH.cons (o := _) rfl (fun Kq hK => ?_) AllReadyH.nil
        go_simp
        have hOx := heap_alloc_new c3yd (.cells #[.slice none 0 0, .int .i64 0, .int .i64 0] 58)
        have hobx := hSc3yd
        have hKz7c3yd := Lib.hid (hKc3yd.out.alloc hSc3yd (.cells #[.slice none 0 0, .int .i64 0, .int .i64 0] 58))
        have hSz7c3yd := Nat.le_trans hSc3yd ((Below.refl c3yd.heap.size c3yd).alloc (Nat.le_refl _) (.cells #[.slice none 0 0, .int .i64 0, .int .i64 0] 58)).size
        generalize (c3yd.alloc (.cells #[.slice none 0 0, .int .i64 0, .int .i64 0] 58)) = z7c3yd at *
        refine hK.out _ _ ?_ (fun hHeld => ?_)
        · exact HS.out _ hKz7c3yd
        clear hK Kq
        try simp only [Act.put, List.setIfInBounds_toArray, List.set_cons_zero, List.set_cons_succ]
        refine wpAnyH_ready (rs := [5]) (by kernel_rfl) (by simp) ?_
        refine AllReadyH.cons (o := _) rfl (fun Kq hK => ?_) AllReadyH.nil
        go_simp
        refine (HOf.out z7c3yd).mono ?_
        rintro e c5z7c3yd ⟨rfl, hb⟩
        have hKc5z7c3yd := Lib.hid (hKz7c3yd.out.call hSz7c3yd hb)
        have hOx := keepO hb hOx
        have hSc5z7c3yd := Nat.le_trans hSz7c3yd hb.size
        clear hb
        try go_simp
        refine hK.out _ _ ?_ (fun hHeld => ?_)
        · exact HS.out _ hKc5z7c3yd
        clear hK Kq
        try simp only [Act.put, List.setIfInBounds_toArray, List.set_cons_zero, List.set_cons_succ]
        refine wpAnyH_ready (rs := [6]) (by kernel_rfl) (by simp) ?_
        refine AllReadyH.cons (o := _) rfl (fun Kq hK => ?_) AllReadyH.nil
        go_simp
        refine hK.out _ _ ?_ (fun hHeld => ?_)
        · exact HS.out _ hKc5z7c3yd
        clear hK Kq
        try simp only [Act.put, List.setIfInBounds_toArray, List.set_cons_zero, List.set_cons_succ]
        refine wpAnyH_ready (rs := [8]) (by kernel_rfl) (by simp) ?_
        refine AllReadyH.cons (o := _) rfl (fun Kq hK => ?_) AllReadyH.nil
        obtain ⟨e0, e1, e2, g0, g1, g2⟩ := three_facts hOx
        go_simp
        clear e0 e1 e2 g0 g1 g2
        obtain ⟨s8c5z7c3yd, hz_⟩ : ∃ z, z = ((c5z7c3yd.setCell ⟨c3yd.heap.size, 0, none⟩ (.slice A1 m c1)).setCell ⟨c3yd.heap.size, 1, none⟩ (.int .i64 f1)).setCell ⟨c3yd.heap.size, 2, none⟩ (.int .i64 f2) := ⟨_, rfl⟩
        rw [← hz_]
        have hOx := set_three c5z7c3yd c3yd.heap.size _ (.slice A1 m c1) (.int .i64 f1) (.int .i64 f2) _ _ _ hOx
        rw [← hz_] at hOx
        have hKs8c5z7c3yd := Lib.hid (((hKc5z7c3yd.out.set (p := ⟨c3yd.heap.size, 0, none⟩) (Or.inr (by simp only; omega)) (.slice A1 m c1)).set (p := ⟨c3yd.heap.size, 1, none⟩) (Or.inr (by simp only; omega)) (.int .i64 f1)).set (p := ⟨c3yd.heap.size, 2, none⟩) (Or.inr (by simp only; omega)) (.int .i64 f2))
        rw [← hz_] at hKs8c5z7c3yd
        have hSs8c5z7c3yd := Nat.le_trans hSc5z7c3yd (show c5z7c3yd.heap.size ≤ s8c5z7c3yd.heap.size by rw [hz_]; simp)
        clear hz_
        refine hK.out _ _ ?_ (fun hHeld => ?_)
        · exact HS.out _ hKs8c5z7c3yd
        clear hK Kq
        try simp only [Act.put, List.setIfInBounds_toArray, List.set_cons_zero, List.set_cons_succ]
        refine wpAnyH_done (by kernel_rfl) ?_ _
        have hBW := Lib.hid (hKs8c5z7c3yd.out.below (Nat.le_refl _) (fun d hd => by cases hd))
        show KK _ _
        rw [hKK.out]
        exact ⟨_, _, _, _, _, _, _, _, rfl, hOx, hobx, hBW⟩
      refine AllReadyH.cons (o := _) rfl (fun Kq hK => ?_) AllReadyH.nil
      go_simp
      have hOx := heap_alloc_new yd (.cells #[.slice none 0 0, .int .i64 0, .int .i64 0] 58)
      have hobx := hSyd
      have hKz7yd := Lib.hid (hKyd.out.alloc hSyd (.cells #[.slice none 0 0, .int .i64 0, .int .i64 0] 58))
      have hSz7yd := Nat.le_trans hSyd ((Below.refl yd.heap.size yd).alloc (Nat.le_refl _) (.cells #[.slice none 0 0, .int .i64 0, .int .i64 0] 58)).size
      generalize (yd.alloc (.cells #[.slice none 0 0, .int .i64 0, .int .i64 0] 58)) = z7yd at *
      refine hK.out _ _ ?_ (fun hHeld => ?_)
      · exact HS.out _ hKz7yd
      clear hK Kq
      try simp only [Act.put, List.setIfInBounds_toArray, List.set_cons_zero, List.set_cons_succ]
      refine wpAnyH_ready (rs := [3]) (by kernel_rfl) (by simp) ?_
      refine AllReadyH.cons (o := _) rfl (fun Kq hK => ?_) AllReadyH.nil
      go_simp
      refine (HRt.out z7yd hKz7yd).mono ?_
      rintro e c3z7yd ⟨rfl, hb⟩
      have hKc3z7yd := Lib.hid (hKz7yd.out.call hSz7yd hb)
      have hOx := keepO hb hOx
      have hSc3z7yd := Nat.le_trans hSz7yd hb.size
      clear hb
      try go_simp
      refine hK.out _ _ ?_ (fun hHeld => ?_)
      · exact HS.out _ hKc3z7yd
      clear hK Kq
      try simp only [Act.put, List.setIfInBounds_toArray, List.set_cons_zero, List.set_cons_succ]
      refine wpAnyH_ready (rs := [5]) (by kernel_rfl) (by simp) ?_
      refine AllReadyH.cons (o := _) rfl (fun Kq hK => ?_) AllReadyH.nil
      go_simp
      refine (HOf.out c3z7yd).mono ?_
      rintro e c5c3z7yd ⟨rfl, hb⟩
      have hKc5c3z7yd := Lib.hid (hKc3z7yd.out.call hSc3z7yd hb)
      have hOx := keepO hb hOx
      have hSc5c3z7yd := Nat.le_trans hSc3z7yd hb.size
      clear hb
      try go_simp
      refine hK.out _ _ ?_ (fun hHeld => ?_)
      · exact HS.out _ hKc5c3z7yd
      clear hK Kq
      try simp only [Act.put, List.setIfInBounds_toArray, List.set_cons_zero, List.set_cons_succ]
      refine wpAnyH_ready (rs := [6]) (by kernel_rfl) (by simp) ?_
      refine AllReadyH.cons (o := _) rfl (fun Kq hK => ?_) AllReadyH.nil
      go_simp
      refine hK.out _ _ ?_ (fun hHeld => ?_)
      · exact HS.out _ hKc5c3z7yd
      clear hK Kq
      try simp only [Act.put, List.setIfInBounds_toArray, List.set_cons_zero, List.set_cons_succ]
      refine wpAnyH_ready (rs := [8]) (by kernel_rfl) (by simp) ?_
      refine AllReadyH.cons (o := _) rfl (fun Kq hK => ?_) AllReadyH.nil
      obtain ⟨e0, e1, e2, g0, g1, g2⟩ := three_facts hOx
      go_simp
      clear e0 e1 e2 g0 g1 g2
      obtain ⟨s8c5c3z7yd, hz_⟩ : ∃ z, z = ((c5c3z7yd.setCell ⟨yd.heap.size, 0, none⟩ (.slice A1 m c1)).setCell ⟨yd.heap.size, 1, none⟩ (.int .i64 f1)).setCell ⟨yd.heap.size, 2, none⟩ (.int .i64 f2) := ⟨_, rfl⟩
      rw [← hz_]
      have hOx := set_three c5c3z7yd yd.heap.size _ (.slice A1 m c1) (.int .i64 f1) (.int .i64 f2) _ _ _ hOx
      rw [← hz_] at hOx
      have hKs8c5c3z7yd := Lib.hid (((hKc5c3z7yd.out.set (p := ⟨yd.heap.size, 0, none⟩) (Or.inr (by simp only; omega)) (.slice A1 m c1)).set (p := ⟨yd.heap.size, 1, none⟩) (Or.inr (by simp only; omega)) (.int .i64 f1)).set (p := ⟨yd.heap.size, 2, none⟩) (Or.inr (by simp only; omega)) (.int .i64 f2))
      rw [← hz_] at hKs8c5c3z7yd
      have hSs8c5c3z7yd := Nat.le_trans hSc5c3z7yd (show c5c3z7yd.heap.size ≤ s8c5c3z7yd.heap.size by rw [hz_]; simp)
      clear hz_
      refine hK.out _ _ ?_ (fun hHeld => ?_)
      · exact HS.out _ hKs8c5c3z7yd
      clear hK Kq
      try simp only [Act.put, List.setIfInBounds_toArray, List.set_cons_zero, List.set_cons_succ]
      refine wpAnyH_done (by kernel_rfl) ?_ _
      have hBW := Lib.hid (hKs8c5c3z7yd.out.below (Nat.le_refl _) (fun d hd => by cases hd))
      show KK _ _
      rw [hKK.out]
      exact ⟨_, _, _, _, _, _, _, _, rfl, hOx, hobx, hBW⟩
      clear HS HQ hSd HRt HOf
      intro a' y hy
      rw [hKK.out] at hy
      obtain ⟨y43, y44, y45, y46, y47, y48, y49, xb, rfl, hXo, hxb, hBy⟩ := hy
      clear hKK
      have HRy := Lib.hid ((HR2.out.below hBy.out).more hBy.out.size)
      have HNy := Lib.hid (HN2.out.below hBy.out)
      have HBy := Lib.hid (HB2.out.below hBy.out)
      have HKy : Hid (Kp W.heap.size [lp, z3.heap.size + 1] W y) := Lib.hid (HKW.out.trans ((Kp.of_below hBy.out).mono HKW.out.size (fun d hd => Or.inl hd)))
      have h4y := Lib.hid (keepO hBy.out HL2.out)
      have hlty : lp < y.heap.size := Nat.lt_of_lt_of_le hlt2 hBy.out.size
      have hlx : xb < y.heap.size := (Array.getElem?_eq_some_iff.1 hXo).1
      clear hBy HN2 HB2 HL2 HKW HR2
      cases hBB : bestS n ts p q i Q with
      | none =>
        have hB := Lib.hid hBB
        rw [hBB] at HBy
        have hV0 : y.heap[z3.heap.size + 1]? = some (.cells #[.slice none 0 0] 51 (0, 0)) := HBy.out
        have hnx : Hid (nearF (bestS n ts p q i Q) (candL ts p q L) = some (L, f1, f2)) := Lib.hid (by rw [hBB, hcandh.out]; rfl)
        obtain ⟨g0, -⟩ := one_facts hV0
        have hlv : z3.heap.size + 1 < y.heap.size := (Array.getElem?_eq_some_iff.1 hV0).1
        have HQ5 := Lib.hid (fun z (hz : Hid (Kp y.heap.size [] y z)) => ((hz.out.cell (p := ⟨z3.heap.size + 1, 0, none⟩) hlv (by simp)).trans g0))
        obtain ⟨S5, hSd5⟩ : ∃ S : World → Prop, S = fun z => (z.cell? ⟨z3.heap.size + 1, 0, none⟩ = some (.slice none 0 0)) ∧ Hid (Kp y.heap.size [] y z) := ⟨_, rfl⟩
        have HS5 := Lib.hid (fun z (hz : Hid (Kp y.heap.size [] y z)) => (by rw [hSd5]; exact ⟨HQ5.out z hz, hz⟩ : S5 z))
        clear g0 HBy hBB
        gi_wp2_with fail
        refine region_in (S := S5) (by kernel_rfl) (by kernel_rfl) ?_ (fun hHeld => ?_)
        · exact HS5.out _ (Lib.hid (Kp.refl _ _ _).drew)
        have hKyd : Hid (Kp y.heap.size [] y y.drew) := Lib.hid (Kp.refl _ _ _).drew
        have hSyd : y.heap.size ≤ y.drew.heap.size := Nat.le_refl _
        generalize y.drew = yd at *
        refine tkY (v := ?_) 0 50 rfl rfl (by kernel_rfl) (by kernel_rfl) (by kernel_rfl) (fun _ _ _ h => h) (by kernel_rfl) ?_ (by assumption) ?_
        rotate_left
        · intro w hSw; rw [hSd5] at hSw; obtain ⟨q0, -⟩ := hSw; go_simp; (try with_reducible rfl)
        try simp only [Act.put, List.setIfInBounds_toArray, List.set_cons_zero, List.set_cons_succ]
        refine tkY (v := ?_) 1 51 rfl rfl (by kernel_rfl) (by kernel_rfl) (by kernel_rfl) (fun _ _ _ h => h) (by kernel_rfl) ?_ (by assumption) ?_
        rotate_left
        · intro w hSw; rw [hSd5] at hSw; obtain ⟨q0, -⟩ := hSw; go_simp; (try with_reducible rfl)
        try simp only [Act.put, List.setIfInBounds_toArray, List.set_cons_zero, List.set_cons_succ]
        refine tkY (v := ?_) 2 52 rfl rfl (by kernel_rfl) (by kernel_rfl) (by kernel_rfl) (fun _ _ _ h => h) (by kernel_rfl) ?_ (by assumption) ?_
        rotate_left
        · intro w hSw; rw [hSd5] at hSw; obtain ⟨q0, -⟩ := hSw; go_simp; (try with_reducible rfl)
        try simp only [Act.put, List.setIfInBounds_toArray, List.set_cons_zero, List.set_cons_succ]
        refine tkY (v := ?_) 3 53 rfl rfl (by kernel_rfl) (by kernel_rfl) (by kernel_rfl) (fun _ _ _ h => h) (by kernel_rfl) ?_ (by assumption) ?_
        rotate_left
        · intro w hSw; rw [hSd5] at hSw; obtain ⟨q0, -⟩ := hSw; go_simp; (try with_reducible rfl)
        try simp only [Act.put, List.setIfInBounds_toArray, List.set_cons_zero, List.set_cons_succ]
        refine tkN 4 54 rfl rfl (by kernel_rfl) (by kernel_rfl) (by kernel_rfl) (fun _ _ _ h => h) (by kernel_rfl) (by assumption) ?_
        try simp only [Act.put, List.setIfInBounds_toArray, List.set_cons_zero, List.set_cons_succ]
        refine tkN 5 55 rfl rfl (by kernel_rfl) (by kernel_rfl) (by kernel_rfl) (fun _ _ _ h => h) (by kernel_rfl) (by assumption) ?_
        try simp only [Act.put, List.setIfInBounds_toArray, List.set_cons_zero, List.set_cons_succ]
        refine tkN 6 56 rfl rfl (by kernel_rfl) (by kernel_rfl) (by kernel_rfl) (fun _ _ _ h => h) (by kernel_rfl) (by assumption) ?_
        try simp only [Act.put, List.setIfInBounds_toArray, List.set_cons_zero, List.set_cons_succ]
        refine tkN 7 57 rfl rfl (by kernel_rfl) (by kernel_rfl) (by kernel_rfl) (fun _ _ _ h => h) (by kernel_rfl) (by assumption) ?_
        try simp only [Act.put, List.setIfInBounds_toArray, List.set_cons_zero, List.set_cons_succ]
        refine tkN 8 58 rfl rfl (by kernel_rfl) (by kernel_rfl) (by kernel_rfl) (fun _ _ _ h => h) (by kernel_rfl) (by assumption) ?_
        try simp only [Act.put, List.setIfInBounds_toArray, List.set_cons_zero, List.set_cons_succ]
        refine tkN 9 59 rfl rfl (by kernel_rfl) (by kernel_rfl) (by kernel_rfl) (fun _ _ _ h => h) (by kernel_rfl) (by assumption) ?_
        try simp only [Act.put, List.setIfInBounds_toArray, List.set_cons_zero, List.set_cons_succ]
        refine tkN 10 60 rfl rfl (by kernel_rfl) (by kernel_rfl) (by kernel_rfl) (fun _ _ _ h => h) (by kernel_rfl) (by assumption) ?_
        try simp only [Act.put, List.setIfInBounds_toArray, List.set_cons_zero, List.set_cons_succ]
        refine tkN 11 61 rfl rfl (by kernel_rfl) (by kernel_rfl) (by kernel_rfl) (fun _ _ _ h => h) (by kernel_rfl) (by assumption) ?_
        try simp only [Act.put, List.setIfInBounds_toArray, List.set_cons_zero, List.set_cons_succ]
        refine tkY (v := ?_) 12 62 rfl rfl (by kernel_rfl) (by kernel_rfl) (by kernel_rfl) (fun _ _ _ h => h) (by kernel_rfl) ?_ (by assumption) ?_
        rotate_left
        · intro w hSw; rw [hSd5] at hSw; obtain ⟨q0, -⟩ := hSw; go_simp; (try with_reducible rfl)
        try simp only [Act.put, List.setIfInBounds_toArray, List.set_cons_zero, List.set_cons_succ]
        refine wpAnyH_done (by kernel_rfl) ?_ _
        clear HS5 HQ5 hSd5
        have hB5 := Lib.hid (hKyd.out.below (Nat.le_refl _) (fun d hd => by cases hd))
        have hX5 := Lib.hid (keepO hB5.out hXo)
        have hVB := Lib.hid (keepO hB5.out hV0)
        have HR5 := Lib.hid ((HRy.out.below hB5.out).more hB5.out.size)
        have HN5 := Lib.hid (HNy.out.below hB5.out)
        have HK5 := Lib.hid (HKy.out.trans ((Kp.of_below hB5.out).mono HKy.out.size (fun d hd => Or.inl hd)))
        have h45 := Lib.hid (keepO hB5.out h4y.out)
        have hsz5 : y.heap.size ≤ yd.heap.size := hB5.out.size
        clear hKyd hSyd hB5 HRy HNy HKy h4y hXo hV0
        simp only [only]
        have hw5 := Lib.hid (three_facts hX5.out)
        obtain ⟨x0, x1, x2, -, -, -⟩ := hw5.out
        obtain ⟨e0, f0⟩ := one_facts (keepO ((Below.refl yd.heap.size yd).alloc (Nat.le_refl _) (.cells #[.slice A1 m c1, .int .i64 f1, .int .i64 f2] 58)) hVB.out)
        have HBn := Lib.hid (BestAt.new (c := c1) hVB.out hm HR5.out hAv.out hFo.out)
        have HNn := Lib.hid (HN5.out.setb hVB.out (by omega) (.slice (some ⟨yd.heap.size, 0, none⟩) 1 1) (.cells #[.slice A1 m c1, .int .i64 f1, .int .i64 f2] 58))
        have HKn := Lib.hid ((HK5.out.alloc HK5.out.size (.cells #[.slice A1 m c1, .int .i64 f1, .int .i64 f2] 58)).set (p := ⟨z3.heap.size + 1, 0, none⟩) (Or.inl (by simp)) (.slice (some ⟨yd.heap.size, 0, none⟩) 1 1))
        have h4n := Lib.hid ((Below.heap_setCell (yd.alloc (.cells #[.slice A1 m c1, .int .i64 f1, .int .i64 f2] 58)) ⟨z3.heap.size + 1, 0, none⟩ (.slice (some ⟨yd.heap.size, 0, none⟩) 1 1) lp (by simp only; omega)).trans (keepO ((Below.refl yd.heap.size yd).alloc (Nat.le_refl _) _) h45.out))
        clear hw5 hX5 hVB HR5 HN5 HK5 h45
        gi_wp2
        refine ⟨_, _, hoj.out _ h4n.out none, .inr ⟨rfl, HKn.out.put _ (Or.inl (by simp)), World.putObj_heap_same (by simp; omega), HNn.out.put h4n.out (by omega) _, ?_, hQm.out⟩⟩
        rw [bestS_snoc, hnx.out]
        exact HBn.out.put h4n.out _
      | some yy =>
        obtain ⟨yl, b1, b2⟩ := yy
        have hB := Lib.hid hBB
        rw [hBB] at HBy
        obtain ⟨cb, Ab, mb, cbb, hV0, hC0, -, -, -, hFb⟩ := HBy.out
        simp only at hC0 hFb
        obtain ⟨cj, hcj⟩ : ∃ cj, cj = cmpJ (b1 * f2) (f1 * b2) := ⟨_, rfl⟩
        have HNr : Hid (∀ z : World, Calls Try.prog 20 #[.agg #[.int .i64 b1, .int .i64 b2], .agg #[.int .i64 f1, .int .i64 f2]] z fun e w' => e = .returned (.int .i64 cj) ∧ Below z.heap.size z w') := Lib.hid (fun z => by rw [hcj]; exact nearer_any b1 b2 f1 f2 z (far_mul hFb hFo.out) (far_mul hFo.out hFb))
        obtain ⟨bb, hbb⟩ : ∃ bb, decide (cj ≤ 0) = bb := ⟨_, rfl⟩
        have hnx1 : Hid (bb = false → nearF (some (yl, b1, b2)) (candL ts p q L) = some (L, f1, f2)) := Lib.hid (fun e => by
          rw [hcandh.out]
          show (if f1 * b2 < b1 * f2 then _ else _) = _
          rw [if_pos]
          rw [e, decide_eq_false_iff_not, hcj] at hbb
          unfold cmpJ at hbb
          split at hbb
          · omega
          · split at hbb
            · assumption
            · omega)
        have hnx2 : Hid (bb = true → nearF (some (yl, b1, b2)) (candL ts p q L) = some (yl, b1, b2)) := Lib.hid (fun e => by
          rw [hcandh.out]
          show (if f1 * b2 < b1 * f2 then _ else _) = _
          rw [if_neg]
          rw [e, decide_eq_true_eq, hcj] at hbb
          unfold cmpJ at hbb
          split at hbb
          · omega
          · split at hbb
            · omega
            · assumption)
        obtain ⟨g0, -⟩ := one_facts hV0
        obtain ⟨-, g1, g2, -, -, -⟩ := three_facts hC0
        obtain ⟨-, g3, g4, -, -, -⟩ := three_facts hXo
        have hlv : z3.heap.size + 1 < y.heap.size := (Array.getElem?_eq_some_iff.1 hV0).1
        have hlc : cb < y.heap.size := (Array.getElem?_eq_some_iff.1 hC0).1
        have HQ5 := Lib.hid (fun z (hz : Hid (Kp y.heap.size [] y z)) => (⟨(hz.out.cell (p := ⟨z3.heap.size + 1, 0, none⟩) hlv (by simp)).trans g0, (hz.out.cell (p := ⟨cb, 1, none⟩) hlc (by simp)).trans g1, (hz.out.cell (p := ⟨cb, 2, none⟩) hlc (by simp)).trans g2, (hz.out.cell (p := ⟨xb, 1, none⟩) hlx (by simp)).trans g3, (hz.out.cell (p := ⟨xb, 2, none⟩) hlx (by simp)).trans g4⟩ : z.cell? ⟨z3.heap.size + 1, 0, none⟩ = some (.slice (some ⟨cb, 0, none⟩) 1 1) ∧ z.cell? ⟨cb, 1, none⟩ = some (.int .i64 b1) ∧ z.cell? ⟨cb, 2, none⟩ = some (.int .i64 b2) ∧ z.cell? ⟨xb, 1, none⟩ = some (.int .i64 f1) ∧ z.cell? ⟨xb, 2, none⟩ = some (.int .i64 f2)))
        obtain ⟨S5, hSd5⟩ : ∃ S : World → Prop, S = fun z => (z.cell? ⟨z3.heap.size + 1, 0, none⟩ = some (.slice (some ⟨cb, 0, none⟩) 1 1) ∧ z.cell? ⟨cb, 1, none⟩ = some (.int .i64 b1) ∧ z.cell? ⟨cb, 2, none⟩ = some (.int .i64 b2) ∧ z.cell? ⟨xb, 1, none⟩ = some (.int .i64 f1) ∧ z.cell? ⟨xb, 2, none⟩ = some (.int .i64 f2)) ∧ Hid (Kp y.heap.size [] y z) := ⟨_, rfl⟩
        have HS5 := Lib.hid (fun z (hz : Hid (Kp y.heap.size [] y z)) => (by rw [hSd5]; exact ⟨HQ5.out z hz, hz⟩ : S5 z))
        clear g0 g1 g2 g3 g4 hBB hcj hC0 hFb
        gi_wp2_with fail
        refine region_in (S := S5) (by kernel_rfl) (by kernel_rfl) ?_ (fun hHeld => ?_)
        · exact HS5.out _ (Lib.hid (Kp.refl _ _ _).drew)
        have hKyd : Hid (Kp y.heap.size [] y y.drew) := Lib.hid (Kp.refl _ _ _).drew
        have hSyd : y.heap.size ≤ y.drew.heap.size := Nat.le_refl _
        generalize y.drew = yd at *
        refine tkY (v := ?_) 0 50 rfl rfl (by kernel_rfl) (by kernel_rfl) (by kernel_rfl) (fun _ _ _ h => h) (by kernel_rfl) ?_ (by assumption) ?_
        rotate_left
        · intro w hSw; rw [hSd5] at hSw; obtain ⟨⟨q0, q1, q2, q3, q4⟩, -⟩ := hSw; go_simp; (try with_reducible rfl)
        try simp only [Act.put, List.setIfInBounds_toArray, List.set_cons_zero, List.set_cons_succ]
        refine tkY (v := ?_) 1 51 rfl rfl (by kernel_rfl) (by kernel_rfl) (by kernel_rfl) (fun _ _ _ h => h) (by kernel_rfl) ?_ (by assumption) ?_
        rotate_left
        · intro w hSw; rw [hSd5] at hSw; obtain ⟨⟨q0, q1, q2, q3, q4⟩, -⟩ := hSw; go_simp; (try with_reducible rfl)
        try simp only [Act.put, List.setIfInBounds_toArray, List.set_cons_zero, List.set_cons_succ]
        refine tkY (v := ?_) 2 52 rfl rfl (by kernel_rfl) (by kernel_rfl) (by kernel_rfl) (fun _ _ _ h => h) (by kernel_rfl) ?_ (by assumption) ?_
        rotate_left
        · intro w hSw; rw [hSd5] at hSw; obtain ⟨⟨q0, q1, q2, q3, q4⟩, -⟩ := hSw; go_simp; (try with_reducible rfl)
        try simp only [Act.put, List.setIfInBounds_toArray, List.set_cons_zero, List.set_cons_succ]
        refine tkY (v := ?_) 3 53 rfl rfl (by kernel_rfl) (by kernel_rfl) (by kernel_rfl) (fun _ _ _ h => h) (by kernel_rfl) ?_ (by assumption) ?_
        rotate_left
        · intro w hSw; rw [hSd5] at hSw; obtain ⟨⟨q0, q1, q2, q3, q4⟩, -⟩ := hSw; go_simp; (try with_reducible rfl)
        try simp only [Act.put, List.setIfInBounds_toArray, List.set_cons_zero, List.set_cons_succ]
        refine tkY (v := ?_) 4 54 rfl rfl (by kernel_rfl) (by kernel_rfl) (by kernel_rfl) (fun _ _ _ h => h) (by kernel_rfl) ?_ (by assumption) ?_
        rotate_left
        · intro w hSw; rw [hSd5] at hSw; obtain ⟨⟨q0, q1, q2, q3, q4⟩, -⟩ := hSw; go_simp; (try with_reducible rfl)
        try simp only [Act.put, List.setIfInBounds_toArray, List.set_cons_zero, List.set_cons_succ]
        refine tkY (v := ?_) 5 55 rfl rfl (by kernel_rfl) (by kernel_rfl) (by kernel_rfl) (fun _ _ _ h => h) (by kernel_rfl) ?_ (by assumption) ?_
        rotate_left
        · intro w hSw; rw [hSd5] at hSw; obtain ⟨⟨q0, q1, q2, q3, q4⟩, -⟩ := hSw; go_simp; (try with_reducible rfl)
        try simp only [Act.put, List.setIfInBounds_toArray, List.set_cons_zero, List.set_cons_succ]
        refine tkY (v := ?_) 6 56 rfl rfl (by kernel_rfl) (by kernel_rfl) (by kernel_rfl) (fun _ _ _ h => h) (by kernel_rfl) ?_ (by assumption) ?_
        rotate_left
        · intro w hSw; rw [hSd5] at hSw; obtain ⟨⟨q0, q1, q2, q3, q4⟩, -⟩ := hSw; go_simp; (try with_reducible rfl)
        try simp only [Act.put, List.setIfInBounds_toArray, List.set_cons_zero, List.set_cons_succ]
        refine tkY (v := ?_) 7 57 rfl rfl (by kernel_rfl) (by kernel_rfl) (by kernel_rfl) (fun _ _ _ h => h) (by kernel_rfl) ?_ (by assumption) ?_
        rotate_left
        · intro w hSw; rw [hSd5] at hSw; obtain ⟨⟨q0, q1, q2, q3, q4⟩, -⟩ := hSw; go_simp; (try with_reducible rfl)
        try simp only [Act.put, List.setIfInBounds_toArray, List.set_cons_zero, List.set_cons_succ]
        refine tkY (v := ?_) 8 58 rfl rfl (by kernel_rfl) (by kernel_rfl) (by kernel_rfl) (fun _ _ _ h => h) (by kernel_rfl) ?_ (by assumption) ?_
        rotate_left
        · intro w hSw; rw [hSd5] at hSw; obtain ⟨⟨q0, q1, q2, q3, q4⟩, -⟩ := hSw; go_simp; (try with_reducible rfl)
        try simp only [Act.put, List.setIfInBounds_toArray, List.set_cons_zero, List.set_cons_succ]
        refine tkY (v := ?_) 9 59 rfl rfl (by kernel_rfl) (by kernel_rfl) (by kernel_rfl) (fun _ _ _ h => h) (by kernel_rfl) ?_ (by assumption) ?_
        rotate_left
        · intro w hSw; rw [hSd5] at hSw; obtain ⟨⟨q0, q1, q2, q3, q4⟩, -⟩ := hSw; go_simp; (try with_reducible rfl)
        try simp only [Act.put, List.setIfInBounds_toArray, List.set_cons_zero, List.set_cons_succ]
        refine wpAnyH_ready (rs := [10]) (by kernel_rfl) (by simp) ?_
        refine AllReadyH.cons (o := _) rfl (fun Kq hK => ?_) AllReadyH.nil
        go_simp
        refine (HNr.out yd).mono ?_
        rintro e c10yd ⟨rfl, hb⟩
        have hKc10yd := Lib.hid (hKyd.out.call hSyd hb)
        have hSc10yd := Nat.le_trans hSyd hb.size
        clear hb
        try go_simp
        refine hK.out _ _ ?_ (fun hHeld => ?_)
        · exact HS5.out _ hKc10yd
        clear hK Kq
        try simp only [Act.put, List.setIfInBounds_toArray, List.set_cons_zero, List.set_cons_succ]
        refine wpAnyH_ready (rs := [11]) (by kernel_rfl) (by simp) ?_
        refine AllReadyH.cons (o := _) rfl (fun Kq hK => ?_) AllReadyH.nil
        go_simp
        refine hK.out _ _ ?_ (fun hHeld => ?_)
        · exact HS5.out _ hKc10yd
        clear hK Kq
        try simp only [Act.put, List.setIfInBounds_toArray, List.set_cons_zero, List.set_cons_succ]
        refine wpAnyH_ready (rs := [12]) (by kernel_rfl) (by simp) ?_
        refine AllReadyH.cons (o := _) rfl (fun Kq hK => ?_) AllReadyH.nil
        go_simp
        refine hK.out _ _ ?_ (fun hHeld => ?_)
        · exact HS5.out _ hKc10yd
        clear hK Kq
        try simp only [Act.put, List.setIfInBounds_toArray, List.set_cons_zero, List.set_cons_succ]
        refine wpAnyH_done (by kernel_rfl) ?_ _
        clear HS5 HQ5 hSd5 HNr
        have hB5 := Lib.hid (hKc10yd.out.below (Nat.le_refl _) (fun d hd => by cases hd))
        have hX5 := Lib.hid (keepO hB5.out hXo)
        have hVB := Lib.hid (keepO hB5.out hV0)
        have HR5 := Lib.hid ((HRy.out.below hB5.out).more hB5.out.size)
        have HN5 := Lib.hid (HNy.out.below hB5.out)
        have HK5 := Lib.hid (HKy.out.trans ((Kp.of_below hB5.out).mono HKy.out.size (fun d hd => Or.inl hd)))
        have h45 := Lib.hid (keepO hB5.out h4y.out)
        have hsz5 : y.heap.size ≤ c10yd.heap.size := hB5.out.size
        have HBo := Lib.hid (HBy.out.below hB5.out)
        clear hKc10yd hSc10yd hB5 HRy HNy HKy h4y hXo hV0 HBy
        simp only [only]
        cases bb
        · have hnx : Hid (nearF (some (yl, b1, b2)) (candL ts p q L) = some (L, f1, f2)) := Lib.hid (hnx1.out rfl)
          have hw5 := Lib.hid (three_facts hX5.out)
          obtain ⟨x0, x1, x2, -, -, -⟩ := hw5.out
          obtain ⟨e0, f0⟩ := one_facts (keepO ((Below.refl c10yd.heap.size c10yd).alloc (Nat.le_refl _) (.cells #[.slice A1 m c1, .int .i64 f1, .int .i64 f2] 58)) hVB.out)
          have HBn := Lib.hid (BestAt.new (c := c1) hVB.out hm HR5.out hAv.out hFo.out)
          have HNn := Lib.hid (HN5.out.setb hVB.out (by omega) (.slice (some ⟨c10yd.heap.size, 0, none⟩) 1 1) (.cells #[.slice A1 m c1, .int .i64 f1, .int .i64 f2] 58))
          have HKn := Lib.hid ((HK5.out.alloc HK5.out.size (.cells #[.slice A1 m c1, .int .i64 f1, .int .i64 f2] 58)).set (p := ⟨z3.heap.size + 1, 0, none⟩) (Or.inl (by simp)) (.slice (some ⟨c10yd.heap.size, 0, none⟩) 1 1))
          have h4n := Lib.hid ((Below.heap_setCell (c10yd.alloc (.cells #[.slice A1 m c1, .int .i64 f1, .int .i64 f2] 58)) ⟨z3.heap.size + 1, 0, none⟩ (.slice (some ⟨c10yd.heap.size, 0, none⟩) 1 1) lp (by simp only; omega)).trans (keepO ((Below.refl c10yd.heap.size c10yd).alloc (Nat.le_refl _) _) h45.out))
          clear hw5 hX5 hVB HR5 HN5 HK5 h45
          gi_wp2
          refine ⟨_, _, hoj.out _ h4n.out none, .inr ⟨rfl, HKn.out.put _ (Or.inl (by simp)), World.putObj_heap_same (by simp; omega), HNn.out.put h4n.out (by omega) _, ?_, hQm.out⟩⟩
          rw [bestS_snoc, hB.out, hnx.out]
          exact HBn.out.put h4n.out _
        · have hnx : Hid (nearF (some (yl, b1, b2)) (candL ts p q L) = some (yl, b1, b2)) := Lib.hid (hnx2.out rfl)
          clear hX5 hVB HR5
          gi_wp2
          refine ⟨_, _, hoj.out _ h45.out none, .inr ⟨rfl, HK5.out.put _ (Or.inl (by simp)), World.putObj_heap_same (by omega), HN5.out.put h45.out (by omega) _, ?_, hQm.out⟩⟩
          rw [bestS_snoc, hB.out, hnx.out]
          exact HBo.out.put h45.out _
    have hds : ∀ d ∈ [lp, z3.heap.size + 1], d ≤ lp := fun d hd => by simp at hd; omega
    refine (trn1_any lp [lp, z3.heap.size + 1] (wr.heap.size + 1) wr.heap.size A n c (i + 1) (lev n (i + 1)) _ _ (fun Q W W' h hb => ⟨keepO hb h.1, h.2.1.below hb, h.2.2.1.below hb, h.2.2.2⟩) HRO hn (by omega) (fun x hx => by rw [dfs_lev n (i + 1) (by omega)] at hx; exact hx) [] W1 HJ0.out hpb.out (by simp; omega) hsb'.out (by simp; omega) hds (Array.getElem?_eq_some_iff.1 HJ0.out.1).1).mono ?_
    rintro e W3 ⟨hv, -, bb, hout⟩
    refine ⟨hv, ?_⟩
    rw [dfs_lev n (i + 1) (by omega)] at hout
    have hnd' : (z4.heap.size :: rs).Nodup := List.nodup_cons.2 ⟨fun h => by have := hrs3 _ h; omega, hnd⟩
    have hrs' : ∀ r ∈ z4.heap.size :: rs, z3.heap.size + 1 < r := fun r hr => by
      rcases List.mem_cons.1 hr with rfl | hr
      · omega
      · exact hrs r hr
    clear HRO HJ0 hv hds
    rcases hout with ⟨-, hJ⟩ | ⟨-, M1, L, M2, hM, hJ⟩
    · obtain ⟨hl1, hE, hO, hQ⟩ := hJ
      refine ⟨.ready, none, hl1, by simp, ?_⟩
      show Exit.inBlock _ _ _ _ _
      have HE4 := Lib.hid (hE.put hl1 (by omega) (.loop (rc .exhausted none)))
      have HO4 : Hid (BestAt (z3.heap.size + 1) (bestS n ts p q (i + 1) []) (W3.putObj lp (.loop (rc .exhausted none)))) := Lib.hid (by rw [← bestS_next]; exact hO.put hl1 _)
      obtain ⟨W4, hW4⟩ : ∃ W4, W4 = W3.putObj lp (.loop (rc .exhausted none)) := ⟨_, rfl⟩
      rw [← hW4] at HE4 HO4 ⊢
      clear hl1 hE hO hQ hW4
      go_wp2
      refine ⟨by rw [hIIh.out]; exact ⟨_, _, _, _, _, _, _, _, _, _, _, _, _, _, _, _, _, _, _, _, _, _, _, _, _, _, _, _, _, _, _, _, _, i + 1, z4.heap.size :: rs, by omega, rfl, hnd', hrs', HE4, HO4⟩, ?_⟩
      simp [RowKit.intOf]; omega
    · rw [hJX] at hJ
      exact hJ.elim
  · have hii : ¬ (i : Int) < (PP : Int) := by omega
    obtain rfl : i = PP := by omega
    have HTd2 := HTd
    clear HTd HTd2
    have mBw := Lib.hid HE.out.bel
    cases hBB : bestS n ts p q i [] with
    | none =>
      have hE : Hid (neB n ts p q i = none ∧ neE n ts p q i = 6) := Lib.hid (by rw [hEq.out.1, hEq.out.2, hBB]; exact ⟨rfl, rfl⟩)
      have hV0 : wr.heap[z3.heap.size + 1]? = some (.cells #[.slice none 0 0] 51 (0, 0)) := by have := HO.out; rw [hBB] at this; exact this
      obtain ⟨q0, -⟩ := one_facts hV0
      obtain ⟨g0, g1, f0, f1⟩ := two_facts HE.out.r0
      have hm2 := Lib.hid (set_two wr (w.heap.size + 1 + 1) _ (.int .i64 0) (.int .i64 0) _ _ HE.out.r0)
      have mB := Lib.hid ((mBw.out.setCell (p := ⟨w.heap.size + 1 + 1, 0, none⟩) (by simp only; omega) (.int .i64 0)).setCell (p := ⟨w.heap.size + 1 + 1, 1, none⟩) (by simp only; omega) (.int .i64 0))
      have kd := Lib.hid (fun r (hr : r ∈ rs) => ((Below.heap_setCell (wr.setCell ⟨w.heap.size + 1 + 1, 0, none⟩ (.int .i64 0)) ⟨w.heap.size + 1 + 1, 1, none⟩ (.int .i64 0) r (by have := hrs r hr; simp only; omega)).trans (Below.heap_setCell wr ⟨w.heap.size + 1 + 1, 0, none⟩ (.int .i64 0) r (by have := hrs r hr; simp only; omega))).trans (HE.out.d r hr))
      clear HE HO hBB hV0 mBw
      go_wp2
      refine leaves_marks rs _ hnd kd.out fun W' o1 o2 o3 o4 o5 => ?_
      obtain ⟨q0, q1, -, -⟩ := two_facts ((o5 _ (fun hm => by have := hrs _ hm; omega)).trans hm2.out)
      refine ⟨.tuple #[.slice none 0 0, .agg #[.int .i64 0, .int .i64 0], .int .i64 6], by simp [results, Try.results6, go_sem, q0, q1], ⟨none, 0, 0, by rw [hE.out.1, hE.out.2]; rfl, by omega, ?_⟩, ⟨o1.trans mB.out.os, o2.trans mB.out.tape, o3.trans mB.out.output, by rw [o4]; exact mB.out.size, fun k hk => (o5 k (fun hm => by have := hrs k hm; omega)).trans (mB.out.block k hk)⟩⟩
      rw [hE.out.1]
      exact ⟨rfl, fun h => absurd h (by omega)⟩
    | some yy =>
      obtain ⟨yl, b1, b2⟩ := yy
      have hE : Hid (neB n ts p q i = some (yl, b1, b2) ∧ neE n ts p q i = 0) := Lib.hid (by rw [hEq.out.1, hEq.out.2, hBB]; exact ⟨rfl, rfl⟩)
      have HOs := HO.out
      rw [hBB] at HOs
      obtain ⟨cb, Ab, mb, cbb, hV0, hC0, hm, hR0, hA0, -⟩ := HOs
      simp only at hC0 hR0
      obtain ⟨q0, -⟩ := one_facts hV0
      have HFi := Lib.hid (first_any cb Ab mb cbb b1 b2 (.func (.func 22) #[] #[]) wr hC0)
      have HR0 := Lib.hid hR0
      have HA0 := Lib.hid hA0
      clear HO hBB hV0 hC0 hR0 hA0
      go_wp2_with fail
      refine HFi.out.mono ?_
      rintro e z5 ⟨rfl, hb5⟩
      have hb6 : Below wr.heap.size wr (z5.alloc (.cells #[.slice Ab mb cbb, .int .i64 b1, .int .i64 b2] 58)) := hb5.alloc hb5.size _
      have HN6 := Lib.hid (HE.out.below hb6)
      have HR6 := Lib.hid ((HR0.out.below hb6).more hb6.size)
      have hX6 := Lib.hid (heap_alloc_new z5 (.cells #[.slice Ab mb cbb, .int .i64 b1, .int .i64 b2] 58))
      clear HE HR0 HFi hb5 hb6 q0 mBw
      go_upto_region 20 with (fail)
      obtain ⟨u0, hu0⟩ : ∃ u0, u0 = z5.alloc (.cells #[.slice Ab mb cbb, .int .i64 b1, .int .i64 b2] 58) := ⟨_, rfl⟩
      rw [← hu0] at HN6 HR6 hX6
      rw [← hu0]
      clear hu0
      obtain ⟨g0, g1, g2, -, -, -⟩ := three_facts hX6.out
      have hlx : z5.heap.size < u0.heap.size := (Array.getElem?_eq_some_iff.1 hX6.out).1
      have hRz := HN6.out.r0
      have hrx : w.heap.size + 1 + 1 ≠ z5.heap.size := fun e => by have h1 := HN6.out.r0; rw [e, hX6.out] at h1; injection h1 with h1; injection h1 with _ h2; exact absurd h2 (by decide)
      have HQ := Lib.hid (fun z (hz : Hid (Kp u0.heap.size [w.heap.size + 1 + 1] u0 z)) => (⟨(hz.out.cell (p := ⟨z5.heap.size, 0, none⟩) hlx (by simp; omega)).trans g0, (hz.out.cell (p := ⟨z5.heap.size, 1, none⟩) hlx (by simp; omega)).trans g1, (hz.out.cell (p := ⟨z5.heap.size, 2, none⟩) hlx (by simp; omega)).trans g2⟩ : z.cell? ⟨z5.heap.size, 0, none⟩ = some (.slice Ab mb cbb) ∧ z.cell? ⟨z5.heap.size, 1, none⟩ = some (.int .i64 b1) ∧ z.cell? ⟨z5.heap.size, 2, none⟩ = some (.int .i64 b2)))
      obtain ⟨S, hSd⟩ : ∃ S : World → Prop, S = fun z => (z.cell? ⟨z5.heap.size, 0, none⟩ = some (.slice Ab mb cbb) ∧ z.cell? ⟨z5.heap.size, 1, none⟩ = some (.int .i64 b1) ∧ z.cell? ⟨z5.heap.size, 2, none⟩ = some (.int .i64 b2)) ∧ Hid (Kp u0.heap.size [w.heap.size + 1 + 1] u0 z) := ⟨_, rfl⟩
      have HS := Lib.hid (fun z (hz : Hid (Kp u0.heap.size [w.heap.size + 1 + 1] u0 z)) => (by rw [hSd]; exact ⟨HQ.out z hz, hz⟩ : S z))
      clear g0 g1 g2 hX6
      refine region_out (S := S) (by kernel_rfl) ?_ (fun hHeld => ?_)
      · exact HS.out _ (Lib.hid (Kp.refl _ _ _).drew)
      have hKyd : Hid (Kp u0.heap.size [w.heap.size + 1 + 1] u0 u0.drew) := Lib.hid (Kp.refl _ _ _).drew
      have hSyd : u0.heap.size ≤ u0.drew.heap.size := Nat.le_refl _
      have hRz := keepO (Below.refl u0.heap.size u0).drew hRz
      generalize u0.drew = yd at *
      refine tkY (v := ?_) 0 72 rfl rfl (by kernel_rfl) (by kernel_rfl) (by kernel_rfl) (fun _ _ _ h => h) (by kernel_rfl) ?_ (by assumption) ?_
      rotate_left
      · intro w hSw; rw [hSd] at hSw; obtain ⟨⟨q0, q1, q2⟩, -⟩ := hSw; go_simp; (try with_reducible rfl)
      try simp only [Act.put, List.setIfInBounds_toArray, List.set_cons_zero, List.set_cons_succ]
      refine tkY (v := ?_) 1 73 rfl rfl (by kernel_rfl) (by kernel_rfl) (by kernel_rfl) (fun _ _ _ h => h) (by kernel_rfl) ?_ (by assumption) ?_
      rotate_left
      · intro w hSw; rw [hSd] at hSw; obtain ⟨⟨q0, q1, q2⟩, -⟩ := hSw; go_simp; (try with_reducible rfl)
      try simp only [Act.put, List.setIfInBounds_toArray, List.set_cons_zero, List.set_cons_succ]
      refine tkY (v := ?_) 2 74 rfl rfl (by kernel_rfl) (by kernel_rfl) (by kernel_rfl) (fun _ _ _ h => h) (by kernel_rfl) ?_ (by assumption) ?_
      rotate_left
      · intro w hSw; rw [hSd] at hSw; obtain ⟨⟨q0, q1, q2⟩, -⟩ := hSw; go_simp; (try with_reducible rfl)
      try simp only [Act.put, List.setIfInBounds_toArray, List.set_cons_zero, List.set_cons_succ]
      refine tkY (v := ?_) 3 75 rfl rfl (by kernel_rfl) (by kernel_rfl) (by kernel_rfl) (fun _ _ _ h => h) (by kernel_rfl) ?_ (by assumption) ?_
      rotate_left
      · intro w hSw; rw [hSd] at hSw; obtain ⟨⟨q0, q1, q2⟩, -⟩ := hSw; go_simp; (try with_reducible rfl)
      try simp only [Act.put, List.setIfInBounds_toArray, List.set_cons_zero, List.set_cons_succ]
      refine tkY (v := ?_) 4 6 rfl rfl (by kernel_rfl) (by kernel_rfl) (by kernel_rfl) (fun _ _ _ h => h) (by kernel_rfl) ?_ (by assumption) ?_
      rotate_left
      · intro w hSw; rw [hSd] at hSw; obtain ⟨⟨q0, q1, q2⟩, -⟩ := hSw; go_simp; (try with_reducible rfl)
      try simp only [Act.put, List.setIfInBounds_toArray, List.set_cons_zero, List.set_cons_succ]
      refine wpAnyH_ready (rs := [5]) (by kernel_rfl) (by simp) ?_
      refine AllReadyH.cons (o := _) rfl (fun Kq hK => ?_) AllReadyH.nil
      obtain ⟨e0, e1, g0, g1⟩ := two_facts hRz
      go_simp
      clear e0 e1 g0 g1
      obtain ⟨s5yd, hz_⟩ : ∃ z, z = (yd.setCell ⟨w.heap.size + 1 + 1, 0, none⟩ (.int .i64 b1)).setCell ⟨w.heap.size + 1 + 1, 1, none⟩ (.int .i64 b2) := ⟨_, rfl⟩
      rw [← hz_]
      have hRz := set_two yd (w.heap.size + 1 + 1) _ (.int .i64 b1) (.int .i64 b2) _ _ hRz
      rw [← hz_] at hRz
      have hKs5yd := Lib.hid ((hKyd.out.set (p := ⟨w.heap.size + 1 + 1, 0, none⟩) (Or.inl (by simp)) (.int .i64 b1)).set (p := ⟨w.heap.size + 1 + 1, 1, none⟩) (Or.inl (by simp)) (.int .i64 b2))
      rw [← hz_] at hKs5yd
      have hSs5yd := Nat.le_trans hSyd (show yd.heap.size ≤ s5yd.heap.size by rw [hz_]; simp)
      clear hz_
      refine hK.out _ _ ?_ (fun hHeld => ?_)
      · exact HS.out _ hKs5yd
      clear hK Kq
      try simp only [Act.put, List.setIfInBounds_toArray, List.set_cons_zero, List.set_cons_succ]
      refine wpAnyH_ready (rs := [6]) (by kernel_rfl) (by simp) ?_
      refine AllReadyH.cons (o := _) rfl (fun Kq hK => ?_) AllReadyH.nil
      go_simp
      refine hK.out _ _ ?_ (fun hHeld => ?_)
      · exact HS.out _ hKs5yd
      clear hK Kq
      try simp only [Act.put, List.setIfInBounds_toArray, List.set_cons_zero, List.set_cons_succ]
      refine wpAnyH_done (by kernel_rfl) ?_ _
      clear HS HQ hSd
      have mB := Lib.hid (HN6.out.bel.trans (hKs5yd.out.below HN6.out.bel.size (fun d hd => by simp at hd; omega)))
      have kd := Lib.hid (fun r (hr : r ∈ rs) => (hKs5yd.out.block r (Array.getElem?_eq_some_iff.1 (HN6.out.d r hr)).1 (fun hd => by simp at hd; have := hrs r hr; omega)).trans (HN6.out.d r hr))
      have kR := Lib.hid ((RdX.keep (D := [w.heap.size + 1 + 1]) ⟨HR6.out, fun r h1 h2 hd => by have := HA0.out r h1 h2; simp at hd; omega⟩ hKs5yd.out (Nat.le_refl _) (fun d hd => Or.inl hd)).1.more hKs5yd.out.size)
      have hRzh := Lib.hid hRz
      clear hRz HN6 HR6 hKs5yd hSs5yd
      simp only [only]
      go_wp2
      refine leaves_marks rs _ hnd kd.out fun W' o1 o2 o3 o4 o5 => ?_
      obtain ⟨q0, q1, -, -⟩ := two_facts ((o5 _ (fun hm => by have := hrs _ hm; omega)).trans hRzh.out)
      refine ⟨.tuple #[.slice Ab mb cbb, .agg #[.int .i64 b1, .int .i64 b2], .int .i64 0], by simp [results, Try.results6, go_sem, q0, q1], ⟨Ab, mb, cbb, by rw [hE.out.1, hE.out.2]; rfl, hm, ?_⟩, ⟨o1.trans mB.out.os, o2.trans mB.out.tape, o3.trans mB.out.output, by rw [o4]; exact mB.out.size, fun k hk => (o5 k (fun hm => by have := hrs k hm; omega)).trans (mB.out.block k hk)⟩⟩
      rw [hE.out.1]
      refine ⟨kR.out.1, fun hn => ?_⟩
      obtain ⟨b, o, e, hb, hc⟩ := kR.out.2 hn
      refine ⟨b, o, e, by rw [o4]; exact hb, fun j u hu => ?_⟩
      have hcc := hc j u hu
      rw [World.cell?] at hcc ⊢
      rw [o5 b (fun hm => by rw [kd.out b hm] at hcc; simp at hcc)]
      exact hcc
end Go.Proofs.Ytjmegnbjacndpaa
