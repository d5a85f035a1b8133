/-
  How many ratios there are: the program's walk.
-/
import Derived.Test.YtjmegnbjacndpaaWEx
import Derived.Test.YtjmegnbjacndpaaWSeen
import Derived.Test.YtjmegnbjacndpaaWRt
namespace Go.Proofs.Ytjmegnbjacndpaa
open Go.RowKit Go.Maps Go.Shelf
set_option linter.unusedVariables false
set_option linter.unusedSimpArgs false
attribute [local go_sem] Oper.semAt_some

/-- What was seen. -/
def accS (n : Nat) (ts : List Int) (i : Nat) (Q : List (List (Int × Int))) : List (Int × Int) := ((allT n i ++ Q).map (ratL ts)).foldl addU []
theorem accS_snoc (n : Nat) (ts : List Int) (i : Nat) (Q : List (List (Int × Int))) (L : List (Int × Int)) : accS n ts i (Q ++ [L]) = addU (accS n ts i Q) (ratL ts L) := by
  unfold accS
  rw [← List.append_assoc, List.map_append, List.foldl_append]
  rfl
theorem accS_next (n : Nat) (ts : List Int) (i : Nat) : accS n ts i (lev n (i + 1)) = accS n ts (i + 1) [] := by
  unfold accS
  rw [allT_succ, List.append_nil]
theorem accS_man (n : Nat) (ts : List Int) (p : Nat) : accS n ts p [] = (manL n ts p).foldl addU [] := by
  unfold accS manL allT
  rw [List.append_nil, List.map_flatMap]
theorem allT_len (n : Nat) (hn : n ≤ 8) : ∀ k, k ≤ 3 → (allT n k).length ≤ k * 262144 := allR_len n hn
theorem accS_len (n : Nat) (hn : n ≤ 8) (ts : List Int) (i : Nat) (hi : i < 3) (Q : List (List (Int × Int))) (hQ : ∀ l ∈ Q, l ∈ lev n (i + 1)) : (accS n ts i Q).length ≤ 786432 := by
  obtain ⟨h1, h2⟩ := foldU ((allT n i ++ Q).map (ratL ts)) [] List.nodup_nil
  have h3 := acc_len (n := n) (ts := ts) h1 ((allT n (i + 1)).map (ratL ts)) (fun x hx => by
    rcases (h2 x).1 hx with h | h
    · simp at h
    · obtain ⟨l, hl, rfl⟩ := List.mem_map.1 h
      refine List.mem_map.2 ⟨l, ?_, rfl⟩
      rw [allT_succ]
      rcases List.mem_append.1 hl with h | h
      · exact List.mem_append_left _ h
      · exact List.mem_append_right _ (hQ l h))
  have h4 := allT_len n hn (i + 1) (by omega)
  rw [List.length_map] at h3
  show (List.foldl addU [] _).length ≤ _
  omega
theorem ratL_in {n : Nat} {ts : List Int} {l : List (Int × Int)} (h : Okay n ts l) (hl : l.length ≤ 3) : inK (ratL ts l) := by
  obtain ⟨⟨h1, h2⟩, h3, h4⟩ := h.bound l.length (Nat.le_refl _)
  rw [List.take_length] at h1 h2 h3 h4
  have hp : (120 : Int) ^ l.length ≤ 1728000 := by
    rcases (by omega : l.length = 0 ∨ l.length = 1 ∨ l.length = 2 ∨ l.length = 3) with e | e | e | e <;> rw [e] <;> decide
  obtain ⟨⟨a1, a2⟩, a3, a4⟩ := redu_bound _ _ h1 h3
  unfold inK ratL
  omega
def manV (n : Nat) (ts : List Int) (P : Int) : Int := if okW n ts = true then if inB 1 3 [P] = true then (((manL n ts P.toNat).foldl addU []).length : Int) else 0 else 0
def manE (n : Nat) (ts : List Int) (P : Int) : Int := if okW n ts = true then if inB 1 3 [P] = true then 0 else 2 else 100
/-- What stays while the trains are gone through. -/
structure MK (w : World) (rs : List Nat) (A : Option Addr) (n c : Nat) (sb vb mb : Nat) (W : World) : Prop where
  bel : Below w.heap.size w W
  d : ∀ r ∈ rs, W.heap[r]? = some (.deferred (some []))
  s : W.heap[sb]? = some (.cells #[.slice A n c] 50 (0, 0))
  v : W.heap[vb]? = some (.cells #[.map (some mb)] 67 (0, 0))
  hm : w.heap.size ≤ mb
theorem MK.below {w : World} {rs : List Nat} {A : Option Addr} {n c sb vb mb : Nat} {W W' : World} (h : MK w rs A n c sb vb mb W) (hb : Below W.heap.size W W') : MK w rs A n c sb vb mb W' :=
  ⟨below_via h.bel h.bel.size hb, fun r hr => keepO hb (h.d r hr), keepO hb h.s, keepO hb h.v, h.hm⟩
theorem MK.put {w : World} {rs : List Nat} {A : Option Addr} {n c sb vb mb : Nat} {W : World} (h : MK w rs A n c sb vb mb W) {lp : Nat} {r : Loop} (hl : W.heap[lp]? = some (.loop r)) (hw : w.heap.size ≤ lp) (o : Obj) : MK w rs A n c sb vb mb (W.putObj lp o) := by
  have hne : ∀ (b : Nat) (x : Obj), W.heap[b]? = some x → (∀ r, x ≠ .loop r) → (W.putObj lp o).heap[b]? = some x := fun b x hx hn => put_other hx (fun e => by subst e; rw [hl] at hx; exact hn r (Option.some.inj hx).symm)
  exact ⟨below_put h.bel o hw, fun r hr => hne _ _ (h.d r hr) (fun r e => by cases e), hne _ _ h.s (fun r e => by cases e), hne _ _ h.v (fun r e => by cases e), h.hm⟩
theorem MK.mark {w : World} {rs : List Nat} {A : Option Addr} {n c sb vb mb : Nat} {W : World} (h : MK w rs A n c sb vb mb W) {D : Nat} (hD : W.heap[D]? = some (.deferred (some []))) : MK w (D :: rs) A n c sb vb mb W :=
  ⟨h.bel, fun r hr => (List.mem_cons.1 hr).elim (fun e => e ▸ hD) (h.d r), h.s, h.v, h.hm⟩
theorem OwnsK.isMap {w : World} {b : Nat} {acc : List (Int × Int)} (h : OwnsK w b acc) : ∃ es clock, w.heap[b]? = some (.map es clock) := by
  obtain ⟨D, ⟨es, clock, h1, h2⟩, h3⟩ := h
  exact ⟨es, clock, h1⟩
/-- The set's own block alone has changed. -/
theorem MK.kp {w : World} {rs : List Nat} {A : Option Addr} {n c sb vb mb : Nat} {W W' : World} {acc : List (Int × Int)} (h : MK w rs A n c sb vb mb W) (ho : OwnsK W mb acc) (hk : Kp W.heap.size [mb] W W') : MK w rs A n c sb vb mb W' := by
  obtain ⟨es, clock, hm⟩ := ho.isMap
  have hne : ∀ (b : Nat) (x : Obj), W.heap[b]? = some x → (∀ es clock, x ≠ .map es clock) → W'.heap[b]? = some x := fun b x hx hn => (hk.block b (Array.getElem?_eq_some_iff.1 hx).1 (fun e => by simp at e; subst e; rw [hm] at hx; exact hn es clock (Option.some.inj hx).symm)).trans hx
  exact ⟨h.bel.trans (hk.below h.bel.size (fun d hd => by simp at hd; subst hd; exact h.hm)), fun r hr => hne _ _ (h.d r hr) (fun _ _ e => by cases e), hne _ _ h.s (fun _ _ e => by cases e), hne _ _ h.v (fun _ _ e => by cases e), h.hm⟩
def MaJ (w : World) (rs : List Nat) (lp : Nat) (A : Option Addr) (n c : Nat) (sb vb mb : Nat) (ts : List Int) (i : Nat) (rc : LoopState → Option Code → Loop) (Q : List (List (Int × Int))) (W : World) : Prop :=
  W.heap[lp]? = some (.loop (rc .ready none)) ∧ MK w rs A n c sb vb mb W ∧ OwnsK W mb (accS n ts i Q) ∧ ∀ l ∈ Q, l ∈ lev n (i + 1)
def MaP (n : Nat) (ts : List Int) (P : Int) (w : World) (e : Ending) (w' : World) : Prop := e = .returned (.tuple #[.int .i64 (manV n ts P), .int .i64 (manE n ts P)]) ∧ Below w.heap.size w w'

set_option maxRecDepth 100000 in
set_option maxHeartbeats 4000000 in
theorem pMany_any (A : Option Addr) (n c : Nat) (ts : List Int) (hn : n ≤ 20) (P : Int) (w : World) (hT : Reads w w.heap.size 1 A n (ints ts)) :
    Calls Try.prog 10 #[.agg #[.slice A n c], .int .i64 P] w (MaP n ts P w) := by
  have hl : ts.length = n := by have := hT.len; simpa [ints] using this
  have hmm := @run_makeMap Try.prog
  have HCk := Lib.hid (fun z (hz : Below w.heap.size w z) => Check_any A n c ts hn z ((hT.below hz).more hz.size))
  have HTd := Lib.hid (fun z (hz : Below w.heap.size w z) => (hT.below hz).more hz.size)
  clear hT
  refine (callsIn_wide (n := 6)).1 ?_
  refine callsIn_of_wp_marks Try.func10 rfl trivial ?_ rfl
  refine wpIn_wide.2 ?_
  simp only [Try.ntmps10, List.size_toArray, List.length_cons, List.length_nil, Nat.reduceAdd, Nat.reduceSub, Array.replicate_succ, Array.replicate_zero, List.push_toArray, List.append_toArray, List.nil_append, List.cons_append]
  have HB4 := Lib.hid ((Below.refl w.heap.size w).alloc (Nat.le_refl _) (.cells #[.slice A n c] 24))
  have H0 := Lib.hid (heap_alloc_new w (.cells #[.slice A n c] 24))
  go_wp2_with fail
  refine (HCk.out (w.alloc (.cells #[.slice A n c] 24)) HB4.out).mono ?_
  rintro e z1 ⟨rfl, hb1_⟩
  have hB1 := Lib.hid (below_via HB4.out HB4.out.size hb1_)
  have h0 := Lib.hid (keepO hb1_ H0.out)
  clear hb1_ H0 HB4 HCk
  cases hok : okW n ts
  · rw [show errW false = 100 from rfl]
    have hE : Hid (manV n ts P = 0 ∧ manE n ts P = 100) := by show _ ∧ _; unfold manV manE; rw [hok]; exact ⟨rfl, rfl⟩
    clear hok h0
    go_wp2
    refine ⟨.tuple #[.int .i64 0, .int .i64 100], by simp [results, Try.results10, go_sem], by rw [hE.out.1, hE.out.2], hB1.out⟩
  rw [show errW true = 0 from rfl]
  have hok' := Lib.hid hok
  obtain ⟨zb, hzb_⟩ : ∃ zb, zb = z1.alloc (.cells #[.int .i64 P] 3) := ⟨_, rfl⟩
  have HIn := Lib.hid (in_any 1 3 (some ⟨z1.heap.size, 0, none⟩) 1 1 [P] zb (by unfold maxLen; omega) (by rw [hzb_]; exact rdI_one (heap_alloc_new z1 _)))
  have hBz := Lib.hid (show Below w.heap.size w zb by rw [hzb_]; exact hB1.out.alloc hB1.out.size _)
  have h0z := Lib.hid (show zb.heap[w.heap.size]? = some (.cells #[.slice A n c] 24 (0, 0)) by rw [hzb_]; exact keepO ((Below.refl _ _).alloc (Nat.le_refl _) _) h0.out)
  have hzb := Lib.hid hzb_
  clear hok hzb_ hB1 h0
  go_wp2_with fail
  rw [← hzb.out]
  refine HIn.out.mono ?_
  rintro e z2 ⟨rfl, hb2_⟩
  have hB2 := Lib.hid (below_via hBz.out hBz.out.size hb2_)
  have h0 := Lib.hid (keepO hb2_ h0z.out)
  clear hb2_ hBz h0z hzb HIn
  cases hin : inB 1 3 [P]
  · have hE : Hid (manV n ts P = 0 ∧ manE n ts P = 2) := by show _ ∧ _; unfold manV manE; rw [hok'.out, hin]; exact ⟨rfl, rfl⟩
    clear hin h0
    go_wp2
    refine ⟨.tuple #[.int .i64 0, .int .i64 2], by simp [results, Try.results10, go_sem], by rw [hE.out.1, hE.out.2], hB2.out⟩
  obtain ⟨PP, rfl, hP1, hP3⟩ : ∃ PP : Nat, P = (PP : Int) ∧ 1 ≤ PP ∧ PP ≤ 3 := ⟨P.toNat, by unfold inB at hin; simp at hin; omega, by unfold inB at hin; simp at hin; omega, by unfold inB at hin; simp at hin; omega⟩
  have hEq : Hid (manV n ts PP = ((accS n ts PP []).length : Int) ∧ manE n ts PP = 0) := by show _ ∧ _; unfold manV manE; rw [hok'.out, hin, accS_man]; exact ⟨rfl, rfl⟩
  have hn8 : n ≤ 8 := by have h := hok'.out; unfold okW at h; simp at h; omega
  obtain ⟨g0, -⟩ := one_facts h0.out
  clear hin
  go_wp2_with fail
  have HE0 : Hid (MK w [] A n c z2.heap.size (z2.heap.size + 1 + 1) (z2.heap.size + 1) (((z2.alloc (.cells #[.slice A n c] 50)).alloc (.map #[] 0)).alloc (.cells #[.map (some (z2.heap.size + 1))] 67))) := by
    refine Lib.hid ⟨((hB2.out.alloc hB2.out.size _).alloc (by have := hB2.out.size; simp; omega) _).alloc (by have := hB2.out.size; simp; omega) _, fun r hr => (by cases hr), ?_, ?_, by have := hB2.out.size; omega⟩
    · rw [Below.heap_alloc _ _ _ (by simp; omega), Below.heap_alloc _ _ _ (by simp)]; exact heap_alloc_new z2 _
    · have := heap_alloc_new ((z2.alloc (.cells #[.slice A n c] 50)).alloc (.map #[] 0)) (.cells #[.map (some (z2.heap.size + 1))] 67); simpa using this
  have HO0 : Hid (OwnsK (((z2.alloc (.cells #[.slice A n c] 50)).alloc (.map #[] 0)).alloc (.cells #[.map (some (z2.heap.size + 1))] 67)) (z2.heap.size + 1) (accS n ts 0 [])) := by
    have := (OwnsK.made (z2.alloc (.cells #[.slice A n c] 50))).below ((Below.refl _ _).alloc (Nat.le_refl _) (.cells #[.map (some (z2.heap.size + 1))] 67))
    exact Lib.hid (by simpa [accS, allT] using this)
  have hzz : w.heap.size ≤ z2.heap.size := hB2.out.size
  obtain ⟨II, hII⟩ : ∃ II : Act → World → Prop, II = fun a' w' => ∃ (v9 v10 v25 v26 v27 v28 v29 v30 v31 v32 v33 v34 v35 v36 v37 v38 : Value), ∃ (i : Nat) (rs : List Nat), i ≤ PP ∧ a' = ⟨#[.agg #[.slice A n c], .int .i64 (PP : Int), .pointer (some ⟨w.heap.size, 0, none⟩), undef, .int .i64 0, .int .i64 0, .int .i64 0, .pointer (some ⟨z2.heap.size, 0, none⟩), .pointer (some ⟨z2.heap.size + 1 + 1, 0, none⟩), v9, v10, .agg #[.slice A n c], .int .i64 0, .int .i64 0, .bool false, undef, .int .i64 (PP : Int), .slice (some ⟨z1.heap.size, 0, none⟩) 1 1, .bool true, .bool false, .agg #[.slice A n c], .agg #[.slice A n c], .map (some (z2.heap.size + 1)), .int .i64 (PP : Int), .int .i64 (i : Int), v25, v26, v27, v28, v29, v30, v31, v32, v33, v34, v35, v36, v37, v38], rs.map mkD⟩ ∧ rs.Nodup ∧ (∀ r ∈ rs, z2.heap.size + 1 + 1 < r) ∧ Hid (MK w rs A n c z2.heap.size (z2.heap.size + 1 + 1) (z2.heap.size + 1) w') ∧ Hid (OwnsK w' (z2.heap.size + 1) (accS n ts i [])) := ⟨_, rfl⟩
  refine wp_loop II (fun a' _ => PP - (RowKit.intOf (a'.tmps.getD 24 undef)).toNat) ?_ ?_
  · rw [hII]
    exact ⟨_, _, _, _, _, _, _, _, _, _, _, _, _, _, _, _, 0, [], by omega, rfl, List.nodup_nil, fun r hr => by (cases hr), HE0, HO0⟩
  clear HE0 HO0 hB2 h0 g0
  intro a' wr hI
  have hI2 := hI
  rw [hII] at hI2
  obtain ⟨v9, v10, v25, v26, v27, v28, v29, v30, v31, v32, v33, v34, v35, v36, v37, v38, i, rs, hi, rfl, hnd, hrs, HE, HO⟩ := hI2
  have hIIh := Lib.hid hII
  clear hII hI
  by_cases hi3 : i < PP
  · have hii : (i : Int) < (PP : Int) := by omega
    obtain ⟨s0, -⟩ := one_facts HE.out.s
    go_wp2_with fail
    refine (trains_any A n c ((i : Int) + 1) wr).mono ?_
    rintro e z3 ⟨rfl, hz3⟩
    have hb3 : Below wr.heap.size wr z3 := by rw [hz3]; exact ((Below.refl _ _).alloc (Nat.le_refl _) _).alloc (by simp) _
    have hsb3 : Hid (z3.heap[wr.heap.size]? = some (.cells #[.slice A n c] 50 (0, 0))) := by show _ = _; rw [hz3, Below.heap_alloc _ _ _ (by simp)]; exact heap_alloc_new wr _
    have hpb3 : Hid (z3.heap[wr.heap.size + 1]? = some (.cells #[.int .i64 (((i + 1 : Nat)) : Int)] 3 (0, 0))) := by show _ = _; rw [hz3, show ((i + 1 : Nat) : Int) = (i : Int) + 1 by omega]; have := heap_alloc_new (wr.alloc (.cells #[.slice A n c] 50)) (.cells #[.int .i64 ((i : Int) + 1)] 3); simpa using this
    have HE3 := Lib.hid (HE.out.below hb3)
    have HO3 := Lib.hid (HO.out.below hb3)
    have hwl : z2.heap.size + 1 + 1 < wr.heap.size := (Array.getElem?_eq_some_iff.1 HE.out.v).1
    have hwr3 : wr.heap.size + 1 < z3.heap.size := (Array.getElem?_eq_some_iff.1 hpb3.out).1
    have hrs3 : ∀ r ∈ rs, r < z3.heap.size := fun r hr => (Array.getElem?_eq_some_iff.1 (HE3.out.d r hr)).1
    clear hz3 hb3 s0 HE HO
    go_wp2_with fail
    refine wp_range rfl (by intro args w; kernel_rfl) ?_
    intro fn rc hrc_
    have hrc := Lib.hid hrc_
    clear hrc_
    obtain ⟨W1, hW1⟩ : ∃ W1, W1 = (z3.alloc (.deferred (some []))).alloc (.loop (rc .ready none)) := ⟨_, rfl⟩
    rw [← hW1]
    obtain ⟨lp, hlp⟩ : ∃ lp, lp = z3.heap.size + 1 := ⟨_, rfl⟩
    rw [← hlp]
    have hb12 : Below z3.heap.size z3 W1 := by rw [hW1]; exact ((Below.refl _ _).alloc (Nat.le_refl _) _).alloc (by simp) _
    have hL1 : W1.heap[lp]? = some (.loop (rc .ready none)) := by
      rw [hW1, hlp]; have := World.alloc_heap_new (z3.alloc (.deferred (some []))) (.loop (rc .ready none)); rwa [World.size_alloc] at this
    have hD1 : W1.heap[z3.heap.size]? = some (.deferred (some [])) := by
      rw [hW1]; exact (Below.heap_alloc _ _ _ (by simp)).trans (World.alloc_heap_new z3 _)
    have HE6 := Lib.hid (HE3.out.below hb12)
    have HO6 := Lib.hid (HO3.out.below hb12)
    have hpb := Lib.hid (keepO hb12 hpb3.out)
    have hsb' := Lib.hid (keepO hb12 hsb3.out)
    have hlp2 : z3.heap.size < lp := by omega
    clear hb12 hW1 HE3 HO3 hpb3 hsb3 hlp
    have HJ0 : Hid (MaJ w (z3.heap.size :: rs) lp A n c z2.heap.size (z2.heap.size + 1 + 1) (z2.heap.size + 1) ts i rc [] W1) := Lib.hid ⟨hL1, HE6.out.mark hD1, HO6.out, fun l hl => by simp at hl⟩
    clear hL1 hD1 HE6 HO6
    obtain ⟨JX, hJX⟩ : ∃ JX : List (List (Int × Int)) → List (Int × Int) → World → Prop, JX = fun _ _ _ => False := ⟨_, rfl⟩
    have HRO : RoundT lp [lp, z2.heap.size + 1] (lev n (i + 1)) (MaJ w (z3.heap.size :: rs) lp A n c z2.heap.size (z2.heap.size + 1 + 1) (z2.heap.size + 1) ts i rc) JX := by
      intro Q L A1 m c1 W hJ hLT hm hr hAl
      obtain ⟨hl1, hEK, hOK, hQ⟩ := hJ
      have hlt : lp < W.heap.size := (Array.getElem?_eq_some_iff.1 hl1).1
      have hL2 : (W.putObj lp (.loop { rc .ready none with state := .busy })).heap[lp]? = some (.loop { rc .ready none with state := .busy }) := World.putObj_heap_same hlt
      have hr2 := reads_put hr (by omega) (.loop { rc .ready none with state := .busy }) hl1
      have hE2 := hEK.put hl1 (by omega) (.loop { rc .ready none with state := .busy })
      have hO2 : OwnsK (W.putObj lp (.loop { rc .ready none with state := .busy })) (z2.heap.size + 1) (accS n ts i Q) := hOK.block (World.putObj_heap_other (by omega))
      have hK2 : Kp W.heap.size [lp, z2.heap.size + 1] W (W.putObj lp (.loop { rc .ready none with state := .busy })) := (Kp.refl _ _ _).put _ (Or.inl (by simp))
      have ks : (W.putObj lp (.loop { rc .ready none with state := .busy })).heap.size = W.heap.size := World.putObj_size
      have hbr := run_beginRound (P := Try.prog) hl1 (by rw [hrc.out]; rfl)
      have hy := run_yield (P := Try.prog) (args := #[.slice A1 m c1]) hl1 (by rw [hrc.out]; rfl)
      generalize hW2 : W.putObj lp (.loop { rc .ready none with state := .busy }) = W2 at *
      have hoj : ∀ W3 : World, W3.heap[lp]? = some (.loop { rc .ready none with state := .busy }) → ∀ jump, (Instr.endRound lp jump).run Try.prog W3 = .ok (.bool jump.isNone) (W3.putObj lp (.loop (rc (if jump.isNone then .ready else .done) jump))) := fun W3 h jump => by
        have := run_endRound (P := Try.prog) jump h
        rw [hrc.out] at this ⊢
        exact this
      rw [hrc.out] at hy
      refine ⟨_, _, _, _, hy, roundIn_of_wpIn trivial ?_⟩
      have hoj := Lib.hid hoj
      have HM2 := Lib.hid hE2
      have HSn := Lib.hid hO2
      have HL2 := Lib.hid hL2
      have HKW := Lib.hid hK2
      have HR2 : Hid (RdX [z2.heap.size + 1] W2 W2.heap.size 2 A1 m (prs L)) := Lib.hid ⟨by rw [ks]; exact hr2, fun p hp h0 hd => by have := hAl p hp h0; simp at hd; omega⟩
      have hbr := Lib.hid hbr
      have hQ' := Lib.hid hQ
      have hLT' := Lib.hid hLT
      have hlt2 : lp < W2.heap.size := by rw [ks]; exact hlt
      have hOk := okay_of hl hok'.out (valid_lev (by omega) hLT)
      have hin := ratL_in hOk (by rw [((lev_mem (i + 1) (by omega) L).1 hLT).1]; omega)
      have hacl : (accS n ts i Q).length < maxLen := by have := accS_len n hn8 ts i (by omega) Q hQ; unfold maxLen; omega
      obtain ⟨g0, -⟩ := one_facts HM2.out.s
      obtain ⟨g1, -⟩ := one_facts HM2.out.v
      have hls : z2.heap.size < W2.heap.size := (Array.getElem?_eq_some_iff.1 HM2.out.s).1
      have hlv : z2.heap.size + 1 + 1 < W2.heap.size := (Array.getElem?_eq_some_iff.1 HM2.out.v).1
      have HRt := Lib.hid (fun z (hz : Hid (Kp W2.heap.size [z2.heap.size + 1] W2 z)) => ratio_any A A1 n c m c1 hn ts L hOk z (HTd.out z (HM2.out.bel.trans (hz.out.below HM2.out.bel.size (fun d hd => by simp at hd; omega)))) ((HR2.out.keep hz.out (Nat.le_refl _) (fun d hd => Or.inl hd)).1.more hz.out.size))
      have HOw := Lib.hid (fun z (hz : Hid (Below W2.heap.size W2 z)) => HSn.out.below hz.out)
      have HQ := Lib.hid (fun z (hz : Hid (Kp W2.heap.size [z2.heap.size + 1] W2 z)) => (⟨(hz.out.cell (p := ⟨z2.heap.size, 0, none⟩) hls (by simp)).trans g0, (hz.out.cell (p := ⟨z2.heap.size + 1 + 1, 0, none⟩) hlv (by simp)).trans g1⟩ : z.cell? ⟨z2.heap.size, 0, none⟩ = some (.slice A n c) ∧ z.cell? ⟨z2.heap.size + 1 + 1, 0, none⟩ = some (.map (some (z2.heap.size + 1)))))
      obtain ⟨S4, hSd⟩ : ∃ S : World → Prop, S = fun z => (z.cell? ⟨z2.heap.size, 0, none⟩ = some (.slice A n c) ∧ z.cell? ⟨z2.heap.size + 1 + 1, 0, none⟩ = some (.map (some (z2.heap.size + 1)))) ∧ Hid (Kp W2.heap.size [z2.heap.size + 1] W2 z) := ⟨_, rfl⟩
      have HS := Lib.hid (fun z (hz : Hid (Kp W2.heap.size [z2.heap.size + 1] W2 z)) => (by rw [hSd]; exact ⟨HQ.out z hz, hz⟩ : S4 z))
      clear hy hEK hOK hQ hl1 hr hr2 hE2 hO2 hK2 ks hL2 hW2 hOk hAl g0 g1 hlt hls hlv HJ0 hpb hsb' hJX hLT
      simp only [rcd]
      gi_wp2_with fail
      refine region_in (S := S4) (by kernel_rfl) (by kernel_rfl) ?_ (fun hHeld => ?_)
      · exact HS.out _ (Lib.hid (Kp.refl _ _ _).drew)
      have hKyd : Hid (Kp W2.heap.size [z2.heap.size + 1] W2 W2.drew) := Lib.hid (Kp.refl _ _ _).drew
      have hSyd : W2.heap.size ≤ W2.drew.heap.size := Nat.le_refl _
      have hNyd : Hid (Below W2.heap.size W2 W2.drew) := Lib.hid (Below.refl W2.heap.size W2).drew
      generalize W2.drew = yd at *
      refine tkY (v := ?_) 0 32 rfl rfl (by kernel_rfl) (by kernel_rfl) (by kernel_rfl) (fun _ _ _ h => h) (by kernel_rfl) ?_ (by assumption) ?_
      rotate_left
      · intro w hSw; rw [hSd] at hSw; obtain ⟨⟨q0, q1⟩, -⟩ := hSw; go_simp; (try with_reducible rfl)
      try simp only [Act.put, List.setIfInBounds_toArray, List.set_cons_zero, List.set_cons_succ]
      refine tkY (v := ?_) 1 33 rfl rfl (by kernel_rfl) (by kernel_rfl) (by kernel_rfl) (fun _ _ _ h => h) (by kernel_rfl) ?_ (by assumption) ?_
      rotate_left
      · intro w hSw; rw [hSd] at hSw; obtain ⟨⟨q0, q1⟩, -⟩ := hSw; go_simp; (try with_reducible rfl)
      try simp only [Act.put, List.setIfInBounds_toArray, List.set_cons_zero, List.set_cons_succ]
      refine tkY (v := ?_) 2 34 rfl rfl (by kernel_rfl) (by kernel_rfl) (by kernel_rfl) (fun _ _ _ h => h) (by kernel_rfl) ?_ (by assumption) ?_
      rotate_left
      · intro w hSw; rw [hSd] at hSw; obtain ⟨⟨q0, q1⟩, -⟩ := hSw; go_simp; (try with_reducible rfl)
      try simp only [Act.put, List.setIfInBounds_toArray, List.set_cons_zero, List.set_cons_succ]
      refine wpAnyH_ready (rs := [3]) (by kernel_rfl) (by simp) ?_
      refine AllReadyH.cons (o := _) rfl (fun Kq hK => ?_) AllReadyH.nil
      go_simp
      refine (HRt.out yd hKyd).mono ?_
      rintro e c3yd ⟨rfl, hb⟩
      have hKc3yd := Lib.hid (hKyd.out.call hSyd hb)
      have hSc3yd := Nat.le_trans hSyd hb.size
      have hNc3yd := Lib.hid (hNyd.out.trans (hb.mono hSyd))
      clear hb
      try go_simp
      refine hK.out _ _ ?_ (fun hHeld => ?_)
      · exact HS.out _ hKc3yd
      clear hK Kq
      try simp only [Act.put, List.setIfInBounds_toArray, List.set_cons_zero, List.set_cons_succ]
      refine wpAnyH_ready (rs := [4]) (by kernel_rfl) (by simp) ?_
      refine AllReadyH.cons (o := _) rfl (fun Kq hK => ?_) AllReadyH.nil
      skip
      refine step_seen rfl _ _ _ rfl (z2.heap.size + 1) (accS n ts i Q) (ratL ts L) hin rfl (HOw.out c3yd hNc3yd) hacl rfl rfl ?_
      intro p4c3yd hs_ hg_
      have HSe := Lib.hid hs_
      have hKp4c3yd := Lib.hid (hKc3yd.out.grown hg_ hSc3yd (fun q hq => by cases hq; exact Or.inl (by simp)))
      have hSp4c3yd := Nat.le_trans hSc3yd hg_.size
      clear hs_ hg_
      refine hK.out _ _ ?_ (fun hHeld => ?_)
      · exact HS.out _ hKp4c3yd
      clear hK Kq
      try simp only [Act.put, List.setIfInBounds_toArray, List.set_cons_zero, List.set_cons_succ]
      refine wpAnyH_done (by kernel_rfl) ?_ _
      clear HS HQ hSd HRt
      have h4 := Lib.hid ((hKp4c3yd.out.block lp hlt2 (by simp; omega)).trans HL2.out)
      have HM3 := Lib.hid (HM2.out.kp HSn.out hKp4c3yd.out)
      have HK3 := Lib.hid (HKW.out.trans (hKp4c3yd.out.mono HKW.out.size (fun d hd => Or.inl (by simp at hd; simp [hd]))))
      have hlt3 : lp < p4c3yd.heap.size := Nat.lt_of_lt_of_le hlt2 hKp4c3yd.out.size
      clear HM2 HSn HL2 HKW hKp4c3yd hSp4c3yd HOw
      simp only [only]
      gi_wp2
      refine ⟨_, _, hoj.out _ h4.out none, .inr ⟨rfl, HK3.out.put _ (Or.inl (by simp)), World.putObj_heap_same hlt3, HM3.out.put h4.out (by omega) _, ?_, fun x hx => ?_⟩⟩
      · rw [accS_snoc]
        exact HSe.out.block (World.putObj_heap_other (by omega))
      · rcases List.mem_append.1 hx with hx | hx
        · exact hQ'.out x hx
        · rw [List.mem_singleton] at hx; rw [hx]; exact hLT'.out
    have hds : ∀ d ∈ [lp, z2.heap.size + 1], d ≤ lp := fun d hd => by simp at hd; omega
    refine (trn1_any lp [lp, z2.heap.size + 1] (wr.heap.size + 1) wr.heap.size A n c (i + 1) (lev n (i + 1)) _ _ (fun Q W W' h hb => ⟨keepO hb h.1, h.2.1.below hb, h.2.2.1.below hb, h.2.2.2⟩) HRO hn (by omega) (fun x hx => by rw [dfs_lev n (i + 1) (by omega)] at hx; exact hx) [] W1 HJ0.out hpb.out (by simp; omega) hsb'.out (by simp; omega) hds (Array.getElem?_eq_some_iff.1 HJ0.out.1).1).mono ?_
    rintro e W3 ⟨hv, -, bb, hout⟩
    refine ⟨hv, ?_⟩
    rw [dfs_lev n (i + 1) (by omega)] at hout
    have hnd' : (z3.heap.size :: rs).Nodup := List.nodup_cons.2 ⟨fun h => by have := hrs3 _ h; omega, hnd⟩
    have hrs' : ∀ r ∈ z3.heap.size :: rs, z2.heap.size + 1 + 1 < r := fun r hr => by
      rcases List.mem_cons.1 hr with rfl | hr
      · omega
      · exact hrs r hr
    clear HRO HJ0 hv hds
    rcases hout with ⟨-, hJ⟩ | ⟨-, M1, L, M2, hM, hJ⟩
    · obtain ⟨hl1, hE, hO, hQ⟩ := hJ
      refine ⟨.ready, none, hl1, by simp, ?_⟩
      show Exit.inBlock _ _ _ _ _
      have HE4 := Lib.hid (hE.put hl1 (by omega) (.loop (rc .exhausted none)))
      have HO4 : Hid (OwnsK (W3.putObj lp (.loop (rc .exhausted none))) (z2.heap.size + 1) (accS n ts (i + 1) [])) := Lib.hid (by rw [← accS_next]; exact hO.block (World.putObj_heap_other (by omega)))
      obtain ⟨W4, hW4⟩ : ∃ W4, W4 = W3.putObj lp (.loop (rc .exhausted none)) := ⟨_, rfl⟩
      rw [← hW4] at HE4 HO4 ⊢
      clear hl1 hE hO hQ hW4
      go_wp2
      refine ⟨by rw [hIIh.out]; exact ⟨_, _, _, _, _, _, _, _, _, _, _, _, _, _, _, _, i + 1, z3.heap.size :: rs, by omega, rfl, hnd', hrs', HE4, HO4⟩, ?_⟩
      simp [RowKit.intOf]; omega
    · rw [hJX] at hJ
      exact hJ.elim
  · have hii : ¬ (i : Int) < (PP : Int) := by omega
    obtain rfl : i = PP := by omega
    have hlen := HO.out.len
    obtain ⟨q0, -⟩ := one_facts HE.out.v
    have mB := Lib.hid HE.out.bel
    have kd := Lib.hid (fun r (hr : r ∈ rs) => HE.out.d r hr)
    clear HE HO
    go_wp2
    refine leaves_marks rs _ hnd kd.out fun W' o1 o2 o3 o4 o5 => ?_
    refine ⟨.tuple #[.int .i64 ((accS n ts i []).length : Int), .int .i64 0], by simp [results, Try.results10, go_sem], by rw [hEq.out.1, hEq.out.2], ⟨o1.trans mB.out.os, o2.trans mB.out.tape, o3.trans mB.out.output, by rw [o4]; exact mB.out.size, fun k hk => (o5 k (fun hm => by have := hrs k hm; omega)).trans (mB.out.block k hk)⟩⟩
end Go.Proofs.Ytjmegnbjacndpaa
