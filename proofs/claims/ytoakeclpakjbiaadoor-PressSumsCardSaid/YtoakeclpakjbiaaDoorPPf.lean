/-
  The walk of what proves that there is no more of a kind: the program's.
-/
import Derived.Test.YtoakeclpakjbiaaDoorPrf
namespace Go.Proofs.YtoakeclpakjbiaaDoor
open Go.RowKit
set_option linter.unusedVariables false
set_option linter.unusedSimpArgs false
/-- What proves it, by the program. -/
def prpL (ps : List PR) (ws : List WE) (k : Int) : List Int := if allE ps ws k = 0 then (match proofsL (toT ps) (rowsT ps ws) k.toNat (idQ ps) ps.length with | [] => [] | m :: l => minL m l) else []
theorem make_nums (n : Nat) (hn : n ≤ 10) (w : World) : (Instr.makeSlice 51 (.int .i64 n) (.int .i64 n)).run Tryd.prog w = .ok (.slice (some ⟨w.heap.size, 0, none⟩) n n) (w.alloc (.cells (madeCells #[.int .i64 0] n) 3)) := by
  obtain ⟨i0, hi, hz0, hz1, hz2⟩ := info_parts info_int
  have := run_make w 51 3 i0 _ Tryd.underlying51 hi hz0 .i64 .i64 n n (by omega) (by omega) (by rw [hz2]; omega) (by omega)
  rw [this, hz1, Nat.mul_one]
  rfl
/-- The argument's copy, and the kind's. -/
structure PKd (w : World) (A A' : Option Addr) (n c n' c' : Nat) (k : Int) (z : World) : Prop where
  b0 : z.heap[w.heap.size]? = some (.cells #[.slice A n c, .slice A' n' c'] 25 (0, 0))
  b1 : z.heap[w.heap.size + 1]? = some (.cells #[.int .i64 k] 3 (0, 0))
  bel : Below w.heap.size w z
section
variable {w z y : World} {A A' : Option Addr} {n c n' c' : Nat} {k : Int}
theorem PKd.size (h : PKd w A A' n c n' c' k z) : w.heap.size + 2 ≤ z.heap.size := (Array.getElem?_eq_some_iff.1 h.b1).1
theorem PKd.below (h : PKd w A A' n c n' c' k z) (hb : Below z.heap.size z y) : PKd w A A' n c n' c' k y :=
  ⟨keepO hb h.b0, keepO hb h.b1, below_via h.bel (by have := h.size; omega) hb⟩
theorem PKd.cells (h : PKd w A A' n c n' c' k z) : z.cell? ⟨w.heap.size, 0, none⟩ = some (.slice A n c) ∧ z.cell? ⟨w.heap.size, 1, none⟩ = some (.slice A' n' c') ∧ z.cell? ⟨w.heap.size + 1, 0, none⟩ = some (.int .i64 k) := by
  obtain ⟨a, b, -, -⟩ := two_facts h.b0
  exact ⟨a, b, (one_facts h.b1).1⟩
theorem PKd.start (w : World) (A A' : Option Addr) (n c n' c' : Nat) (k : Int) : PKd w A A' n c n' c' k ((w.alloc (.cells #[.slice A n c, .slice A' n' c'] 25)).alloc (.cells #[.int .i64 k] 3)) := by
  have h1 := heap_alloc_new (w.alloc (.cells #[.slice A n c, .slice A' n' c'] 25)) (.cells #[.int .i64 k] 3)
  simp only [World.size_alloc] at h1
  refine ⟨?_, h1, ((Below.refl _ _).alloc (Nat.le_refl _) _).alloc (by simp) _⟩
  rw [heap_lt_alloc' _ _ _ (by simp)]; exact heap_alloc_new w _
end
theorem rdl_of {W : World} {b0 bk bm bo b1 bl bp bf ga n K : Nat} {A A' : Option Addr} {c n' c' mb : Nat} {most one : Int} {y : Nat → Int} {q : Option Addr} {N e : Nat} {vs : List Value} {Ls : List (List Int)} {z : World} (h : TP W b0 bk bm bo b1 bl bp bf ga n K A A' c n' c' mb most one y (.slice q N e) vs Ls z) : RdL z q Ls.length Ls := by
  have hlo := h.lo
  obtain ⟨B, d, hd⟩ := ownR_val hlo
  injection hd with e1 e2 e3
  subst e1
  subst e2
  refine ⟨vs, Reads.of_own hlo, rfl, fun j L hL => ?_⟩
  obtain ⟨B, m, d, e1, e2, e3⟩ := h.le j L hL
  exact ⟨B, m, d, e1, e2, Reads.of_own e3⟩
theorem below_of {a b c : World} (h : Below a.heap.size a b) (h' : Below b.heap.size b c) : Below a.heap.size a c := below_via h h.size h'
theorem mem_old {w : World} {o : Obj} {b : Nat} {v : Obj} (h : w.heap[b]? = some v) : (w.alloc o).heap[b]? = some v := (heap_lt_alloc' _ _ _ (Array.getElem?_eq_some_iff.1 h).1).trans h
set_option maxHeartbeats 1000000 in
theorem tp_start {W zg : World} {b0 bk n K mb : Nat} {A A' : Option Addr} {c n' c' : Nat} {most one : Int} (h0 : W.heap[b0]? = some (.cells #[.slice A n c, .slice A' n' c'] 25 (0, 0))) (hk : W.heap[bk]? = some (.cells #[.int .i64 K] 3 (0, 0))) (hb : Below (W.alloc (.cells #[.pointer (some ⟨mb, 0, none⟩)] 96)).heap.size (W.alloc (.cells #[.pointer (some ⟨mb, 0, none⟩)] 96)) zg) :
    TP W b0 bk W.heap.size zg.heap.size (zg.heap.size + 1) (zg.heap.size + 1 + 1) (zg.heap.size + 1 + 1 + 1 + 1) (zg.heap.size + 1 + 1 + 1 + 1 + 1) (zg.heap.size + 1 + 1 + 1) n K A A' c n' c' mb most one (fun _ => 0) (.slice none 0 0) [] [] ((((((((((((zg.alloc (.cells #[.int .i64 most] 3)).alloc (.cells #[.int .i64 one] 3)).alloc (.cells #[.slice none 0 0] 149)).alloc (.cells (madeCells #[.int .i64 0] n) 3)).alloc (.cells #[.slice (some ⟨zg.heap.size + 1 + 1 + 1, 0, none⟩) n n] 51)).alloc (.cells #[.func (.func 88) #[] #[.pointer (some ⟨zg.heap.size + 1 + 1 + 1 + 1, 0, none⟩), .pointer (some ⟨W.heap.size, 0, none⟩), .pointer (some ⟨bk, 0, none⟩), .pointer (some ⟨zg.heap.size, 0, none⟩), .pointer (some ⟨zg.heap.size + 1 + 1, 0, none⟩), .pointer (some ⟨zg.heap.size + 1 + 1 + 1 + 1 + 1, 0, none⟩), .pointer (some ⟨zg.heap.size + 1, 0, none⟩), .pointer (some ⟨b0, 0, none⟩)]] 150)))))))) := by
  have hs := hb.size
  simp only [World.size_alloc] at hs
  have hWz : Below W.heap.size W zg := ((Below.refl _ _).alloc (Nat.le_refl _) _).trans (hb.mono (by simp))
  have e0 := (Array.getElem?_eq_some_iff.1 h0).1
  have ek := (Array.getElem?_eq_some_iff.1 hk).1
  have o : ∀ (b : Nat) (v : Obj), W.heap[b]? = some v → zg.heap[b]? = some v := fun b v hv => (hWz.block b (Array.getElem?_eq_some_iff.1 hv).1).trans hv
  have hm : zg.heap[W.heap.size]? = some (.cells #[.pointer (some ⟨mb, 0, none⟩)] 96 (0, 0)) := (hb.block _ (by simp)).trans (heap_alloc_new W _)
  have n1 := heap_alloc_new zg (.cells #[.int .i64 most] 3)
  have n2 := heap_alloc_new (zg.alloc (.cells #[.int .i64 most] 3)) (.cells #[.int .i64 one] 3)
  have n3 := heap_alloc_new ((zg.alloc (.cells #[.int .i64 most] 3)).alloc (.cells #[.int .i64 one] 3)) (.cells #[.slice none 0 0] 149)
  have n4 := World.rowIs_made (((zg.alloc (.cells #[.int .i64 most] 3)).alloc (.cells #[.int .i64 one] 3)).alloc (.cells #[.slice none 0 0] 149)) (.int .i64 0) n 3
  have n5 := heap_alloc_new ((((zg.alloc (.cells #[.int .i64 most] 3)).alloc (.cells #[.int .i64 one] 3)).alloc (.cells #[.slice none 0 0] 149)).alloc (.cells (madeCells #[.int .i64 0] n) 3)) (.cells #[.slice (some ⟨zg.heap.size + 1 + 1 + 1, 0, none⟩) n n] 51)
  have n6 := heap_alloc_new (((((zg.alloc (.cells #[.int .i64 most] 3)).alloc (.cells #[.int .i64 one] 3)).alloc (.cells #[.slice none 0 0] 149)).alloc (.cells (madeCells #[.int .i64 0] n) 3)).alloc (.cells #[.slice (some ⟨zg.heap.size + 1 + 1 + 1, 0, none⟩) n n] 51)) (.cells #[.func (.func 88) #[] #[.pointer (some ⟨zg.heap.size + 1 + 1 + 1 + 1, 0, none⟩), .pointer (some ⟨W.heap.size, 0, none⟩), .pointer (some ⟨bk, 0, none⟩), .pointer (some ⟨zg.heap.size, 0, none⟩), .pointer (some ⟨zg.heap.size + 1 + 1, 0, none⟩), .pointer (some ⟨zg.heap.size + 1 + 1 + 1 + 1 + 1, 0, none⟩), .pointer (some ⟨zg.heap.size + 1, 0, none⟩), .pointer (some ⟨b0, 0, none⟩)]] 150)
  simp only [World.size_alloc] at n2 n3 n4 n5 n6
  refine ⟨⟨e0, ek, Nat.le_refl _, by omega, by omega, by omega, by omega, by omega, by omega⟩, ?_, mem_old (mem_old (mem_old (mem_old (mem_old (mem_old (o _ _ h0)))))), mem_old (mem_old (mem_old (mem_old (mem_old (mem_old (o _ _ hk)))))), mem_old (mem_old (mem_old (mem_old (mem_old (mem_old hm))))),
    mem_old (mem_old (mem_old (mem_old (mem_old n1)))), mem_old (mem_old (mem_old (mem_old n2))), mem_old (mem_old (mem_old n3)), mem_old n5, n6, (n4.alloc _).alloc _, World.ownsRow_nil _ _ _ _, fun j L hL => by cases hL⟩
  exact (((((hWz.alloc (by omega) _).alloc (by simp; omega) _).alloc (by simp; omega) _).alloc (by simp; omega) _).alloc (by simp; omega) _).alloc (by simp; omega) _
set_option maxRecDepth 100000 in
set_option maxHeartbeats 4000000 in
theorem pProof_any (A A' : Option Addr) (n c n' c' : Nat) (ps : List PR) (ws : List WE) (k : Int) (w : World) (hnm : n ≤ maxLen) (hR : Reads w w.heap.size 4 A n (pgs ps)) (hW : Reads w w.heap.size 5 A' n' (wgs ws)) (hL : Laid w) :
    Calls Tryd.prog 44 #[.agg #[.slice A n c, .slice A' n' c'], .int .i64 k] w fun e w' => (∃ A1 m c1, e = .returned (.tuple #[.slice A1 m c1, .int .i64 (allE ps ws k)]) ∧ m ≤ 10 ∧ Reads w' w'.heap.size 1 A1 m (ints (prpL ps ws k))) ∧ Below w.heap.size w w' := by
  have hl : ps.length = n := hR.pg_len
  have HA := Lib.hid (fun z (hz : Below w.heap.size w z) => askedAll_any A A' n c n' c' ps ws k z hnm ((hR.below hz).more hz.size) ((hW.below hz).more hz.size) (hL.below hz hL.2.2.2))
  have HRd := Lib.hid (fun z (hz : Below w.heap.size w z) => (hR.below hz).more hz.size)
  have hP0 := Lib.hid (PKd.start w A A' n c n' c' k)
  clear hR hW hL
  go_enter Tryd.func44, Tryd.ntmps44
  go_wp2_with fail
  refine (HA.out _ hP0.out.bel).mono ?_
  rintro e wq ⟨hb1, hbad, hok⟩
  have HPq := Lib.hid (hP0.out.below hb1)
  clear hb1 hP0
  by_cases h0 : allE ps ws k = 0
  · obtain ⟨mb, At, Ar, Au, Ai, ct, cr, cu, ci, rfl, hM⟩ := hok h0
    obtain ⟨hv, hk1, hk5, ht⟩ := allE_ok h0
    obtain ⟨K, rfl⟩ : ∃ K : Nat, k = K := ⟨k.toNat, by omega⟩
    have hVF := valid_facts hv
    have hn : n ≤ 10 := by have h := hVF.n10; omega
    have hFw := hVF.fwd
    have hHo := hasHolds hVF ht
    have hSm := hVF.smr ws.length
    rw [List.take_length, hl] at hSm
    have hps := proofs_some (kind := K) hFw (by omega) hHo (idQ ps)
    rw [hl] at hFw hHo hps
    have hIn : ∀ i, i < n → In1 (rowsT ps ws i) := fun i _ => rows_In1 hVF i
    have hK5 : 1 ≤ K ∧ K ≤ 5 := by omega
    have HG := Lib.hid (fun z (hz : MR z mb n (toT ps) (rowsT ps ws) (upP (toT ps) (rowsT ps ws)) (intoP (toT ps) (rowsT ps ws)) At Ar Au Ai ct cr cu ci) => greatest_any mb n (toT ps) (rowsT ps ws) _ _ At Ar Au Ai ct cr cu ci hn hFw hHo hIn K hK5 1 (.inl rfl) z hz)
    obtain ⟨M, Ls, hML⟩ : ∃ M Ls, proofsL (toT ps) (rowsT ps ws) K (idQ ps) n = M :: Ls := by
      cases h : proofsL (toT ps) (rowsT ps ws) K (idQ ps) n with
      | nil => exact absurd h hps
      | cons M Ls => exact ⟨M, Ls, rfl⟩
    have hsp : Hid (prpL ps ws (K : Int) = minL M Ls) := by
      show _ = _; unfold prpL; rw [if_pos h0, Int.toNat_natCast, hl, hML]
    unfold proofsL at hML
    have hask := Lib.hid h0
    have HM := Lib.hid hM
    have hbm : Below wq.heap.size wq (wq.alloc (.cells #[.pointer (some ⟨mb, 0, none⟩)] 96)) := (Below.refl _ _).alloc (Nat.le_refl _) _
    have hMm := Lib.hid (hM.below hbm)
    obtain ⟨p0, p1, p2⟩ := HPq.out.cells
    have c3 := hM.c3
    have hml := hM.lt
    have hmk := fun w => make_nums n hn w
    have p2a : ∀ o, (wq.alloc o).cell? ⟨w.heap.size + 1, 0, none⟩ = some (.int .i64 K) := fun o => (((Below.refl wq.heap.size wq).alloc (Nat.le_refl _) o).cell (by have := HPq.out.size; simp only; omega)).trans p2
    have hFh := Lib.hid hFw
    have hSmh := Lib.hid hSm
    clear hFw hSm
    generalize hgv : grt (toT ps) (rowsT ps ws) K 1 n = gv at *
    have hgvh := Lib.hid hgv
    clear hv ht h0 hVF hHo hIn hM hok hbad HA hps hbm hgv hk1 hk5 hl
    by_cases hc1 : K = 1
    · have hk1b : ((K : Int) == 1) = true := by simp [hc1]
      have hone : sgP K 1 = -1 := by unfold sgP; simp [hc1]
      rw [hone] at hML
      have hMLh := Lib.hid hML
      clear hc1 hone hML
      go_wp2_with fail
      refine (HG.out _ hMm.out).mono ?_
      rintro e zg ⟨rfl, hbg⟩
      have hMg := Lib.hid (hMm.out.below hbg)
      have hbwz : Below wq.heap.size wq zg := ((Below.refl _ _).alloc (Nat.le_refl _) _).trans (hbg.mono (by simp))
      have hszg := hbwz.size
      have hTs := Lib.hid (tp_start (W := wq) (zg := zg) (A := A) (A' := A') (c := c) (n' := n') (c' := c') (K := K) (mb := mb) (most := gv) (one := (-1)) (n := n) (b0 := w.heap.size) (bk := w.heap.size + 1) HPq.out.b0 HPq.out.b1 hbg)
      have hkk : ∀ a b, ((zg.alloc a).alloc b).cell? ⟨w.heap.size + 1, 0, none⟩ = some (.int .i64 K) := fun a b => ((((Below.refl zg.heap.size zg).alloc (Nat.le_refl _) a).alloc (by simp) b).cell (by have := HPq.out.size; simp only; omega)).trans ((hbwz.cell (by have := HPq.out.size; simp only; omega)).trans p2)
      have hmm : ∀ a b d, (((zg.alloc a).alloc b).alloc d).cell? ⟨wq.heap.size, 0, none⟩ = some (.pointer (some ⟨mb, 0, none⟩)) := fun a b d => (((((Below.refl zg.heap.size zg).alloc (Nat.le_refl _) a).alloc (by simp) b).alloc (by simp; omega) d).cell (by have := hbg.size; simp at this; simp only; omega)).trans ((hbg.cell (by simp)).trans (one_facts (heap_alloc_new wq _)).1)
      have hcc : ∀ a b d, (((zg.alloc a).alloc b).alloc d).cell? ⟨mb, 3, none⟩ = some (.slice Ar n cr) := fun a b d => (((((Below.refl zg.heap.size zg).alloc (Nat.le_refl _) a).alloc (by simp) b).alloc (by simp; omega) d).cell (by simp only; omega)).trans ((hbwz.cell (by simp only; omega)).trans c3)
      have hTry := Lib.hid (fun z (hT : TP wq w.heap.size (w.heap.size + 1) wq.heap.size zg.heap.size (zg.heap.size + 1) (zg.heap.size + 1 + 1) (zg.heap.size + 1 + 1 + 1 + 1) (zg.heap.size + 1 + 1 + 1 + 1 + 1) (zg.heap.size + 1 + 1 + 1) n K A A' c n' c' mb gv (-1) (fun _ => 0) (.slice none 0 0) [] [] z) => try_any wq w.heap.size (w.heap.size + 1) wq.heap.size zg.heap.size (zg.heap.size + 1) (zg.heap.size + 1 + 1) (zg.heap.size + 1 + 1 + 1 + 1) (zg.heap.size + 1 + 1 + 1 + 1 + 1) (zg.heap.size + 1 + 1 + 1) n K A A' c n' c' mb gv (-1) At Ar Au Ai ct cr cu ci ps (toT ps) (rowsT ps ws) _ _ hn hFh.out hSmh.out (by omega) (by decide) HM.out (HRd.out _ HPq.out.bel) n 0 0 (fun _ => 0) none 0 [] (.slice none 0 0) [] [] z (Nat.le_refl _) (by omega) (fun _ _ => rfl) (fun _ _ => by decide) (Nat.le_refl _) (by have := Nat.pow_le_pow_right (n := 2) (by decide) hn; simp; omega) hT (World.ownsRow_nil _ _ _ _) (fun u hu => by cases hu))
      clear hbg hbwz p2 c3 p0 p1 hMm hMg
      go_wp2_with fail
      refine (hTry.out _ hTs.out).mono ?_
      rintro e zt ⟨rfl, ⟨vl', vsn, hT, -, -⟩, -, hszt, -⟩
      have hML2 := hMLh.out
      rw [List.nil_append, List.nil_append, hML2] at hT
      have hTh := Lib.hid hT
      obtain ⟨Av, cv, rfl⟩ := ownR_val hT.lo
      have hRL : RdL zt Av (Ls.length + 1) (M :: Ls) := rdl_of hT
      obtain ⟨l0, -⟩ := one_facts hT.cl
      have hlen := Lib.hid (show Ls.length + 1 ≤ 4096 by
        have h1 := trS_len (T := toT ps) (R := rowsT ps ws) (K := K) (price := (-1)) (most := gv) (ids := idQ ps) (n := n) n (fun _ => 0) []
        have h2 := Nat.pow_le_pow_right (n := 2) (by decide) hn
        rw [hML2] at h1
        simp at h1
        omega)
      have hFi := Lib.hid (first_any Av (Ls.length + 1) cv M Ls zt hlen.out hRL)
      have hBt := Lib.hid (below_of HPq.out.bel hT.bel)
      clear hT hML2 hRL hTs hTry hkk hmm hcc hmk
      go_wp2_with fail
      refine hFi.out.mono ?_
      rintro e zf ⟨⟨B, m, d, rfl, hm, hr⟩, hb⟩
      have hrh := Lib.hid hr
      have hBf := Lib.hid (below_via hBt.out hBt.out.size hb)
      clear hr hb hFi l0
      go_wp2
      refine bodyPost_ret (v := .tuple #[.slice B m d, .int .i64 0]) (by simp [results, Tryd.results44, go_sem]) rfl ?_
      exact ⟨⟨B, m, d, by rw [hask.out], hm, by rw [hsp.out]; exact hrh.out⟩, hBf.out⟩
    · have hk1b : ((K : Int) == 1) = false := by simp; omega
      have hone : sgP K 1 = 1 := by unfold sgP; simp [hc1]
      rw [hone] at hML
      have hMLh := Lib.hid hML
      clear hc1 hone hML
      go_wp2_with fail
      refine (HG.out _ hMm.out).mono ?_
      rintro e zg ⟨rfl, hbg⟩
      have hMg := Lib.hid (hMm.out.below hbg)
      have hbwz : Below wq.heap.size wq zg := ((Below.refl _ _).alloc (Nat.le_refl _) _).trans (hbg.mono (by simp))
      have hszg := hbwz.size
      have hTs := Lib.hid (tp_start (W := wq) (zg := zg) (A := A) (A' := A') (c := c) (n' := n') (c' := c') (K := K) (mb := mb) (most := gv) (one := 1) (n := n) (b0 := w.heap.size) (bk := w.heap.size + 1) HPq.out.b0 HPq.out.b1 hbg)
      have hkk : ∀ a b, ((zg.alloc a).alloc b).cell? ⟨w.heap.size + 1, 0, none⟩ = some (.int .i64 K) := fun a b => ((((Below.refl zg.heap.size zg).alloc (Nat.le_refl _) a).alloc (by simp) b).cell (by have := HPq.out.size; simp only; omega)).trans ((hbwz.cell (by have := HPq.out.size; simp only; omega)).trans p2)
      have hmm : ∀ a b d, (((zg.alloc a).alloc b).alloc d).cell? ⟨wq.heap.size, 0, none⟩ = some (.pointer (some ⟨mb, 0, none⟩)) := fun a b d => (((((Below.refl zg.heap.size zg).alloc (Nat.le_refl _) a).alloc (by simp) b).alloc (by simp; omega) d).cell (by have := hbg.size; simp at this; simp only; omega)).trans ((hbg.cell (by simp)).trans (one_facts (heap_alloc_new wq _)).1)
      have hcc : ∀ a b d, (((zg.alloc a).alloc b).alloc d).cell? ⟨mb, 3, none⟩ = some (.slice Ar n cr) := fun a b d => (((((Below.refl zg.heap.size zg).alloc (Nat.le_refl _) a).alloc (by simp) b).alloc (by simp; omega) d).cell (by simp only; omega)).trans ((hbwz.cell (by simp only; omega)).trans c3)
      have hTry := Lib.hid (fun z (hT : TP wq w.heap.size (w.heap.size + 1) wq.heap.size zg.heap.size (zg.heap.size + 1) (zg.heap.size + 1 + 1) (zg.heap.size + 1 + 1 + 1 + 1) (zg.heap.size + 1 + 1 + 1 + 1 + 1) (zg.heap.size + 1 + 1 + 1) n K A A' c n' c' mb gv 1 (fun _ => 0) (.slice none 0 0) [] [] z) => try_any wq w.heap.size (w.heap.size + 1) wq.heap.size zg.heap.size (zg.heap.size + 1) (zg.heap.size + 1 + 1) (zg.heap.size + 1 + 1 + 1 + 1) (zg.heap.size + 1 + 1 + 1 + 1 + 1) (zg.heap.size + 1 + 1 + 1) n K A A' c n' c' mb gv 1 At Ar Au Ai ct cr cu ci ps (toT ps) (rowsT ps ws) _ _ hn hFh.out hSmh.out (by omega) (by decide) HM.out (HRd.out _ HPq.out.bel) n 0 0 (fun _ => 0) none 0 [] (.slice none 0 0) [] [] z (Nat.le_refl _) (by omega) (fun _ _ => rfl) (fun _ _ => by decide) (Nat.le_refl _) (by have := Nat.pow_le_pow_right (n := 2) (by decide) hn; simp; omega) hT (World.ownsRow_nil _ _ _ _) (fun u hu => by cases hu))
      clear hbg hbwz p2 c3 p0 p1 hMm hMg
      go_wp2_with fail
      refine (hTry.out _ hTs.out).mono ?_
      rintro e zt ⟨rfl, ⟨vl', vsn, hT, -, -⟩, -, hszt, -⟩
      have hML2 := hMLh.out
      rw [List.nil_append, List.nil_append, hML2] at hT
      have hTh := Lib.hid hT
      obtain ⟨Av, cv, rfl⟩ := ownR_val hT.lo
      have hRL : RdL zt Av (Ls.length + 1) (M :: Ls) := rdl_of hT
      obtain ⟨l0, -⟩ := one_facts hT.cl
      have hlen := Lib.hid (show Ls.length + 1 ≤ 4096 by
        have h1 := trS_len (T := toT ps) (R := rowsT ps ws) (K := K) (price := 1) (most := gv) (ids := idQ ps) (n := n) n (fun _ => 0) []
        have h2 := Nat.pow_le_pow_right (n := 2) (by decide) hn
        rw [hML2] at h1
        simp at h1
        omega)
      have hFi := Lib.hid (first_any Av (Ls.length + 1) cv M Ls zt hlen.out hRL)
      have hBt := Lib.hid (below_of HPq.out.bel hT.bel)
      clear hT hML2 hRL hTs hTry hkk hmm hcc hmk
      go_wp2_with fail
      refine hFi.out.mono ?_
      rintro e zf ⟨⟨B, m, d, rfl, hm, hr⟩, hb⟩
      have hrh := Lib.hid hr
      have hBf := Lib.hid (below_via hBt.out hBt.out.size hb)
      clear hr hb hFi l0
      go_wp2
      refine bodyPost_ret (v := .tuple #[.slice B m d, .int .i64 0]) (by simp [results, Tryd.results44, go_sem]) rfl ?_
      exact ⟨⟨B, m, d, by rw [hask.out], hm, by rw [hsp.out]; exact hrh.out⟩, hBf.out⟩
  · obtain rfl := hbad h0
    have hS : Hid (prpL ps ws k = []) := by show _ = _; unfold prpL; rw [if_neg h0]
    obtain ⟨er, her⟩ : ∃ er, er = allE ps ws k := ⟨_, rfl⟩
    rw [← her] at h0 ⊢
    have h0b : (er == 0) = false := by simpa using h0
    have h0n : (er != 0) = true := by simpa using h0
    have herh := Lib.hid her
    have hBx : Hid (Below w.heap.size w (wq.alloc (.cells #[.pointer none] 96))) := Lib.hid (HPq.out.bel.alloc HPq.out.bel.size _)
    clear her hl hok hbad HA
    go_wp2
    refine bodyPost_ret (v := .tuple #[.slice none 0 0, .int .i64 er]) (by simp [results, Tryd.results44, go_sem]) rfl ?_
    have hfin : (∃ A1 m c1, Ending.returned (.tuple #[.slice none 0 0, .int .i64 er]) = .returned (.tuple #[.slice A1 m c1, .int .i64 (allE ps ws k)]) ∧ m ≤ 10 ∧ Reads (wq.alloc (.cells #[.pointer none] 96)) (wq.alloc (.cells #[.pointer none] 96)).heap.size 1 A1 m (ints (prpL ps ws k))) ∧ Below w.heap.size w (wq.alloc (.cells #[.pointer none] 96)) :=
      ⟨⟨none, 0, 0, by rw [herh.out], by omega, by rw [hS.out]; exact Reads.none_⟩, hBx.out⟩
    first | exact hfin | simpa using hfin
end Go.Proofs.YtoakeclpakjbiaaDoor
