/-
  The walk of whether a list is a truth, by the reference.
-/
import Derived.Test.YtoakeclpakjbiaaDoorRAsk
import Derived.Test.YtoakeclpakjbiaaDoorFir
namespace Go.Proofs.YtoakeclpakjbiaaDoor
open Go.RowKit
set_option linter.unusedVariables false
set_option linter.unusedSimpArgs false

theorem wds_len {w : World} {B n : Nat} {A : Option Addr} {l : List (Nat → Int)} (h : Reads w B 8 A n (wds l)) : l.length = n := h.rec_len (m := 8) (fun _ => rfl) (by omega)
theorem Reads.wd {w : World} {B n k : Nat} {A : Option Addr} {l : List (Nat → Int)} (h : Reads w B 8 A n (wds l)) (hk : k < n) :
    ∃ b o f, A = some ⟨b, o, none⟩ ∧ b < B ∧ l[k]? = some f ∧ ∀ j, j < 8 → w.cell? ⟨b, o + k * 8 + j, none⟩ = some (.int .i64 (f j)) := by
  obtain ⟨b, o, f, e, hb, hx, hc⟩ := h.rec_at (m := 8) (fun _ => rfl) (by omega) hk
  refine ⟨b, o, f, e, hb, hx, fun j hj => ?_⟩
  rw [Nat.add_assoc]
  refine hc j _ ?_
  rcases (by omega : j = 0 ∨ j = 1 ∨ j = 2 ∨ j = 3 ∨ j = 4 ∨ j = 5 ∨ j = 6 ∨ j = 7) with rfl | rfl | rfl | rfl | rfl | rfl | rfl | rfl <;> rfl
def atF (l : List (Nat → Int)) (i : Nat) : Nat → Int := match l[i]? with | some f => f | none => fun _ => 0
def okF (ps : List PR) (ws : List WE) (l : List (Nat → Int)) (i k : Nat) : Prop := (rowsT ps ws i k).1 ≤ atF l i (1 + k) ∧ atF l i (1 + k) ≤ (rowsT ps ws i k).2
/-- The weights of one pressing are of the notes' spans. -/
def rowF (ps : List PR) (ws : List WE) (l : List (Nat → Int)) (i : Nat) : Prop := atF l i 0 = idO ps i ∧ atF l i 1 = 0 ∧ ∀ k, 1 ≤ k → k < 7 → okF ps ws l i k
/-- What comes into a place as parings, from those ahead of place m. -/
def inF2 (t : Nat → Option Nat) (l : List (Nat → Int)) (i : Nat) : Nat → Int
  | 0 => 0
  | m + 1 => if t m = some i then inF2 t l i m + atF l m 7 else inF2 t l i m
def outF (l : List (Nat → Int)) (i : Nat) : Nat → Int
  | 0 => 0
  | m + 1 => outF l i m + atF l i (3 + m)
/-- What goes in comes out. -/
def balF (ps : List PR) (l : List (Nat → Int)) (i : Nat) : Prop := atF l i 2 + inF2 (toT ps) l i i - outF l i 5 = 0
open Classical in
noncomputable def truB (ps : List PR) (ws : List WE) (l : List (Nat → Int)) : Bool := decide (l.length = ps.length ∧ ∀ i, i < ps.length → rowF ps ws l i ∧ balF ps l i)
open Classical in
theorem tru_no {ps : List PR} {ws : List WE} {l : List (Nat → Int)} (h : ¬ (l.length = ps.length ∧ ∀ i, i < ps.length → rowF ps ws l i ∧ balF ps l i)) : truB ps ws l = false := by
  unfold truB; exact decide_eq_false h
open Classical in
theorem tru_yes {ps : List PR} {ws : List WE} {l : List (Nat → Int)} (h : l.length = ps.length ∧ ∀ i, i < ps.length → rowF ps ws l i ∧ balF ps l i) : truB ps ws l = true := by
  unfold truB; exact decide_eq_true h
theorem row_bd {ps : List PR} {ws : List WE} {l : List (Nat → Int)} (hV : ValidF ps ws) {i : Nat} (h : rowF ps ws l i) {k : Nat} (h1 : 1 ≤ k) (h7 : k < 7) : 0 ≤ atF l i (1 + k) ∧ atF l i (1 + k) ≤ 1000000 := by
  have := hV.in_ i k
  have := h.2.2 k h1 h7
  unfold okF at this
  omega
theorem in_bd {ps : List PR} {ws : List WE} {l : List (Nat → Int)} (hV : ValidF ps ws) (t : Nat → Option Nat) (i : Nat) : ∀ m, (∀ j, j < m → rowF ps ws l j) → 0 ≤ inF2 t l i m ∧ inF2 t l i m ≤ 1000000 * (m : Int)
  | 0, _ => by simp [inF2]
  | m + 1, h => by
    have ih := in_bd hV t i m (fun j hj => h j (by omega))
    have : 0 ≤ atF l m 7 ∧ atF l m 7 ≤ 1000000 := row_bd hV (h m (by omega)) (k := 6) (by omega) (by omega)
    unfold inF2
    split <;> omega
theorem out_bd {ps : List PR} {ws : List WE} {l : List (Nat → Int)} (hV : ValidF ps ws) {i : Nat} (h : rowF ps ws l i) : ∀ m, m ≤ 5 → 0 ≤ outF l i m ∧ outF l i m ≤ 1000000 * (m : Int)
  | 0, _ => by simp [outF]
  | m + 1, hm => by
    have ih := out_bd hV h m (by omega)
    have := row_bd hV h (k := 2 + m) (by omega) (by omega)
    rw [show 1 + (2 + m) = 3 + m by omega] at this
    unfold outF
    omega
/-- The state while a list is looked through. -/
structure TR (w : World) (A A' : Option Addr) (n c n' c' : Nat) (z : World) : Prop where
  b0 : z.heap[w.heap.size]? = some (.cells #[.slice A n c, .slice A' n' c'] 25 (0, 0))
  bel : Below w.heap.size w z
section
variable {w z y : World} {A A' : Option Addr} {n c n' c' : Nat}
theorem TR.below (h : TR w A A' n c n' c' z) (hb : Below z.heap.size z y) : TR w A A' n c n' c' y := ⟨keepO hb h.b0, below_via h.bel h.bel.size hb⟩
theorem TR.drew (h : TR w A A' n c n' c' z) : TR w A A' n c n' c' z.drew := h.below (Below.refl _ _).drew
theorem TR.drewN (h : TR w A A' n c n' c' z) (k : Nat) : TR w A A' n c n' c' (z.drewN k) := h.below (below_drewN (Below.refl _ _) k)
theorem TR.cells (h : TR w A A' n c n' c' z) : z.cell? ⟨w.heap.size, 0, none⟩ = some (.slice A n c) ∧ z.cell? ⟨w.heap.size, 1, none⟩ = some (.slice A' n' c') := by
  obtain ⟨a, b, -, -⟩ := two_facts h.b0
  exact ⟨a, b⟩
end

set_option maxRecDepth 100000 in
set_option maxHeartbeats 8000000 in
theorem Truth_any (A A' Al : Option Addr) (n c n' c' m cl : Nat) (ps : List PR) (ws : List WE) (l : List (Nat → Int)) (w : World) (hR : Reads w w.heap.size 4 A n (pgs ps)) (hW : Reads w w.heap.size 5 A' n' (wgs ws)) (hL : Reads w w.heap.size 8 Al m (wds l)) (hm20 : m ≤ 4096) (hv : validP ps ws = true) :
    Calls Tryd.prog 59 #[.agg #[.slice A n c, .slice A' n' c'], .slice Al m cl] w fun e w' => e = .returned (.bool (truB ps ws l)) ∧ Below w.heap.size w w' := by
  have hVF := Lib.hid (valid_facts hv)
  have hl : ps.length = n := hR.pg_len
  have hll : l.length = m := wds_len hL
  have hn : n ≤ 10 := by have := hVF.out.n10; omega
  have HRd := Lib.hid (fun z (hz : Below w.heap.size w z) => (hR.below hz).more hz.size)
  have HWd := Lib.hid (fun z (hz : Below w.heap.size w z) => (hW.below hz).more hz.size)
  have HLd := Lib.hid (fun z (hz : Below w.heap.size w z) => (hL.below hz).more hz.size)
  have hvh := Lib.hid hv
  have hT0 : Hid (TR w A A' n c n' c' (w.alloc (.cells #[.slice A n c, .slice A' n' c'] 25))) := ⟨heap_alloc_new w _, (Below.refl _ _).alloc (Nat.le_refl _) _⟩
  clear hR hW hL hv
  by_cases hmn : m = n
  · subst hmn
    have hmb : ((m : Int) != (m : Int)) = false := by simp
    obtain ⟨p0, p1⟩ := hT0.out.cells
    go_enter Tryd.func59, Tryd.ntmps59
    go_wp2_with fail
    clear p0 p1
    generalize (w.alloc (.cells #[.slice A m c, .slice A' n' c'] 25)) = wb at *
    go_loopw [5] (fun v wq => ∃ wl, wl = wq ∧ ∃ i : Nat, i ≤ m ∧ v = .int .i64 i ∧ Hid (∀ j, j < i → rowF ps ws l j) ∧ Hid (TR w A A' m c n' c' wl)) (fun v _ => m - (intOf v).toNat)
    case atStart => exact ⟨_, rfl, 0, by omega, rfl, fun j h => absurd h (by omega), hT0⟩
    case round =>
      clear hT0
      obtain ⟨wq, rfl, i, him, rfl, hall, hTr⟩ := hrel
      by_cases hin : i < m
      · have hii : (i : Int) < (m : Int) := by omega
        have ii0 : (0 : Int) ≤ (i : Int) := by omega
        obtain ⟨bp, op, I, D, P, T, rfl, hbp, hx, x0, -, -, -⟩ := (HRd.out _ hTr.out.bel).pg hin
        obtain ⟨bl, ol, f, rfl, hbl, hf, hfc⟩ := (HLd.out _ hTr.out.bel).wd hin
        have hat : Hid (atF l i = f) := by show _ = _; unfold atF; rw [hf]
        have hid_ : Hid (idO ps i = I) := by show _ = _; unfold idO; rw [hx]
        have f0 : wq.cell? ⟨bl, ol + i * 8, none⟩ = some (.int .i64 (f 0)) := hfc 0 (by omega)
        have f1 : wq.cell? ⟨bl, ol + i * 8 + 1, none⟩ = some (.int .i64 (f 1)) := hfc 1 (by omega)
        have HLc := Lib.hid (fun z (hz : Below w.heap.size w z) k (hk : k < 7) => (by
          obtain ⟨b2, o2, f2, e2, -, hf2, hc2⟩ := (HLd.out z hz).wd hin
          simp only [Option.some.injEq, Addr.mk.injEq, and_true] at e2
          obtain ⟨rfl, rfl⟩ := e2
          obtain rfl := Option.some.inj (hf.symm.trans hf2)
          have := hc2 (1 + k) (by omega)
          rw [← Nat.add_assoc] at this
          exact this : z.cell? ⟨bl, ol + i * 8 + 1 + k, none⟩ = some (.int .i64 (f (1 + k)))))
        have hblz : Hid (∀ z, Below w.heap.size w z → bl < z.heap.size) := fun z hz => by
          obtain ⟨b2, o2, f2, e2, hb2, -⟩ := (HLd.out z hz).wd hin
          simp only [Option.some.injEq, Addr.mk.injEq, and_true] at e2
          obtain ⟨rfl, rfl⟩ := e2
          exact hb2
        obtain ⟨p0, p1⟩ := hTr.out.cells
        clear hx hf hfc
        by_cases hI : f 0 = I
        · have hIb : (f 0 != I) = false := by simpa using hI
          by_cases h1 : f 1 = 0
          · have h1b : (f 1 != 0) = false := by simpa using h1
            go_wp2_with fail
            go_quiet (fail)
            rename_i nq
            clear x0 f0 f1 p0 p1
            have hTq := Lib.hid (hTr.out.drewN nq)
            clear hTr
            go_wp2_with fail
            generalize wq.drewN nq = wr at *
            go_loopw [6] (fun v wq => ∃ wl, wl = wq ∧ ∃ k : Nat, 1 ≤ k ∧ k ≤ 7 ∧ v = .int .i64 k ∧ Hid (∀ q, 1 ≤ q → q < k → okF ps ws l i q) ∧ Hid (TR w (some ⟨bp, op, none⟩) A' m c n' c' wl)) (fun v _ => 7 - (intOf v).toNat)
            case atStart => exact ⟨_, rfl, 1, by omega, by omega, rfl, fun q h h2 => absurd h (by omega), hTq⟩
            case round =>
              clear hTq
              obtain ⟨wx, rfl, k, hk1, hk7, rfl, hok, hTk⟩ := hrel
              by_cases hk6 : k < 7
              · have hki : (k : Int) ≤ 6 := by omega
                have k70 : (k : Int) < 7 := by omega
                have k00 : (0 : Int) ≤ (k : Int) := by omega
                obtain ⟨p0, p1⟩ := hTk.out.cells
                go_wp2_with fail
                refine (Noted_any (some ⟨bp, op, none⟩) A' m c n' c' ps ws i k wx (HRd.out _ hTk.out.bel) (HWd.out _ hTk.out.bel) hvh.out hin hk6).mono ?_
                rintro e z1 ⟨rfl, hb1⟩
                have hT1 := hTk.out.below hb1
                clear hb1 p0 p1 hTk
                obtain ⟨wq, hwq⟩ : ∃ wq, wq = z1.alloc (.cells #[.int .i64 (rowsT ps ws i k).1, .int .i64 (rowsT ps ws i k).2] 44) := ⟨_, rfl⟩
                have hb : Below z1.heap.size z1 wq := by rw [hwq]; exact (Below.refl _ _).alloc (Nat.le_refl _) _
                have hO : wq.heap[z1.heap.size]? = some (.cells #[.int .i64 (rowsT ps ws i k).1, .int .i64 (rowsT ps ws i k).2] 44 (0, 0)) := by rw [hwq]; exact heap_alloc_new _ _
                have hT := hT1.below hb
                have c0 := HLc.out wq hT.bel k hk6
                have hlb := hblz.out wq hT.bel
                have hwqh := Lib.hid hwq
                clear hb hT1 hwq
                go_wp2_with fail
                rw [← hwqh.out]
                clear hwqh
                generalize z1.heap.size = sb at *
                obtain ⟨s0, s1, -, -⟩ := two_facts hO
                have hsb := (Array.getElem?_eq_some_iff.1 hO).1
                clear hO
                by_cases hwv : rng (rowsT ps ws i k).1 (rowsT ps ws i k).2 (f (1 + k)) = true
                · have hwi := hwv
                  have hkn : Hid (∀ q, 1 ≤ q → q < k + 1 → okF ps ws l i q) := fun q h1 h2 => by
                    by_cases e : q = k
                    · subst e
                      unfold okF
                      rw [hat.out]
                      exact rng_iff hwv
                    · exact hok.out q h1 (by omega)
                  clear hwv
                  have HQ := Lib.hid (fun w' (hz : Hid (Kp wq.heap.size [] wq w')) => (⟨(hz.out.cell (by simp only; omega) (by simp; try omega)).trans c0, (hz.out.cell (by simp only; omega) (by simp; try omega)).trans s0, (hz.out.cell (by simp only; omega) (by simp; try omega)).trans s1⟩ : w'.cell? ⟨bl, ol + i * 8 + 1 + k, none⟩ = some (.int .i64 (f (1 + k))) ∧ w'.cell? ⟨sb, 0, none⟩ = some (.int .i64 (rowsT ps ws i k).1) ∧ w'.cell? ⟨sb, 1, none⟩ = some (.int .i64 (rowsT ps ws i k).2)))
                  obtain ⟨S, hSd⟩ : ∃ S : World → Prop, S = fun w' => (w'.cell? ⟨bl, ol + i * 8 + 1 + k, none⟩ = some (.int .i64 (f (1 + k))) ∧ w'.cell? ⟨sb, 0, none⟩ = some (.int .i64 (rowsT ps ws i k).1) ∧ w'.cell? ⟨sb, 1, none⟩ = some (.int .i64 (rowsT ps ws i k).2)) ∧ Hid (Kp wq.heap.size [] wq w') := ⟨_, rfl⟩
                  have HS := Lib.hid (fun w' (hz : Hid (Kp wq.heap.size [] wq w')) => (by rw [hSd]; exact ⟨HQ.out w' hz, hz⟩ : S w'))
                  clear c0 s0 s1
                  refine wp_region_held_drew (S := S) (by kernel_rfl) ?_ (fun hHeld => ?_)
                  · exact HS.out _ (Lib.hid (Kp.refl _ _ _).drew)
                  have hKyd : Hid (Kp wq.heap.size [] wq wq.drew) := Lib.hid (Kp.refl _ _ _).drew
                  have hSyd : wq.heap.size ≤ wq.drew.heap.size := Nat.le_refl _
                  have hT := hT.drew
                  generalize wq.drew = yd at *
                  refine tkY (v := ?_) 0 53 rfl rfl (by kernel_rfl) (by kernel_rfl) (by kernel_rfl) (fun _ _ _ h => h) (by kernel_rfl) ?_ (by assumption) ?_
                  rotate_left
                  · intro w hSw; rw [hSd] at hSw; obtain ⟨⟨q0, q1, q2⟩, -⟩ := hSw; go_simp; (try with_reducible rfl)
                  try simp only [Act.put, List.setIfInBounds_toArray, List.set_cons_zero, List.set_cons_succ]
                  refine tkY (v := ?_) 1 54 rfl rfl (by kernel_rfl) (by kernel_rfl) (by kernel_rfl) (fun _ _ _ h => h) (by kernel_rfl) ?_ (by assumption) ?_
                  rotate_left
                  · intro w hSw; rw [hSd] at hSw; obtain ⟨⟨q0, q1, q2⟩, -⟩ := hSw; go_simp; (try with_reducible rfl)
                  try simp only [Act.put, List.setIfInBounds_toArray, List.set_cons_zero, List.set_cons_succ]
                  refine tkY (v := ?_) 2 55 rfl rfl (by kernel_rfl) (by kernel_rfl) (by kernel_rfl) (fun _ _ _ h => h) (by kernel_rfl) ?_ (by assumption) ?_
                  rotate_left
                  · intro w hSw; rw [hSd] at hSw; obtain ⟨⟨q0, q1, q2⟩, -⟩ := hSw; go_simp; (try with_reducible rfl)
                  try simp only [Act.put, List.setIfInBounds_toArray, List.set_cons_zero, List.set_cons_succ]
                  refine tkY (v := ?_) 3 56 rfl rfl (by kernel_rfl) (by kernel_rfl) (by kernel_rfl) (fun _ _ _ h => h) (by kernel_rfl) ?_ (by assumption) ?_
                  rotate_left
                  · intro w hSw; rw [hSd] at hSw; obtain ⟨⟨q0, q1, q2⟩, -⟩ := hSw; go_simp; (try with_reducible rfl)
                  try simp only [Act.put, List.setIfInBounds_toArray, List.set_cons_zero, List.set_cons_succ]
                  refine tkY (v := ?_) 4 57 rfl rfl (by kernel_rfl) (by kernel_rfl) (by kernel_rfl) (fun _ _ _ h => h) (by kernel_rfl) ?_ (by assumption) ?_
                  rotate_left
                  · intro w hSw; rw [hSd] at hSw; obtain ⟨⟨q0, q1, q2⟩, -⟩ := hSw; go_simp; (try with_reducible rfl)
                  try simp only [Act.put, List.setIfInBounds_toArray, List.set_cons_zero, List.set_cons_succ]
                  refine tkY (v := ?_) 5 58 rfl rfl (by kernel_rfl) (by kernel_rfl) (by kernel_rfl) (fun _ _ _ h => h) (by kernel_rfl) ?_ (by assumption) ?_
                  rotate_left
                  · intro w hSw; rw [hSd] at hSw; obtain ⟨⟨q0, q1, q2⟩, -⟩ := hSw; go_simp; (try with_reducible rfl)
                  try simp only [Act.put, List.setIfInBounds_toArray, List.set_cons_zero, List.set_cons_succ]
                  refine tkY (v := ?_) 6 59 rfl rfl (by kernel_rfl) (by kernel_rfl) (by kernel_rfl) (fun _ _ _ h => h) (by kernel_rfl) ?_ (by assumption) ?_
                  rotate_left
                  · intro w hSw; rw [hSd] at hSw; obtain ⟨⟨q0, q1, q2⟩, -⟩ := hSw; go_simp; (try with_reducible rfl)
                  try simp only [Act.put, List.setIfInBounds_toArray, List.set_cons_zero, List.set_cons_succ]
                  refine tkY (v := ?_) 7 60 rfl rfl (by kernel_rfl) (by kernel_rfl) (by kernel_rfl) (fun _ _ _ h => h) (by kernel_rfl) ?_ (by assumption) ?_
                  rotate_left
                  · intro w hSw; rw [hSd] at hSw; obtain ⟨⟨q0, q1, q2⟩, -⟩ := hSw; go_simp; (try with_reducible rfl)
                  try simp only [Act.put, List.setIfInBounds_toArray, List.set_cons_zero, List.set_cons_succ]
                  refine tkY (v := ?_) 8 61 rfl rfl (by kernel_rfl) (by kernel_rfl) (by kernel_rfl) (fun _ _ _ h => h) (by kernel_rfl) ?_ (by assumption) ?_
                  rotate_left
                  · intro w hSw; rw [hSd] at hSw; obtain ⟨⟨q0, q1, q2⟩, -⟩ := hSw; go_simp; (try with_reducible rfl)
                  try simp only [Act.put, List.setIfInBounds_toArray, List.set_cons_zero, List.set_cons_succ]
                  refine tkY (v := ?_) 9 62 rfl rfl (by kernel_rfl) (by kernel_rfl) (by kernel_rfl) (fun _ _ _ h => h) (by kernel_rfl) ?_ (by assumption) ?_
                  rotate_left
                  · intro w hSw; rw [hSd] at hSw; obtain ⟨⟨q0, q1, q2⟩, -⟩ := hSw; go_simp; (try with_reducible rfl)
                  try simp only [Act.put, List.setIfInBounds_toArray, List.set_cons_zero, List.set_cons_succ]
                  refine tkY (v := ?_) 10 63 rfl rfl (by kernel_rfl) (by kernel_rfl) (by kernel_rfl) (fun _ _ _ h => h) (by kernel_rfl) ?_ (by assumption) ?_
                  rotate_left
                  · intro w hSw; rw [hSd] at hSw; obtain ⟨⟨q0, q1, q2⟩, -⟩ := hSw; go_simp; (try with_reducible rfl)
                  try simp only [Act.put, List.setIfInBounds_toArray, List.set_cons_zero, List.set_cons_succ]
                  refine wpAnyH_ready (rs := [11]) (by kernel_rfl) (by simp) ?_
                  refine AllReadyH.cons (o := _) rfl (fun Kq hK => ?_) AllReadyH.nil
                  go_simp
                  refine (withinR (f (1 + k)) (rowsT ps ws i k).1 (rowsT ps ws i k).2 yd).mono ?_
                  rintro e wcc ⟨rfl, hwcc⟩
                  rw [hwcc]
                  clear hwcc wcc
                  rw [hwi]
                  try go_simp
                  refine hK.out _ _ ?_ (fun hHeld => ?_)
                  · exact HS.out _ hKyd
                  clear hK Kq
                  try simp only [Act.put, List.setIfInBounds_toArray, List.set_cons_zero, List.set_cons_succ]
                  refine tkY (v := ?_) 12 65 rfl rfl (by kernel_rfl) (by kernel_rfl) (by kernel_rfl) (fun _ _ _ h => h) (by kernel_rfl) ?_ (by assumption) ?_
                  rotate_left
                  · intro w hSw; rw [hSd] at hSw; obtain ⟨⟨q0, q1, q2⟩, -⟩ := hSw; go_simp; (try with_reducible rfl)
                  try simp only [Act.put, List.setIfInBounds_toArray, List.set_cons_zero, List.set_cons_succ]
                  refine wpAnyH_done (by kernel_rfl) ?_ _
                  clear HS HQ hSd
                  have hTn := Lib.hid hT
                  clear hT
                  generalize yd = wy at *
                  go_wp2
                  go_roundw
                  case rel => exact ⟨_, rfl, k + 1, by omega, by omega, by go_num, hkn, hTn⟩
                  case measure => simp [intOf] <;> omega
                · have hwi : rng (rowsT ps ws i k).1 (rowsT ps ws i k).2 (f (1 + k)) = false := by simpa using hwv
                  have hres := Lib.hid (tru_no (ps := ps) (ws := ws) (l := l) (fun h => by
                    have := (h.2 i (by omega)).1.2.2 k hk1 hk6
                    unfold okF at this
                    rw [hat.out] at this
                    exact hwv (by unfold rng; simp; exact this)))
                  clear hwv
                  have HQ := Lib.hid (fun w' (hz : Hid (Kp wq.heap.size [] wq w')) => (⟨(hz.out.cell (by simp only; omega) (by simp; try omega)).trans c0, (hz.out.cell (by simp only; omega) (by simp; try omega)).trans s0, (hz.out.cell (by simp only; omega) (by simp; try omega)).trans s1⟩ : w'.cell? ⟨bl, ol + i * 8 + 1 + k, none⟩ = some (.int .i64 (f (1 + k))) ∧ w'.cell? ⟨sb, 0, none⟩ = some (.int .i64 (rowsT ps ws i k).1) ∧ w'.cell? ⟨sb, 1, none⟩ = some (.int .i64 (rowsT ps ws i k).2)))
                  obtain ⟨S, hSd⟩ : ∃ S : World → Prop, S = fun w' => (w'.cell? ⟨bl, ol + i * 8 + 1 + k, none⟩ = some (.int .i64 (f (1 + k))) ∧ w'.cell? ⟨sb, 0, none⟩ = some (.int .i64 (rowsT ps ws i k).1) ∧ w'.cell? ⟨sb, 1, none⟩ = some (.int .i64 (rowsT ps ws i k).2)) ∧ Hid (Kp wq.heap.size [] wq w') := ⟨_, rfl⟩
                  have HS := Lib.hid (fun w' (hz : Hid (Kp wq.heap.size [] wq w')) => (by rw [hSd]; exact ⟨HQ.out w' hz, hz⟩ : S w'))
                  clear c0 s0 s1
                  refine wp_region_held_drew (S := S) (by kernel_rfl) ?_ (fun hHeld => ?_)
                  · exact HS.out _ (Lib.hid (Kp.refl _ _ _).drew)
                  have hKyd : Hid (Kp wq.heap.size [] wq wq.drew) := Lib.hid (Kp.refl _ _ _).drew
                  have hSyd : wq.heap.size ≤ wq.drew.heap.size := Nat.le_refl _
                  have hT := hT.drew
                  generalize wq.drew = yd at *
                  refine tkY (v := ?_) 0 53 rfl rfl (by kernel_rfl) (by kernel_rfl) (by kernel_rfl) (fun _ _ _ h => h) (by kernel_rfl) ?_ (by assumption) ?_
                  rotate_left
                  · intro w hSw; rw [hSd] at hSw; obtain ⟨⟨q0, q1, q2⟩, -⟩ := hSw; go_simp; (try with_reducible rfl)
                  try simp only [Act.put, List.setIfInBounds_toArray, List.set_cons_zero, List.set_cons_succ]
                  refine tkY (v := ?_) 1 54 rfl rfl (by kernel_rfl) (by kernel_rfl) (by kernel_rfl) (fun _ _ _ h => h) (by kernel_rfl) ?_ (by assumption) ?_
                  rotate_left
                  · intro w hSw; rw [hSd] at hSw; obtain ⟨⟨q0, q1, q2⟩, -⟩ := hSw; go_simp; (try with_reducible rfl)
                  try simp only [Act.put, List.setIfInBounds_toArray, List.set_cons_zero, List.set_cons_succ]
                  refine tkY (v := ?_) 2 55 rfl rfl (by kernel_rfl) (by kernel_rfl) (by kernel_rfl) (fun _ _ _ h => h) (by kernel_rfl) ?_ (by assumption) ?_
                  rotate_left
                  · intro w hSw; rw [hSd] at hSw; obtain ⟨⟨q0, q1, q2⟩, -⟩ := hSw; go_simp; (try with_reducible rfl)
                  try simp only [Act.put, List.setIfInBounds_toArray, List.set_cons_zero, List.set_cons_succ]
                  refine tkY (v := ?_) 3 56 rfl rfl (by kernel_rfl) (by kernel_rfl) (by kernel_rfl) (fun _ _ _ h => h) (by kernel_rfl) ?_ (by assumption) ?_
                  rotate_left
                  · intro w hSw; rw [hSd] at hSw; obtain ⟨⟨q0, q1, q2⟩, -⟩ := hSw; go_simp; (try with_reducible rfl)
                  try simp only [Act.put, List.setIfInBounds_toArray, List.set_cons_zero, List.set_cons_succ]
                  refine tkY (v := ?_) 4 57 rfl rfl (by kernel_rfl) (by kernel_rfl) (by kernel_rfl) (fun _ _ _ h => h) (by kernel_rfl) ?_ (by assumption) ?_
                  rotate_left
                  · intro w hSw; rw [hSd] at hSw; obtain ⟨⟨q0, q1, q2⟩, -⟩ := hSw; go_simp; (try with_reducible rfl)
                  try simp only [Act.put, List.setIfInBounds_toArray, List.set_cons_zero, List.set_cons_succ]
                  refine tkY (v := ?_) 5 58 rfl rfl (by kernel_rfl) (by kernel_rfl) (by kernel_rfl) (fun _ _ _ h => h) (by kernel_rfl) ?_ (by assumption) ?_
                  rotate_left
                  · intro w hSw; rw [hSd] at hSw; obtain ⟨⟨q0, q1, q2⟩, -⟩ := hSw; go_simp; (try with_reducible rfl)
                  try simp only [Act.put, List.setIfInBounds_toArray, List.set_cons_zero, List.set_cons_succ]
                  refine tkY (v := ?_) 6 59 rfl rfl (by kernel_rfl) (by kernel_rfl) (by kernel_rfl) (fun _ _ _ h => h) (by kernel_rfl) ?_ (by assumption) ?_
                  rotate_left
                  · intro w hSw; rw [hSd] at hSw; obtain ⟨⟨q0, q1, q2⟩, -⟩ := hSw; go_simp; (try with_reducible rfl)
                  try simp only [Act.put, List.setIfInBounds_toArray, List.set_cons_zero, List.set_cons_succ]
                  refine tkY (v := ?_) 7 60 rfl rfl (by kernel_rfl) (by kernel_rfl) (by kernel_rfl) (fun _ _ _ h => h) (by kernel_rfl) ?_ (by assumption) ?_
                  rotate_left
                  · intro w hSw; rw [hSd] at hSw; obtain ⟨⟨q0, q1, q2⟩, -⟩ := hSw; go_simp; (try with_reducible rfl)
                  try simp only [Act.put, List.setIfInBounds_toArray, List.set_cons_zero, List.set_cons_succ]
                  refine tkY (v := ?_) 8 61 rfl rfl (by kernel_rfl) (by kernel_rfl) (by kernel_rfl) (fun _ _ _ h => h) (by kernel_rfl) ?_ (by assumption) ?_
                  rotate_left
                  · intro w hSw; rw [hSd] at hSw; obtain ⟨⟨q0, q1, q2⟩, -⟩ := hSw; go_simp; (try with_reducible rfl)
                  try simp only [Act.put, List.setIfInBounds_toArray, List.set_cons_zero, List.set_cons_succ]
                  refine tkY (v := ?_) 9 62 rfl rfl (by kernel_rfl) (by kernel_rfl) (by kernel_rfl) (fun _ _ _ h => h) (by kernel_rfl) ?_ (by assumption) ?_
                  rotate_left
                  · intro w hSw; rw [hSd] at hSw; obtain ⟨⟨q0, q1, q2⟩, -⟩ := hSw; go_simp; (try with_reducible rfl)
                  try simp only [Act.put, List.setIfInBounds_toArray, List.set_cons_zero, List.set_cons_succ]
                  refine tkY (v := ?_) 10 63 rfl rfl (by kernel_rfl) (by kernel_rfl) (by kernel_rfl) (fun _ _ _ h => h) (by kernel_rfl) ?_ (by assumption) ?_
                  rotate_left
                  · intro w hSw; rw [hSd] at hSw; obtain ⟨⟨q0, q1, q2⟩, -⟩ := hSw; go_simp; (try with_reducible rfl)
                  try simp only [Act.put, List.setIfInBounds_toArray, List.set_cons_zero, List.set_cons_succ]
                  refine wpAnyH_ready (rs := [11]) (by kernel_rfl) (by simp) ?_
                  refine AllReadyH.cons (o := _) rfl (fun Kq hK => ?_) AllReadyH.nil
                  go_simp
                  refine (withinR (f (1 + k)) (rowsT ps ws i k).1 (rowsT ps ws i k).2 yd).mono ?_
                  rintro e wcc ⟨rfl, hwcc⟩
                  rw [hwcc]
                  clear hwcc wcc
                  rw [hwi]
                  try go_simp
                  refine hK.out _ _ ?_ (fun hHeld => ?_)
                  · exact HS.out _ hKyd
                  clear hK Kq
                  try simp only [Act.put, List.setIfInBounds_toArray, List.set_cons_zero, List.set_cons_succ]
                  refine tkY (v := ?_) 12 65 rfl rfl (by kernel_rfl) (by kernel_rfl) (by kernel_rfl) (fun _ _ _ h => h) (by kernel_rfl) ?_ (by assumption) ?_
                  rotate_left
                  · intro w hSw; rw [hSd] at hSw; obtain ⟨⟨q0, q1, q2⟩, -⟩ := hSw; go_simp; (try with_reducible rfl)
                  try simp only [Act.put, List.setIfInBounds_toArray, List.set_cons_zero, List.set_cons_succ]
                  refine wpAnyH_done (by kernel_rfl) ?_ _
                  clear HS HQ hSd
                  have hTn := Lib.hid hT
                  clear hT
                  generalize yd = wy at *
                  go_wp2
                  go_ret
                  exact ⟨ret_bool hres.out.symm, hTn.out.bel⟩
              · obtain rfl : k = 7 := by omega
                rw [show ((7 : Nat) : Int) = 7 from rfl]
                have hnx : Hid (∀ j, j < i + 1 → rowF ps ws l j) := fun j hj => by
                  by_cases e : j = i
                  · subst e
                    exact ⟨by rw [hat.out, hid_.out]; exact hI, by rw [hat.out]; exact h1, fun q h h2 => hok.out q h h2⟩
                  · exact hall.out j (by omega)
                go_wp2
                go_roundw
                case rel => exact ⟨_, rfl, i + 1, by omega, by go_num, hnx, hTk⟩
                case measure => simp [intOf] <;> omega
          · have h1b : (f 1 != 0) = true := by simpa using h1
            have hres := Lib.hid (tru_no (ps := ps) (ws := ws) (l := l) (fun h => h1 (by have := (h.2 i (by omega)).1.2.1; rw [hat.out] at this; exact this)))
            clear h1
            go_wp2_with fail
            go_quiet (fail)
            clear x0 f0 f1 p0 p1
            go_wp2
            go_ret
            exact ⟨ret_bool hres.out.symm, (hTr.out.drewN _).bel⟩
        · have hIb : (f 0 != I) = true := by simpa using hI
          have hres := Lib.hid (tru_no (ps := ps) (ws := ws) (l := l) (fun h => hI (by have := (h.2 i (by omega)).1.1; rw [hat.out, hid_.out] at this; exact this)))
          clear hI
          go_wp2_with fail
          go_quiet (fail)
          clear x0 f0 f1 p0 p1
          go_wp2
          go_ret
          exact ⟨ret_bool hres.out.symm, (hTr.out.drewN _).bel⟩
      · obtain rfl : i = m := by omega
        have hnn : ¬ ((i : Int) < (i : Int)) := by omega
        go_wp2_with fail
        have hb0 : Hid (∀ j, j < 0 → balF ps l j) := fun j h => absurd h (by omega)
        go_loopw [8] (fun v wq => ∃ wl, wl = wq ∧ ∃ a : Nat, a ≤ i ∧ v = .int .i64 a ∧ Hid (∀ j, j < a → balF ps l j) ∧ Hid (TR w A A' i c n' c' wl)) (fun v _ => i - (intOf v).toNat)
        case atStart => exact ⟨_, rfl, 0, by omega, rfl, hb0, hTr⟩
        case round =>
          clear hTr hb0
          obtain ⟨wq, rfl, a, hai, rfl, hbal, hTr⟩ := hrel
          by_cases hin : a < i
          · have hii : (a : Int) < (i : Int) := by omega
            have ii0 : (0 : Int) ≤ (a : Int) := by omega
            obtain ⟨bl, ol, f, rfl, hbl, hf, hfc⟩ := (HLd.out _ hTr.out.bel).wd hin
            have hat : Hid (atF l a = f) := by show _ = _; unfold atF; rw [hf]
            have HLc := Lib.hid (fun z (hz : Below w.heap.size w z) b (hb : b < i) => (by
              obtain ⟨b2, o2, f2, e2, -, hf2, hc2⟩ := (HLd.out z hz).wd hb
              simp only [Option.some.injEq, Addr.mk.injEq, and_true] at e2
              obtain ⟨rfl, rfl⟩ := e2
              have : atF l b = f2 := by unfold atF; rw [hf2]
              rw [this]
              exact hc2 : ∀ j, j < 8 → z.cell? ⟨bl, ol + b * 8 + j, none⟩ = some (.int .i64 (atF l b j))))
            have hrow := hall.out a (by omega)
            have c2 := HLc.out _ hTr.out.bel a hin 2 (by omega)
            have hsm : Hid (∀ b, b ≤ i → 0 ≤ inF2 (toT ps) l a b ∧ inF2 (toT ps) l a b ≤ 1000000 * (b : Int)) := fun b hb => in_bd hVF.out (toT ps) a b (fun j hj => hall.out j (by omega))
            have hb2 := row_bd hVF.out hrow (k := 1) (by omega) (by omega)
            have hb2h : Hid (0 ≤ atF l a 2 ∧ atF l a 2 ≤ 1000000) := hb2
            have h00 : Hid (atF l a 2 = atF l a 2 + inF2 (toT ps) l a 0) := by show _ = _; simp [inF2]
            have hrow := Lib.hid hrow
            clear hf hfc hb2
            go_wp2_with fail
            clear c2
            go_loopw [9, 10] (fun v u wq => ∃ wl, wl = wq ∧ ∃ b : Nat, b ≤ a ∧ u = .int .i64 b ∧ v = .int .i64 (atF l a 2 + inF2 (toT ps) l a b) ∧ Hid (TR w A A' i c n' c' wl)) (fun _ u _ => a - (intOf u).toNat)
            case atStart => exact ⟨_, rfl, 0, by omega, rfl, by rw [← h00.out], hTr⟩
            case round =>
              clear hTr
              obtain ⟨wx, rfl, b, hba, rfl, rfl, hTx⟩ := hrel
              by_cases hb : b < a
              · have hbi : (b : Int) < (a : Int) := by omega
                have hbi2 : (b : Int) < (i : Int) := by omega
                have b00 : (0 : Int) ≤ (b : Int) := by omega
                obtain ⟨bp, op, I, D, P, T, rfl, hbp, hx, -, -, -, -⟩ := (HRd.out _ hTx.out.bel).pg hin
                obtain ⟨bp2, op2, I2, D2, P2, T2, eA, hbp2, hx2, -, -, -, y3⟩ := (HRd.out _ hTx.out.bel).pg (show b < i by omega)
                simp only [Option.some.injEq, Addr.mk.injEq, and_true] at eA
                obtain ⟨rfl, rfl⟩ := eA
                have hto := to_is hVF.out hx hx2
                have h0 : atF l a 0 = I := by have := hrow.out.1; unfold idO at this; rw [hx] at this; exact this
                simp only at hto
                rw [← h0] at hto
                have hto := Lib.hid hto
                have c0 : wx.cell? ⟨bl, ol + a * 8, none⟩ = some (.int .i64 (atF l a 0)) := HLc.out _ hTx.out.bel a hin 0 (by omega)
                have c7 := HLc.out _ hTx.out.bel b (by omega) 7 (by omega)
                obtain ⟨p0, p1⟩ := hTx.out.cells
                have s1 := hsm.out b (by omega)
                have s2 := hsm.out (b + 1) (by omega)
                have s3 := hb2h.out
                clear hx hx2 h0
                by_cases hT : T2 = atF l a 0
                · have hin2 : inF2 (toT ps) l a (b + 1) = inF2 (toT ps) l a b + atF l b 7 := by
                    rw [inF2, if_pos (hto.out.2 hT)]
                  have ew : IntKind.i64.wrap (atF l a 2 + inF2 (toT ps) l a b + atF l b 7) = atF l a 2 + inF2 (toT ps) l a (b + 1) := by rw [IntWalk.i64_in _ (by omega), hin2]; omega
                  have hTb : (T2 == atF l a 0) = true := by simpa using hT
                  clear s1 s2 s3 hin2 hT
                  go_wp2_with fail
                  go_quiet (fail)
                  rename_i nq
                  have hTq := Lib.hid (hTx.out.drewN nq)
                  have c7' : (wx.drewN nq).cell? ⟨bl, ol + b * 8 + 7, none⟩ = some (.int .i64 (atF l b 7)) := c7
                  clear y3 c0 c7 p0 p1 hTx
                  generalize wx.drewN nq = wy at *
                  go_wp2
                  go_roundw
                  case rel => exact ⟨_, rfl, b + 1, by omega, by go_num, rfl, hTq⟩
                  case measure => simp [intOf] <;> omega
                · have hin2 : Hid (inF2 (toT ps) l a (b + 1) = inF2 (toT ps) l a b) := by
                    show _ = _
                    rw [inF2, if_neg (fun h => hT (hto.out.1 h))]
                  have hTb : (T2 == atF l a 0) = false := by simpa using hT
                  clear s1 s2 s3 hT
                  go_wp2_with fail
                  go_quiet (fail)
                  clear y3 c0 c7 p0 p1
                  go_wp2
                  go_roundw
                  case rel => exact ⟨_, rfl, b + 1, by omega, by go_num, by rw [hin2.out], hTx.out.drewN _⟩
                  case measure => simp [intOf] <;> omega
              · obtain rfl : b = a := by omega
                have hnb : ¬ ((b : Int) < (b : Int)) := by omega
                have h50 : Hid (atF l b 2 + inF2 (toT ps) l b b = atF l b 2 + inF2 (toT ps) l b b - outF l b 0) := by show _ = _; simp [outF]
                have hob : Hid (∀ q, q ≤ 5 → 0 ≤ outF l b q ∧ outF l b q ≤ 1000000 * (q : Int)) := fun q hq => out_bd hVF.out hrow.out q hq
                go_wp2_with fail
                go_loopw [9, 11] (fun v u wq => ∃ wl, wl = wq ∧ ∃ q : Nat, q ≤ 5 ∧ u = .int .i64 ((q : Int) + 2) ∧ v = .int .i64 (atF l b 2 + inF2 (toT ps) l b b - outF l b q) ∧ Hid (TR w A A' i c n' c' wl)) (fun _ u _ => 7 - (intOf u).toNat)
                case atStart => exact ⟨_, rfl, 0, by omega, by simp, by rw [← h50.out], hTx⟩
                case round =>
                  clear hTx
                  obtain ⟨wy, rfl, q, hq5, rfl, rfl, hTy⟩ := hrel
                  by_cases hq : q < 5
                  · have eq2 : (q : Int) + 2 = ((q + 2 : Nat) : Int) := by omega
                    rw [eq2]
                    have hqi : ((q + 2 : Nat) : Int) ≤ 6 := by omega
                    have hq7 : ((q + 2 : Nat) : Int) < 7 := by omega
                    have hq0 : (0 : Int) ≤ ((q + 2 : Nat) : Int) := by omega
                    have hqw : IntKind.i64.wrap (((q + 2 : Nat) : Int) + 1) = ((q + 1 : Nat) : Int) + 2 := by rw [IntWalk.i64_in _ (by omega)]; omega
                    have cq := HLc.out _ hTy.out.bel b hin (1 + (q + 2)) (by omega)
                    rw [← Nat.add_assoc] at cq
                    have s1 := hsm.out b (by omega)
                    have s3 := hb2h.out
                    have s4 := hob.out q (by omega)
                    have s5 := hob.out (q + 1) (by omega)
                    have ho : outF l b (q + 1) = outF l b q + atF l b (1 + (q + 2)) := by rw [outF, show 1 + (q + 2) = 3 + q by omega]
                    have ew : IntKind.i64.wrap (atF l b 2 + inF2 (toT ps) l b b - outF l b q - atF l b (1 + (q + 2))) = atF l b 2 + inF2 (toT ps) l b b - outF l b (q + 1) := by rw [IntWalk.i64_in _ (by omega), ho]; omega
                    clear s1 s3 s4 s5 ho eq2
                    go_wp2
                    go_roundw
                    case rel => exact ⟨_, rfl, q + 1, by omega, by go_num, rfl, hTy⟩
                    case measure => simp [intOf] <;> omega
                  · obtain rfl : q = 5 := by omega
                    rw [show ((5 : Nat) : Int) + 2 = 7 from rfl]
                    by_cases hz : atF l b 2 + inF2 (toT ps) l b b - outF l b 5 = 0
                    · have hnx : Hid (∀ j, j < b + 1 → balF ps l j) := fun j hj => by
                        by_cases e : j = b
                        · subst e; exact hz
                        · exact hbal.out j (by omega)
                      rw [hz]
                      clear hz
                      go_wp2
                      go_roundw
                      case rel => exact ⟨_, rfl, b + 1, by omega, by go_num, hnx, hTy⟩
                      case measure => simp [intOf] <;> omega
                    · have hzb : (atF l b 2 + inF2 (toT ps) l b b - outF l b 5 != 0) = true := by simpa using hz
                      have hres := Lib.hid (tru_no (ps := ps) (ws := ws) (l := l) (fun h => hz (h.2 b (by omega)).2))
                      clear hz
                      go_wp2
                      go_ret
                      exact ⟨ret_bool hres.out.symm, hTy.out.bel⟩
          · obtain rfl : a = i := by omega
            have hna : ¬ ((a : Int) < (a : Int)) := by omega
            have hres := Lib.hid (tru_yes (ps := ps) (ws := ws) (l := l) ⟨by omega, fun j hj => ⟨hall.out j (by omega), hbal.out j (by omega)⟩⟩)
            go_wp2
            go_ret
            exact ⟨ret_bool hres.out.symm, hTr.out.bel⟩
  · have hmb : ((m : Int) != (n : Int)) = true := by simp; omega
    have hres := Lib.hid (tru_no (ps := ps) (ws := ws) (l := l) (fun h => by omega))
    obtain ⟨p0, p1⟩ := hT0.out.cells
    clear hl hll
    go_enter Tryd.func59, Tryd.ntmps59
    go_wp2
    go_ret
    exact ⟨ret_bool hres.out.symm, hT0.out.bel⟩
end Go.Proofs.YtoakeclpakjbiaaDoor
