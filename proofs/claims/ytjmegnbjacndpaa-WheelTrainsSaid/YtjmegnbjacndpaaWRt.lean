/-
  The reference's list of all trains.
-/
import Derived.Test.YtjmegnbjacndpaaWKp
import Derived.Test.YtjmegnbjacndpaaWSet
import Derived.Test.YtjmegnbjacndpaaWtN
import Derived.Test.YtjmegnbjacndpaaTrain
namespace Go.Proofs.Ytjmegnbjacndpaa
open Go.RowKit Go.Maps
set_option linter.unusedVariables false
set_option linter.unusedSimpArgs false

theorem prsR_one (l : List (Int × Int)) : ∀ u ∈ prs l, u.oneCell' = true := by
  intro u hu
  simp only [prs, List.mem_flatMap] at hu
  obtain ⟨a, _, h⟩ := hu
  simp [prc] at h
  rcases h with rfl | rfl <;> rfl
theorem rdR_pr {w : World} {b : Nat} {x y : Int} {t : TypeId} (h : w.heap[b]? = some (.cells #[.int .i64 x, .int .i64 y] t (0, 0))) : Reads w w.heap.size 2 (some ⟨b, 0, none⟩) 1 (prs [(x, y)]) := by
  refine ⟨rfl, fun _ => ⟨b, 0, rfl, (Array.getElem?_eq_some_iff.1 h).1, fun j u hu => ?_⟩⟩
  have hj : j < 2 := (List.getElem?_eq_some_iff.1 hu).1
  rcases (by omega : j = 0 ∨ j = 1) with rfl | rfl <;> simp [prs, prc] at hu <;> subst hu <;> simp [World.cell?, h]
theorem rdR_v {w : World} {b : Nat} {x : Value} {t : TypeId} (h : w.heap[b]? = some (.cells #[x] t (0, 0))) : Reads w w.heap.size 1 (some ⟨b, 0, none⟩) 1 [x] := by
  refine ⟨rfl, fun _ => ⟨b, 0, rfl, (Array.getElem?_eq_some_iff.1 h).1, fun j u hu => ?_⟩⟩
  have hj : j < 1 := (List.getElem?_eq_some_iff.1 hu).1
  obtain rfl : j = 0 := by omega
  simp at hu; subst hu; simp [World.cell?, h]
theorem info_prR : (Try.prog.info? 72).map (fun i => (i.zero, i.size, i.bytes)) = some (some (.agg #[.int .i64 0, .int .i64 0]), 2, 16) := by kernel_rfl
theorem info_plR : (Try.prog.info? 29).map (fun i => (i.zero, i.size, i.bytes)) = some (some (.slice none 0 0), 1, 24) := by kernel_rfl

/-- Values that are trains, each a row of the call's own. -/
def Trs (base : Nat) (w : World) (vs : List Value) (L : List (List (Int × Int))) : Prop :=
  vs.length = L.length ∧ ∀ (i : Nat) (l : List (Int × Int)), L[i]? = some l → ∃ v, vs[i]? = some v ∧ w.ownsRow base 72 2 v l.length (prs l)
theorem Trs.nil (base : Nat) (w : World) : Trs base w [] [] := ⟨rfl, fun i l h => by simp at h⟩
theorem Trs.mono {base base' : Nat} {w : World} {vs : List Value} {L : List (List (Int × Int))} (h : Trs base w vs L) (hb : base' ≤ base) : Trs base' w vs L :=
  ⟨h.1, fun i l hl => by obtain ⟨v, h1, h2⟩ := h.2 i l hl; exact ⟨v, h1, own_mono h2 hb⟩⟩
theorem Trs.below {base : Nat} {w w' : World} {vs : List Value} {L : List (List (Int × Int))} (h : Trs base w vs L) (hb : Below w.heap.size w w') : Trs base w' vs L :=
  ⟨h.1, fun i l hl => by obtain ⟨v, h1, h2⟩ := h.2 i l hl; exact ⟨v, h1, ownR_below h2 hb⟩⟩
theorem ownR_type {w : World} {base base' : Nat} {e e' : TypeId} {size size' n n' : Nat} {v v' : Value} {xs xs' : List Value} (h : w.ownsRow base e size v n xs) (h' : w.ownsRow base' e' size' v' n' xs') (he : e ≠ e') {q : Nat} (hq : v.ownBlock = some q) : v'.ownBlock ≠ some q := by
  intro hq'
  rcases h.2 with ⟨rfl, -⟩ | ⟨g, cap, cur, rfl, -, h3, -⟩
  · cases hq
  · rcases h'.2 with ⟨rfl, -⟩ | ⟨g', cap', cur', rfl, -, h3', -⟩
    · cases hq'
    · simp only [Value.ownBlock, Option.some.injEq] at hq hq'
      subst hq
      subst hq'
      rw [h3] at h3'
      injection h3' with h4
      injection h4 with _ h5
      exact he h5
/-- A row of trains grows in place, or anew: trains are kept. -/
theorem Trs.grown {base base' : Nat} {w w' : World} {vs : List Value} {L : List (List (Int × Int))} {v : Value} {n : Nat} {xs : List Value} (h : Trs base w vs L) (ho : w.ownsRow base' 29 1 v n xs) (hg : w.grownBy w' v.ownBlock) : Trs base w' vs L :=
  ⟨h.1, fun i l hl => by
    obtain ⟨u, h1, h2⟩ := h.2 i l hl
    refine ⟨u, h1, ownR_block h2 fun k hk => hg.block k (ownR_lt h2 hk).2 ?_⟩
    exact fun e => ownR_type h2 ho (by decide) hk e.symm⟩
theorem Trs.append {base : Nat} {w : World} {vs us : List Value} {L M : List (List (Int × Int))} (h : Trs base w vs L) (h' : Trs base w us M) : Trs base w (vs ++ us) (L ++ M) := by
  refine ⟨by simp [h.1, h'.1], fun i l hl => ?_⟩
  by_cases hi : i < L.length
  · rw [List.getElem?_append_left hi] at hl
    rw [List.getElem?_append_left (by rw [h.1]; exact hi)]
    exact h.2 i l hl
  · rw [List.getElem?_append_right (by omega)] at hl
    rw [List.getElem?_append_right (by rw [h.1]; omega), h.1]
    exact h'.2 _ l hl
theorem Trs.one {base : Nat} {w : World} {v : Value} {l : List (Int × Int)} {m : Nat} (h : w.ownsRow base 72 2 v m (prs l)) (hm : m = l.length) : Trs base w [v] [l] := by
  subst hm
  refine ⟨rfl, fun i x hx => ?_⟩
  have hi : i < 1 := (List.getElem?_eq_some_iff.1 hx).1
  obtain rfl : i = 0 := by omega
  simp at hx
  subst hx
  exact ⟨v, rfl, h⟩
theorem trs_oneW {base : Nat} {w : World} {vs : List Value} {L : List (List (Int × Int))} (h : Trs base w vs L) : ∀ u ∈ vs, u.oneCell' = true := by
  intro u hu
  obtain ⟨i, hi, rfl⟩ := List.getElem_of_mem hu
  obtain ⟨v, h1, h2⟩ := h.2 i (L[i]'(by rw [← h.1]; exact hi)) (List.getElem?_eq_getElem _)
  rw [List.getElem?_eq_getElem hi] at h1
  cases h1
  obtain ⟨A, c, hv⟩ := ownR_val h2
  rw [hv]; rfl

theorem whs_at {n i : Nat} (h : i < n) : (whs n)[i]? = some ((i : Int) + 1) := by simp [whs, h]
theorem whs_length (n : Nat) : (whs n).length = n := by simp [whs]
theorem take_flatR {α β : Type} (f : α → List β) (l : List α) (i : Nat) (x : α) (h : l[i]? = some x) : (l.take (i + 1)).flatMap f = (l.take i).flatMap f ++ f x := by
  rw [List.take_add_one, h]
  simp
theorem flat_len_le {α β : Type} (f : α → List β) (K : Nat) : ∀ (l : List α), (∀ x ∈ l, (f x).length ≤ K) → (l.flatMap f).length ≤ l.length * K
  | [], _ => by simp
  | x :: r, h => by
    rw [List.flatMap_cons, List.length_append, List.length_cons, Nat.succ_mul]
    have := h x (List.mem_cons_self ..)
    have := flat_len_le f K r (fun y hy => h y (List.mem_cons_of_mem _ hy))
    omega
theorem step_len (n : Nat) (l : List (Int × Int)) : (stepT n l).length ≤ n * n := by
  rw [← Nat.mul_one (n * n), Nat.mul_assoc]
  unfold stepT
  have := flat_len_le (fun a : Int => (whs n).flatMap fun b => if validB n (l ++ [(a, b)]) then [l ++ [(a, b)]] else []) (n * 1) (whs n) (fun a _ => by
    have := flat_len_le (fun b : Int => if validB n (l ++ [(a, b)]) then [l ++ [(a, b)]] else []) 1 (whs n) (fun b _ => by split <;> simp)
    rw [whs_length] at this
    exact this)
  rw [whs_length] at this
  exact this
theorem lev_len (n : Nat) (hn : n ≤ 8) : ∀ k, (lev n k).length ≤ 64 ^ k
  | 0 => by simp [lev]
  | k + 1 => by
    have h := flat_len_le (stepT n) 64 (lev n k) (fun l _ => Nat.le_trans (step_len n l) (by have := Nat.mul_le_mul hn hn; omega))
    have := lev_len n hn k
    show ((lev n k).flatMap (stepT n)).length ≤ _
    rw [Nat.pow_succ]
    omega
def allR (n k : Nat) : List (List (Int × Int)) := (List.range k).flatMap fun j => lev n (j + 1)
theorem allR_succ (n k : Nat) : allR n (k + 1) = allR n k ++ lev n (k + 1) := by unfold allR; rw [List.range_succ, List.flatMap_append]; simp
theorem allR_len (n : Nat) (hn : n ≤ 8) : ∀ k, k ≤ 3 → (allR n k).length ≤ k * 262144
  | 0, _ => by simp [allR]
  | k + 1, h => by
    rw [allR_succ, List.length_append]
    have := allR_len n hn k (by omega)
    have h1 := lev_len n hn (k + 1)
    have h2 : 64 ^ (k + 1) ≤ 64 ^ 3 := Nat.pow_le_pow_right (by omega) h
    rw [show (64 : Nat) ^ 3 = 262144 from rfl] at h2
    omega
def S1 (n : Nat) (l : List (Int × Int)) (a b : Int) : List (List (Int × Int)) := if validB n (l ++ [(a, b)]) then [l ++ [(a, b)]] else []
def S2 (n : Nat) (l : List (Int × Int)) (a : Int) : List (List (Int × Int)) := (whs n).flatMap (S1 n l a)
theorem step_S2 (n : Nat) (l : List (Int × Int)) : stepT n l = (whs n).flatMap (S2 n l) := rfl
/-- A row of trains. -/
def RowT (base : Nat) (w : World) (v : Value) (L : List (List (Int × Int))) : Prop := ∃ vs, w.ownsRow base 29 1 v L.length vs ∧ Trs base w vs L
theorem RowT.below {base : Nat} {w w' : World} {v : Value} {L : List (List (Int × Int))} (h : RowT base w v L) (hb : Below w.heap.size w w') : RowT base w' v L := by
  obtain ⟨vs, h1, h2⟩ := h
  exact ⟨vs, ownR_below h1 hb, h2.below hb⟩
theorem RowT.mono {base base' : Nat} {w : World} {v : Value} {L : List (List (Int × Int))} (h : RowT base w v L) (hb : base' ≤ base) : RowT base' w v L := by
  obtain ⟨vs, h1, h2⟩ := h
  exact ⟨vs, own_mono h1 hb, h2.mono hb⟩

theorem part_flatR {α β : Type} (f : α → List β) (l : List α) (i : Nat) (x : α) (h : l[i]? = some x) : ∃ C, l.flatMap f = (l.take i).flatMap f ++ f x ++ C := by
  refine ⟨(l.drop (i + 1)).flatMap f, ?_⟩
  rw [← take_flatR f l i x h, ← List.flatMap_append, List.take_append_drop]
theorem bx_ne {w : World} {base : Nat} {e t : TypeId} {size n b : Nat} {v : Value} {xs : List Value} {cs : Array Value} (h : w.ownsRow base e size v n xs) (hb : w.heap[b]? = some (.cells cs t (0, 0))) (hq : v.ownBlock = some b) (ht : t ≠ e := by decide) : False := by
  rcases h.2 with ⟨h0, -⟩ | ⟨g1, cap1, cur1, h1, -, h3, -⟩
  · rw [h0] at hq; cases hq
  · rw [h1] at hq
    simp only [Value.ownBlock, Option.some.injEq] at hq
    subst hq
    rw [h3] at hb
    injection hb with hb
    injection hb with _ h5
    exact ht h5.symm
set_option maxRecDepth 100000 in
set_option maxHeartbeats 4000000 in
theorem rtrains_any (A : Option Addr) (n c : Nat) (hn : n ≤ 8) (pairs : Nat) (hp : pairs ≤ 3) (w : World) :
    Calls Try.prog 26 #[.agg #[.slice A n c], .int .i64 (pairs : Int)] w fun e w' => ∃ v, e = .returned v ∧ RowT w.heap.size w' v (allR n pairs) ∧ Below w.heap.size w w' := by
  obtain ⟨i0, hi0, hz0, hz1, hz2⟩ := info_parts info_prR
  obtain ⟨j0, hj0, hy0, hy1, hy2⟩ := info_parts info_plR
  have hN0 := Lib.hid (fun (k : Nat) (hk : k ≤ 3) => allR_len n hn k hk)
  have hN1 := Lib.hid (fun (k : Nat) => lev_len n hn k)
  have hN2 := Lib.hid (fun (k : Nat) (hk : k ≤ 3) (l : List (Int × Int)) (hl : l ∈ lev n k) => ((lev_mem k hk l).1 hl).1)
  have HTr := Lib.hid (fun (A' : Option Addr) (m c' : Nat) (hm : m ≤ 20) (l : List (Int × Int)) (z : World) (hR : Reads z z.heap.size 2 A' m (prs l)) => Train_any A A' n c m c' hn hm l z hR)
  go_enter Try.func26, Try.ntmps26
  go_wp2
  go_loopw [5, 6, 7] (fun v5 v6 v7 wr => ∃ wl, wl = wr ∧ ∃ k : Nat, k ≤ pairs ∧ v7 = .int .i64 (k : Int) ∧ Hid (RowT w.heap.size wl v5 (allR n k)) ∧ Hid (RowT w.heap.size wl v6 (lev n k)) ∧ Hid (Below w.heap.size w wl) ∧ Hid (wl.heap[w.heap.size]? = some (.cells #[.slice A n c] 24 (0, 0)))) (fun _ _ v7 _ => pairs - (RowKit.intOf v7).toNat)
  case atStart =>
    refine ⟨_, rfl, 0, Nat.zero_le _, rfl, Lib.hid ⟨[], World.ownsRow_nil _ _ _ _, Trs.nil _ _⟩, Lib.hid ⟨[.slice none 0 0], ?_, Trs.one (World.ownsRow_nil _ _ _ _) rfl⟩, Lib.hid (((Below.refl _ _).alloc (Nat.le_refl _) _).alloc (by simp) _), Lib.hid ?_⟩
    · have := World.ownsRow_lit (w.alloc (.cells #[.slice A n c] 24)) (base := w.heap.size) (e := 29) (size := 1) #[.slice none 0 0] 1 (by simp) (by unfold maxLen; omega) rfl
      simpa [lev] using this
    · rw [Below.heap_alloc _ _ _ (by simp)]; exact heap_alloc_new w _
  case round =>
    obtain ⟨w1, rfl, k, hk, rfl, HO, HLa, HB1, HX1⟩ := hrel
    by_cases hkp : k < pairs
    · have hkk : (k : Int) < (pairs : Int) := by omega
      have ek := Lib.hid (show IntKind.i64.wrap ((k : Int) + 1) = ((k + 1 : Nat) : Int) by rw [IntWalk.i64_in _ (by omega)]; omega)
      obtain ⟨os, ho5, hos5⟩ := HO.out
      obtain ⟨A5, c5, rfl⟩ := ownR_val ho5
      obtain ⟨ls, ho6, hos6⟩ := HLa.out
      obtain ⟨A6, c6, rfl⟩ := ownR_val ho6
      have H5 := Lib.hid (And.intro ho5 hos5)
      have H6 := Lib.hid (And.intro ho6 hos6)
      have hw1 : w.heap.size < w1.heap.size := (Array.getElem?_eq_some_iff.1 HX1.out).1
      have hll : (lev n k).length ≤ 64 ^ k := hN1.out k
      have h64 : 64 ^ (k + 1) ≤ 262144 := Nat.le_trans (Nat.pow_le_pow_right (by omega) (by omega : k + 1 ≤ 3)) (by decide)
      have h64k : 64 ^ k ≤ 262144 := Nat.le_trans (Nat.pow_le_pow_right (by omega) (by omega : k ≤ 3)) (by decide)
      have hNl := Lib.hid (hN1.out (k + 1))
      have HXz := Lib.hid (fun z (hz : Below w1.heap.size w1 z) => (one_facts ((hz.block w.heap.size hw1).trans HX1.out)).1)
      clear HO HLa ho5 hos5 ho6 hos6
      go_wp2_with fail
      go_loopw [8, 22] (fun v8 v22 wr => ∃ wl, wl = wr ∧ ∃ j : Nat, j ≤ (lev n k).length ∧ v22 = .int .i64 (j : Int) ∧ Hid (RowT w1.heap.size wl v8 (((lev n k).take j).flatMap (stepT n))) ∧ Hid (Below w1.heap.size w1 wl)) (fun _ v22 _ => (lev n k).length - (RowKit.intOf v22).toNat)
      case atStart => exact ⟨_, rfl, 0, Nat.zero_le _, rfl, Lib.hid ⟨[], World.ownsRow_nil _ _ _ _, Trs.nil _ _⟩, Lib.hid (Below.refl _ _)⟩
      case round =>
        obtain ⟨w2, rfl, j, hj, rfl, HM2, HB2⟩ := hrel
        by_cases hjl : j < (lev n k).length
        · have hjj : (j : Int) < ((lev n k).length : Int) := by omega
          have j0j : (0 : Int) ≤ (j : Int) := by omega
          have ej := Lib.hid (show IntKind.i64.wrap ((j : Int) + 1) = ((j + 1 : Nat) : Int) by rw [IntWalk.i64_in _ (by omega)]; omega)
          obtain ⟨l, hl⟩ : ∃ l, (lev n k)[j]? = some l := ⟨_, List.getElem?_eq_getElem hjl⟩
          have hlk := Lib.hid (hN2.out k (by omega) l (List.mem_of_getElem? hl))
          obtain ⟨b6, o6, u6, rfl, hb6, hu6, y6⟩ := ((Reads.of_own H6.out.1).below HB2.out).at_ hjl
          obtain ⟨vl, hvl, hol⟩ := H6.out.2.2 j l hl
          rw [hu6] at hvl
          cases hvl
          obtain ⟨Al, cl, rfl⟩ := ownR_val hol
          have HL := Lib.hid (fun z (hz : Below w1.heap.size w1 z) => (((Reads.of_own hol).below hz).more hz.size : Reads z z.heap.size 2 Al l.length (prs l)))
          obtain ⟨P2, hP2⟩ : ∃ P2, P2 = ((lev n k).take j).flatMap (stepT n) := ⟨_, rfl⟩
          rw [← hP2] at HM2
          have hP2n : Hid (((lev n k).take (j + 1)).flatMap (stepT n) = P2 ++ stepT n l) := by show _ = _; rw [hP2]; exact take_flatR _ _ j l hl
          have hP2p : Hid (∃ C, lev n (k + 1) = P2 ++ stepT n l ++ C) := by show _; rw [hP2]; exact part_flatR _ _ j l hl
          clear hP2 hl hu6 hol
          go_wp2_with fail
          go_loopw [8, 11] (fun v8 v11 wr => ∃ wl, wl = wr ∧ ∃ i : Nat, i ≤ n ∧ v11 = .int .i64 ((i : Int) + 1) ∧ Hid (RowT w1.heap.size wl v8 (P2 ++ ((whs n).take i).flatMap (S2 n l))) ∧ Hid (Below w1.heap.size w1 wl)) (fun _ v11 _ => n + 1 - (RowKit.intOf v11).toNat)
          case atStart => exact ⟨_, rfl, 0, Nat.zero_le _, rfl, Lib.hid (by simpa using HM2.out), HB2⟩
          case round =>
            clear HM2 HB2 y6
            obtain ⟨w3, rfl, i, hi, rfl, HM3, HB3⟩ := hrel
            have y0 := HXz.out _ HB3.out
            by_cases hin : i < n
            · have hii : (i : Int) + 1 ≤ (n : Int) := by omega
              have ei := Lib.hid (show IntKind.i64.wrap ((i : Int) + 1 + 1) = ((i + 1 : Nat) : Int) + 1 by rw [IntWalk.i64_in _ (by omega)]; omega)
              obtain ⟨a, ha⟩ : ∃ a : Int, a = (i : Int) + 1 := ⟨_, rfl⟩
              obtain ⟨P3, hP3⟩ : ∃ P3, P3 = P2 ++ ((whs n).take i).flatMap (S2 n l) := ⟨_, rfl⟩
              rw [← hP3] at HM3
              have hP3n : Hid (P2 ++ ((whs n).take (i + 1)).flatMap (S2 n l) = P3 ++ S2 n l a) := by show _ = _; rw [hP3, take_flatR _ _ i a (by rw [ha]; exact whs_at hin)]; simp
              have hP3p : Hid (∃ C, lev n (k + 1) = P3 ++ S2 n l a ++ C) := by
                show _
                obtain ⟨C1, h1⟩ := hP2p.out
                obtain ⟨C2, h2⟩ := part_flatR (S2 n l) (whs n) i a (by rw [ha]; exact whs_at hin)
                rw [step_S2, h2] at h1
                exact ⟨C2 ++ C1, by rw [h1, hP3]; simp⟩
              have ha0 : 1 ≤ a ∧ a ≤ 8 := by omega
              subst ha
              clear hP3
              go_wp2_with fail
              go_loopw [8, 12] (fun v8 v12 wr => ∃ wl, wl = wr ∧ ∃ m : Nat, m ≤ n ∧ v12 = .int .i64 ((m : Int) + 1) ∧ Hid (RowT w1.heap.size wl v8 (P3 ++ ((whs n).take m).flatMap (S1 n l ((i : Int) + 1)))) ∧ Hid (Below w1.heap.size w1 wl)) (fun _ v12 _ => n + 1 - (RowKit.intOf v12).toNat)
              case atStart => exact ⟨_, rfl, 0, Nat.zero_le _, rfl, Lib.hid (by simpa using HM3.out), HB3⟩
              case round =>
                clear HM3 HB3 y0
                obtain ⟨w4, rfl, m, hm, rfl, HM4, HB4⟩ := hrel
                have y0 := HXz.out _ HB4.out
                by_cases hmn : m < n
                · have hmm : (m : Int) + 1 ≤ (n : Int) := by omega
                  have em := Lib.hid (show IntKind.i64.wrap ((m : Int) + 1 + 1) = ((m + 1 : Nat) : Int) + 1 by rw [IntWalk.i64_in _ (by omega)]; omega)
                  obtain ⟨b, hb⟩ : ∃ b : Int, b = (m : Int) + 1 := ⟨_, rfl⟩
                  obtain ⟨P4, hP4⟩ : ∃ P4, P4 = P3 ++ ((whs n).take m).flatMap (S1 n l ((i : Int) + 1)) := ⟨_, rfl⟩
                  rw [← hP4] at HM4
                  have hP4n : P3 ++ ((whs n).take (m + 1)).flatMap (S1 n l ((i : Int) + 1)) = P4 ++ S1 n l ((i : Int) + 1) b := by rw [hP4, take_flatR _ _ m b (by rw [hb]; exact whs_at hmn)]; simp
                  have hP4l : Hid (P4.length ≤ 262144) := by
                    show _ ≤ _
                    obtain ⟨C1, h1⟩ := hP3p.out
                    obtain ⟨C2, h2⟩ := part_flatR (S1 n l ((i : Int) + 1)) (whs n) m b (by rw [hb]; exact whs_at hmn)
                    have h3 := hNl.out
                    rw [h1] at h3
                    unfold S2 at h3
                    rw [h2] at h3
                    rw [hP4]
                    simp only [List.length_append] at h3 ⊢
                    omega
                  have hb0 : 1 ≤ b ∧ b ≤ 8 := by omega
                  subst hb
                  obtain ⟨ms, hm8, hT8⟩ := HM4.out
                  obtain ⟨A8, c8, rfl⟩ := ownR_val hm8
                  have H8 := Lib.hid (And.intro hm8 hT8)
                  have hlR := Lib.hid (HL.out _ HB4.out)
                  have hE := Lib.hid (World.ownsRow_lit w4 (base := w4.heap.size) (e := 72) (size := 2) #[] 0 (Nat.le_refl _) (by unfold maxLen; omega) rfl)
                  clear hP4 hm8 hT8 HM4
                  go_wp2_with (first
                    | (at_builtin; refine wpList_app _ rfl _ _ 29 rfl w4.heap.size 72 i0 _ 2 16 Try.underlying29 hi0 hz0 hz1 hz2 rfl (by decide) _ 0 [] rfl (by exact hE.out) w4.heap.size Al l.length cl _ rfl (hlR.out.alloc (Nat.le_refl _) _) (prsR_one _) ?c3 ?c4 ?c5 ?_)
                    | fail)
                  case c3 => have := hlk.out; unfold maxLen; omega
                  case c4 => have := hlk.out; omega
                  try (case c5 => skip; simp)
                  intro v5_ w5 ho5_ hg5_ hat5_
                  have hB5 := Lib.hid (((Below.refl w4.heap.size w4).alloc (Nat.le_refl _) (.cells #[] 72)).grown hg5_ (by simp) (fun q hq => by simp [Value.ownBlock] at hq; omega))
                  have hS5 := hB5.out.size
                  try simp only [Nat.zero_add, List.nil_append] at ho5_
                  obtain ⟨A9, c9, rfl⟩ := ownR_val ho5_
                  have ho5 : w5.ownsRow w4.heap.size 72 2 (.slice A9 (l.length) c9) (l.length) (prs l) := ho5_
                  have hO5 := Lib.hid (ho5.alloc (.cells #[.int .i64 ((i : Int) + 1), .int .i64 ((m : Int) + 1)] 72))
                  have hN5 := Lib.hid (rdR_pr (heap_alloc_new w5 (.cells #[.int .i64 ((i : Int) + 1), .int .i64 ((m : Int) + 1)] 72)))
                  clear hg5_ hat5_ ho5_ ho5 hE
                  go_wp2_with (first
                    | (at_builtin; refine wpList_app _ rfl _ _ 29 rfl w4.heap.size 72 i0 _ 2 16 Try.underlying29 hi0 hz0 hz1 hz2 rfl (by decide) _ (l.length) (prs l) rfl (by exact hO5.out) _ (some ⟨w5.heap.size, 0, none⟩) 1 1 (prs [((i : Int) + 1, (m : Int) + 1)]) rfl hN5.out (prsR_one _) ?d3 ?d4 ?d5 ?_)
                    | fail)
                  case d3 => have := hlk.out; unfold maxLen; omega
                  case d4 => have := hlk.out; omega
                  try (case d5 => simp; omega)
                  intro v6_ w6 ho6_ hg6_ hat6_
                  obtain ⟨A13, c13, rfl⟩ := ownR_val ho6_
                  have hB6 := Lib.hid ((hB5.out.alloc hS5 (.cells #[.int .i64 ((i : Int) + 1), .int .i64 ((m : Int) + 1)] 72)).grown hg6_ (by simp; omega) (fun q hq => (ownR_lt hO5.out hq).1))
                  have hS6 := hB6.out.size
                  have ho6 : w6.ownsRow w4.heap.size 72 2 (.slice A13 (l.length + 1) c13) (l.length + 1) (prs (l ++ [((i : Int) + 1, (m : Int) + 1)])) := by rw [show prs (l ++ [((i : Int) + 1, (m : Int) + 1)]) = prs l ++ prs [((i : Int) + 1, (m : Int) + 1)] by simp [prs]]; exact ho6_
                  have hO6 := Lib.hid ho6
                  have y0' := HXz.out _ (below_via HB4.out HB4.out.size hB6.out)
                  have hT := Lib.hid (HTr.out A13 (l.length + 1) c13 (by have := hlk.out; omega) (l ++ [((i : Int) + 1, (m : Int) + 1)]) w6 (Reads.of_own ho6))
                  clear hg6_ hat6_ ho6_ ho6 hN5 hO5 y0 hB5
                  go_wp2_with fail
                  refine hT.out.mono ?_
                  rintro e w7 ⟨rfl, hb7_⟩
                  have hB7 := Lib.hid (below_via hB6.out hB6.out.size hb7_)
                  have hO7 := Lib.hid (ownR_below hO6.out hb7_)
                  have hBw7 := Lib.hid (below_via HB4.out HB4.out.size hB7.out)
                  clear hb7_ hT hO6 y0'
                  cases hv : validB n (l ++ [((i : Int) + 1, (m : Int) + 1)])
                  · have hst := Lib.hid (show P3 ++ ((whs n).take (m + 1)).flatMap (S1 n l ((i : Int) + 1)) = P4 by rw [hP4n]; unfold S1; rw [hv]; simp)
                    have hM := Lib.hid (show RowT w1.heap.size w7 (.slice A8 P4.length c8) P4 from ⟨ms, ownR_below H8.out.1 hB7.out, H8.out.2.below hB7.out⟩)
                    clear hP4n H8 hv
                    go_wp2
                    go_roundw
                    case rel => exact ⟨_, rfl, m + 1, by omega, by go_num, Lib.hid (by rw [hst.out]; exact hM.out), hBw7⟩
                    case measure => simp [RowKit.intOf]; omega
                  · have hst := Lib.hid (show P3 ++ ((whs n).take (m + 1)).flatMap (S1 n l ((i : Int) + 1)) = P4 ++ [l ++ [((i : Int) + 1, (m : Int) + 1)]] by rw [hP4n]; unfold S1; rw [hv]; simp)
                    obtain ⟨VX, hVX⟩ : ∃ VX, VX = Value.slice A13 (l.length + 1) c13 := ⟨_, rfl⟩
                    have hB8 := Lib.hid ((Below.refl w7.heap.size w7).alloc (Nat.le_refl _) (.cells #[.slice A13 (l.length + 1) c13] 29))
                    have hM8 := Lib.hid (ownR_below (ownR_below H8.out.1 hB7.out) hB8.out)
                    have hT8 := Lib.hid ((H8.out.2.below hB7.out).below hB8.out)
                    have hX8 := Lib.hid (ownR_below hO7.out hB8.out)
                    have hN8 := Lib.hid (rdR_v (heap_alloc_new w7 (.cells #[.slice A13 (l.length + 1) c13] 29)))
                    have hw17 : w1.heap.size ≤ w7.heap.size := hBw7.out.size
                    clear hP4n H8 hv hVX
                    go_wp2_with (first
                      | (at_builtin; refine wpList_app _ rfl _ _ 63 rfl w1.heap.size 29 j0 _ 1 24 Try.underlying63 hj0 hy0 hy1 hy2 rfl (by decide) _ P4.length ms rfl (by exact hM8.out) _ (some ⟨w7.heap.size, 0, none⟩) 1 1 [.slice A13 (l.length + 1) c13] rfl hN8.out (by intro u hu; simp at hu; subst hu; rfl) ?e3 ?e4 ?e5 ?_)
                      | fail)
                    case e3 => have := hP4l.out; unfold maxLen; omega
                    case e4 => have := hP4l.out; omega
                    try (case e5 => simp; omega)
                    intro v9_ w9 ho9_ hg9_ hat9_
                    have hT9 := (hT8.out.mono (Nat.le_refl _)).grown hM8.out hg9_
                    have hX9 := (Trs.one (own_mono hX8.out (show w1.heap.size ≤ w4.heap.size from HB4.out.size)) (by simp)).grown hM8.out hg9_
                    have hB9 := Lib.hid (((hBw7.out.alloc hw17 (.cells #[.slice A13 (l.length + 1) c13] 29)).grown hg9_ (by simp; omega) (fun q hq => (ownR_lt hM8.out hq).1)))
                    have hM9 : Hid (RowT w1.heap.size w9 v9_ (P4 ++ [l ++ [((i : Int) + 1, (m : Int) + 1)]])) := Lib.hid ⟨ms ++ [.slice A13 (l.length + 1) c13], by rw [List.length_append]; exact ho9_, hT9.append hX9⟩
                    clear ho9_ hg9_ hat9_ hT9 hX9 hM8 hT8 hX8 hN8
                    go_wp2
                    go_roundw
                    case rel => exact ⟨_, rfl, m + 1, by omega, by go_num, Lib.hid (by rw [hst.out]; exact hM9.out), hB9⟩
                    case measure => simp [RowKit.intOf]; omega
                · have hmn' : m = n := by omega
                  have hmm : ¬ ((m : Int) + 1 ≤ (n : Int)) := by omega
                  have hM5 : Hid (RowT w1.heap.size w4 u8 (P2 ++ ((whs n).take (i + 1)).flatMap (S2 n l))) := Lib.hid (by rw [hP3n.out]; have := HM4.out; rw [List.take_of_length_le (by rw [whs_length]; omega)] at this; exact this)
                  clear HM4
                  go_wp2
                  go_roundw
                  case rel => exact ⟨_, rfl, i + 1, by omega, by go_num, hM5, HB4⟩
                  case measure => simp [RowKit.intOf]; omega
            · have hii : ¬ ((i : Int) + 1 ≤ (n : Int)) := by omega
              have hM5 : Hid (RowT w1.heap.size w3 u8 (((lev n k).take (j + 1)).flatMap (stepT n))) := Lib.hid (by rw [hP2n.out, step_S2]; have := HM3.out; rw [List.take_of_length_le (by rw [whs_length]; omega)] at this; exact this)
              clear HM3
              go_wp2
              go_roundw
              case rel => exact ⟨_, rfl, j + 1, by omega, by go_num, hM5, HB3⟩
              case measure => simp [RowKit.intOf]; omega
        · have hjj : ¬ ((j : Int) < ((lev n k).length : Int)) := by omega
          have hM5 : Hid (RowT w1.heap.size w2 u8 (lev n (k + 1))) := Lib.hid (by have := HM2.out; rw [List.take_of_length_le (by omega)] at this; exact this)
          obtain ⟨ms, hm8, hT8⟩ := hM5.out
          obtain ⟨A8, c8, rfl⟩ := ownR_val hm8
          have HM := Lib.hid (And.intro hm8 hT8)
          have hr8 := Lib.hid (Reads.of_own hm8)
          have ho2 := Lib.hid (ownR_below H5.out.1 (HB2.out.mono (Nat.le_refl _)))
          have hL5 := hN0.out k (by omega)
          have hL6 := hNl.out
          clear HM2 hm8
          go_wp2_with (first
            | (at_builtin; refine wpList_app _ rfl _ _ 63 rfl w.heap.size 29 j0 _ 1 24 Try.underlying63 hj0 hy0 hy1 hy2 rfl (by decide) _ (allR n k).length os rfl (by exact ho2.out) _ A8 (lev n (k + 1)).length c8 ms rfl hr8.out (trs_oneW hT8) ?f3 ?f4 ?f5 ?_)
            | fail)
          case f3 => unfold maxLen; omega
          case f4 => omega
          try (case f5 => have := HB1.out.size; have := HB2.out.size; omega)
          intro v9_ w9 ho9_ hg9_ hat9_
          have hbk : ∀ q, (Value.slice A5 (allR n k).length c5).ownBlock = some q → w.heap.size ≤ q ∧ q < w1.heap.size := fun q hq => ownR_lt H5.out.1 hq
          have hT9 := (H5.out.2.below HB2.out).grown ho2.out hg9_
          have hM9t := (HM.out.2.mono HB1.out.size).grown ho2.out hg9_
          have hM9o := ownR_block HM.out.1 (fun q hq => hg9_.block q (ownR_lt HM.out.1 hq).2 (fun e => by have h1 := (hbk q e.symm).2; have h2 := (ownR_lt HM.out.1 hq).1; omega))
          have hO9 : Hid (RowT w.heap.size w9 v9_ (allR n (k + 1))) := Lib.hid (by rw [allR_succ]; exact ⟨os ++ ms, by rw [List.length_append]; exact ho9_, hT9.append hM9t⟩)
          have hM9 : Hid (RowT w.heap.size w9 (.slice A8 (lev n (k + 1)).length c8) (lev n (k + 1))) := Lib.hid ⟨ms, own_mono hM9o HB1.out.size, hM9t⟩
          have hB9 := Lib.hid ((HB1.out.trans (HB2.out.mono HB1.out.size)).grown hg9_ (Nat.le_trans HB1.out.size HB2.out.size) (fun q hq => (hbk q hq).1))
          have hX9 := Lib.hid ((hg9_.block w.heap.size (Nat.lt_of_lt_of_le hw1 HB2.out.size) (fun e => by have := hbk _ e.symm; have h3 := H5.out.1; exact bx_ne h3 HX1.out e.symm)).trans ((HB2.out.block w.heap.size hw1).trans HX1.out))
          clear ho9_ hg9_ hat9_ hT9 hM9t hM9o ho2 hr8 HM hT8
          go_wp2
          go_roundw
          case rel => exact ⟨_, rfl, k + 1, by omega, by go_num, hO9, hM9, hB9, hX9⟩
          case measure => simp [RowKit.intOf]; omega
    · have hk' : k = pairs := by omega
      have hkk : ¬ (k : Int) < (pairs : Int) := by omega
      have hR : Hid (RowT w.heap.size w1 u5 (allR n pairs)) := Lib.hid (by rw [← hk']; exact HO.out)
      clear HO HLa
      go_wp2
      go_ret
      exact ⟨_, rfl, hR.out, HB1.out⟩

end Go.Proofs.Ytjmegnbjacndpaa
