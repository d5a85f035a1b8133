/-
  The iterator over trains: its walk.
-/
import Derived.RangeFuncNested
import Derived.RangeFuncBound
import Derived.RangeFuncCalls
import Derived.RangeFuncLeaves
import Derived.Shelf.Abstract
import Derived.Shelf.RegionOpen
import Derived.WalkKit
import Derived.OwnWalkIn
import Derived.TacticsInMore
import Derived.LoopNIn
import Derived.LoopIn
import Derived.Test.YtjmegnbjacndpaaWKp
import Derived.Test.YtjmegnbjacndpaaWKeys
namespace Go.Proofs.Ytjmegnbjacndpaa
open Go.RowKit Go.Maps Go.Shelf
set_option linter.unusedVariables false
set_option linter.unusedSimpArgs false
attribute [local go_sem] Oper.semAt_some

theorem roomW (k : Nat) : Fence.wide.room k := fun d h => by cases h
theorem YieldAt.anyW {m : Nat} (m' : Nat) {P : Program} {l : Nat} {args : Array Value} {W : World} {R : Ending → World → Prop} (h : YieldAt Fence.wide m P l args W R) : YieldAt Fence.wide m' P l args W R := by
  obtain ⟨fn, tmps, assign, body, hy, hR⟩ := h
  exact ⟨fn, tmps, assign, body, hy, hR.1, fun c cs _ => hR.2 c cs (roomW _)⟩

/-- What came of handing over some trains, behind others. -/
def OutT (JJ : List (List (Int × Int)) → World → Prop) (Jx : List (List (Int × Int)) → List (Int × Int) → World → Prop) (Q M : List (List (Int × Int))) (b : Bool) (W : World) : Prop :=
  (b = true ∧ JJ (Q ++ M) W) ∨ (b = false ∧ ∃ M1 l M2, M = M1 ++ l :: M2 ∧ Jx (Q ++ M1) l W)
section
variable {JJ : List (List (Int × Int)) → World → Prop} {Jx : List (List (Int × Int)) → List (Int × Int) → World → Prop} {Q M : List (List (Int × Int))} {W : World}
theorem OutT.all (h : OutT JJ Jx Q M true W) : JJ (Q ++ M) W := by
  rcases h with ⟨-, h⟩ | ⟨h, -⟩
  · exact h
  · cases h
theorem OutT.part {A T : List (List (Int × Int))} (h : OutT JJ Jx (Q ++ A) M false W) (hT : ∃ C, T = A ++ M ++ C) : OutT JJ Jx Q T false W := by
  rcases h with ⟨h, -⟩ | ⟨-, M1, l, M2, rfl, h⟩
  · cases h
  · obtain ⟨C, rfl⟩ := hT
    exact .inr ⟨rfl, A ++ M1, l, M2 ++ C, by simp, by rw [← List.append_assoc]; exact h⟩
end
/-- What a round does with a train. -/
def RoundT (l : Nat) (Ds : List Nat) (T : List (List (Int × Int))) (JJ : List (List (Int × Int)) → World → Prop) (Jx : List (List (Int × Int)) → List (Int × Int) → World → Prop) : Prop :=
  ∀ (Q : List (List (Int × Int))) (L : List (Int × Int)) (A : Option Addr) (m c : Nat) (W : World), JJ Q W → L ∈ T → m ≤ 3 → Reads W W.heap.size 2 A m (prs L) → (∀ p, A = some p → 0 < m → l < p.block) → YieldAt Fence.wide 0 Try.prog l #[.slice A m c] W fun e W' =>
    ∃ b, e = .returned (.bool b) ∧ Kp W.heap.size Ds W W' ∧ ((b = true ∧ JJ (Q ++ [L]) W') ∨ (b = false ∧ Jx Q L W'))

theorem prsW_one (l : List (Int × Int)) : ∀ u ∈ prs l, u.oneCell' = true := by
  intro u hu
  simp only [prs, List.mem_flatMap] at hu
  obtain ⟨a, _, h⟩ := hu
  simp [prc] at h
  rcases h with rfl | rfl <;> rfl
theorem rd_pr {w : World} {b : Nat} {x y : Int} {t : TypeId} (h : w.heap[b]? = some (.cells #[.int .i64 x, .int .i64 y] t (0, 0))) : Reads w w.heap.size 2 (some ⟨b, 0, none⟩) 1 (prs [(x, y)]) := by
  refine ⟨rfl, fun _ => ⟨b, 0, rfl, (Array.getElem?_eq_some_iff.1 h).1, fun j u hu => ?_⟩⟩
  have hj : j < 2 := (List.getElem?_eq_some_iff.1 hu).1
  rcases (by omega : j = 0 ∨ j = 1) with rfl | rfl <;> simp [prs, prc] at hu <;> subst hu <;> simp [World.cell?, h]
theorem prs_app (l r : List (Int × Int)) : prs (l ++ r) = prs l ++ prs r := by simp [prs]
theorem info_prW : (Try.prog.info? 72).map (fun i => (i.zero, i.size, i.bytes)) = some (some (.agg #[.int .i64 0, .int .i64 0]), 2, 16) := by kernel_rfl

theorem cloneP_any (A : Option Addr) (n c : Nat) (xs : List (Int × Int)) (w : World) (hn : n ≤ 4096) (hR : Reads w w.heap.size 2 A n (prs xs)) :
    Calls Try.prog 40 #[.slice A n c] w fun e w' => ∃ v, e = .returned v ∧ w'.ownsRow w.heap.size 72 2 v n (prs xs) ∧ Below w.heap.size w w' := by
  have he := fun w => Lib.run_eql_slice_nil (P := Try.prog) w 29 72 A n c 0 0 Try.underlying29
  cases A with
  | none =>
    have hn0 : n = 0 := by
      rcases Nat.eq_zero_or_pos n with h | h
      · exact h
      · obtain ⟨b, o, h', _⟩ := hR.2 h; cases h'
    subst hn0
    have hx : prs xs = [] := by have := hR.1; simpa using this
    rw [hx]
    clear hR
    go_enter Try.func40, Try.ntmps40
    go_wp2
    go_ret
    exact ⟨_, rfl, World.ownsRow_nil _ _ _ _, Below.refl _ _⟩
  | some ad =>
    obtain ⟨i0, hi, hz0, hz1, hz2⟩ := info_parts info_prW
    go_enter Try.func40, Try.ntmps40
    go_wp2_with (first
      | (at_builtin; refine wpList_app _ rfl _ _ 29 rfl w.heap.size 72 i0 _ 2 16 Try.underlying29 hi hz0 hz1 hz2 rfl (by decide) _ _ _ rfl (World.ownsRow_lit w #[] 0 (Nat.le_refl _) (by unfold maxLen; omega) rfl) w.heap.size (some ad) n c _ rfl (hR.alloc (Nat.le_refl _) _) (prsW_one _) ?c3 ?c4 ?c5 ?_))
    case c3 => unfold maxLen; omega
    case c4 => omega
    case c5 => simp
    intro v' w' hown hgr hat
    go_wp2
    go_ret
    refine ⟨_, rfl, by simpa using hown, ((Below.refl _ _).alloc (Nat.le_refl _) _).grown hgr (by simp) (fun k hk => ?_)⟩
    simp [Value.ownBlock] at hk
    omega

/-- What the iterator reads. -/
structure TC (l : Nat) (Ds : List Nat) (yb pb ab : Nat) (kk : Int) (W : World) : Prop where
  y : W.heap[yb]? = some (.cells #[.func (.yield l) #[] #[]] 76 (0, 0))
  p : W.heap[pb]? = some (.cells #[.int .i64 kk] 3 (0, 0))
  a : W.heap[ab]? = some (.cells #[.func (.func 36) #[] #[.pointer (some ⟨pb, 0, none⟩), .pointer (some ⟨yb, 0, none⟩), .pointer (some ⟨ab, 0, none⟩)]] 77 (0, 0))
  ny : yb ∉ Ds
  np : pb ∉ Ds
  na : ab ∉ Ds
  ds : ∀ d ∈ Ds, d ≤ l
  ll : l < W.heap.size
theorem TC.keep {l : Nat} {Ds : List Nat} {yb pb ab : Nat} {kk : Int} {W W' : World} (h : TC l Ds yb pb ab kk W) (hk : Kp W.heap.size Ds W W') : TC l Ds yb pb ab kk W' := by
  have hb : ∀ (b : Nat) (o : Obj), W.heap[b]? = some o → b ∉ Ds → W'.heap[b]? = some o := fun b o h1 h2 => (hk.block b (Array.getElem?_eq_some_iff.1 h1).1 h2).trans h1
  exact ⟨hb _ _ h.y h.ny, hb _ _ h.p h.np, hb _ _ h.a h.na, h.ny, h.np, h.na, h.ds, Nat.lt_of_lt_of_le h.ll hk.size⟩

set_option maxRecDepth 100000 in
set_option maxHeartbeats 1000000 in
theorem add0_any (l yb pb ab : Nat) (A : Option Addr) (m c fb : Nat) (W : World) (R : Bool → World → Prop) (hc : W.cell? ⟨yb, 0, none⟩ = some (.func (.yield l) #[] #[])) (hp : W.cell? ⟨pb, 0, none⟩ = some (.int .i64 (m : Int)))
    (hY : YieldAt Fence.wide 0 Try.prog l #[.slice A m c] W fun e W' => ∃ b, e = .returned (.bool b) ∧ R b W') :
    Calls Try.prog 36 #[.slice A m c, .map (some fb), .pointer (some ⟨pb, 0, none⟩), .pointer (some ⟨yb, 0, none⟩), .pointer (some ⟨ab, 0, none⟩)] W fun e W' => ∃ b, e = .returned (.bool b) ∧ R b W' := by
  obtain ⟨fn, tmps, assign, body, hy, hR⟩ := YieldAt.anyW 2 hY
  refine (callsIn_wide (n := 3)).1 ?_
  refine callsIn_of_wp Try.func36 rfl trivial ?_ rfl
  simp only [Try.ntmps36, List.size_toArray, List.length_cons, List.length_nil, Nat.reduceAdd, Nat.reduceSub, Array.replicate_succ, Array.replicate_zero, List.push_toArray, List.append_toArray, List.nil_append, List.cons_append]
  gi_wp2_with (refine hR.mono ?_; clear hR; rintro e W2 ⟨b, rfl, hb⟩)
  go_ret
  exact ⟨_, rfl, hb⟩

/-- One more pair. -/
def GT (n r : Nat) (S : Int → Bool) (L : List (Int × Int)) (a b : Int) : List (List (Int × Int)) := if decide (b = a) then [] else dfs n r (fun j => !decide (j = b) && (!decide (j = a) && S j)) (L ++ [(a, b)])
theorem flat_filter {α β : Type} (p : α → Bool) (f : α → List β) : ∀ l : List α, (l.filter p).flatMap f = l.flatMap fun a => if p a then f a else []
  | [] => rfl
  | x :: r => by
    rw [List.filter_cons, List.flatMap_cons, ← flat_filter p f r]
    cases p x <;> simp
theorem dfs_frs (n r : Nat) (S : Int → Bool) (L : List (Int × Int)) : dfs n (r + 1) S L = (frs n S).flatMap fun a => (frs n S).flatMap fun b => GT n r S L a b := by
  unfold dfs frs
  rw [flat_filter]
  congr 1
  funext a
  rw [flat_filter]
  cases ha : S a
  · simp
  · simp only [if_true]
    congr 1
    funext b
    unfold GT
    cases hb : S b
    · simp
    · by_cases e : b = a
      · subst e; simp
      · simp [e]
theorem take_flat {α β : Type} (f : α → List β) (l : List α) (i : Nat) (x : α) (h : l[i]? = some x) : (l.take (i + 1)).flatMap f = (l.take i).flatMap f ++ f x := by
  rw [List.take_add_one, h]
  simp
theorem part_flat {α β : Type} (f : α → List β) (l : List α) (i : Nat) (x : α) (h : l[i]? = some x) : ∃ C, l.flatMap f = (l.take i).flatMap f ++ f x ++ C := by
  refine ⟨(l.drop (i + 1)).flatMap f, ?_⟩
  rw [← take_flat f l i x h, ← List.flatMap_append, List.take_append_drop]
theorem mem_part {α β : Type} (f : α → List β) (l : List α) (i : Nat) (x : α) (h : l[i]? = some x) {y : β} (hy : y ∈ f x) : y ∈ l.flatMap f :=
  List.mem_flatMap.2 ⟨x, List.mem_of_getElem? h, hy⟩

set_option maxRecDepth 100000 in
set_option maxHeartbeats 4000000 in
theorem add_any (l : Nat) (Ds : List Nat) (yb pb ab n k : Nat) (T : List (List (Int × Int))) (JJ : List (List (Int × Int)) → World → Prop) (Jx : List (List (Int × Int)) → List (Int × Int) → World → Prop) (hJ : ∀ Q W W', JJ Q W → Below W.heap.size W W' → JJ Q W') (hY : RoundT l Ds T JJ Jx) (hn : n ≤ 20) (hk3 : k ≤ 3) :
    ∀ (r : Nat) (Q : List (List (Int × Int))) (S : Int → Bool) (L : List (Int × Int)) (A1 : Option Addr) (m c1 fb : Nat) (W : World), JJ Q W → TC l Ds yb pb ab (k : Int) W → m + r = k → Reads W W.heap.size 2 A1 m (prs L) → (∀ p, A1 = some p → 0 < m → l < p.block) →
      OwnsF W fb n S → l < fb → (∀ x, S x = true → 1 ≤ x ∧ x ≤ (n : Int)) → (∀ x ∈ dfs n r S L, x ∈ T) →
      Calls Try.prog 36 #[.slice A1 m c1, .map (some fb), .pointer (some ⟨pb, 0, none⟩), .pointer (some ⟨yb, 0, none⟩), .pointer (some ⟨ab, 0, none⟩)] W fun e W' => ∃ b, e = .returned (.bool b) ∧ Kp W.heap.size Ds W W' ∧ OutT JJ Jx Q (dfs n r S L) b W'
  | 0, Q, S, L, A1, m, c1, fb, W, hJW, hC, hm, hL, hA, hF, hfl, hS, hT => by
    obtain ⟨y0, -⟩ := one_facts hC.y
    obtain ⟨p0, -⟩ := one_facts hC.p
    obtain rfl : m = k := by omega
    refine (add0_any l yb pb ab A1 m c1 fb W (fun b W' => Kp W.heap.size Ds W W' ∧ ((b = true ∧ JJ (Q ++ [L]) W') ∨ (b = false ∧ Jx Q L W'))) y0 p0 (hY Q L A1 m c1 W hJW (hT L (by simp [dfs])) hk3 hL hA)).mono ?_
    rintro e W' ⟨b, rfl, hk, (⟨rfl, hj⟩ | ⟨rfl, hj⟩)⟩
    · exact ⟨_, rfl, hk, .inl ⟨rfl, hj⟩⟩
    · exact ⟨_, rfl, hk, .inr ⟨rfl, [], L, [], rfl, by simpa using hj⟩⟩
  | r + 1, Q, S, L, A1, m, c1, fb, W, hJW, hC, hm, hL, hA, hF, hfl, hS, hT => by
    have ih := Lib.hid (add_any l Ds yb pb ab n k T JJ Jx hJ hY hn hk3 r)
    obtain ⟨i0, hi, hz0, hz1, hz2⟩ := info_parts info_prW
    obtain ⟨ks, hks⟩ : ∃ ks, ks = frs n S := ⟨_, rfl⟩
    have hkl : ks.length ≤ n := by rw [hks]; exact frs_len n S
    have hm3 : m < 3 := by omega
    have hJ0 := Lib.hid hJW
    have HC := Lib.hid (fun z (hz : Kp W.heap.size Ds W z) => hC.keep hz)
    have HL0 : Hid (RdX Ds W W.heap.size 2 A1 m (prs L)) := ⟨hL, fun p hp hn hd => by have := hA p hp hn; have := hC.ds _ hd; omega⟩
    have HF := Lib.hid (fun z (hz : Kp W.heap.size Ds W z) => hF.block (hz.block fb hF.lt (fun hd => by have := hC.ds _ hd; omega)))
    have hll := hC.ll
    have hds := Lib.hid hC.ds
    have hna := hC.na
    have hAh := Lib.hid hA
    have hJh := Lib.hid hJ
    have hSh := Lib.hid hS
    have hmk : ¬ (m : Int) = (k : Int) := by omega
    have hmb : ((m : Int) == (k : Int)) = false := by simpa using hmk
    have HK := Lib.hid (fun (z : World) => keysC fb z)
    have HSo := Lib.hid (fun (z : World) (q : Nat) (h1 : z.heap[q]? = some (.cells #[.map (some fb)] 78 (0, 0))) (h2 : OwnsF z fb n S) => sortedC q fb n S z h1 h2 hS hn)
    rw [← hks] at HSo
    have HT := Lib.hid (fun (i j : Nat) (a b : Int) (ha : ks[i]? = some a) (hb : ks[j]? = some b) (x : List (Int × Int)) (hx : x ∈ GT n r S L a b) => hT x (by rw [dfs_frs, ← hks]; exact mem_part _ ks i a ha (mem_part _ ks j b hb hx)))
    have hD : Hid (dfs n (r + 1) S L = ks.flatMap fun a => ks.flatMap fun b => GT n r S L a b) := Lib.hid (by rw [dfs_frs, ← hks])
    have hkm := Lib.hid (fun (a : Int) (ha : a ∈ ks) => hS a (by rw [hks, frs_mem hS] at ha; exact ha))
    obtain ⟨p0, -⟩ := one_facts hC.p
    have hlf := hfl
    clear hJW hC hL hA hY hJ hS hT hF hks
    go_enter Try.func36, Try.ntmps36
    go_wp2_with fail
    refine (HK.out W).mono ?_
    rintro e w1 ⟨rfl, hw1⟩
    have hb1 : Below W.heap.size W w1 := by rw [hw1]; exact (Below.refl _ _).alloc (Nat.le_refl _) _
    have hx1 : w1.heap[W.heap.size]? = some (.cells #[.map (some fb)] 78 (0, 0)) := by rw [hw1]; exact heap_alloc_new W _
    have HB1 := Lib.hid hb1
    have hso := Lib.hid (HSo.out w1 W.heap.size hx1 (HF.out _ (Kp.of_below hb1)))
    clear hw1 hb1 hx1 p0
    go_wp2_with fail
    refine hso.out.mono ?_
    rintro e w2 ⟨v, rfl, ho2, hb2⟩
    obtain ⟨Ak, ck, rfl⟩ := ownR_val ho2
    have HB2 := Lib.hid (below_via HB1.out HB1.out.size hb2)
    have HR2 : Hid (RdX Ds w2 w2.heap.size 1 Ak ks.length (ints ks)) := Lib.hid (RdX.of_own ho2 (fun d hd => by have := hds.out d hd; have := HB1.out.size; omega))
    clear hso ho2 hb2 HB1
    go_wp2_with fail
    go_loopw [24] (fun v wr => ∃ wl, wl = wr ∧ ∃ i : Nat, i ≤ ks.length ∧ v = .int .i64 i ∧ Hid (JJ (Q ++ (ks.take i).flatMap fun a => ks.flatMap fun b => GT n r S L a b) wl) ∧ Hid (Kp w2.heap.size Ds w2 wl)) (fun v _ => ks.length - (RowKit.intOf v).toNat)
    case atStart => exact ⟨_, rfl, 0, Nat.zero_le _, rfl, Lib.hid (by simpa using hJh.out _ W w2 hJ0.out HB2.out), Lib.hid (Kp.refl _ _ _)⟩
    case round =>
      clear hJ0
      obtain ⟨wq0, rfl, i, hin, rfl, HJr0, HKr0⟩ := hrel
      by_cases hi' : i < ks.length
      · have hii : (i : Int) < (ks.length : Int) := by omega
        have i0i : (0 : Int) ≤ (i : Int) := by omega
        obtain ⟨a, hxa⟩ : ∃ a, ks[i]? = some a := ⟨_, List.getElem?_eq_getElem hi'⟩
        obtain ⟨bk, ok, rfl, hbk, y0⟩ := (HR2.out.keep HKr0.out (Nat.le_refl _) (fun d hd => Or.inl hd)).1.int hi'
        rw [hxa] at y0
        simp only [Option.getD_some] at y0
        have ha := hkm.out a (List.mem_of_getElem? hxa)
        have e1 := Lib.hid (show IntKind.i64.wrap ((i : Int) + 1) = ((i + 1 : Nat) : Int) by rw [IntWalk.i64_in _ (by omega)]; omega)
        obtain ⟨PP, hPP⟩ : ∃ PP, PP = (ks.take i).flatMap fun a => ks.flatMap fun b => GT n r S L a b := ⟨_, rfl⟩
        rw [← hPP] at HJr0
        have hPn : Hid ((ks.take (i + 1)).flatMap (fun a => ks.flatMap fun b => GT n r S L a b) = PP ++ ks.flatMap fun b => GT n r S L a b) := by show _ = _; rw [hPP]; exact take_flat _ ks i a hxa
        have hPd : Hid (∃ C, dfs n (r + 1) S L = PP ++ (ks.flatMap fun b => GT n r S L a b) ++ C) := by show _; rw [hD.out, hPP]; exact part_flat _ ks i a hxa
        have HTa := Lib.hid (fun j b => HT.out i j a b hxa)
        have KW0 : Hid (Kp W.heap.size Ds W wq0) := Lib.hid ((Kp.of_below HB2.out).trans (HKr0.out.mono HB2.out.size (fun d hd => Or.inl hd)))
        clear hPP hxa
        go_wp2_with fail
        refine (HK.out wq0).mono ?_
        rintro e w3 ⟨rfl, hw3⟩
        have hb3 : Below wq0.heap.size wq0 w3 := by rw [hw3]; exact (Below.refl _ _).alloc (Nat.le_refl _) _
        have hx3 : w3.heap[wq0.heap.size]? = some (.cells #[.map (some fb)] 78 (0, 0)) := by rw [hw3]; exact heap_alloc_new wq0 _
        have KW3 := Lib.hid (KW0.out.trans ((Kp.of_below (D := Ds) hb3).mono KW0.out.size (fun d hd => Or.inl hd)))
        have hso := Lib.hid (HSo.out w3 wq0.heap.size hx3 (HF.out _ KW3.out))
        have HB3 := Lib.hid hb3
        clear hw3 hb3 hx3 y0
        go_wp2_with fail
        refine hso.out.mono ?_
        rintro e w4 ⟨v, rfl, ho4, hb4⟩
        obtain ⟨Ak2, ck2, rfl⟩ := ownR_val ho4
        have HB4 := Lib.hid (below_via HB3.out HB3.out.size hb4)
        have KW := Lib.hid (KW0.out.trans ((Kp.of_below (D := Ds) HB4.out).mono KW0.out.size (fun d hd => Or.inl hd)))
        have HR4 : Hid (RdX Ds w4 w4.heap.size 1 Ak2 ks.length (ints ks)) := Lib.hid (RdX.of_own ho4 (fun d hd => by have := hds.out d hd; have := KW3.out.size; omega))
        have HK4 := Lib.hid (HKr0.out.trans ((Kp.of_below (D := Ds) HB4.out).mono HKr0.out.size (fun d hd => Or.inl hd)))
        have HJ4 := Lib.hid (hJh.out _ wq0 w4 HJr0.out HB4.out)
        clear hso ho4 hb4 HB3 KW3 KW0 HB4 HJr0
        go_wp2_with fail
        go_loopw [32] (fun v wr => ∃ wl, wl = wr ∧ ∃ j : Nat, j ≤ ks.length ∧ v = .int .i64 j ∧ Hid (JJ (Q ++ (PP ++ (ks.take j).flatMap fun b => GT n r S L a b)) wl) ∧ Hid (Kp w4.heap.size Ds w4 wl)) (fun v _ => ks.length - (RowKit.intOf v).toNat)
        case atStart => exact ⟨_, rfl, 0, Nat.zero_le _, rfl, Lib.hid (by simpa using HJ4.out), Lib.hid (Kp.refl _ _ _)⟩
        case round =>
          clear HJ4
          obtain ⟨wr0, rfl, j, hjn, rfl, HJr1, HKr1⟩ := hrel
          by_cases hj' : j < ks.length
          · have hjj : (j : Int) < (ks.length : Int) := by omega
            have j0j : (0 : Int) ≤ (j : Int) := by omega
            obtain ⟨b, hxb⟩ : ∃ b, ks[j]? = some b := ⟨_, List.getElem?_eq_getElem hj'⟩
            obtain ⟨bj, oj, rfl, hbj, y1⟩ := (HR4.out.keep HKr1.out (Nat.le_refl _) (fun d hd => Or.inl hd)).1.int hj'
            rw [hxb] at y1
            simp only [Option.getD_some] at y1
            have hb := hkm.out b (List.mem_of_getElem? hxb)
            have e2 := Lib.hid (show IntKind.i64.wrap ((j : Int) + 1) = ((j + 1 : Nat) : Int) by rw [IntWalk.i64_in _ (by omega)]; omega)
            obtain ⟨X, hX⟩ : ∃ X, X = (ks.take j).flatMap fun b => GT n r S L a b := ⟨_, rfl⟩
            rw [← hX] at HJr1
            have hXn : (ks.take (j + 1)).flatMap (fun b => GT n r S L a b) = X ++ GT n r S L a b := by rw [hX]; exact take_flat _ ks j b hxb
            have hXd : ∃ C, ks.flatMap (fun b => GT n r S L a b) = X ++ GT n r S L a b ++ C := by rw [hX]; exact part_flat _ ks j b hxb
            have HTb := HTa.out j b hxb
            clear hX hxb
            by_cases hab : a = b
            · subst hab
              have hG : GT n r S L a a = [] := by unfold GT; simp
              rw [hG, List.append_nil] at hXn
              have hst := Lib.hid hXn
              have hbe : (a == a) = true := by simp
              clear hXn hXd HTb hG
              go_wp2
              go_roundw
              case rel => exact ⟨_, rfl, j + 1, by omega, by go_num, Lib.hid (by rw [hst.out]; exact HJr1.out), HKr1⟩
              case measure => simp [RowKit.intOf]; omega
            · have hbe : (a == b) = false := by simpa using hab
              have hG : GT n r S L a b = dfs n r (fun j => !decide (j = b) && (!decide (j = a) && S j)) (L ++ [(a, b)]) := by unfold GT; rw [if_neg (by simpa using fun e => hab e.symm)]
              rw [hG] at HTb hXn hXd
              have HT2 := Lib.hid HTb
              have hstep : Hid (Q ++ (PP ++ (ks.take (j + 1)).flatMap fun b => GT n r S L a b) = (Q ++ (PP ++ X)) ++ dfs n r (fun j => !decide (j = b) && (!decide (j = a) && S j)) (L ++ [(a, b)])) := by show _ = _; rw [hXn]; simp
              have hin2 : Hid (∃ C, dfs n (r + 1) S L = (PP ++ X) ++ dfs n r (fun j => !decide (j = b) && (!decide (j = a) && S j)) (L ++ [(a, b)]) ++ C) := by
                obtain ⟨C1, h1⟩ := hPd.out
                obtain ⟨C2, h2⟩ := hXd
                exact ⟨C2 ++ C1, by rw [h1, h2]; simp⟩
              clear HTb hXn hXd hG
              have KWr := Lib.hid (KW.out.trans (HKr1.out.mono KW.out.size (fun d hd => Or.inl hd)))
              have hcl := Lib.hid (cloneC fb n S wr0 (HF.out _ KWr.out))
              have hbn := Lib.hid (show n ≤ 20 from hn)
              have hab' := Lib.hid hab
              clear hab
              go_wp2_with fail
              refine hcl.out.mono ?_
              rintro e w5 ⟨rfl, hF5_, hb5_⟩
              have hF5 := Lib.hid hF5_
              have hb5 := Lib.hid hb5_
              clear hF5_ hb5_ hcl
              go_wp2_with (first
                | (at_delete; refine del_setF rfl _ _ rfl wr0.heap.size n S a rfl hF5.out rfl (WalkArith.wf_i64 (by omega)) ?_; intro w6 hF6_ hg6_; have hF6 := Lib.hid hF6_; have hg6 := Lib.hid hg6_; clear hF6_ hg6_)
                | (at_delete; refine del_setF rfl _ _ rfl wr0.heap.size n _ b rfl hF6.out rfl (WalkArith.wf_i64 (by omega)) ?_; intro wq hF7_ hg7_; have hF7 := Lib.hid hF7_; have hg7 := Lib.hid hg7_; clear hF7_ hg7_)
                | fail)
              have hBq := Lib.hid ((hb5.out.grown hg6.out hb5.out.size (fun q hq => by cases hq; exact Nat.le_refl _)).grown hg7.out (Nat.le_trans hb5.out.size hg6.out.size) (fun q hq => by cases hq; exact Nat.le_refl _))
              have HKq := Lib.hid (HKr1.out.trans ((Kp.of_below (D := Ds) hBq.out).mono HKr1.out.size (fun d hd => Or.inl hd)))
              have HJr := Lib.hid (hJh.out _ wr0 wq HJr1.out hBq.out)
              have KWq := Lib.hid (KW.out.trans (HKq.out.mono KW.out.size (fun d hd => Or.inl hd)))
              have hlfl : l < wr0.heap.size := by have := KWr.out.size; omega
              have hFq : OwnsF wq wr0.heap.size n (fun j => !decide (j = b) && (!decide (j = a) && S j)) := hF7.out
              obtain ⟨S2, hS2⟩ : ∃ S2 : Int → Bool, S2 = fun j => !decide (j = b) && (!decide (j = a) && S j) := ⟨_, rfl⟩
              rw [← hS2] at hFq hstep hin2 HT2
              have hS2b : ∀ x, S2 x = true → 1 ≤ x ∧ x ≤ (n : Int) := fun x hx => hSh.out x (by rw [hS2] at hx; simp only [Bool.and_eq_true] at hx; exact hx.2.2)
              have hCq := HC.out _ KWq.out
              obtain ⟨a0, -⟩ := one_facts hCq.a
              have hlab : ab < wq.heap.size := (Array.getElem?_eq_some_iff.1 hCq.a).1
              have HLr := Lib.hid (fun z (hz : Hid (Kp wq.heap.size Ds wq z)) => ((HL0.out.keep (KWq.out.trans (hz.out.mono KWq.out.size (fun d hd => Or.inl hd))) (Nat.le_refl _) (fun d hd => Or.inl hd)).1.more (Nat.le_trans KWq.out.size hz.out.size) : Reads z z.heap.size 2 A1 m (prs L)))
              have HREC := Lib.hid (fun (A2 : Option Addr) (c2 : Nat) (z : World) (hz : Hid (Kp wq.heap.size Ds wq z)) (hb : JJ (Q ++ (PP ++ X)) z) (ho : z.ownsRow wq.heap.size 72 2 (.slice A2 (m + 1) c2) (m + 1) (prs L ++ prs [(a, b)])) =>
                ih.out (Q ++ (PP ++ X)) S2 (L ++ [(a, b)]) A2 (m + 1) c2 wr0.heap.size z hb (HC.out z (KWq.out.trans (hz.out.mono KWq.out.size (fun d hd => Or.inl hd)))) (by omega) (by have := Reads.of_own ho; rw [← prs_app] at this; exact this) (fun p hp _ => by
                  subst hp
                  have h1 := (ownR_lt ho rfl).1
                  have h2 := KWq.out.size
                  omega) (hFq.block (hz.out.block _ hFq.lt (fun hd => by have := hds.out _ hd; omega))) hlfl hS2b HT2.out)
              clear hF5 hF6 hF7 hg6 hg7 hb5 hBq HJr1 HKr1 hFq hS2b HT2 hCq KWr KWq
              go_wp2_with fail
              have HQ := Lib.hid (fun w' (hz : Hid (Kp wq.heap.size Ds wq w')) => ((hz.out.cell (p := ⟨ab, 0, none⟩) hlab hna).trans a0 : w'.cell? ⟨ab, 0, none⟩ = some (.func (.func 36) #[] #[.pointer (some ⟨pb, 0, none⟩), .pointer (some ⟨yb, 0, none⟩), .pointer (some ⟨ab, 0, none⟩)])))
              obtain ⟨S3, hSd⟩ : ∃ S3 : World → Prop, S3 = fun w' => (w'.cell? ⟨ab, 0, none⟩ = some (.func (.func 36) #[] #[.pointer (some ⟨pb, 0, none⟩), .pointer (some ⟨yb, 0, none⟩), .pointer (some ⟨ab, 0, none⟩)])) ∧ Hid (Kp wq.heap.size Ds wq w') := ⟨_, rfl⟩
              have HS := Lib.hid (fun w' (hz : Hid (Kp wq.heap.size Ds wq w')) => (by rw [hSd]; exact ⟨HQ.out w' hz, hz⟩ : S3 w'))
              clear a0
              refine wp_region_held_drew (S := S3) (by kernel_rfl) ?_ (fun hHeld => ?_)
              · exact HS.out _ (Lib.hid (Kp.refl _ _ _).drew)
              have hKyd : Hid (Kp wq.heap.size Ds wq wq.drew) := Lib.hid (Kp.refl _ _ _).drew
              have hSyd : wq.heap.size ≤ wq.drew.heap.size := Nat.le_refl _
              have hBl := (Below.refl wq.heap.size wq).drew
              generalize wq.drew = yd at *
              refine tkY (v := ?_) 0 45 rfl rfl (by kernel_rfl) (by kernel_rfl) (by kernel_rfl) (fun _ _ _ h => h) (by kernel_rfl) ?_ (by assumption) ?_
              rotate_left
              · intro w hSw; rw [hSd] at hSw; obtain ⟨q0, -⟩ := hSw; go_simp; (try with_reducible rfl)
              try simp only [Act.put, List.setIfInBounds_toArray, List.set_cons_zero, List.set_cons_succ]
              refine tkY (v := ?_) 1 46 rfl rfl (by kernel_rfl) (by kernel_rfl) (by kernel_rfl) (fun _ _ _ h => h) (by kernel_rfl) ?_ (by assumption) ?_
              rotate_left
              · intro w hSw; rw [hSd] at hSw; obtain ⟨q0, -⟩ := hSw; go_simp; (try with_reducible rfl)
              try simp only [Act.put, List.setIfInBounds_toArray, List.set_cons_zero, List.set_cons_succ]
              refine tkY (v := ?_) 3 48 rfl rfl (by kernel_rfl) (by kernel_rfl) (by kernel_rfl) (fun _ _ _ h => h) (by kernel_rfl) ?_ (by assumption) ?_
              rotate_left
              · intro w hSw; rw [hSd] at hSw; obtain ⟨q0, -⟩ := hSw; go_simp; (try with_reducible rfl)
              try simp only [Act.put, List.setIfInBounds_toArray, List.set_cons_zero, List.set_cons_succ]
              refine tkY (v := ?_) 4 49 rfl rfl (by kernel_rfl) (by kernel_rfl) (by kernel_rfl) (fun _ _ _ h => h) (by kernel_rfl) ?_ (by assumption) ?_
              rotate_left
              · intro w hSw; rw [hSd] at hSw; obtain ⟨q0, -⟩ := hSw; go_simp; (try with_reducible rfl)
              try simp only [Act.put, List.setIfInBounds_toArray, List.set_cons_zero, List.set_cons_succ]
              refine tkY (v := ?_) 5 50 rfl rfl (by kernel_rfl) (by kernel_rfl) (by kernel_rfl) (fun _ _ _ h => h) (by kernel_rfl) ?_ (by assumption) ?_
              rotate_left
              · intro w hSw; rw [hSd] at hSw; obtain ⟨q0, -⟩ := hSw; go_simp; (try with_reducible rfl)
              try simp only [Act.put, List.setIfInBounds_toArray, List.set_cons_zero, List.set_cons_succ]
              refine tkY (v := ?_) 8 53 rfl rfl (by kernel_rfl) (by kernel_rfl) (by kernel_rfl) (fun _ _ _ h => h) (by kernel_rfl) ?_ (by assumption) ?_
              rotate_left
              · intro w hSw; rw [hSd] at hSw; obtain ⟨q0, -⟩ := hSw; go_simp; (try with_reducible rfl)
              try simp only [Act.put, List.setIfInBounds_toArray, List.set_cons_zero, List.set_cons_succ]
              refine wpAnyH_ready (rs := [2, 6]) (by kernel_rfl) (by simp) ?_
              refine AllReadyH.cons (o := _) rfl (fun Kq hK => ?_) ?_
              · go_simp
                refine (cloneP_any A1 m c1 L yd (by omega) (HLr.out _ hKyd)).mono ?_
                rintro e c2yd ⟨vc, rfl, hoc, hb⟩
                have hKc2yd := Lib.hid (hKyd.out.call hSyd hb)
                have hSc2yd := Nat.le_trans hSyd hb.size
                have HOC := Lib.hid (own_mono hoc hSyd)
                have hBl := hBl.trans (hb.mono hSyd)
                clear hoc
                clear hb
                try go_simp
                refine hK.out _ _ ?_ (fun hHeld => ?_)
                · exact HS.out _ hKc2yd
                clear hK Kq
                try simp only [Act.put, List.setIfInBounds_toArray, List.set_cons_zero, List.set_cons_succ]
                refine wpAnyH_ready (rs := [6]) (by kernel_rfl) (by simp) ?_
                refine AllReadyH.cons (o := _) rfl (fun Kq hK => ?_) AllReadyH.nil
                replace HOC := Lib.hid (ownR_below HOC.out ((Below.refl c2yd.heap.size c2yd).alloc (Nat.le_refl _) (.cells #[.int .i64 a, .int .i64 b] 72)))
                have hBl := hBl.alloc hSc2yd (.cells #[.int .i64 a, .int .i64 b] 72)
                go_simp
                have hOn := heap_alloc_new c2yd (.cells #[.int .i64 a, .int .i64 b] 72)
                have hobn := hSc2yd
                have hKz6c2yd := Lib.hid (hKc2yd.out.alloc hSc2yd (.cells #[.int .i64 a, .int .i64 b] 72))
                have hSz6c2yd := Nat.le_trans hSc2yd ((Below.refl c2yd.heap.size c2yd).alloc (Nat.le_refl _) (.cells #[.int .i64 a, .int .i64 b] 72)).size
                generalize (c2yd.alloc (.cells #[.int .i64 a, .int .i64 b] 72)) = z6c2yd at *
                refine hK.out _ _ ?_ (fun hHeld => ?_)
                · exact HS.out _ hKz6c2yd
                clear hK Kq
                try simp only [Act.put, List.setIfInBounds_toArray, List.set_cons_zero, List.set_cons_succ]
                refine wpAnyH_ready (rs := [7]) (by kernel_rfl) (by simp) ?_
                refine AllReadyH.cons (o := _) rfl (fun Kq hK => ?_) AllReadyH.nil
                refine step_app _ rfl _ _ 29 rfl wq.heap.size 72 i0 _ 2 16 Try.underlying29 hi hz0 hz1 hz2 rfl (by decide) vc m (prs L) rfl HOC.out _ (some ⟨c2yd.heap.size, 0, none⟩) 1 1 (prs [(a, b)]) rfl (rd_pr hOn) (prsW_one _) (by unfold maxLen; omega) (by omega) hSz6c2yd ?_
                intro v' a7z6c2yd hown hgr hat
                clear hat
                obtain ⟨A2, c2, rfl⟩ := ownR_val hown
                have hKa7z6c2yd := Lib.hid (hKz6c2yd.out.grown hgr hSz6c2yd (fun q hq => Or.inr (ownR_lt HOC.out hq).1))
                have hSa7z6c2yd := Nat.le_trans hSz6c2yd hgr.size
                have HO2 := Lib.hid hown
                have hBl := hBl.grown hgr hSz6c2yd (fun q hq => (ownR_lt HOC.out hq).1)
                clear hown hgr
                refine hK.out _ _ ?_ (fun hHeld => ?_)
                · exact HS.out _ hKa7z6c2yd
                clear hK Kq
                try simp only [Act.put, List.setIfInBounds_toArray, List.set_cons_zero, List.set_cons_succ]
                refine wpAnyH_ready (rs := [9]) (by kernel_rfl) (by simp) ?_
                refine AllReadyH.cons (o := _) rfl (fun Kq hK => ?_) AllReadyH.nil
                go_simp
                refine (HREC.out A2 c2 a7z6c2yd hKa7z6c2yd (hJh.out _ wq a7z6c2yd HJr.out hBl) HO2.out).mono ?_
                rintro e r9a7z6c2yd ⟨bb, rfl, hkp, hout⟩
                have hKr9a7z6c2yd := Lib.hid (hKa7z6c2yd.out.trans (hkp.mono hSa7z6c2yd (fun d hd => Or.inl hd)))
                have hSr9a7z6c2yd := Nat.le_trans hSa7z6c2yd hkp.size
                have HOUT := Lib.hid hout
                clear hkp hout
                try go_simp
                refine hK.out _ _ ?_ (fun hHeld => ?_)
                · exact HS.out _ hKr9a7z6c2yd
                clear hK Kq
                try simp only [Act.put, List.setIfInBounds_toArray, List.set_cons_zero, List.set_cons_succ]
                refine wpAnyH_ready (rs := [10]) (by kernel_rfl) (by simp) ?_
                refine AllReadyH.cons (o := _) rfl (fun Kq hK => ?_) AllReadyH.nil
                go_simp
                refine hK.out _ _ ?_ (fun hHeld => ?_)
                · exact HS.out _ hKr9a7z6c2yd
                clear hK Kq
                try simp only [Act.put, List.setIfInBounds_toArray, List.set_cons_zero, List.set_cons_succ]
                refine wpAnyH_done (by kernel_rfl) ?_ _
                clear HS HQ hSd HREC HLr
                have hKW := Lib.hid (HKq.out.trans (hKr9a7z6c2yd.out.mono HKq.out.size (fun d hd => Or.inl hd)))
                cases bb
                · have hres := Lib.hid (OutT.part (by exact HOUT.out) hin2.out)
                  clear HOUT
                  go_wp2
                  go_ret
                  exact ⟨false, rfl, KW.out.trans (hKW.out.mono KW.out.size (fun d hd => Or.inl hd)), hres.out⟩
                · have hJn := Lib.hid (OutT.all HOUT.out)
                  clear HOUT
                  go_wp2
                  go_roundw
                  case rel => exact ⟨_, rfl, j + 1, by omega, by go_num, Lib.hid (by rw [hstep.out]; exact hJn.out), hKW⟩
                  case measure => simp [RowKit.intOf]; omega
              refine AllReadyH.cons (o := _) rfl (fun Kq hK => ?_) AllReadyH.nil
              have hBl := hBl.alloc hSyd (.cells #[.int .i64 a, .int .i64 b] 72)
              go_simp
              have hOn := heap_alloc_new yd (.cells #[.int .i64 a, .int .i64 b] 72)
              have hobn := hSyd
              have hKz6yd := Lib.hid (hKyd.out.alloc hSyd (.cells #[.int .i64 a, .int .i64 b] 72))
              have hSz6yd := Nat.le_trans hSyd ((Below.refl yd.heap.size yd).alloc (Nat.le_refl _) (.cells #[.int .i64 a, .int .i64 b] 72)).size
              generalize (yd.alloc (.cells #[.int .i64 a, .int .i64 b] 72)) = z6yd at *
              refine hK.out _ _ ?_ (fun hHeld => ?_)
              · exact HS.out _ hKz6yd
              clear hK Kq
              try simp only [Act.put, List.setIfInBounds_toArray, List.set_cons_zero, List.set_cons_succ]
              refine wpAnyH_ready (rs := [2]) (by kernel_rfl) (by simp) ?_
              refine AllReadyH.cons (o := _) rfl (fun Kq hK => ?_) AllReadyH.nil
              go_simp
              refine (cloneP_any A1 m c1 L z6yd (by omega) (HLr.out _ hKz6yd)).mono ?_
              rintro e c2z6yd ⟨vc, rfl, hoc, hb⟩
              have hKc2z6yd := Lib.hid (hKz6yd.out.call hSz6yd hb)
              have hOn := keepO hb hOn
              have hSc2z6yd := Nat.le_trans hSz6yd hb.size
              have HOC := Lib.hid (own_mono hoc hSz6yd)
              have hBl := hBl.trans (hb.mono hSz6yd)
              clear hoc
              clear hb
              try go_simp
              refine hK.out _ _ ?_ (fun hHeld => ?_)
              · exact HS.out _ hKc2z6yd
              clear hK Kq
              try simp only [Act.put, List.setIfInBounds_toArray, List.set_cons_zero, List.set_cons_succ]
              refine wpAnyH_ready (rs := [7]) (by kernel_rfl) (by simp) ?_
              refine AllReadyH.cons (o := _) rfl (fun Kq hK => ?_) AllReadyH.nil
              refine step_app _ rfl _ _ 29 rfl wq.heap.size 72 i0 _ 2 16 Try.underlying29 hi hz0 hz1 hz2 rfl (by decide) vc m (prs L) rfl HOC.out _ (some ⟨yd.heap.size, 0, none⟩) 1 1 (prs [(a, b)]) rfl (rd_pr hOn) (prsW_one _) (by unfold maxLen; omega) (by omega) hSc2z6yd ?_
              intro v' a7c2z6yd hown hgr hat
              clear hat
              obtain ⟨A2, c2, rfl⟩ := ownR_val hown
              have hKa7c2z6yd := Lib.hid (hKc2z6yd.out.grown hgr hSc2z6yd (fun q hq => Or.inr (ownR_lt HOC.out hq).1))
              have hSa7c2z6yd := Nat.le_trans hSc2z6yd hgr.size
              have HO2 := Lib.hid hown
              have hBl := hBl.grown hgr hSc2z6yd (fun q hq => (ownR_lt HOC.out hq).1)
              clear hown hgr
              refine hK.out _ _ ?_ (fun hHeld => ?_)
              · exact HS.out _ hKa7c2z6yd
              clear hK Kq
              try simp only [Act.put, List.setIfInBounds_toArray, List.set_cons_zero, List.set_cons_succ]
              refine wpAnyH_ready (rs := [9]) (by kernel_rfl) (by simp) ?_
              refine AllReadyH.cons (o := _) rfl (fun Kq hK => ?_) AllReadyH.nil
              go_simp
              refine (HREC.out A2 c2 a7c2z6yd hKa7c2z6yd (hJh.out _ wq a7c2z6yd HJr.out hBl) HO2.out).mono ?_
              rintro e r9a7c2z6yd ⟨bb, rfl, hkp, hout⟩
              have hKr9a7c2z6yd := Lib.hid (hKa7c2z6yd.out.trans (hkp.mono hSa7c2z6yd (fun d hd => Or.inl hd)))
              have hSr9a7c2z6yd := Nat.le_trans hSa7c2z6yd hkp.size
              have HOUT := Lib.hid hout
              clear hkp hout
              try go_simp
              refine hK.out _ _ ?_ (fun hHeld => ?_)
              · exact HS.out _ hKr9a7c2z6yd
              clear hK Kq
              try simp only [Act.put, List.setIfInBounds_toArray, List.set_cons_zero, List.set_cons_succ]
              refine wpAnyH_ready (rs := [10]) (by kernel_rfl) (by simp) ?_
              refine AllReadyH.cons (o := _) rfl (fun Kq hK => ?_) AllReadyH.nil
              go_simp
              refine hK.out _ _ ?_ (fun hHeld => ?_)
              · exact HS.out _ hKr9a7c2z6yd
              clear hK Kq
              try simp only [Act.put, List.setIfInBounds_toArray, List.set_cons_zero, List.set_cons_succ]
              refine wpAnyH_done (by kernel_rfl) ?_ _
              clear HS HQ hSd HREC HLr
              have hKW := Lib.hid (HKq.out.trans (hKr9a7c2z6yd.out.mono HKq.out.size (fun d hd => Or.inl hd)))
              cases bb
              · have hres := Lib.hid (OutT.part (by exact HOUT.out) hin2.out)
                clear HOUT
                go_wp2
                go_ret
                exact ⟨false, rfl, KW.out.trans (hKW.out.mono KW.out.size (fun d hd => Or.inl hd)), hres.out⟩
              · have hJn := Lib.hid (OutT.all HOUT.out)
                clear HOUT
                go_wp2
                go_roundw
                case rel => exact ⟨_, rfl, j + 1, by omega, by go_num, Lib.hid (by rw [hstep.out]; exact hJn.out), hKW⟩
                case measure => simp [RowKit.intOf]; omega
          · obtain rfl : j = ks.length := by omega
            have hjj : ¬ (ks.length : Int) < (ks.length : Int) := by omega
            have hJe : Hid (JJ (Q ++ (ks.take (i + 1)).flatMap fun a => ks.flatMap fun b => GT n r S L a b) wr0) := Lib.hid (by rw [hPn.out]; have := HJr1.out; rw [List.take_length] at this; exact this)
            have hKe := Lib.hid (HK4.out.trans (HKr1.out.mono HK4.out.size (fun d hd => Or.inl hd)))
            clear HJr1
            go_wp2
            go_roundw
            case rel => exact ⟨_, rfl, i + 1, by omega, by go_num, hJe, hKe⟩
            case measure => simp [RowKit.intOf]; omega
      · obtain rfl : i = ks.length := by omega
        have hii : ¬ (ks.length : Int) < (ks.length : Int) := by omega
        have hJe : Hid (JJ (Q ++ dfs n (r + 1) S L) wq0) := Lib.hid (by rw [hD.out]; have := HJr0.out; rw [List.take_length] at this; exact this)
        have hKe : Hid (Kp W.heap.size Ds W wq0) := Lib.hid ((Kp.of_below HB2.out).trans (HKr0.out.mono HB2.out.size (fun d hd => Or.inl hd)))
        clear HJr0
        go_wp2
        go_ret
        exact .inr ⟨rfl, hKe.out, .inl ⟨rfl, hJe.out⟩⟩

end Go.Proofs.Ytjmegnbjacndpaa
