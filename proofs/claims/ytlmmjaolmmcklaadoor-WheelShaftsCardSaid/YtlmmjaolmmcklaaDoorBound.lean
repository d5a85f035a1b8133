/-
  The walks of the bound of the greatest load, on both sides; all stampers' cams count as often as they are up.
-/
import Derived.Test.YtlmmjaolmmcklaaDoorOnes
namespace Go.Proofs.YtlmmjaolmmcklaaDoor
open Go.RowKit
set_option linter.unusedSimpArgs false
set_option linter.unusedVariables false

def prodS (x : St3) : Int := x.1 * x.2.1 * x.2.2
def sumS (l : List St3) : Int := (l.map prodS).sum
def boundS (M : Int) (l : List St3) : Int × Int := if shaftB M l then ((sumS l + M - 1) / M, 0) else (0, 102)

theorem sum_if (d U : Nat) (P : Int) (h : U ≤ d) : ((List.range d).map fun j => if j < U then P else 0).sum = U * P := by
  obtain ⟨e, rfl⟩ := Nat.exists_eq_add_of_le h
  rw [List.range_add, List.map_append, List.sum_append]
  have h1 : ∀ k, k ≤ U → ((List.range k).map fun j => if j < U then P else 0).sum = k * P := by
    intro k
    induction k with
    | zero => intro _; simp
    | succ k ih =>
      intro hk
      rw [List.range_succ, List.map_append, List.sum_append, ih (by omega)]
      simp only [List.map_cons, List.map_nil, List.sum_cons, List.sum_nil]
      rw [if_pos (by omega)]
      push_cast
      rw [Int.add_mul]
      omega
  have h2 : ∀ k, (((List.range k).map (U + ·)).map fun j => if j < U then P else 0).sum = 0 := by
    intro k
    induction k with
    | zero => simp
    | succ k ih =>
      rw [List.range_succ, List.map_append, List.map_append, List.sum_append, ih]
      simp
      intro h; omega
  rw [h1 U (Nat.le_refl _), h2]
  omega
theorem sum_blk (d U : Nat) (P : Int) (hd : 0 < d) (h : U ≤ d) : ∀ c : Nat, ((List.range (d * c)).map fun j => if j % d < U then P else 0).sum = c * U * P
  | 0 => by simp
  | c + 1 => by
    rw [Nat.mul_succ, List.range_add, List.map_append, List.sum_append, sum_blk d U P hd h c]
    have : (((List.range d).map (d * c + ·)).map fun j => if j % d < U then P else 0) = (List.range d).map fun j => if j < U then P else 0 := by
      rw [List.map_map]
      apply List.map_congr_left
      intro j hj
      have hj' := List.mem_range.1 hj
      simp only [Function.comp]
      rw [Nat.mul_add_mod, Nat.mod_eq_of_lt hj']
    rw [this, sum_if d U P h]
    push_cast
    rw [Int.add_mul, Int.add_mul, Int.one_mul]

theorem sum_swap {α β : Type} (f : α → β → Int) (l : List α) : ∀ r : List β, (l.map fun a => (r.map (f a)).sum).sum = (r.map fun b => (l.map fun a => f a b).sum).sum
  | [] => by
    simp only [List.map_nil, List.sum_nil]
    induction l with
    | nil => rfl
    | cons a l ih => simp [ih]
  | b :: r => by
    have ih := sum_swap f l r
    simp only [List.map_cons, List.sum_cons]
    rw [← ih]
    induction l with
    | nil => simp
    | cons a l ihl =>
      simp only [List.map_cons, List.sum_cons]
      have := ihl (sum_swap f l r)
      omega

theorem zip_zero {α : Type} : ∀ (l : List α) (n : Nat), l.length = n → l.zip (List.replicate n (0 : Int)) = l.map fun x => (x, 0)
  | [], 0, _ => rfl
  | x :: l, n + 1, h => by
    simp only [List.replicate_succ, List.zip_cons_cons, List.map_cons]
    rw [zip_zero l n (by simpa using h)]

theorem sum_loads {m n : Nat} {l : List St3} (hv : shaftB m l = true) (hn : l.length = n) : (loadsL m (cntO false) l (List.replicate n 0)).sum = sumS l := by
  unfold loadsL loadL sumS
  rw [Int.toNat_natCast, zip_zero l n hn]
  have := sum_swap (fun (i : Nat) (p : St3 × Int) => part m (cntO false) i p) (List.range m) (l.map fun x => (x, 0))
  refine Eq.trans ?_ (this.trans ?_)
  · rfl
  · rw [List.map_map]
    congr 1
    apply List.map_congr_left
    intro x hx
    obtain ⟨k, hk⟩ := List.getElem?_of_mem hx
    obtain ⟨C, U, P⟩ := x
    obtain ⟨h1, h2, h3, h4, h5, h6, h7⟩ := shaft_st hv hk
    obtain ⟨C, rfl⟩ := Int.eq_ofNat_of_zero_le (by omega : 0 ≤ C)
    obtain ⟨U, rfl⟩ := Int.eq_ofNat_of_zero_le (by omega : 0 ≤ U)
    have hd : ((m / C : Nat) : Int) = (m : Int) / C := Int.natCast_ediv m C
    have hmc : m % C = 0 := by
      have : ((m % C : Nat) : Int) = 0 := by rw [Int.natCast_emod]; exact h3
      omega
    have hmd : m / C * C = m := Nat.div_mul_cancel (Nat.dvd_of_mod_eq_zero hmc)
    have hU : U ≤ m / C := by omega
    have hp : 0 < m / C := by omega
    have := sum_blk (m / C) U P hp hU C
    rw [hmd] at this
    show ((List.range m).map fun (i : Nat) => part m (cntO false) i (((C : Int), (U : Int), P), 0)).sum = (C : Int) * U * P
    rw [← this]
    congr 1
    apply List.map_congr_left
    intro j _
    unfold part upB cntO
    simp only [Bool.false_eq_true, if_false]
    have e : ((j : Int) - 0 + m) % (m / C) = ((j % (m / C) : Nat) : Int) := by
      rw [Int.natCast_emod, hd]
      have hm2 : (m : Int) = (m : Int) / C * C := by rw [← hd]; exact_mod_cast hmd.symm
      conv => lhs; rw [Int.sub_zero, hm2]
      conv => lhs; arg 2; rw [← hm2]
      rw [Int.add_mul_emod_self_left]
    rw [e]
    by_cases hj : j % (m / C) < U
    · rw [if_pos hj, if_pos (by simp only [decide_eq_true_eq]; omega)]
    · rw [if_neg hj, if_neg (by simp only [decide_eq_true_eq]; omega)]

theorem prod_bound {M : Int} {l : List St3} (h : shaftB M l = true) {k : Nat} {C U P : Int} (hx : l[k]? = some (C, U, P)) : 0 ≤ C * U ∧ C * U ≤ 144 ∧ 0 ≤ C * U * P ∧ C * U * P ≤ 72000 := by
  obtain ⟨hM1, hM2, -⟩ := shaft_bounds h
  obtain ⟨h1, h2, h3, h4, h5, h6, h7⟩ := shaft_st h hx
  have hq : M / C ≤ M := Int.ediv_le_self _ (by omega)
  have a0 : 0 ≤ C * U := Int.mul_nonneg (by omega) (by omega)
  have a1 : C * U ≤ 12 * 12 := Int.mul_le_mul (by omega) (by omega) (by omega) (by omega)
  have a2 : 0 ≤ C * U * P := Int.mul_nonneg a0 (by omega)
  have a3 : C * U * P ≤ 144 * 500 := Int.mul_le_mul (by omega) (by omega) (by omega) (by omega)
  omega
theorem sumS_take {M : Int} {l : List St3} (h : shaftB M l = true) : ∀ k, k ≤ l.length → 0 ≤ sumS (l.take k) ∧ sumS (l.take k) ≤ k * 72000
  | 0, _ => by simp [sumS]
  | k + 1, hk => by
    obtain ⟨i1, i2⟩ := sumS_take h k (by omega)
    have hx : l[k]? = some (l[k]'(by omega)) := List.getElem?_eq_getElem (by omega)
    have hb := prod_bound h (C := (l[k]'(by omega)).1) (U := (l[k]'(by omega)).2.1) (P := (l[k]'(by omega)).2.2) hx
    unfold sumS at *
    rw [List.take_add_one, hx, List.map_append, List.sum_append]
    simp only [Option.toList_some, List.map_cons, List.map_nil, List.sum_cons, List.sum_nil]
    unfold prodS at *
    push_cast
    omega
theorem sumS_snoc {l : List St3} {k : Nat} {x : St3} (hx : l[k]? = some x) : sumS (l.take (k + 1)) = sumS (l.take k) + prodS x := by
  unfold sumS
  rw [List.take_add_one, hx, List.map_append, List.sum_append]
  simp

set_option maxRecDepth 100000 in
theorem Sum_any (M : Int) (A : Option Addr) (n c : Nat) (l : List St3) (w : World) (hR : Reads w w.heap.size 3 A n (sts l)) (hv : shaftB M l = true) :
    Calls Tryd.prog 64 #[.agg #[.int .i64 M, .slice A n c]] w fun e w' => e = .returned (.int .i64 (sumS l)) ∧ Below w.heap.size w w' := by
  have hl : l.length = n := hR.st_len
  obtain ⟨-, -, hn4⟩ := shaft_bounds hv
  have HB : Hid (∀ x, Below (w.heap.size + 1) (w.alloc (.cells #[.int .i64 M, .slice A n c] 24)) x → Below w.heap.size w x ∧ w.heap.size + 1 ≤ x.heap.size ∧ Reads x x.heap.size 3 A n (sts l)) := fun x hx =>
    ⟨box_below hx, by simpa using hx.size, keep_reads hR hx⟩
  have H0 : Hid (Below (w.heap.size + 1) (w.alloc (.cells #[.int .i64 M, .slice A n c] 24)) (w.alloc (.cells #[.int .i64 M, .slice A n c] 24))) := Below.refl _ _
  have hvv := Lib.hid hv
  clear hR hv
  go_enter Tryd.func64, Tryd.ntmps64
  go_wp2
  generalize (w.alloc (.cells #[.int .i64 M, .slice A n c] 24)) = wb at *
  go_loopw [3, 9] (fun x y wr => ∃ k : Nat, k ≤ n ∧ y = .int .i64 k ∧ x = .int .i64 (sumS (l.take k)) ∧ Hid (Below (w.heap.size + 1) wb wr)) (fun _ y _ => n - (intOf y).toNat)
  case atStart => exact ⟨0, by omega, rfl, rfl, H0⟩
  case round =>
    clear H0
    obtain ⟨k, hk, rfl, rfl, hX⟩ := hrel
    by_cases hlt : k < n
    · obtain ⟨hW, hz, hRw⟩ := HB.out wr hX.out
      obtain ⟨b, o, C, U, P, rfl, hb, hx, c0, c1, c2⟩ := hRw.st hlt
      obtain ⟨p1, p2, p3, p4⟩ := prod_bound hvv.out hx
      obtain ⟨s1, s2⟩ := sumS_take hvv.out k (by omega)
      have hs := sumS_snoc hx
      have e : prodS (C, U, P) = C * U * P := rfl
      rw [e] at hs
      have hs' := Lib.hid hs
      have hX' := Lib.hid (hX.out.alloc hz (.cells #[.int .i64 C, .int .i64 U, .int .i64 P] 27))
      clear hs e hx hRw hW
      generalize sumS (l.take k) = v at *
      have y1 : wrap64 (C * U) = C * U := w64 (by omega) (by omega)
      have y2 : wrap64 (C * U * P) = C * U * P := w64 (by omega) (by omega)
      have y3 : wrap64 (v + C * U * P) = v + C * U * P := w64 (by omega) (by omega)
      go_wp2
      go_roundw
      case rel => exact ⟨k + 1, by omega, by go_num, by rw [hs'.out], hX'⟩
      case measure => simp [intOf]; omega
    · have hkn : k = n := by omega
      subst hkn
      have hend : Hid (sumS (l.take k) = sumS l) := by show _ = _; rw [List.take_of_length_le (by omega)]
      have hW := Lib.hid (HB.out wr hX.out).1
      go_wp2
      go_ret
      exact ⟨ret_int hend.out, hW.out⟩

set_option maxRecDepth 100000 in
set_option maxHeartbeats 1000000 in
theorem RBound_any (M : Int) (A : Option Addr) (n c : Nat) (l : List St3) (w : World) (hn : n ≤ maxLen) (hR : Reads w w.heap.size 3 A n (sts l)) :
    Calls Tryd.prog 31 #[.agg #[.int .i64 M, .slice A n c]] w fun e w' =>
      e = .returned (.tuple #[.int .i64 (boundS M l).1, .int .i64 (boundS M l).2]) ∧ Below w.heap.size w w' := by
  have hl : l.length = n := hR.st_len
  have H1 := Lib.hid (Shaft_any M A n c l (w.alloc (.cells #[.int .i64 M, .slice A n c] 24)) hn ((hR.alloc (Nat.le_refl _) _).more (by simp)))
  have HK := Lib.hid (fun x (hx : Below (w.heap.size + 1) (w.alloc (.cells #[.int .i64 M, .slice A n c] 24)) x) => shaft_box hR hx)
  have HW := Lib.hid (fun x (hx : Below (w.heap.size + 1) (w.alloc (.cells #[.int .i64 M, .slice A n c] 24)) x) => box_below hx)
  have hz0 : Hid ((w.alloc (.cells #[.int .i64 M, .slice A n c] 24)).heap.size = w.heap.size + 1) := by show _ = _; simp
  clear hR
  cases h1 : shaftB M l
  · have hf : Hid (boundS M l = (0, 102)) := by show boundS M l = _; unfold boundS; rw [h1]; rfl
    rw [h1] at H1
    rw [hf.out]
    clear h1 HK
    go_enter Tryd.func31, Tryd.ntmps31
    go_wp2_with fail
    refine H1.out.mono ?_
    rintro e w1 ⟨rfl, hb1⟩
    rw [hz0.out] at hb1
    have hX1 := Lib.hid hb1
    clear hb1
    go_wp2
    go_ret2
    exact ⟨rfl, HW.out _ hX1.out⟩
  · have hv : Hid (shaftB M l = true) := h1
    rw [h1] at H1
    obtain ⟨hM1, hM2, hn4⟩ := shaft_bounds h1
    have hf : Hid (boundS M l = ((sumS l + M - 1) / M, 0)) := by show boundS M l = _; unfold boundS; rw [h1]; rfl
    rw [hf.out]
    obtain ⟨s1, s2⟩ := sumS_take h1 l.length (Nat.le_refl _)
    rw [List.take_length] at s1 s2
    clear h1
    have HU := Lib.hid (fun x (hx : Below (w.heap.size + 1) (w.alloc (.cells #[.int .i64 M, .slice A n c] 24)) x) => Sum_any M A n c l x (HK.out x hx).2.2.2 hv.out)
    have hzB := Lib.hid (fun x (hx : Below (w.heap.size + 1) (w.alloc (.cells #[.int .i64 M, .slice A n c] 24)) x) => (HK.out x hx).2.2.1)
    clear hf
    generalize sumS l = v at *
    have y1 : wrap64 (v + M) = v + M := w64 (by omega) (by omega)
    have y2 : wrap64 (v + M - 1) = v + M - 1 := w64 (by omega) (by omega)
    have q1 : (v + M - 1).tdiv M = (v + M - 1) / M := Int.tdiv_eq_ediv_of_nonneg (by omega)
    have q2 : (v + M - 1) / M ≤ v + M - 1 := Int.ediv_le_self _ (by omega)
    have q3 : 0 ≤ (v + M - 1) / M := Int.ediv_nonneg (by omega) (by omega)
    have y3 : wrap64 ((v + M - 1) / M) = (v + M - 1) / M := w64 (by omega) (by omega)
    have mz : ¬ M = 0 := by omega
    have mz' : (M == 0) = false := by simpa using mz
    have ws1 : IntKind.i64.wrap (v + M) = v + M := IntWalk.i64_in _ (by omega)
    have ws3 : IntKind.i64.wrap ((v + M - 1) / M) = (v + M - 1) / M := IntWalk.i64_in _ (by omega)
    have ws2 : IntKind.i64.wrap (v + M - 1) = v + M - 1 := IntWalk.i64_in _ (by omega)
    go_enter Tryd.func31, Tryd.ntmps31
    go_wp2_with fail
    refine H1.out.mono ?_
    rintro e w1 ⟨rfl, hb1⟩
    rw [hz0.out] at hb1
    have hX1 := Lib.hid hb1
    clear hb1 H1 hz0
    generalize (w.alloc (.cells #[.int .i64 M, .slice A n c] 24)) = wb at *
    clear q2 q3 hM1 hM2 s1 s2 hv hl hn
    go_wp2_with fail
    obtain ⟨S, hS⟩ : ∃ S : World → Prop, S = fun z => (z.cell? ⟨w.heap.size, 0, none⟩ = some (.int .i64 M) ∧ z.cell? ⟨w.heap.size, 1, none⟩ = some (.slice A n c)) ∧ Hid (Below (w.heap.size + 1) wb z) := ⟨_, rfl⟩
    have HS := Lib.hid (fun z (hz' : Below (w.heap.size + 1) wb z) => (by rw [hS]; exact ⟨⟨(HK.out z hz').1, (HK.out z hz').2.1⟩, Lib.hid hz'⟩ : S z))
    have HSB := Lib.hid (fun z (hz' : S z) => (show Hid (Below (w.heap.size + 1) wb z) from (by rw [hS] at hz'; exact hz'.2)).out)
    refine wp_region_held_drew (S := S) (by kernel_rfl) ?_ (fun hHeld => ?_)
    · exact HS.out _ hX1.out.drew
    refine tkY (v := ?_) 0 7 rfl rfl (by kernel_rfl) (by kernel_rfl) (by kernel_rfl) (fun _ _ _ h => h) (by kernel_rfl) ?_ (by assumption) ?_
    rotate_left
    · intro w hSw; rw [hS] at hSw; obtain ⟨q0, q1, -⟩ := hSw; go_simp; (try with_reducible rfl)
    try simp only [Act.put, List.setIfInBounds_toArray, List.set_cons_zero, List.set_cons_succ]
    refine tkY (v := ?_) 2 9 rfl rfl (by kernel_rfl) (by kernel_rfl) (by kernel_rfl) (fun _ _ _ h => h) (by kernel_rfl) ?_ (by assumption) ?_
    rotate_left
    · intro w hSw; rw [hS] at hSw; obtain ⟨q0, q1, -⟩ := hSw; go_simp; (try with_reducible rfl)
    try simp only [Act.put, List.setIfInBounds_toArray, List.set_cons_zero, List.set_cons_succ]
    refine tkY (v := ?_) 3 10 rfl rfl (by kernel_rfl) (by kernel_rfl) (by kernel_rfl) (fun _ _ _ h => h) (by kernel_rfl) ?_ (by assumption) ?_
    rotate_left
    · intro w hSw; rw [hS] at hSw; obtain ⟨q0, q1, -⟩ := hSw; go_simp; (try with_reducible rfl)
    try simp only [Act.put, List.setIfInBounds_toArray, List.set_cons_zero, List.set_cons_succ]
    refine tkY (v := ?_) 6 13 rfl rfl (by kernel_rfl) (by kernel_rfl) (by kernel_rfl) (fun _ _ _ h => h) (by kernel_rfl) ?_ (by assumption) ?_
    rotate_left
    · intro w hSw; rw [hS] at hSw; obtain ⟨q0, q1, -⟩ := hSw; go_simp; (try with_reducible rfl)
    try simp only [Act.put, List.setIfInBounds_toArray, List.set_cons_zero, List.set_cons_succ]
    refine tkY (v := ?_) 7 14 rfl rfl (by kernel_rfl) (by kernel_rfl) (by kernel_rfl) (fun _ _ _ h => h) (by kernel_rfl) ?_ (by assumption) ?_
    rotate_left
    · intro w hSw; rw [hS] at hSw; obtain ⟨q0, q1, -⟩ := hSw; go_simp; (try with_reducible rfl)
    try simp only [Act.put, List.setIfInBounds_toArray, List.set_cons_zero, List.set_cons_succ]
    refine wpAnyH_ready (rs := [1]) (by kernel_rfl) (by simp) ?_
    refine AllReadyH.cons (o := _) rfl (fun K hK => ?_) AllReadyH.nil
    go_simp
    refine (HU.out _ (HSB.out _ (by assumption))).mono ?_
    rintro e z5 ⟨rfl, hb5⟩
    have hz5 := Lib.hid (below_via (HSB.out _ (by assumption)) (hzB.out _ (HSB.out _ (by assumption))) hb5)
    refine hK.out _ _ ?_ (fun hHeld => ?_)
    · exact HS.out _ hz5.out
    clear hK K hb5
    try simp only [Act.put, List.setIfInBounds_toArray, List.set_cons_zero, List.set_cons_succ]
    refine tkY (v := ?_) 4 11 rfl rfl (by kernel_rfl) (by kernel_rfl) (by kernel_rfl) (fun _ _ _ h => h) (by kernel_rfl) ?_ (by assumption) ?_
    rotate_left
    · intro w hSw; rw [hS] at hSw; obtain ⟨q0, q1, -⟩ := hSw; go_simp; (try with_reducible rfl)
    try simp only [Act.put, List.setIfInBounds_toArray, List.set_cons_zero, List.set_cons_succ]
    refine tkY (v := ?_) 5 12 rfl rfl (by kernel_rfl) (by kernel_rfl) (by kernel_rfl) (fun _ _ _ h => h) (by kernel_rfl) ?_ (by assumption) ?_
    rotate_left
    · intro w hSw; rw [hS] at hSw; obtain ⟨q0, q1, -⟩ := hSw; go_simp; (try with_reducible rfl)
    try simp only [Act.put, List.setIfInBounds_toArray, List.set_cons_zero, List.set_cons_succ]
    refine tkY (v := ?_) 8 15 rfl rfl (by kernel_rfl) (by kernel_rfl) (by kernel_rfl) (fun _ _ _ h => h) (by kernel_rfl) ?_ (by assumption) ?_
    rotate_left
    · intro w hSw; rw [hS] at hSw; obtain ⟨q0, q1, -⟩ := hSw; go_simp; (try with_reducible rfl)
    try simp only [Act.put, List.setIfInBounds_toArray, List.set_cons_zero, List.set_cons_succ]
    refine tkY (v := ?_) 9 2 rfl rfl (by kernel_rfl) (by kernel_rfl) (by kernel_rfl) (fun _ _ _ h => h) (by kernel_rfl) ?_ (by assumption) ?_
    rotate_left
    · intro w hSw; rw [hS] at hSw; obtain ⟨q0, q1, -⟩ := hSw; go_simp; (try with_reducible rfl)
    try simp only [Act.put, List.setIfInBounds_toArray, List.set_cons_zero, List.set_cons_succ]
    refine tkY (v := ?_) 10 3 rfl rfl (by kernel_rfl) (by kernel_rfl) (by kernel_rfl) (fun _ _ _ h => h) (by kernel_rfl) ?_ (by assumption) ?_
    rotate_left
    · intro w hSw; rw [hS] at hSw; obtain ⟨q0, q1, -⟩ := hSw; go_simp; (try with_reducible rfl)
    try simp only [Act.put, List.setIfInBounds_toArray, List.set_cons_zero, List.set_cons_succ]
    refine wpAnyH_done (by kernel_rfl) ?_ _
    go_wp2
    go_ret2
    exact ⟨rfl, HW.out _ hz5.out⟩

set_option maxRecDepth 100000 in
set_option maxHeartbeats 2000000 in
theorem Bound_any (M : Int) (A : Option Addr) (n c : Nat) (l : List St3) (w : World) (hn : n ≤ maxLen) (hR : Reads w w.heap.size 3 A n (sts l)) (hL : Laid w) :
    Calls Tryd.prog 30 #[.agg #[.int .i64 M, .slice A n c]] w fun e w' =>
      e = .returned (.tuple #[.int .i64 (boundS M l).1, .int .i64 (boundS M l).2]) ∧ Below w.heap.size w w' := by
  have hl : l.length = n := hR.st_len
  have H1 := Lib.hid (Sound_any M A n c l (w.alloc (.cells #[.int .i64 M, .slice A n c] 24)) hn ((hR.alloc (Nat.le_refl _) _).more (by simp)) (hL.below ((Below.refl _ _).alloc (Nat.le_refl _) _) hL.2.2))
  have HK := Lib.hid (fun x (hx : Below (w.heap.size + 1) (w.alloc (.cells #[.int .i64 M, .slice A n c] 24)) x) => shaft_box hR hx)
  have HW := Lib.hid (fun x (hx : Below (w.heap.size + 1) (w.alloc (.cells #[.int .i64 M, .slice A n c] 24)) x) => box_below hx)
  have hz0 : Hid ((w.alloc (.cells #[.int .i64 M, .slice A n c] 24)).heap.size = w.heap.size + 1) := by show _ = _; simp
  clear hR
  cases h1 : shaftB M l
  · have hf : Hid (boundS M l = (0, 102)) := by show boundS M l = _; unfold boundS; rw [h1]; rfl
    have e1 : soundS M l = 102 := by unfold soundS; rw [h1]; rfl
    rw [e1] at H1
    rw [hf.out]
    clear h1 HK e1
    go_enter Tryd.func30, Tryd.ntmps30
    go_wp2_with fail
    refine H1.out.mono ?_
    rintro e w1 ⟨rfl, hb1⟩
    rw [hz0.out] at hb1
    have hX1 := Lib.hid hb1
    clear hb1
    go_wp2
    go_ret2
    exact ⟨rfl, HW.out _ hX1.out⟩
  · have hv : Hid (shaftB M l = true) := h1
    have e1 : soundS M l = 0 := by unfold soundS; rw [h1]; rfl
    rw [e1] at H1
    obtain ⟨hM1, hM2, hn4⟩ := shaft_bounds h1
    have hf : Hid (boundS M l = ((sumS l + M - 1) / M, 0)) := by show boundS M l = _; unfold boundS; rw [h1]; rfl
    rw [hf.out]
    obtain ⟨s1, s2⟩ := sumS_take h1 l.length (Nat.le_refl _)
    rw [List.take_length] at s1 s2
    have hc' : Hid (∀ x ∈ l, 0 ≤ cntO false x ∧ cntO false x ≤ 500) := cnt_pounds h1
    obtain ⟨m, rfl⟩ := Int.eq_ofNat_of_zero_le (by omega : 0 ≤ M)
    have hs' : Hid (SetOk m l (List.replicate n 0)) := by
      refine ⟨by simp; omega, fun k x y hx hy => ?_⟩
      obtain ⟨-, rfl⟩ := List.mem_replicate.1 (List.mem_of_getElem? hy)
      obtain ⟨C, U, P⟩ := x
      have := shaft_st hv.out hx
      simp only
      omega
    have hall' := sum_loads (m := m) hv.out hl
    have hsum : Hid (∀ k, k < m → 0 ≤ (loadsL m (cntO false) l (List.replicate n 0))[k]?.getD 0 + ((loadsL m (cntO false) l (List.replicate n 0)).take k).sum ∧ (loadsL m (cntO false) l (List.replicate n 0))[k]?.getD 0 + ((loadsL m (cntO false) l (List.replicate n 0)).take k).sum ≤ 500000 ∧ ((loadsL m (cntO false) l (List.replicate n 0)).take (k + 1)).sum = ((loadsL m (cntO false) l (List.replicate n 0)).take k).sum + (loadsL m (cntO false) l (List.replicate n 0))[k]?.getD 0) := by
      intro k hk
      have hkl : k < (loadsL m (cntO false) l (List.replicate n 0)).length := by rw [loadsL_len]; simpa using hk
      have e : ((loadsL m (cntO false) l (List.replicate n 0)).take (k + 1)).sum = ((loadsL m (cntO false) l (List.replicate n 0)).take k).sum + (loadsL m (cntO false) l (List.replicate n 0))[k]?.getD 0 := by
        rw [List.take_add_one, get_of_lt hkl, List.sum_append]; simp
      have hnn : ∀ x ∈ loadsL m (cntO false) l (List.replicate n 0), 0 ≤ x := by
        intro x hx
        obtain ⟨i, _, rfl⟩ := List.mem_map.1 hx
        exact loadL_nonneg (fun x hx => (hc'.out x hx).1)
      have h1 := sum_nonneg ((loadsL m (cntO false) l (List.replicate n 0)).take (k + 1)) (fun x hx => hnn x (List.mem_of_mem_take hx))
      have h2 := sum_nonneg ((loadsL m (cntO false) l (List.replicate n 0)).drop (k + 1)) (fun x hx => hnn x (List.mem_of_mem_drop hx))
      have h3 := congrArg List.sum (List.take_append_drop (k + 1) (loadsL m (cntO false) l (List.replicate n 0)))
      rw [List.sum_append, hall'] at h3
      refine ⟨by omega, by omega, e⟩
    have hall : Hid (((loadsL m (cntO false) l (List.replicate n 0)).take m).sum = sumS l) := by
      show _ = _
      rw [List.take_of_length_le (by rw [loadsL_len]; simp), hall']
    clear h1 e1 hall'
    have hnm := make_ints n (by omega)
    have HPo := Lib.hid (fun x (hx : Below (w.heap.size + 1) (w.alloc (.cells #[.int .i64 m, .slice A n c] 24)) x) => pounds_any m A n c l x (by omega) (HK.out x hx).2.2.2)
    have hzB := Lib.hid (fun x (hx : Below (w.heap.size + 1) (w.alloc (.cells #[.int .i64 m, .slice A n c] 24)) x) => (HK.out x hx).2.2.1)
    have HR := Lib.hid (fun x (hx : Below (w.heap.size + 1) (w.alloc (.cells #[.int .i64 m, .slice A n c] 24)) x) => (HK.out x hx).2.2.2)
    have HC := Lib.hid (fun x (hx : Below (w.heap.size + 1) (w.alloc (.cells #[.int .i64 m, .slice A n c] 24)) x) => And.intro (HK.out x hx).1 (HK.out x hx).2.1)
    clear hf
    have v0 := s1
    have v1 : sumS l ≤ 288000 := by omega
    generalize sumS l = v at *
    have y1 : wrap64 (v + m) = v + m := w64 (by omega) (by omega)
    have y2 : wrap64 (v + m - 1) = v + m - 1 := w64 (by omega) (by omega)
    have q1 : (v + (m : Int) - 1).tdiv m = (v + m - 1) / m := Int.tdiv_eq_ediv_of_nonneg (by omega)
    have q2 : (v + (m : Int) - 1) / m ≤ v + m - 1 := Int.ediv_le_self _ (by omega)
    have q3 : 0 ≤ (v + (m : Int) - 1) / m := Int.ediv_nonneg (by omega) (by omega)
    have y3 : wrap64 ((v + (m : Int) - 1) / m) = (v + m - 1) / m := w64 (by omega) (by omega)
    have mz : ¬ (m : Int) = 0 := by omega
    have mz' : ((m : Int) == 0) = false := by simpa using mz
    go_enter Tryd.func30, Tryd.ntmps30
    go_wp2_with fail
    refine H1.out.mono ?_
    rintro e w1 ⟨rfl, hb1⟩
    rw [hz0.out] at hb1
    have hX1 := Lib.hid hb1
    clear hb1 H1 hz0
    generalize (w.alloc (.cells #[.int .i64 m, .slice A n c] 24)) = wb at *
    have hXa : Hid (Below (w.heap.size + 1) wb (w1.alloc (.cells (ints (List.replicate n 0)).toArray 3)).drew) := Lib.hid (hX1.out.alloc (hzB.out _ hX1.out) _).drew
    have hRa : Hid (Reads (w1.alloc (.cells (ints (List.replicate n 0)).toArray 3)).drew (w1.alloc (.cells (ints (List.replicate n 0)).toArray 3)).drew.heap.size 1 (some ⟨w1.heap.size, 0, none⟩) n (ints (List.replicate n 0))) := Reads.new_ints w1 (List.replicate n 0) 3 n (by simp)
    clear q2 q3 s1 s2 hn v0 v1
    go_wp2_with fail
    obtain ⟨S, hS⟩ : ∃ S : World → Prop, S = fun z => (z.cell? ⟨w.heap.size, 0, none⟩ = some (.int .i64 m) ∧ z.cell? ⟨w.heap.size, 1, none⟩ = some (.slice A n c)) ∧ Hid (Below (w.heap.size + 1) wb z) := ⟨_, rfl⟩
    have HS := Lib.hid (fun z (hz' : Below (w.heap.size + 1) wb z) => (by rw [hS]; exact ⟨⟨(HK.out z hz').1, (HK.out z hz').2.1⟩, Lib.hid hz'⟩ : S z))
    have HSB := Lib.hid (fun z (hz' : S z) => (show Hid (Below (w.heap.size + 1) wb z) from (by rw [hS] at hz'; exact hz'.2)).out)
    refine wp_region_held_drew (S := S) (by kernel_rfl) ?_ (fun hHeld => ?_)
    · exact HS.out _ hX1.out.drew
    refine tkY (v := ?_) 0 13 rfl rfl (by kernel_rfl) (by kernel_rfl) (by kernel_rfl) (fun _ _ _ h => h) (by kernel_rfl) ?_ (by assumption) ?_
    rotate_left
    · intro w hSw; rw [hS] at hSw; obtain ⟨q0, q1, -⟩ := hSw; go_simp; (try with_reducible rfl)
    try simp only [Act.put, List.setIfInBounds_toArray, List.set_cons_zero, List.set_cons_succ]
    refine tkY (v := ?_) 2 15 rfl rfl (by kernel_rfl) (by kernel_rfl) (by kernel_rfl) (fun _ _ _ h => h) (by kernel_rfl) ?_ (by assumption) ?_
    rotate_left
    · intro w hSw; rw [hS] at hSw; obtain ⟨q0, q1, -⟩ := hSw; go_simp; (try with_reducible rfl)
    try simp only [Act.put, List.setIfInBounds_toArray, List.set_cons_zero, List.set_cons_succ]
    refine tkY (v := ?_) 3 16 rfl rfl (by kernel_rfl) (by kernel_rfl) (by kernel_rfl) (fun _ _ _ h => h) (by kernel_rfl) ?_ (by assumption) ?_
    rotate_left
    · intro w hSw; rw [hS] at hSw; obtain ⟨q0, q1, -⟩ := hSw; go_simp; (try with_reducible rfl)
    try simp only [Act.put, List.setIfInBounds_toArray, List.set_cons_zero, List.set_cons_succ]
    refine tkY (v := ?_) 4 17 rfl rfl (by kernel_rfl) (by kernel_rfl) (by kernel_rfl) (fun _ _ _ h => h) (by kernel_rfl) ?_ (by assumption) ?_
    rotate_left
    · intro w hSw; rw [hS] at hSw; obtain ⟨q0, q1, -⟩ := hSw; go_simp; (try with_reducible rfl)
    try simp only [Act.put, List.setIfInBounds_toArray, List.set_cons_zero, List.set_cons_succ]
    refine tkY (v := ?_) 8 21 rfl rfl (by kernel_rfl) (by kernel_rfl) (by kernel_rfl) (fun _ _ _ h => h) (by kernel_rfl) ?_ (by assumption) ?_
    rotate_left
    · intro w hSw; rw [hS] at hSw; obtain ⟨q0, q1, -⟩ := hSw; go_simp; (try with_reducible rfl)
    try simp only [Act.put, List.setIfInBounds_toArray, List.set_cons_zero, List.set_cons_succ]
    refine wpAnyH_ready (rs := [1, 5]) (by kernel_rfl) (by simp) ?_
    refine AllReadyH.cons (o := _) rfl (fun K hK => ?_) (AllReadyH.cons (o := _) rfl (fun K hK => ?_) AllReadyH.nil)
    · go_simp
      refine (HPo.out _ (HSB.out _ (by assumption))).mono ?_
      rintro e z5 ⟨v5, rfl, hv5, hb5⟩
      have hX5 := Lib.hid (below_via (HSB.out _ (by assumption)) (hzB.out _ (HSB.out _ (by assumption))) hb5)
      obtain ⟨Ac, cc, rfl, hr5⟩ := own_slice hv5
      refine hK.out _ _ ?_ (fun hHeld => ?_)
      · exact HS.out _ hX5.out
      clear hK K hb5 hv5
      try simp only [Act.put, List.setIfInBounds_toArray, List.set_cons_zero, List.set_cons_succ]
      refine wpAnyH_ready (rs := [5]) (by kernel_rfl) (by simp) ?_
      refine AllReadyH.cons (o := _) rfl (fun K hK => ?_) AllReadyH.nil
      go_simp
      refine hK.out _ _ ?_ (fun hHeld => ?_)
      · exact HS.out _ (hX5.out.alloc (hzB.out _ hX5.out) _)
      clear hK K
      try simp only [Act.put, List.setIfInBounds_toArray, List.set_cons_zero, List.set_cons_succ]
      have hX8 := Lib.hid (hX5.out.alloc (hzB.out _ hX5.out) (.cells (ints (List.replicate n 0)).toArray 3))
      have HLd := loads_any m (cntO false) A (some ⟨z5.heap.size, 0, none⟩) Ac n c n n cc l (List.replicate n 0) _ (HR.out _ hX8.out) (Reads.new_ints z5 (List.replicate n 0) 3 n (by simp)) ((hr5.alloc (Nat.le_refl _) _).more (by simp)) hv hs' hc'
      clear hr5
      refine wpAnyH_ready (rs := [6]) (by kernel_rfl) (by simp) ?_
      refine AllReadyH.cons (o := _) rfl (fun K hK => ?_) AllReadyH.nil
      go_simp
      refine HLd.mono ?_
      rintro e z9 ⟨v9, rfl, hv9, hb9⟩
      have hX9 := Lib.hid (below_via hX8.out (hzB.out _ hX8.out) hb9)
      obtain ⟨Av, cv, rfl, hr9⟩ := own_slice hv9
      have hL9 := Lib.hid hr9
      refine hK.out _ _ ?_ (fun hHeld => ?_)
      · exact HS.out _ hX9.out
      clear hK K hb9 hv9 hr9 HLd
      try simp only [Act.put, List.setIfInBounds_toArray, List.set_cons_zero, List.set_cons_succ]
      refine tkY (v := ?_) 7 20 rfl rfl (by kernel_rfl) (by kernel_rfl) (by kernel_rfl) (fun _ _ _ h => h) (by kernel_rfl) ?_ (by assumption) ?_
      rotate_left
      · intro w hSw; rw [hS] at hSw; obtain ⟨q0, q1, -⟩ := hSw; go_simp; (try with_reducible rfl)
      try simp only [Act.put, List.setIfInBounds_toArray, List.set_cons_zero, List.set_cons_succ]
      refine wpAnyH_done (by kernel_rfl) ?_ _
      go_wp2
      go_loopw [5, 21] (fun x y wr => ∃ k : Nat, k ≤ m ∧ y = .int .i64 k ∧ x = .int .i64 ((loadsL m (cntO false) l (List.replicate n 0)).take k).sum ∧ Hid (∃ q, wr = z9.drewN q)) (fun _ y _ => m - (intOf y).toNat)
      case atStart => exact ⟨0, by omega, rfl, by simp, ⟨0, rfl⟩⟩
      case round =>
        obtain ⟨k, hk, rfl, rfl, hq⟩ := hrel
        obtain ⟨q, rfl⟩ := hq.out
        clear hq
        by_cases hlt : k < m
        · obtain ⟨bL, oL, eL, hbL, hcL⟩ := hL9.out.int hlt
          subst eL
          obtain ⟨g0, g1, g2⟩ := hsum.out k hlt
          generalize (loadsL m (cntO false) l (List.replicate n 0))[k]?.getD 0 = u at *
          have g3 := Lib.hid g2
          clear g2
          generalize ((loadsL m (cntO false) l (List.replicate n 0)).take k).sum = v at *
          have y1 : wrap64 (v + u) = v + u := w64 (by omega) (by omega)
          go_wp2
          go_roundw
          case rel => exact ⟨k + 1, by omega, by go_num, by rw [g3.out], ⟨_, rfl⟩⟩
          case measure => simp [intOf]; omega
        · have hkm : k = m := by omega
          subst hkm
          rw [hall.out]
          obtain ⟨c0, c1⟩ := HC.out _ hX9.out
          go_wp2
          go_ret2
          exact ⟨(by show Ending.returned (.tuple #[.int .i64 (wrap64 ((v + (k : Int) - 1) / k)), .int .i64 0]) = _; rw [y3]), below_drewN (HW.out _ hX9.out) _⟩
    · go_simp
      refine hK.out _ _ ?_ (fun hHeld => ?_)
      · exact HS.out _ hXa.out
      clear hK K
      try simp only [Act.put, List.setIfInBounds_toArray, List.set_cons_zero, List.set_cons_succ]
      refine wpAnyH_ready (rs := [1]) (by kernel_rfl) (by simp) ?_
      refine AllReadyH.cons (o := _) rfl (fun K hK => ?_) AllReadyH.nil
      go_simp
      refine (HPo.out _ hXa.out).mono ?_
      rintro e z5 ⟨v5, rfl, hv5, hb5⟩
      have hX8 := Lib.hid (below_via hXa.out (hzB.out _ hXa.out) hb5)
      obtain ⟨Ac, cc, rfl, hr5⟩ := own_slice hv5
      have hr0 := ((hRa.out.below hb5).more hb5.size)
      refine hK.out _ _ ?_ (fun hHeld => ?_)
      · exact HS.out _ hX8.out
      clear hK K hb5 hv5
      try simp only [Act.put, List.setIfInBounds_toArray, List.set_cons_zero, List.set_cons_succ]
      have HLd := loads_any m (cntO false) A (some ⟨w1.heap.size, 0, none⟩) Ac n c n n cc l (List.replicate n 0) _ (HR.out _ hX8.out) hr0 hr5 hv hs' hc'
      clear hr5 hr0
      refine wpAnyH_ready (rs := [6]) (by kernel_rfl) (by simp) ?_
      refine AllReadyH.cons (o := _) rfl (fun K hK => ?_) AllReadyH.nil
      go_simp
      refine HLd.mono ?_
      rintro e z9 ⟨v9, rfl, hv9, hb9⟩
      have hX9 := Lib.hid (below_via hX8.out (hzB.out _ hX8.out) hb9)
      obtain ⟨Av, cv, rfl, hr9⟩ := own_slice hv9
      have hL9 := Lib.hid hr9
      refine hK.out _ _ ?_ (fun hHeld => ?_)
      · exact HS.out _ hX9.out
      clear hK K hb9 hv9 hr9 HLd
      try simp only [Act.put, List.setIfInBounds_toArray, List.set_cons_zero, List.set_cons_succ]
      refine tkY (v := ?_) 7 20 rfl rfl (by kernel_rfl) (by kernel_rfl) (by kernel_rfl) (fun _ _ _ h => h) (by kernel_rfl) ?_ (by assumption) ?_
      rotate_left
      · intro w hSw; rw [hS] at hSw; obtain ⟨q0, q1, -⟩ := hSw; go_simp; (try with_reducible rfl)
      try simp only [Act.put, List.setIfInBounds_toArray, List.set_cons_zero, List.set_cons_succ]
      refine wpAnyH_done (by kernel_rfl) ?_ _
      go_wp2
      go_loopw [5, 21] (fun x y wr => ∃ k : Nat, k ≤ m ∧ y = .int .i64 k ∧ x = .int .i64 ((loadsL m (cntO false) l (List.replicate n 0)).take k).sum ∧ Hid (∃ q, wr = z9.drewN q)) (fun _ y _ => m - (intOf y).toNat)
      case atStart => exact ⟨0, by omega, rfl, by simp, ⟨0, rfl⟩⟩
      case round =>
        obtain ⟨k, hk, rfl, rfl, hq⟩ := hrel
        obtain ⟨q, rfl⟩ := hq.out
        clear hq
        by_cases hlt : k < m
        · obtain ⟨bL, oL, eL, hbL, hcL⟩ := hL9.out.int hlt
          subst eL
          obtain ⟨g0, g1, g2⟩ := hsum.out k hlt
          generalize (loadsL m (cntO false) l (List.replicate n 0))[k]?.getD 0 = u at *
          have g3 := Lib.hid g2
          clear g2
          generalize ((loadsL m (cntO false) l (List.replicate n 0)).take k).sum = v at *
          have y1 : wrap64 (v + u) = v + u := w64 (by omega) (by omega)
          go_wp2
          go_roundw
          case rel => exact ⟨k + 1, by omega, by go_num, by rw [g3.out], ⟨_, rfl⟩⟩
          case measure => simp [intOf]; omega
        · have hkm : k = m := by omega
          subst hkm
          rw [hall.out]
          obtain ⟨c0, c1⟩ := HC.out _ hX9.out
          go_wp2
          go_ret2
          exact ⟨(by show Ending.returned (.tuple #[.int .i64 (wrap64 ((v + (k : Int) - 1) / k)), .int .i64 0]) = _; rw [y3]), below_drewN (HW.out _ hX9.out) _⟩
end Go.Proofs.YtlmmjaolmmcklaaDoor
