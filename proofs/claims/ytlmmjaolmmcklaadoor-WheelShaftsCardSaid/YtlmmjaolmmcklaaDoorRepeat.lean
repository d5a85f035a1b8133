/-
  The walks of the library's repetition of one number, at most four times; of a shaft at work whose stampers count one each.
-/
import Derived.Test.YtlmmjaolmmcklaaDoorLoads
namespace Go.Proofs.YtlmmjaolmmcklaaDoor
open Go.RowKit
set_option linter.unusedSimpArgs false

set_option maxRecDepth 100000 in
theorem mul64_one (n : Nat) (hn : n ≤ 4) (w : World) :
    Calls Tryd.prog 103 #[.int .u64 1, .int .u64 n] w fun e w' => e = .returned (.tuple #[.int .u64 0, .int .u64 n]) ∧ w' = w := by
  rcases (by omega : n = 0 ∨ n = 1 ∨ n = 2 ∨ n = 3 ∨ n = 4) with rfl | rfl | rfl | rfl | rfl <;>
  · go_enter Tryd.func103, Tryd.ntmps103
    go_wp2
    go_ret2
    exact ⟨rfl, rfl⟩

set_option maxRecDepth 100000 in
theorem mul_one (n : Nat) (hn : n ≤ 4) (w : World) :
    Calls Tryd.prog 96 #[.int .u64 1, .int .u64 n] w fun e w' => e = .returned (.tuple #[.int .u64 0, .int .u64 n]) ∧ w' = w := by
  have H := Lib.hid (mul64_one n hn w)
  have e1 : IntKind.u64.wrap (n : Int) = n := by
    rcases (by omega : n = 0 ∨ n = 1 ∨ n = 2 ∨ n = 3 ∨ n = 4) with rfl | rfl | rfl | rfl | rfl <;> decide
  go_enter Tryd.func96, Tryd.ntmps96
  go_wp2_with fail
  refine H.out.mono ?_
  rintro e w1 ⟨rfl, rfl⟩
  go_wp2
  go_ret2
  exact ⟨rfl, rfl⟩

theorem wp_copyC {P : Program} {w : World} {o : Oper} {a : Act} {K : Act → World → Prop} {Q : Exit → Act → World → Prop} (d s : Operand) (t t' : TypeId)
    (ho : o.op = .call { callee := .builtin .copy, args := #[d, s], argTypes := #[t, t'] }) (v u : Value) (hd : a.eval d = v) (hs : a.eval s = u) {v' : Value} {w' : World}
    (hr : (Builtin.copy_ #[t, t'] o.type #[v, u]).run P w = .ok v' w') (h : K (a.put o.dst v') w') : o.wp P a w K Q := by
  unfold Oper.wp execOp
  simp only [ho, resolve, invoke, builtin, Sem.run_bind, Sem.run_pure, Result.andThen_ok, List.map_toArray, List.map_cons, List.map_nil, hd, hs, hr]
  exact h
theorem wpList_copyC {P : Program} {w : World} {ops : Array Oper} {rest : List Oper} {o : Oper} {a : Act} {Q : Exit → Act → World → Prop} (hgd : o.guard = none) (d s : Operand) (t t' : TypeId)
    (ho : o.op = .call { callee := .builtin .copy, args := #[d, s], argTypes := #[t, t'] }) (v u : Value) (hd : a.eval d = v) (hs : a.eval s = u) {v' : Value} {w' : World}
    (hr : (Builtin.copy_ #[t, t'] o.type #[v, u]).run P w = .ok v' w') (h : wpList P ops Q rest (a.put o.dst v') w') : wpList P ops Q (o :: rest) a w :=
  wpList_plain hgd fun _ hK => wp_copyC d s t t' ho v u hd hs hr (hK _ _ h)

theorem step_copyC {P : Program} {ops : Array Oper} {o : Oper} {a : Act} {w : World} {K : Act → World → Prop} {Q : Exit → Act → World → Prop} {E : Prop}
    (hg : o.guard = none) (d x : Operand) (dT sT : TypeId) (hop : o.op = .call { callee := .builtin .copy, args := #[d, x], argTypes := #[dT, sT] })
    (v u : Value) (hd : a.eval d = v) (hx : a.eval x = u) {v' : Value} {w' : World} (hr : (Builtin.copy_ #[dT, sT] o.type #[v, u]).run P w = .ok v' w') (dd : Nat) (hdd : o.dst = some dd) (hK : K (a.put (some dd) v') w') :
    if Region.wanted o (yielded ops a.tmps) = true then Oper.wp P o a w K Q else E := by
  have hw : Region.wanted o (yielded ops a.tmps) = true := by simp [Region.wanted, hg]
  rw [if_pos hw]
  exact wp_copyC d x dT sT hop v u hd hx hr (by rw [hdd]; exact hK)
theorem nmin (a b : Nat) : Nat.min a b ≤ a ∧ Nat.min a b ≤ b ∧ (Nat.min a b = a ∨ Nat.min a b = b) := by
  show min a b ≤ a ∧ min a b ≤ b ∧ (min a b = a ∨ min a b = b)
  omega
theorem below_setCells {B : Nat} {a : World} (b : Nat) : ∀ (vs : List Value) (o : Nat) {w : World}, Below B a w → B ≤ b → Below B a (w.setCells b o vs)
  | [], _, _, h, _ => h
  | _ :: r, _, _, h, hb => below_setCells b r _ (h.setCell (by simpa using hb) _) hb

/-- The new row while it is filled: so many ones, then zeros. -/
def rowF (n k : Nat) : List Int := List.replicate k 1 ++ List.replicate (n - k) 0
theorem rowF_len {n k : Nat} (h : k ≤ n) : (rowF n k).length = n := by simp [rowF]; omega
theorem rowF_zero (n : Nat) : rowF n 0 = List.replicate n 0 := by simp [rowF]
theorem rowF_end (n : Nat) : rowF n n = List.replicate n 1 := by simp [rowF]

/-- The block of the new row. -/
def RowAt (g n k : Nat) (x : World) : Prop := x.heap[g]? = some (.cells (ints (rowF n k)).toArray 3 (0, 0))
theorem RowAt.copy {g n k c : Nat} {x : World} (h : RowAt g n k x) (hk : k + c ≤ n) (hn : n ≤ 4) : RowAt g n (k + c) (x.setCells g k (List.replicate c (.int .i64 1))) := by
  unfold RowAt at *
  rcases (by omega : n = 0 ∨ n = 1 ∨ n = 2 ∨ n = 3 ∨ n = 4) with rfl | rfl | rfl | rfl | rfl <;>
  rcases (by omega : k = 0 ∨ k = 1 ∨ k = 2 ∨ k = 3 ∨ k = 4) with rfl | rfl | rfl | rfl | rfl <;>
  rcases (by omega : c = 0 ∨ c = 1 ∨ c = 2 ∨ c = 3 ∨ c = 4) with rfl | rfl | rfl | rfl | rfl <;>
  first
  | omega
  | (simp [World.setCells, World.setCell, Array.getElem?_modify, h, rowF, ints, List.replicate])
theorem RowAt.cell {g n k j : Nat} {x : World} (h : RowAt g n k x) (hk : k ≤ n) (hj : j < n) : x.cell? ⟨g, j, none⟩ = some (.int .i64 (if j < k then 1 else 0)) := by
  unfold RowAt at h
  have : (ints (rowF n k))[j]? = some (.int .i64 (if j < k then 1 else 0)) := by
    rw [ints_get]
    unfold rowF
    by_cases hjk : j < k
    · rw [List.getElem?_append_left (by simpa using hjk), List.getElem?_replicate, if_pos hjk, if_pos hjk]; rfl
    · rw [List.getElem?_append_right (by simp; omega), List.getElem?_replicate, if_neg hjk, if_pos (by simp; omega)]; rfl
  simp [World.cell?, h, this]
theorem RowAt.froz {g n k j : Nat} {x : World} (h : RowAt g n k x) : x.frozen? ⟨g, j, none⟩ = false := by
  unfold RowAt at h
  simp [World.frozen?, h]
theorem RowAt.own {base g n : Nat} {x : World} (h : RowAt g n n x) (hb : base ≤ g) (hn : n ≤ 4) : x.ownsRow base 3 1 (.slice (some ⟨g, 0, none⟩) n n) n (ints (List.replicate n 1)) := by
  unfold RowAt at h
  rw [rowF_end] at h
  exact ⟨by simp [ints], .inr ⟨g, n, (ints (List.replicate n 1)).toArray, rfl, hb, h, Nat.le_refl _, by unfold maxLen; omega, by simp [ints], by simp [ints]⟩⟩

theorem copy_run {g n k c a sLen sCap dCap : Nat} {x : World} (h : RowAt g n k x) (hk : k + c ≤ n) (hc : c = Nat.min sLen (n - k)) (ha : ∀ j, j < c → x.cell? ((⟨a, 0, none⟩ : Addr).add j) = some (.int .i64 1)) (t : TypeId) :
    (Builtin.copy_ #[25, 25] t #[.slice (some ⟨g, k, none⟩) (n - k) dCap, .slice (some ⟨a, 0, none⟩) sLen sCap]).run Tryd.prog x = .ok (goInt c) (x.setCells g k (List.replicate c (.int .i64 1))) := by
  obtain ⟨i0, hi, hz0, hz1, hz2⟩ := info_parts info_int
  have := run_copy_cells (P := Tryd.prog) x 25 25 t 3 g k (n - k) dCap ⟨a, 0, none⟩ sLen sCap (List.replicate c (.int .i64 1)) Tryd.underlying25 (by rw [hi]; simp [hz1]) (by simpa using hc)
    (fun j v hj => by
      have hjc : j < c := by have := (List.getElem?_eq_some_iff.1 hj).1; simpa using this
      rw [List.getElem?_replicate, if_pos hjc] at hj
      cases hj
      exact ha j hjc)
    (fun j hj => by
      have hjc : j < c := by simpa using hj
      rw [h.cell (by omega) (by omega)]; rfl)
    (fun j hj => h.froz) (fun v hv => by obtain ⟨-, rfl⟩ := List.mem_replicate.1 hv; rfl)
  simpa using this

set_option maxRecDepth 100000 in
set_option maxHeartbeats 1000000 in
theorem repeat_any (b n : Nat) (hn : n ≤ 4) (w : World) (hb : b < w.heap.size) (hc : w.cell? ⟨b, 0, none⟩ = some (.int .i64 1)) :
    Calls Tryd.prog 84 #[.slice (some ⟨b, 0, none⟩) 1 1, .int .i64 n] w fun e w' => ∃ v, e = .returned v ∧ w'.ownsRow w.heap.size 3 1 v n (ints (List.replicate n 1)) ∧ Below w.heap.size w w' := by
  have H := Lib.hid (mul_one n hn w)
  have hmk := make_ints n (by omega)
  have e1 : IntKind.u64.wrap (n : Int) = n := by
    rcases (by omega : n = 0 ∨ n = 1 ∨ n = 2 ∨ n = 3 ∨ n = 4) with rfl | rfl | rfl | rfl | rfl <;> decide
  have e2 : IntKind.i64.wrap (n : Int) = n := by
    rcases (by omega : n = 0 ∨ n = 1 ∨ n = 2 ∨ n = 3 ∨ n = 4) with rfl | rfl | rfl | rfl | rfl <;> decide
  have hR0 : Hid (RowAt w.heap.size n 0 (w.alloc (.cells (ints (List.replicate n 0)).toArray 3))) := by
    show _ = _
    rw [rowF_zero]
    exact heap_alloc_new w _
  have hB0 : Hid (Below w.heap.size w (w.alloc (.cells (ints (List.replicate n 0)).toArray 3))) := (Below.refl _ _).alloc (Nat.le_refl _) _
  have hc0 : (w.alloc (.cells (ints (List.replicate n 0)).toArray 3)).cell? ⟨b, 0, none⟩ = some (.int .i64 1) := by rw [World.cell?_alloc_lt _ _ _ hb]; exact hc
  obtain ⟨n1, n2, n3⟩ := nmin 1 n
  have hk1 : Nat.min 1 n ≤ n ∧ (1 ≤ Nat.min 1 n ∨ n = 0) := by omega
  have hcp := copy_run (c := Nat.min 1 n) (sLen := 1) (sCap := 1) (dCap := n) (k := 0) (a := b) hR0.out (by omega) (by simp) (fun j hj => by
    have hj0 : j = 0 := by omega
    subst hj0
    exact hc0) 3
  have hR1 : Hid (RowAt w.heap.size n (0 + Nat.min 1 n) ((w.alloc (.cells (ints (List.replicate n 0)).toArray 3)).setCells w.heap.size 0 (List.replicate (Nat.min 1 n) (.int .i64 1)))) := RowAt.copy hR0.out (by omega) hn
  have hB1 : Hid (Below w.heap.size w ((w.alloc (.cells (ints (List.replicate n 0)).toArray 3)).setCells w.heap.size 0 (List.replicate (Nat.min 1 n) (.int .i64 1)))) := below_setCells _ _ _ hB0.out (Nat.le_refl _)
  simp only [Nat.sub_zero, Nat.zero_add] at hcp hR1
  generalize Nat.min 1 n = q at *
  clear hc hc0 hR0 hB0 n1 n2 n3
  go_enter Tryd.func84, Tryd.ntmps84
  go_wp2_with fail
  refine H.out.mono ?_
  rintro e w1 ⟨rfl, hw1⟩
  rw [hw1]
  clear hw1 w1 H
  go_wp2
  generalize ((w.alloc (.cells (ints (List.replicate n 0)).toArray 3)).setCells w.heap.size 0 (List.replicate q (.int .i64 1))) = wd at *
  clear hcp hmk
  go_loopw [8] (fun x wr => ∃ k : Nat, k ≤ n ∧ (1 ≤ k ∨ n = 0) ∧ x = .int .i64 k ∧ Hid (RowAt w.heap.size n k wr) ∧ Hid (Below w.heap.size w wr)) (fun x _ => n - (intOf x).toNat)
  case atStart => exact ⟨q, hk1.1, hk1.2, rfl, hR1, hB1⟩
  case round =>
    clear hR1 hB1
    obtain ⟨k, hk, hk1, rfl, hR, hB⟩ := hrel
    by_cases hlt : k < n
    · have hcp : ∀ t, (Builtin.copy_ #[25, 25] t #[.slice (some ⟨w.heap.size, k, none⟩) (n - k) (n - k), .slice (some ⟨w.heap.size, 0, none⟩) k n]).run Tryd.prog wr.drew = .ok (goInt (Nat.min k (n - k))) (wr.drew.setCells w.heap.size k (List.replicate (Nat.min k (n - k)) (.int .i64 1))) := fun t =>
        copy_run (x := wr.drew) (c := Nat.min k (n - k)) (sLen := k) (sCap := n) (dCap := n - k) (k := k) (a := w.heap.size) hR.out (by have := nmin k (n - k); omega) rfl (fun j hj => by
          have h1 := nmin k (n - k)
          have := hR.out.cell (j := j) (by omega) (by omega)
          rw [if_pos (by omega)] at this
          by_cases hj0 : j = 0
          · subst hj0; simpa [Addr.add] using this
          · simpa [Addr.add, hj0] using this) t
      have hR2 : Hid (RowAt w.heap.size n (k + Nat.min k (n - k)) (wr.drew.setCells w.heap.size k (List.replicate (Nat.min k (n - k)) (.int .i64 1)))) := RowAt.copy (x := wr.drew) hR.out (by have := nmin k (n - k); omega) hn
      have hB2 : Hid (Below w.heap.size w (wr.drew.setCells w.heap.size k (List.replicate (Nat.min k (n - k)) (.int .i64 1)))) := below_setCells _ _ _ hB.out.drew (Nat.le_refl _)
      obtain ⟨c1, c2, c3⟩ := nmin k (n - k)
      have c4 : 1 ≤ Nat.min k (n - k) := by omega
      generalize Nat.min k (n - k) = q at *
      have hnk : ¬ n = k := by omega
      have r1 : k + q ≤ n := by omega
      have r2 : 1 ≤ k + q := by omega
      have r3 : n - ((k : Int) + (q : Int)).toNat < n - (k : Int).toNat := by omega
      have ws : IntKind.i64.wrap ((k : Int) + q) = k + q := IntWalk.i64_in _ (by omega)
      have y1 : wrap64 ((k : Int) + q) = k + q := w64 (by omega) (by omega)
      go_wp2_with fail
      refine wp_region_held_drew (S := fun z => Hid (Below w.heap.size w z)) (by kernel_rfl) ?_ (fun hHeld => ?_)
      · exact Lib.hid hB.out.drew
      refine tkY (v := ?_) 0 38 rfl rfl (by kernel_rfl) (by kernel_rfl) (by kernel_rfl) (fun _ _ _ h => h) (by kernel_rfl) ?_ (by assumption) ?_
      rotate_left
      · intro w hSw; go_simp; (try with_reducible rfl)
      try simp only [Act.put, List.setIfInBounds_toArray, List.set_cons_zero, List.set_cons_succ]
      refine tkY (v := ?_) 1 39 rfl rfl (by kernel_rfl) (by kernel_rfl) (by kernel_rfl) (fun _ _ _ h => h) (by kernel_rfl) ?_ (by assumption) ?_
      rotate_left
      · intro w hSw; go_simp; (try with_reducible rfl)
      try simp only [Act.put, List.setIfInBounds_toArray, List.set_cons_zero, List.set_cons_succ]
      refine tkY (v := ?_) 2 40 rfl rfl (by kernel_rfl) (by kernel_rfl) (by kernel_rfl) (fun _ _ _ h => h) (by kernel_rfl) ?_ (by assumption) ?_
      rotate_left
      · intro w hSw; go_simp; (try with_reducible rfl)
      try simp only [Act.put, List.setIfInBounds_toArray, List.set_cons_zero, List.set_cons_succ]
      refine tkY (v := ?_) 3 41 rfl rfl (by kernel_rfl) (by kernel_rfl) (by kernel_rfl) (fun _ _ _ h => h) (by kernel_rfl) ?_ (by assumption) ?_
      rotate_left
      · intro w hSw; go_simp; (try with_reducible rfl)
      try simp only [Act.put, List.setIfInBounds_toArray, List.set_cons_zero, List.set_cons_succ]
      refine tkY (v := ?_) 4 42 rfl rfl (by kernel_rfl) (by kernel_rfl) (by kernel_rfl) (fun _ _ _ h => h) (by kernel_rfl) ?_ (by assumption) ?_
      rotate_left
      · intro w hSw; go_simp; (try with_reducible rfl)
      try simp only [Act.put, List.setIfInBounds_toArray, List.set_cons_zero, List.set_cons_succ]
      refine tkY (v := ?_) 5 43 rfl rfl (by kernel_rfl) (by kernel_rfl) (by kernel_rfl) (fun _ _ _ h => h) (by kernel_rfl) ?_ (by assumption) ?_
      rotate_left
      · intro w hSw; go_simp; (try with_reducible rfl)
      try simp only [Act.put, List.setIfInBounds_toArray, List.set_cons_zero, List.set_cons_succ]
      refine tkY (v := ?_) 6 44 rfl rfl (by kernel_rfl) (by kernel_rfl) (by kernel_rfl) (fun _ _ _ h => h) (by kernel_rfl) ?_ (by assumption) ?_
      rotate_left
      · intro w hSw; go_simp; (try with_reducible rfl)
      try simp only [Act.put, List.setIfInBounds_toArray, List.set_cons_zero, List.set_cons_succ]
      refine wpAnyH_ready (rs := [7]) (by kernel_rfl) (by simp) ?_
      refine AllReadyH.cons (o := _) rfl (fun K hK => ?_) AllReadyH.nil
      refine step_copyC rfl _ _ 25 25 rfl _ _ rfl rfl (hcp _) 45 rfl ?_
      refine hK.out _ _ ?_ (fun hHeld => ?_)
      · exact hB2
      clear hK K
      try simp only [Act.put, List.setIfInBounds_toArray, List.set_cons_zero, List.set_cons_succ]
      refine tkY (v := ?_) 8 46 rfl rfl (by kernel_rfl) (by kernel_rfl) (by kernel_rfl) (fun _ _ _ h => h) (by kernel_rfl) ?_ (by assumption) ?_
      rotate_left
      · intro w hSw; go_simp; (try with_reducible rfl)
      try simp only [Act.put, List.setIfInBounds_toArray, List.set_cons_zero, List.set_cons_succ]
      refine tkY (v := ?_) 9 8 rfl rfl (by kernel_rfl) (by kernel_rfl) (by kernel_rfl) (fun _ _ _ h => h) (by kernel_rfl) ?_ (by assumption) ?_
      rotate_left
      · intro w hSw; go_simp; (try with_reducible rfl)
      try simp only [Act.put, List.setIfInBounds_toArray, List.set_cons_zero, List.set_cons_succ]
      refine wpAnyH_done (by kernel_rfl) ?_ _
      go_wp2
      go_roundw
      case rel => exact ⟨k + q, r1, Or.inl r2, rfl, hR2, hB2⟩
      case measure => exact r3
    · have hkn : k = n := by omega
      subst hkn
      go_wp2
      go_ret
      exact ⟨_, rfl, hR.out.own (Nat.le_refl _) hn, hB.out⟩
end Go.Proofs.YtlmmjaolmmcklaaDoor
