/-
  The plain law of WheelTrains: all trains of so many pairs by going on from each one, and by levels, are the same lists in the same order.
-/
import Derived.Test.YtjmegnbjacndpaaValid
namespace Go.Proofs.Ytjmegnbjacndpaa
open Go.RowKit
set_option linter.unusedVariables false
set_option linter.unusedSimpArgs false
/-- What is free behind some pairs. -/
def remS (S : Int → Bool) : List (Int × Int) → Int → Bool
  | [] => S
  | (d, v) :: r => remS (fun j => !decide (j = v) && (!decide (j = d) && S j)) r
theorem remS_snoc (d v : Int) : ∀ (l : List (Int × Int)) (S : Int → Bool), remS S (l ++ [(d, v)]) = fun j => !decide (j = v) && (!decide (j = d) && remS S l j)
  | [], S => rfl
  | (d', v') :: r, S => by rw [List.cons_append]; exact remS_snoc d v r _
theorem pick_snoc (d v : Int) : ∀ (l : List (Int × Int)) (S : Int → Bool), pick S (l ++ [(d, v)]) = (pick S l && (remS S l d && (!decide (v = d) && remS S l v)))
  | [], S => by simp [pick, remS]
  | (d', v') :: r, S => by
    rw [List.cons_append]
    unfold pick remS
    rw [pick_snoc d v r]
    simp only [Bool.and_assoc]
def whs (n : Nat) : List Int := (List.range n).map fun (i : Nat) => (i : Int) + 1
/-- All trains of so many pairs more, of free wheels, in order. -/
def dfs (n : Nat) : Nat → (Int → Bool) → List (Int × Int) → List (List (Int × Int))
  | 0, _, l => [l]
  | k + 1, S, l => (whs n).flatMap fun a => if S a then (whs n).flatMap fun b => if S b && !decide (b = a) then dfs n k (fun j => !decide (j = b) && (!decide (j = a) && S j)) (l ++ [(a, b)]) else [] else []
/-- One pair more. -/
def stepT (n : Nat) (l : List (Int × Int)) : List (List (Int × Int)) := (whs n).flatMap fun a => (whs n).flatMap fun b => if validB n (l ++ [(a, b)]) then [l ++ [(a, b)]] else []
def lev (n : Nat) : Nat → List (List (Int × Int))
  | 0 => [[]]
  | k + 1 => (lev n k).flatMap (stepT n)
def itT (n : Nat) : Nat → List (List (Int × Int)) → List (List (Int × Int))
  | 0, L => L
  | k + 1, L => itT n k (L.flatMap (stepT n))
theorem itT_step (n : Nat) : ∀ (k : Nat) (L : List (List (Int × Int))), itT n k (L.flatMap (stepT n)) = (itT n k L).flatMap (stepT n)
  | 0, _ => rfl
  | k + 1, L => itT_step n k _
theorem lev_it (n : Nat) : ∀ k, lev n k = itT n k [[]]
  | 0 => rfl
  | k + 1 => by
    show (lev n k).flatMap (stepT n) = itT n k ([[]].flatMap (stepT n))
    rw [lev_it n k, itT_step]
theorem itT_app (n : Nat) : ∀ (k : Nat) (A B : List (List (Int × Int))), itT n k (A ++ B) = itT n k A ++ itT n k B
  | 0, _, _ => rfl
  | k + 1, A, B => by
    show itT n k ((A ++ B).flatMap (stepT n)) = _
    rw [List.flatMap_append, itT_app n k]; rfl
theorem itT_flat (n k : Nat) : ∀ L : List (List (Int × Int)), itT n k L = L.flatMap fun l => itT n k [l]
  | [] => by
    have : ∀ k, itT n k [] = [] := fun k => by
      induction k with
      | zero => rfl
      | succ k ih => exact ih
    rw [this]; rfl
  | l :: r => by
    rw [List.flatMap_cons, ← itT_flat n k r, ← itT_app]; rfl
theorem dfs_it (n : Nat) : ∀ (k : Nat) (l : List (Int × Int)), pick (freeB n) l = true → l.length + k ≤ 3 → dfs n k (remS (freeB n) l) l = itT n k [l]
  | 0, _, _, _ => rfl
  | k + 1, l, hp, hl => by
    have e : itT n (k + 1) [l] = (stepT n l).flatMap fun l' => itT n k [l'] := by
      show itT n k ([l].flatMap (stepT n)) = _
      rw [itT_flat]
      simp
    rw [e]
    unfold dfs stepT
    rw [List.flatMap_assoc]
    congr 1
    funext a
    rw [List.flatMap_assoc]
    by_cases ha : remS (freeB n) l a = true
    · rw [if_pos ha]
      congr 1
      funext b
      have hv : validB n (l ++ [(a, b)]) = (remS (freeB n) l b && !decide (b = a)) := by
        unfold validB
        rw [pick_snoc, hp, ha]
        have h1 : decide (1 ≤ (l ++ [(a, b)]).length) = true := by simp
        have h2 : decide ((l ++ [(a, b)]).length ≤ 3) = true := by simp; omega
        rw [h1, h2]
        simp only [Bool.true_and]
        rw [Bool.and_comm]
      rw [hv]
      by_cases hb : (remS (freeB n) l b && !decide (b = a)) = true
      · rw [if_pos hb, if_pos hb]
        have hp2 : pick (freeB n) (l ++ [(a, b)]) = true := by
          rw [pick_snoc, hp, ha]
          simp only [Bool.true_and]
          rw [Bool.and_comm]; exact hb
        have ih := dfs_it n k (l ++ [(a, b)]) hp2 (by simp; omega)
        rw [remS_snoc] at ih
        rw [ih]
        simp
      · rw [if_neg hb, if_neg hb]; rfl
    · rw [if_neg ha]
      have hv : ∀ b, validB n (l ++ [(a, b)]) = false := fun b => by
        unfold validB
        rw [pick_snoc]
        have : remS (freeB n) l a = false := by simpa using ha
        rw [this]
        simp
      have : ∀ L : List Int, (L.flatMap fun b => (if validB n (l ++ [(a, b)]) = true then [l ++ [(a, b)]] else []).flatMap fun l' => itT n k [l']) = [] := fun L => by
        induction L with
        | nil => rfl
        | cons y r ih => rw [List.flatMap_cons, ih, hv]; rfl
      rw [this]
/-- The two ways of listing all trains agree. -/
theorem dfs_lev (n k : Nat) (hk : k ≤ 3) : dfs n k (freeB n) [] = lev n k := by
  rw [lev_it]
  exact dfs_it n k [] rfl (by simpa using hk)
/-- The nearest one so far. -/
def nearF (b : Option (List (Int × Int) × Int × Int)) (x : List (Int × Int) × Int × Int) : Option (List (Int × Int) × Int × Int) := match b with
  | none => some x
  | some y => if x.2.1 * y.2.2 < y.2.1 * x.2.2 then some x else some y
def nearL (L : List (List (Int × Int) × Int × Int)) : Option (List (Int × Int) × Int × Int) := L.foldl nearF none
def zeroF (b : Option (List (Int × Int) × Int × Int)) : Option (List (Int × Int)) := match b with
  | none => none
  | some y => if y.2.1 = 0 then some y.1 else none
def OkN (x : List (Int × Int) × Int × Int) : Prop := 0 ≤ x.2.1 ∧ 1 ≤ x.2.2
theorem near_stay : ∀ (L : List (List (Int × Int) × Int × Int)) (y : List (Int × Int) × Int × Int), (∀ x ∈ L, OkN x) → OkN y → y.2.1 = 0 → L.foldl nearF (some y) = some y
  | [], _, _, _, _ => rfl
  | x :: r, y, h, hy, h0 => by
    obtain ⟨a, b⟩ := h x (List.mem_cons_self ..)
    rw [List.foldl_cons]
    have e : nearF (some y) x = some y := by
      show (if x.2.1 * y.2.2 < y.2.1 * x.2.2 then some x else some y) = some y
      rw [if_neg]
      rw [h0, Int.zero_mul]
      have := Int.mul_nonneg a (show 0 ≤ y.2.2 by have := hy.2; omega)
      omega
    rw [e]
    exact near_stay r y (fun z hz => h z (List.mem_cons_of_mem _ hz)) hy h0
/-- The first one that is just the wish is the nearest one. -/
theorem near_zero : ∀ (L : List (List (Int × Int) × Int × Int)) (b : Option (List (Int × Int) × Int × Int)), (∀ x ∈ L, OkN x) → (∀ y, b = some y → OkN y ∧ y.2.1 ≠ 0) → zeroF (L.foldl nearF b) = (L.find? fun x => decide (x.2.1 = 0)).map (·.1)
  | [], b, _, hb => by
    cases b with
    | none => rfl
    | some y =>
      have := (hb y rfl).2
      show (if y.2.1 = 0 then some y.1 else none) = none
      rw [if_neg this]
  | x :: r, b, h, hb => by
    have hx := h x (List.mem_cons_self ..)
    have hr := fun z (hz : z ∈ r) => h z (List.mem_cons_of_mem _ hz)
    rw [List.foldl_cons]
    by_cases h0 : x.2.1 = 0
    · have e : nearF b x = some x := by
        cases b with
        | none => rfl
        | some y =>
          obtain ⟨⟨p, q⟩, hn⟩ := hb y rfl
          show (if x.2.1 * y.2.2 < y.2.1 * x.2.2 then some x else some y) = some x
          rw [if_pos]
          rw [h0, Int.zero_mul]
          exact Int.mul_pos (by omega) (by have := hx.2; omega)
      rw [e, near_stay r x hr hx h0, List.find?_cons_of_pos (by simpa using h0)]
      show (if x.2.1 = 0 then some x.1 else none) = some x.1
      rw [if_pos h0]
    · rw [List.find?_cons_of_neg (by simpa using h0)]
      refine near_zero r _ hr fun y hy => ?_
      cases b with
      | none => cases hy; exact ⟨hx, h0⟩
      | some z =>
        change (if x.2.1 * z.2.2 < z.2.1 * x.2.2 then some x else some z) = some y at hy
        split at hy
        · cases hy; exact ⟨hx, h0⟩
        · cases hy; exact hb _ rfl
/-- As many different ones: two lists without doubles, of the same members. -/
theorem nodup_len {α : Type} [DecidableEq α] : ∀ (A B : List α), A.Nodup → B.Nodup → (∀ x, x ∈ A ↔ x ∈ B) → A.length = B.length
  | [], B, _, _, h => by
    cases B with
    | nil => rfl
    | cons y r => exact absurd ((h y).2 (List.mem_cons_self ..)) (by simp)
  | x :: r, B, hA, hB, h => by
    have hx : x ∈ B := (h x).1 (List.mem_cons_self ..)
    rw [List.nodup_cons] at hA
    have hE : (B.erase x).Nodup := hB.erase x
    have ih := nodup_len r (B.erase x) hA.2 hE fun y => by
      rw [hB.mem_erase_iff]
      constructor
      · intro hy
        exact ⟨fun e => hA.1 (e ▸ hy), (h y).1 (List.mem_cons_of_mem _ hy)⟩
      · rintro ⟨hne, hy⟩
        rcases List.mem_cons.1 ((h y).2 hy) with e | hy'
        · exact absurd e hne
        · exact hy'
    rw [List.length_cons, ih, List.length_erase_of_mem hx]
    have : 0 < B.length := List.length_pos_of_mem hx
    omega
end Go.Proofs.Ytjmegnbjacndpaa
