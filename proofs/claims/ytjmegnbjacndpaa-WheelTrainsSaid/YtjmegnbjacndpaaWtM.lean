/-
  The plain law of WheelTrains: products over sets of wheels, and over lists of them.
-/
import Derived.Test.YtjmegnbjacndpaaWtP
namespace Go.Proofs.Ytjmegnbjacndpaa
set_option linter.unusedVariables false
set_option linter.unusedSimpArgs false
/-- A product over the places below one that are of a set; how many these are. -/
def prodP (ts : Nat → Int) (p : Nat → Bool) : Nat → Int
  | 0 => 1
  | k + 1 => if p k then prodP ts p k * ts k else prodP ts p k
def cntP (p : Nat → Bool) : Nat → Nat
  | 0 => 0
  | k + 1 => if p k then cntP p k + 1 else cntP p k
theorem prodP_congr {ts : Nat → Int} {p q : Nat → Bool} : ∀ k, (∀ j, j < k → p j = q j) → prodP ts p k = prodP ts q k
  | 0, _ => rfl
  | k + 1, h => by unfold prodP; rw [prodP_congr k (fun j hj => h j (by omega)), h k (by omega)]
theorem cntP_congr {p q : Nat → Bool} : ∀ k, (∀ j, j < k → p j = q j) → cntP p k = cntP q k
  | 0, _ => rfl
  | k + 1, h => by unfold cntP; rw [cntP_congr k (fun j hj => h j (by omega)), h k (by omega)]
def addP (p : Nat → Bool) (i : Nat) : Nat → Bool := fun j => decide (j = i) || p j
theorem prodP_add {ts : Nat → Int} {p : Nat → Bool} {i : Nat} (hp : p i = false) : ∀ k, i < k → prodP ts (addP p i) k = prodP ts p k * ts i
  | 0, h => by omega
  | k + 1, h => by
    unfold prodP
    by_cases e : i = k
    · subst e
      rw [prodP_congr (q := p) i (fun j hj => by unfold addP; have : ¬ j = i := by omega
                                                 simp [this]), if_pos (by simp [addP]), hp]
      simp
    · have hk : addP p i k = p k := by unfold addP; have : ¬ k = i := by omega
                                       simp [this]
      rw [hk, prodP_add hp k (by omega)]
      split
      · rw [Int.mul_assoc, Int.mul_comm (ts i), ← Int.mul_assoc]
      · rfl
theorem cntP_add {p : Nat → Bool} {i : Nat} (hp : p i = false) : ∀ k, i < k → cntP (addP p i) k = cntP p k + 1
  | 0, h => by omega
  | k + 1, h => by
    unfold cntP
    by_cases e : i = k
    · subst e
      rw [cntP_congr (q := p) i (fun j hj => by unfold addP; have : ¬ j = i := by omega
                                                simp [this]), if_pos (by simp [addP]), hp]
      simp
    · have hk : addP p i k = p k := by unfold addP; have : ¬ k = i := by omega
                                       simp [this]
      rw [hk, cntP_add hp k (by omega)]
      split <;> omega
/-- The set of a list. -/
def setP : List Nat → Nat → Bool
  | [] => fun _ => false
  | i :: r => addP (setP r) i
theorem setP_mem : ∀ (L : List Nat) (j : Nat), setP L j = decide (j ∈ L)
  | [], j => by simp [setP]
  | i :: r, j => by
    show addP (setP r) i j = _
    unfold addP
    rw [setP_mem r j, Bool.eq_iff_iff]
    simp
def prodL (ts : Nat → Int) : List Nat → Int
  | [] => 1
  | i :: r => prodL ts r * ts i
theorem prodL_set {ts : Nat → Int} {n : Nat} : ∀ L : List Nat, L.Nodup → (∀ i ∈ L, i < n) → prodP ts (setP L) n = prodL ts L ∧ cntP (setP L) n = L.length
  | [], _, _ => by
    have a : ∀ k, prodP ts (setP []) k = 1 := fun k => by
      induction k with
      | zero => rfl
      | succ k ih => unfold prodP; rw [if_neg (by simp [setP])]; exact ih
    have b : ∀ k, cntP (setP []) k = 0 := fun k => by
      induction k with
      | zero => rfl
      | succ k ih => unfold cntP; rw [if_neg (by simp [setP])]; exact ih
    exact ⟨a n, b n⟩
  | i :: r, hn, hb => by
    rw [List.nodup_cons] at hn
    obtain ⟨a, b⟩ := prodL_set r hn.2 (fun j hj => hb j (List.mem_cons_of_mem _ hj))
    have hi := hb i (List.mem_cons_self ..)
    have hp : setP r i = false := by rw [setP_mem]; simpa using hn.1
    refine ⟨?_, ?_⟩
    · show prodP ts (addP (setP r) i) n = prodL ts r * ts i
      rw [prodP_add hp n hi, a]
    · show cntP (addP (setP r) i) n = (i :: r).length
      rw [cntP_add hp n hi, b]; rfl
/-- The list of a set. -/
def bitsP (p : Nat → Bool) : Nat → List Nat
  | 0 => []
  | k + 1 => if p k then k :: bitsP p k else bitsP p k
theorem bits_mem {p : Nat → Bool} : ∀ k j, j ∈ bitsP p k ↔ j < k ∧ p j = true
  | 0, j => by simp [bitsP]
  | k + 1, j => by
    unfold bitsP
    by_cases h : p k = true
    · rw [if_pos h, List.mem_cons, bits_mem k j]
      constructor
      · rintro (rfl | ⟨a, b⟩)
        · exact ⟨by omega, h⟩
        · exact ⟨by omega, b⟩
      · rintro ⟨a, b⟩
        by_cases e : j = k
        · exact .inl e
        · exact .inr ⟨by omega, b⟩
    · rw [if_neg h, bits_mem k j]
      constructor
      · rintro ⟨a, b⟩; exact ⟨by omega, b⟩
      · rintro ⟨a, b⟩
        have : j ≠ k := fun e => h (e ▸ b)
        exact ⟨by omega, b⟩
theorem bits_nodup {p : Nat → Bool} : ∀ k, (bitsP p k).Nodup
  | 0 => List.nodup_nil
  | k + 1 => by
    unfold bitsP
    split
    · rw [List.nodup_cons]
      exact ⟨fun h => by have := ((bits_mem k k).1 h).1; omega, bits_nodup k⟩
    · exact bits_nodup k
theorem bits_prod {ts : Nat → Int} {p : Nat → Bool} : ∀ k, prodL ts (bitsP p k) = prodP ts p k ∧ (bitsP p k).length = cntP p k
  | 0 => ⟨rfl, rfl⟩
  | k + 1 => by
    obtain ⟨a, b⟩ := bits_prod (ts := ts) (p := p) k
    unfold bitsP prodP cntP
    split
    · exact ⟨by rw [← a]; rfl, by rw [List.length_cons, b]⟩
    · exact ⟨a, b⟩
/-- All wheels of a train. -/
def flatT (l : List (Int × Int)) : List Int := l.flatMap fun x => [x.1, x.2]
theorem pick_iff : ∀ (l : List (Int × Int)) (S : Int → Bool), pick S l = true ↔ (flatT l).Nodup ∧ ∀ x ∈ flatT l, S x = true
  | [], S => by simp [pick, flatT]
  | (d, v) :: r, S => by
    unfold pick
    have e : flatT ((d, v) :: r) = d :: v :: flatT r := rfl
    simp only [Bool.and_eq_true, pick_iff r, e, List.nodup_cons, List.mem_cons, Bool.not_eq_true', decide_eq_false_iff_not]
    constructor
    · rintro ⟨⟨hd, hvd, hv⟩, hn, hS⟩
      refine ⟨⟨?_, ?_, hn⟩, ?_⟩
      · rintro (h | h)
        · exact hvd h.symm
        · exact (hS d h).2.1 rfl
      · intro h; exact (hS v h).1 rfl
      · rintro x (rfl | rfl | h)
        · exact hd
        · exact hv
        · exact (hS x h).2.2
    · rintro ⟨⟨h1, h2, hn⟩, hS⟩
      refine ⟨⟨hS d (.inl rfl), fun h => h1 (.inl h.symm), hS v (.inr (.inl rfl))⟩, hn, fun x hx => ⟨?_, ?_, hS x (.inr (.inr hx))⟩⟩
      · rintro rfl; exact h2 hx
      · rintro rfl; exact h1 (.inr hx)
theorem whs_mem {n : Nat} {x : Int} : x ∈ whs n ↔ 1 ≤ x ∧ x ≤ n := by
  unfold whs
  rw [List.mem_map]
  constructor
  · rintro ⟨i, hi, rfl⟩
    have := List.mem_range.1 hi
    omega
  · rintro ⟨a, b⟩
    exact ⟨(x - 1).toNat, List.mem_range.2 (by omega), by omega⟩
theorem step_mem {n : Nat} {l y : List (Int × Int)} : y ∈ stepT n l ↔ ∃ a b, y = l ++ [(a, b)] ∧ validB n y = true := by
  unfold stepT
  simp only [List.mem_flatMap]
  constructor
  · rintro ⟨a, ha, b, hb, h⟩
    split at h
    · rename_i hv
      simp only [List.mem_singleton] at h
      subst h
      exact ⟨a, b, rfl, hv⟩
    · cases h
  · rintro ⟨a, b, rfl, hv⟩
    have hp : pick (freeB n) (l ++ [(a, b)]) = true := by
      unfold validB at hv
      simp only [Bool.and_eq_true] at hv
      exact hv.2
    have hall := ((pick_iff _ _).1 hp).2
    have fa : freeB n a = true := hall a (by unfold flatT; simp)
    have fb : freeB n b = true := hall b (by unfold flatT; simp)
    unfold freeB at fa fb
    simp only [Bool.and_eq_true, decide_eq_true_eq] at fa fb
    exact ⟨a, whs_mem.2 fa, b, whs_mem.2 fb, by rw [if_pos hv]; simp⟩
theorem lev_mem {n : Nat} : ∀ k, k ≤ 3 → ∀ l, l ∈ lev n k ↔ l.length = k ∧ pick (freeB n) l = true
  | 0, _, l => by
    show l ∈ [[]] ↔ _
    rw [List.mem_singleton]
    constructor
    · rintro rfl; exact ⟨rfl, rfl⟩
    · rintro ⟨h, -⟩; exact List.length_eq_zero_iff.1 h
  | k + 1, hk, l => by
    show l ∈ (lev n k).flatMap (stepT n) ↔ _
    rw [List.mem_flatMap]
    constructor
    · rintro ⟨y, hy, h⟩
      obtain ⟨a, b, rfl, hv⟩ := step_mem.1 h
      have := (lev_mem k (by omega) y).1 hy
      refine ⟨by simp [this.1], ?_⟩
      unfold validB at hv
      simp only [Bool.and_eq_true] at hv
      exact hv.2
    · rintro ⟨hl, hp⟩
      obtain ⟨y, ⟨a, b⟩, rfl⟩ : ∃ y x, l = y ++ [x] := by
        refine ⟨l.dropLast, l.getLast (by intro h; rw [h] at hl; simp at hl), ?_⟩
        exact (List.dropLast_concat_getLast _).symm
      have hy : y.length = k := by simpa using hl
      have hp' := hp
      rw [pick_snoc] at hp'
      simp only [Bool.and_eq_true] at hp'
      refine ⟨y, (lev_mem k (by omega) y).2 ⟨hy, hp'.1⟩, step_mem.2 ⟨a, b, rfl, ?_⟩⟩
      unfold validB
      rw [hp]
      simp
      omega
/-- The drivers, the driven ones, by their places. -/
def drvT (l : List (Int × Int)) : List Nat := l.map fun x => (x.1 - 1).toNat
def dvnT (l : List (Int × Int)) : List Nat := l.map fun x => (x.2 - 1).toNat
/-- Two sets of as many wheels, none in both. -/
structure Two (n k : Nat) (p q : Nat → Bool) : Prop where
  dis : ∀ j, j < n → p j = true → q j = false
  cp : cntP p n = k
  cq : cntP q n = k
theorem train_sets {n k : Nat} (hk : k ≤ 3) {ts : Nat → Int} {l : List (Int × Int)} (h : l ∈ lev n k) : ∃ p q, Two n k p q ∧ prodP ts p n = prodL ts (drvT l) ∧ prodP ts q n = prodL ts (dvnT l) := by
  obtain ⟨hl, hp⟩ := (lev_mem k hk l).1 h
  obtain ⟨hn, hS⟩ := (pick_iff _ _).1 hp
  have hin : ∀ x ∈ flatT l, 1 ≤ x ∧ x ≤ (n : Int) := fun x hx => by
    have := hS x hx
    unfold freeB at this
    simpa using this
  have key : ∀ l : List (Int × Int), (flatT l).Nodup → (∀ x ∈ flatT l, 1 ≤ x ∧ x ≤ (n : Int)) → (drvT l).Nodup ∧ (dvnT l).Nodup ∧ (∀ i ∈ drvT l, i < n ∧ ((i : Int) + 1) ∈ l.map (·.1)) ∧ (∀ i ∈ dvnT l, i < n ∧ ((i : Int) + 1) ∈ l.map (·.2)) ∧ (∀ x ∈ l.map (·.1), x ∈ flatT l) ∧ (∀ x ∈ l.map (·.2), x ∈ flatT l) ∧ (∀ x, x ∈ l.map (·.1) → x ∈ l.map (·.2) → False) := by
    intro l
    induction l with
    | nil => intro _ _; simp [drvT, dvnT]
    | cons y r ih =>
      obtain ⟨d, v⟩ := y
      intro hn hin
      have e : flatT ((d, v) :: r) = d :: v :: flatT r := rfl
      rw [e] at hn hin
      simp only [List.nodup_cons, List.mem_cons, not_or] at hn
      obtain ⟨⟨hdv, hdr⟩, hvr, hnr⟩ := hn
      obtain ⟨a1, a2, a3, a4, a5, a6, a7⟩ := ih hnr (fun x hx => hin x (by simp [hx]))
      have hd := hin d (by simp)
      have hv := hin v (by simp)
      refine ⟨?_, ?_, ?_, ?_, ?_, ?_, ?_⟩
      · show ((d - 1).toNat :: drvT r).Nodup
        rw [List.nodup_cons]
        refine ⟨fun h => ?_, a1⟩
        have := (a3 _ h).2
        rw [show (((d - 1).toNat : Nat) : Int) + 1 = d by omega] at this
        exact hdr (a5 _ this)
      · show ((v - 1).toNat :: dvnT r).Nodup
        rw [List.nodup_cons]
        refine ⟨fun h => ?_, a2⟩
        have := (a4 _ h).2
        rw [show (((v - 1).toNat : Nat) : Int) + 1 = v by omega] at this
        exact hvr (a6 _ this)
      · intro i hi
        rcases List.mem_cons.1 (show i ∈ (d - 1).toNat :: drvT r from hi) with rfl | h
        · exact ⟨by omega, by rw [show (((d - 1).toNat : Nat) : Int) + 1 = d by omega]; simp⟩
        · exact ⟨(a3 i h).1, List.mem_cons_of_mem _ (a3 i h).2⟩
      · intro i hi
        rcases List.mem_cons.1 (show i ∈ (v - 1).toNat :: dvnT r from hi) with rfl | h
        · exact ⟨by omega, by rw [show (((v - 1).toNat : Nat) : Int) + 1 = v by omega]; simp⟩
        · exact ⟨(a4 i h).1, List.mem_cons_of_mem _ (a4 i h).2⟩
      · intro x hx
        rcases List.mem_cons.1 (show x ∈ d :: r.map (·.1) from hx) with rfl | h
        · rw [e]; simp
        · rw [e]; simp [a5 x h]
      · intro x hx
        rcases List.mem_cons.1 (show x ∈ v :: r.map (·.2) from hx) with rfl | h
        · rw [e]; simp
        · rw [e]; simp [a6 x h]
      · intro x h1 h2
        rcases List.mem_cons.1 (show x ∈ d :: r.map (·.1) from h1) with e1 | g1
        · rcases List.mem_cons.1 (show x ∈ v :: r.map (·.2) from h2) with e2 | g2
          · exact hdv (e1.symm.trans e2)
          · exact hdr (a6 _ (e1 ▸ g2))
        · rcases List.mem_cons.1 (show x ∈ v :: r.map (·.2) from h2) with e2 | g2
          · exact hvr (a5 _ (e2 ▸ g1))
          · exact a7 x g1 g2
  obtain ⟨a1, a2, a3, a4, a5, a6, a7⟩ := key l hn hin
  obtain ⟨b1, b2⟩ := prodL_set (ts := ts) (n := n) (drvT l) a1 (fun i hi => (a3 i hi).1)
  obtain ⟨c1, c2⟩ := prodL_set (ts := ts) (n := n) (dvnT l) a2 (fun i hi => (a4 i hi).1)
  refine ⟨setP (drvT l), setP (dvnT l), ⟨fun j hj h => ?_, by rw [b2]; simp [drvT, hl], by rw [c2]; simp [dvnT, hl]⟩, b1, c1⟩
  rw [setP_mem] at h ⊢
  simp only [decide_eq_true_eq] at h
  rw [decide_eq_false_iff_not]
  intro h2
  exact a7 _ (a3 j h).2 (a4 j h2).2
theorem sets_train {n k : Nat} (hk : k ≤ 3) {ts : Nat → Int} {p q : Nat → Bool} (h : Two n k p q) : ∃ l, l ∈ lev n k ∧ prodP ts p n = prodL ts (drvT l) ∧ prodP ts q n = prodL ts (dvnT l) := by
  obtain ⟨b1, b2⟩ := bits_prod (ts := ts) (p := p) n
  obtain ⟨c1, c2⟩ := bits_prod (ts := ts) (p := q) n
  have key : ∀ (A B : List Nat), A.length = B.length → A.Nodup → B.Nodup → (∀ i ∈ A, i < n) → (∀ i ∈ B, i < n) → (∀ i, i ∈ A → i ∈ B → False) →
      drvT ((A.zip B).map fun x => ((x.1 : Int) + 1, (x.2 : Int) + 1)) = A ∧ dvnT ((A.zip B).map fun x => ((x.1 : Int) + 1, (x.2 : Int) + 1)) = B ∧
      (flatT ((A.zip B).map fun x => ((x.1 : Int) + 1, (x.2 : Int) + 1))).Nodup ∧ ∀ x ∈ flatT ((A.zip B).map fun x => ((x.1 : Int) + 1, (x.2 : Int) + 1)), (1 ≤ x ∧ x ≤ (n : Int)) ∧ ((x - 1).toNat ∈ A ∨ (x - 1).toNat ∈ B) := by
    intro A
    induction A with
    | nil =>
      intro B hl _ _ _ _ _
      obtain rfl : B = [] := List.length_eq_zero_iff.1 hl.symm
      simp [drvT, dvnT, flatT]
    | cons a r ih =>
      intro B hl hA hB ha hb hd
      cases B with
      | nil => simp at hl
      | cons b s =>
        rw [List.nodup_cons] at hA hB
        obtain ⟨i1, i2, i3, i4⟩ := ih s (by simpa using hl) hA.2 hB.2 (fun i hi => ha i (List.mem_cons_of_mem _ hi)) (fun i hi => hb i (List.mem_cons_of_mem _ hi)) (fun i h1 h2 => hd i (List.mem_cons_of_mem _ h1) (List.mem_cons_of_mem _ h2))
        have ea := ha a (List.mem_cons_self ..)
        have eb := hb b (List.mem_cons_self ..)
        have hab : a ≠ b := fun e => hd a (List.mem_cons_self ..) (by rw [e]; exact List.mem_cons_self ..)
        refine ⟨?_, ?_, ?_, ?_⟩
        · have e : drvT (((a :: r).zip (b :: s)).map fun x => ((x.1 : Int) + 1, (x.2 : Int) + 1)) = ((a : Int) + 1 - 1).toNat :: drvT ((r.zip s).map fun x => ((x.1 : Int) + 1, (x.2 : Int) + 1)) := rfl
          rw [e, i1, show ((a : Int) + 1 - 1).toNat = a by omega]
        · have e : dvnT (((a :: r).zip (b :: s)).map fun x => ((x.1 : Int) + 1, (x.2 : Int) + 1)) = ((b : Int) + 1 - 1).toNat :: dvnT ((r.zip s).map fun x => ((x.1 : Int) + 1, (x.2 : Int) + 1)) := rfl
          rw [e, i2, show ((b : Int) + 1 - 1).toNat = b by omega]
        · show (((a : Int) + 1) :: ((b : Int) + 1) :: flatT ((r.zip s).map fun x => ((x.1 : Int) + 1, (x.2 : Int) + 1))).Nodup
          simp only [List.nodup_cons, List.mem_cons, not_or]
          refine ⟨⟨by omega, fun h => ?_⟩, fun h => ?_, i3⟩
          · rcases (i4 _ h).2 with h | h
            · rw [show ((a : Int) + 1 - 1).toNat = a by omega] at h; exact hA.1 h
            · rw [show ((a : Int) + 1 - 1).toNat = a by omega] at h; exact hd a (List.mem_cons_self ..) (List.mem_cons_of_mem _ h)
          · rcases (i4 _ h).2 with h | h
            · rw [show ((b : Int) + 1 - 1).toNat = b by omega] at h; exact hd b (List.mem_cons_of_mem _ h) (List.mem_cons_self ..)
            · rw [show ((b : Int) + 1 - 1).toNat = b by omega] at h; exact hB.1 h
        · intro x hx
          rcases List.mem_cons.1 (show x ∈ ((a : Int) + 1) :: ((b : Int) + 1) :: flatT ((r.zip s).map fun x => ((x.1 : Int) + 1, (x.2 : Int) + 1)) from hx) with rfl | hx
          · exact ⟨by omega, .inl (by rw [show ((a : Int) + 1 - 1).toNat = a by omega]; exact List.mem_cons_self ..)⟩
          · rcases List.mem_cons.1 hx with rfl | hx
            · exact ⟨by omega, .inr (by rw [show ((b : Int) + 1 - 1).toNat = b by omega]; exact List.mem_cons_self ..)⟩
            · obtain ⟨g, h⟩ := i4 x hx
              exact ⟨g, h.elim (fun h => .inl (List.mem_cons_of_mem _ h)) (fun h => .inr (List.mem_cons_of_mem _ h))⟩
  obtain ⟨k1, k2, k3, k4⟩ := key (bitsP p n) (bitsP q n) (by rw [b2, c2, h.cp, h.cq]) (bits_nodup n) (bits_nodup n) (fun i hi => ((bits_mem n i).1 hi).1) (fun i hi => ((bits_mem n i).1 hi).1) (fun i h1 h2 => by
    have a := (bits_mem n i).1 h1
    have b := (bits_mem n i).1 h2
    have := h.dis i a.1 a.2
    rw [b.2] at this
    cases this)
  refine ⟨_, (lev_mem k hk _).2 ⟨?_, (pick_iff _ _).2 ⟨k3, fun x hx => ?_⟩⟩, by rw [k1, b1], by rw [k2, c1]⟩
  · rw [List.length_map, List.length_zip, b2, c2, h.cp, h.cq]; simp
  · have := (k4 x hx).1
    unfold freeB
    simp only [Bool.and_eq_true, decide_eq_true_eq]
    exact this
end Go.Proofs.Ytjmegnbjacndpaa
