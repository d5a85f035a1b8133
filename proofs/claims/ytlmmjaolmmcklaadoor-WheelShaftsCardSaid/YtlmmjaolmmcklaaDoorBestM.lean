/-
  The plain law of settings: loads; all settings in order; the search that leaves out what can't be better finds the first best one. No program in sight.
-/
namespace Go.Proofs.YtlmmjaolmmcklaaDoor

abbrev St3 := Int × Int × Int
/-- Whether a stamper is up at a mark. -/
def upB (M : Int) (x : St3) (s mark : Int) : Bool := decide ((mark - s + M) % (M / x.1) < x.2.1)
def part (M : Int) (cnt : St3 → Int) (mark : Int) (p : St3 × Int) : Int := if upB M p.1 p.2 mark then cnt p.1 else 0
/-- What is up at a mark, of the stampers that a (part of a) setting has. -/
def loadL (M : Int) (cnt : St3 → Int) (l : List St3) (s : List Int) (mark : Int) : Int := ((l.zip s).map (part M cnt mark)).sum
def loadsL (M : Int) (cnt : St3 → Int) (l : List St3) (s : List Int) : List Int := (List.range M.toNat).map fun (m : Nat) => loadL M cnt l s m
def greatest (l : List Int) : Int := l.foldl max 0
def mostL (M : Int) (cnt : St3 → Int) (l : List St3) (s : List Int) : Int := greatest (loadsL M cnt l s)

theorem loadsL_len (M : Int) (cnt : St3 → Int) (l : List St3) (s : List Int) : (loadsL M cnt l s).length = M.toNat := by simp [loadsL]
theorem loadsL_get {M : Int} {cnt : St3 → Int} {l : List St3} {s : List Int} {m : Nat} (h : m < M.toNat) : (loadsL M cnt l s)[m]? = some (loadL M cnt l s m) := by
  unfold loadsL
  rw [List.getElem?_map, List.getElem?_range h]; rfl

theorem loadL_nil (M : Int) (cnt : St3 → Int) (l : List St3) (mark : Int) : loadL M cnt l [] mark = 0 := by simp [loadL]
theorem zip_take {α β : Type} : ∀ (l : List α) (s : List β) (j : Nat), l.zip (s.take j) = (l.zip s).take j
  | [], s, j => by simp
  | a :: l, [], j => by simp
  | a :: l, b :: s, 0 => by simp
  | a :: l, b :: s, j + 1 => by simp [zip_take l s j]
theorem loadL_snoc {M : Int} {cnt : St3 → Int} {l : List St3} {s : List Int} {mark : Int} {k : Nat} {x : St3} {y : Int} (hx : l[k]? = some x) (hy : s[k]? = some y) :
    loadL M cnt l (s.take (k + 1)) mark = loadL M cnt l (s.take k) mark + part M cnt mark (x, y) := by
  have hk : k < s.length := (List.getElem?_eq_some_iff.1 hy).1
  have hl : k < l.length := (List.getElem?_eq_some_iff.1 hx).1
  have e : ∀ j, j ≤ s.length → l.zip (s.take j) = (l.zip s).take j := fun j _ => zip_take l s j
  unfold loadL
  rw [e _ (by omega), e _ (by omega), List.take_add_one]
  have : (l.zip s)[k]? = some (x, y) := by rw [List.getElem?_zip_eq_some]; exact ⟨hx, hy⟩
  rw [this]
  simp

theorem part_nonneg {M : Int} {cnt : St3 → Int} {mark : Int} {p : St3 × Int} (h : 0 ≤ cnt p.1) : 0 ≤ part M cnt mark p := by
  unfold part; split <;> omega
theorem sum_nonneg : ∀ l : List Int, (∀ x ∈ l, 0 ≤ x) → 0 ≤ l.sum
  | [], _ => by simp
  | x :: l, h => by
    have h1 := h x (by simp)
    have h2 := sum_nonneg l (fun y hy => h y (by simp [hy]))
    simp; omega
theorem loadL_nonneg {M : Int} {cnt : St3 → Int} {l : List St3} {s : List Int} {mark : Int} (h : ∀ x ∈ l, 0 ≤ cnt x) : 0 ≤ loadL M cnt l s mark := by
  unfold loadL
  apply sum_nonneg
  intro y hy
  obtain ⟨p, hp, rfl⟩ := List.mem_map.1 hy
  exact part_nonneg (h _ (List.of_mem_zip hp).1)
theorem sum_le : ∀ (l : List (St3 × Int)) (f : St3 × Int → Int) (B : Int), (∀ p ∈ l, f p ≤ B) → (l.map f).sum ≤ l.length * B
  | [], _, _, _ => by simp
  | x :: l, f, B, h => by
    have h1 := h x (by simp)
    have h2 := sum_le l f B (fun y hy => h y (by simp [hy]))
    simp only [List.map_cons, List.sum_cons, List.length_cons]
    have : ((l.length + 1 : Nat) : Int) * B = l.length * B + B := by push_cast; rw [Int.add_mul]; omega
    omega
theorem loadL_le {M : Int} {cnt : St3 → Int} {l : List St3} {s : List Int} {mark : Int} {B : Int} (hB : 0 ≤ B) (h : ∀ x ∈ l, cnt x ≤ B) : loadL M cnt l s mark ≤ l.length * B := by
  unfold loadL
  have h1 := sum_le (l.zip s) (part M cnt mark) B (fun p hp => by
    have := h _ (List.of_mem_zip hp).1
    unfold part; split <;> omega)
  have h2 : (((l.zip s).length : Nat) : Int) * B ≤ (l.length : Int) * B := by
    apply Int.mul_le_mul_of_nonneg_right _ hB
    simp only [List.length_zip]; omega
  omega

theorem zip_more {α β : Type} : ∀ (l : List α) (s t : List β), ∃ r, l.zip (s ++ t) = l.zip s ++ r ∧ ∀ p ∈ r, p.1 ∈ l
  | [], s, t => ⟨[], by simp, by simp⟩
  | a :: l, [], t => ⟨(a :: l).zip t, by simp, fun p hp => (List.of_mem_zip hp).1⟩
  | a :: l, b :: s, t => by
    obtain ⟨r, h1, h2⟩ := zip_more l s t
    exact ⟨r, by simp [h1], fun p hp => by simp [h2 p hp]⟩
theorem loadL_more {M : Int} {cnt : St3 → Int} {l : List St3} {s t : List Int} {mark : Int} (h : ∀ x ∈ l, 0 ≤ cnt x) : loadL M cnt l s mark ≤ loadL M cnt l (s ++ t) mark := by
  obtain ⟨r, h1, h2⟩ := zip_more l s t
  unfold loadL
  rw [h1, List.map_append, List.sum_append]
  have := sum_nonneg (r.map (part M cnt mark)) (fun y hy => by
    obtain ⟨p, hp, rfl⟩ := List.mem_map.1 hy
    exact part_nonneg (h _ (h2 p hp)))
  omega

theorem foldl_max (l : List Int) : ∀ a : Int, a ≤ l.foldl max a ∧ (∀ x ∈ l, x ≤ l.foldl max a) ∧ (l.foldl max a = a ∨ l.foldl max a ∈ l) := by
  induction l with
  | nil => intro a; simp
  | cons x l ih =>
    intro a
    obtain ⟨h1, h2, h3⟩ := ih (max a x)
    simp only [List.foldl_cons, List.mem_cons]
    refine ⟨by omega, fun y hy => ?_, ?_⟩
    · rcases hy with rfl | hy
      · omega
      · exact h2 y hy
    · rcases h3 with h3 | h3
      · rw [h3]
        rcases Int.le_total a x with h | h
        · right; left; omega
        · left; omega
      · right; right; exact h3
theorem greatest_le {l l' : List Int} (hl : l.length = l'.length) (h : ∀ (i : Nat) x y, l[i]? = some x → l'[i]? = some y → x ≤ y) : greatest l ≤ greatest l' := by
  obtain ⟨h1, h2, h3⟩ := foldl_max l 0
  obtain ⟨g1, g2, -⟩ := foldl_max l' 0
  unfold greatest
  rcases h3 with h3 | h3
  · omega
  · obtain ⟨i, hi⟩ := List.getElem?_of_mem h3
    have hil : i < l'.length := by have := (List.getElem?_eq_some_iff.1 hi).1; omega
    have := h i _ _ hi (List.getElem?_eq_getElem hil)
    have := g2 _ (List.getElem_mem hil)
    omega
theorem mostL_more {M : Int} {cnt : St3 → Int} {l : List St3} {s t : List Int} (h : ∀ x ∈ l, 0 ≤ cnt x) : mostL M cnt l s ≤ mostL M cnt l (s ++ t) := by
  apply greatest_le
  · rw [loadsL_len, loadsL_len]
  · intro i x y hx hy
    have hi : i < M.toNat := by have := (List.getElem?_eq_some_iff.1 hx).1; rwa [loadsL_len] at this
    rw [loadsL_get hi] at hx hy
    cases hx; cases hy
    exact loadL_more h

/-! All settings, in order; the search. -/
def allL : List Nat → List (List Int)
  | [] => [[]]
  | d :: ds => (List.range d).flatMap fun (x : Nat) => (allL ds).map fun r => (x : Int) :: r
theorem allL_cons (d : Nat) (ds : List Nat) : allL (d :: ds) = (List.range d).flatMap fun (x : Nat) => (allL ds).map fun r => (x : Int) :: r := rfl
def upd (f : List Int → Int) (st : List Int × Int) (s : List Int) : List Int × Int := if 0 ≤ st.2 ∧ st.2 ≤ f s then st else (s, f s)
def tryS (f : List Int → Int) : List Nat → List Int → List Int × Int → List Int × Int
  | [], pre, st => upd f st pre
  | d :: ds, pre, st => if 0 ≤ st.2 ∧ st.2 ≤ f pre then st else (List.range d).foldl (fun st (x : Nat) => tryS f ds (pre ++ [(x : Int)]) st) st
/-- The first best setting, and what it has. -/
def bestS (f : List Int → Int) (ds : List Nat) : List Int × Int := (allL ds).foldl (upd f) ([], -1)

theorem fold_same (f : List Int → Int) (st : List Int × Int) : ∀ L : List (List Int), 0 ≤ st.2 → (∀ s ∈ L, st.2 ≤ f s) → L.foldl (upd f) st = st
  | [], _, _ => rfl
  | s :: L, h0, h => by
    rw [List.foldl_cons]
    have : upd f st s = st := by unfold upd; rw [if_pos ⟨h0, h s (by simp)⟩]
    rw [this]
    exact fold_same f st L h0 (fun t ht => h t (by simp [ht]))

theorem tryS_all (f : List Int → Int) (hf : ∀ s t, f s ≤ f (s ++ t)) : ∀ (ds : List Nat) (pre : List Int) (st : List Int × Int), tryS f ds pre st = ((allL ds).map (pre ++ ·)).foldl (upd f) st
  | [], pre, st => by simp [tryS, allL]
  | d :: ds, pre, st => by
    unfold tryS
    by_cases h : 0 ≤ st.2 ∧ st.2 ≤ f pre
    · rw [if_pos h, fold_same f st _ h.1]
      intro s hs
      obtain ⟨t, _, rfl⟩ := List.mem_map.1 hs
      have := hf pre t
      omega
    · rw [if_neg h]
      have ih := fun x st => tryS_all f hf ds (pre ++ [x]) st
      simp only [ih]
      rw [allL_cons, List.map_flatMap, List.foldl_flatMap]
      congr 1
      funext st x
      rw [List.map_map]
      congr 1
      apply List.map_congr_left
      intro r _
      simp

theorem tryS_best (f : List Int → Int) (hf : ∀ s t, f s ≤ f (s ++ t)) (ds : List Nat) : tryS f ds [] ([], -1) = bestS f ds := by
  rw [tryS_all f hf]
  unfold bestS
  simp

def zeros (ds : List Nat) : List Int := ds.map fun _ => 0
/-- The setting after one; none after the last one. -/
def afterL : List Nat → List Int → Option (List Int)
  | d :: ds, x :: xs => match afterL ds xs with
    | some r => some (x :: r)
    | none => if x + 1 < (d : Int) then some ((x + 1) :: zeros ds) else none
  | _, _ => none
/-- All settings behind one. -/
def restL : List Nat → List Int → List (List Int)
  | d :: ds, x :: xs => (restL ds xs).map (x :: ·) ++ (List.range' (x.toNat + 1) (d - (x.toNat + 1))).flatMap fun (y : Nat) => (allL ds).map fun r => (y : Int) :: r
  | _, _ => []
/-- Within the places. -/
def InL : List Nat → List Int → Prop
  | [], [] => True
  | d :: ds, x :: xs => 0 ≤ x ∧ x < (d : Int) ∧ InL ds xs
  | _, _ => False

theorem zeros_cons (d : Nat) (ds : List Nat) : zeros (d :: ds) = 0 :: zeros ds := rfl
theorem zeros_in : ∀ ds : List Nat, (∀ d ∈ ds, 0 < d) → InL ds (zeros ds)
  | [], _ => trivial
  | d :: ds, h => ⟨Int.le_refl _, by have := h d (by simp); show (0 : Int) < d; omega, zeros_in ds (fun e he => h e (by simp [he]))⟩

theorem allL_zeros : ∀ ds : List Nat, (∀ d ∈ ds, 0 < d) → allL ds = (zeros ds) :: restL ds (zeros ds)
  | [], _ => rfl
  | d :: ds, h => by
    have ih := allL_zeros ds (fun e he => h e (by simp [he]))
    have hd := h d (by simp)
    rw [allL_cons]
    obtain ⟨k, rfl⟩ : ∃ k, d = k + 1 := ⟨d - 1, by omega⟩
    rw [List.range_eq_range', List.range'_succ, List.flatMap_cons]
    simp only [zeros_cons, restL]
    conv => lhs; rw [ih]
    simp [ih]

theorem after_none : ∀ (ds : List Nat) (s : List Int), InL ds s → afterL ds s = none → restL ds s = []
  | [], [], _, _ => rfl
  | d :: ds, x :: xs, h, ha => by
    obtain ⟨h0, h1, h2⟩ := h
    unfold afterL at ha
    cases hr : afterL ds xs with
    | some r => rw [hr] at ha; cases ha
    | none =>
      rw [hr] at ha
      simp only at ha
      have hx : ¬ x + 1 < (d : Int) := fun hlt => by rw [if_pos hlt] at ha; cases ha
      unfold restL
      rw [after_none ds xs h2 hr, show d - (x.toNat + 1) = 0 by omega]
      simp
  | [], x :: xs, h, _ => h.elim
  | d :: ds, [], h, _ => h.elim

theorem after_some : ∀ (ds : List Nat) (s t : List Int), (∀ d ∈ ds, 0 < d) → InL ds s → afterL ds s = some t → restL ds s = t :: restL ds t ∧ InL ds t
  | [], [], t, _, _, ha => by cases ha
  | d :: ds, x :: xs, t, hd, h, ha => by
    obtain ⟨h0, h1, h2⟩ := h
    have hd' : ∀ e ∈ ds, 0 < e := fun e he => hd e (by simp [he])
    unfold afterL at ha
    cases hr : afterL ds xs with
    | some r =>
      rw [hr] at ha
      simp only [Option.some.injEq] at ha
      subst ha
      obtain ⟨e1, e2⟩ := after_some ds xs r hd' h2 hr
      refine ⟨?_, h0, h1, e2⟩
      simp only [restL, e1, List.map_cons, List.cons_append]
    | none =>
      rw [hr] at ha
      simp only at ha
      by_cases hlt : x + 1 < (d : Int)
      · rw [if_pos hlt] at ha
        simp only [Option.some.injEq] at ha
        subst ha
        refine ⟨?_, by omega, hlt, zeros_in ds hd'⟩
        have e0 := after_none ds xs h2 hr
        obtain ⟨k, hk⟩ : ∃ k, d - (x.toNat + 1) = k + 1 := ⟨d - (x.toNat + 1) - 1, by omega⟩
        have e1 : (x + 1).toNat = x.toNat + 1 := by omega
        have e2 : ((x.toNat + 1 : Nat) : Int) = x + 1 := by omega
        simp only [restL, e0, hk, List.range'_succ, List.flatMap_cons, List.map_nil, List.nil_append, e1]
        rw [allL_zeros ds hd']
        simp only [List.map_cons, List.cons_append, e2]
        rw [show d - (x.toNat + 1 + 1) = k by omega]
      · rw [if_neg hlt] at ha; cases ha
  | [], x :: xs, _, _, h, _ => h.elim
  | d :: ds, [], _, _, h, _ => h.elim

theorem best_start (f : List Int → Int) (ds : List Nat) (hd : ∀ d ∈ ds, 0 < d) :
    (restL ds (zeros ds)).foldl (upd f) (zeros ds, f (zeros ds)) = bestS f ds := by
  unfold bestS
  rw [allL_zeros ds hd, List.foldl_cons]
  have : upd f ([], -1) (zeros ds) = (zeros ds, f (zeros ds)) := by
    unfold upd; rw [if_neg (by simp)]
  rw [this]

/-! Whether a stamper is up: the cams one by one. -/
theorem up_iff {M C U s mark : Int} (hC : 1 ≤ C) (hCM : M % C = 0) (hU1 : 1 ≤ U) (hU : U ≤ M / C - 1) (hs' : s < M / C) (hm : 0 ≤ mark) (hm' : mark < M) :
    (∃ cam k : Int, 0 ≤ cam ∧ cam < C ∧ 0 ≤ k ∧ k < U ∧ (s + cam * (M / C) + k) % M = mark) ↔ (mark - s + M) % (M / C) < U := by
  have hd : M = M / C * C := by have := Int.emod_add_mul_ediv M C; rw [hCM, Int.mul_comm] at this; omega
  have hd0 : 0 < M / C := by omega
  generalize M / C = d at *
  have hdM : d ≤ M := by
    have : d * 1 ≤ d * C := Int.mul_le_mul_of_nonneg_left hC (by omega)
    omega
  constructor
  · rintro ⟨cam, k, c0, c1, k0, k1, h⟩
    have h1 := Int.emod_add_mul_ediv (s + cam * d + k) M
    rw [h] at h1
    generalize (s + cam * d + k) / M = q at h1
    have e : mark - s + M = k + d * (cam - C * q + C) := by
      have e1 : M * q = d * (C * q) := by rw [← Int.mul_assoc, ← hd]
      have e2 : d * (cam - C * q + C) = cam * d - d * (C * q) + d * C := by
        rw [Int.mul_add, Int.mul_sub, Int.mul_comm d cam]
      rw [e2, ← e1, ← hd]
      omega
    rw [e, Int.add_mul_emod_self_left, Int.emod_eq_of_lt k0 (by omega)]
    exact k1
  · intro h
    have h1 := Int.emod_add_mul_ediv (mark - s + M) d
    have hn := Int.emod_nonneg (mark - s + M) (by omega : d ≠ 0)
    generalize (mark - s + M) % d = t at *
    have hq : 0 ≤ (mark - s + M) / d := Int.ediv_nonneg (by omega) (by omega)
    generalize (mark - s + M) / d = q at *
    have h2 := Int.emod_add_mul_ediv q C
    have c0 := Int.emod_nonneg q (by omega : C ≠ 0)
    have c1 := Int.emod_lt_of_pos q (by omega : 0 < C)
    refine ⟨q % C, t, c0, c1, hn, h, ?_⟩
    have e : s + q % C * d + t = mark + M * (1 - q / C) := by
      generalize q % C = r at *
      generalize q / C = u at *
      have e1 : d * q = d * r + M * u := by
        rw [← h2, Int.mul_add, ← Int.mul_assoc, ← hd]
      have e2 : M * (1 - u) = M - M * u := by rw [Int.mul_sub, Int.mul_one]
      rw [e2, Int.mul_comm r d]
      omega
    rw [e, Int.add_mul_emod_self_left, Int.emod_eq_of_lt hm hm']
end Go.Proofs.YtlmmjaolmmcklaaDoor
