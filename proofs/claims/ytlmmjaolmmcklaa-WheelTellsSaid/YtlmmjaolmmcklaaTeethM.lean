/-
  The plain mathematics of wheels' teeth: greatest common divisors, when teeth meet again, and which teeth one strikes. No program in sight.
-/
import Derived.Below
namespace Go.Proofs.Ytlmmjaolmmcklaa.Teeth

theorem bezout (a b : Nat) : ∃ x y : Int, x * a + y * b = (Nat.gcd a b : Int) := by
  induction a, b using Nat.gcd.induction with
  | H0 n => exact ⟨0, 1, by simp⟩
  | H1 m n hm ih =>
    obtain ⟨x, y, h⟩ := ih
    refine ⟨y - x * ((n / m : Nat) : Int), x, ?_⟩
    rw [Nat.gcd_rec, ← h]
    have hd : ((n % m : Nat) : Int) = (n : Int) - (m : Int) * ((n / m : Nat) : Int) := by
      have := Nat.div_add_mod n m
      omega
    rw [hd, Int.sub_mul, Int.mul_sub]
    have : x * ((m : Int) * ((n / m : Nat) : Int)) = x * ((n / m : Nat) : Int) * (m : Int) := by
      rw [Int.mul_comm (m : Int), Int.mul_assoc]
    omega

/-- A multiple of a that leaves any given multiple of the gcd. -/
theorem hits (a b d : Nat) (hb : 0 < b) (hd : Nat.gcd a b ∣ d) : ∃ n : Nat, (n * a) % b = d % b := by
  obtain ⟨x, y, h⟩ := bezout a b
  obtain ⟨k, rfl⟩ := hd
  refine ⟨((x * k) % (b : Int)).toNat, ?_⟩
  have hnn : 0 ≤ (x * k) % (b : Int) := Int.emod_nonneg _ (by omega)
  have hc : (((((x * k) % (b : Int)).toNat * a) % b : Nat) : Int) = ((Nat.gcd a b * k % b : Nat) : Int) := by
    rw [Int.natCast_emod, Int.natCast_emod, Int.natCast_mul, Int.toNat_of_nonneg hnn, Int.natCast_mul]
    rw [Int.mul_emod, Int.emod_emod_of_dvd _ (Int.dvd_refl _), ← Int.mul_emod]
    have : (x * (k : Int)) * (a : Int) = ((Nat.gcd a b : Nat) : Int) * (k : Int) + (b : Int) * (- (y * k)) := by
      rw [← h, Int.add_mul, Int.mul_neg, Int.mul_assoc, Int.mul_comm (k : Int) (a : Int), ← Int.mul_assoc]
      have : y * (b : Int) * (k : Int) = (b : Int) * (y * (k : Int)) := by
        rw [Int.mul_comm y, Int.mul_assoc]
      omega
    rw [this, Int.add_mul_emod_self_left]
  exact Int.ofNat_inj.1 hc

/-- So many turns of one wheel are whole turns of the other just where the other's own part divides them. -/
theorem whole_iff (one other k : Nat) (h1 : 0 < one) : (k * one) % other = 0 ↔ (other / Nat.gcd one other) ∣ k := by
  have hg : 0 < Nat.gcd one other := Nat.gcd_pos_of_pos_left _ h1
  have hc : Nat.Coprime (one / Nat.gcd one other) (other / Nat.gcd one other) := Nat.coprime_div_gcd_div_gcd hg
  have e1 : one = Nat.gcd one other * (one / Nat.gcd one other) := (Nat.mul_div_cancel' (Nat.gcd_dvd_left _ _)).symm
  have e2 : other = Nat.gcd one other * (other / Nat.gcd one other) := (Nat.mul_div_cancel' (Nat.gcd_dvd_right _ _)).symm
  rw [← Nat.dvd_iff_mod_eq_zero]
  generalize hG : Nat.gcd one other = g at *
  generalize hA : one / g = a at *
  generalize hB : other / g = b at *
  subst e1 e2
  constructor
  · intro h
    have h' : g * b ∣ g * (k * a) := by
      have : k * (g * a) = g * (k * a) := by rw [Nat.mul_left_comm]
      rwa [this] at h
    have := Nat.dvd_of_mul_dvd_mul_left hg h'
    exact Nat.Coprime.dvd_of_dvd_mul_right hc.symm this
  · rintro ⟨q, rfl⟩
    exact ⟨q * a, by rw [Nat.mul_left_comm, Nat.mul_assoc, Nat.mul_assoc]⟩

theorem turns_pos (one other : Nat) (h2 : 0 < other) : 0 < other / Nat.gcd one other :=
  Nat.div_pos (Nat.le_of_dvd h2 (Nat.gcd_dvd_right _ _)) (Nat.gcd_pos_of_pos_right _ h2)

theorem turns_mul (one other : Nat) (h2 : 0 < other) : (other / Nat.gcd one other) * one / other = one / Nat.gcd one other := by
  have hg : 0 < Nat.gcd one other := Nat.gcd_pos_of_pos_right _ h2
  have e1 : one = Nat.gcd one other * (one / Nat.gcd one other) := (Nat.mul_div_cancel' (Nat.gcd_dvd_left _ _)).symm
  have e2 : other = Nat.gcd one other * (other / Nat.gcd one other) := (Nat.mul_div_cancel' (Nat.gcd_dvd_right _ _)).symm
  generalize hG : Nat.gcd one other = g at *
  generalize hA : one / g = a at *
  generalize hB : other / g = b at *
  subst e1 e2
  have : b * (g * a) = g * b * a := by rw [Nat.mul_left_comm, Nat.mul_assoc]
  rw [this, Nat.mul_div_cancel_left _ h2]

/-- Teeth of the other wheel that are struck in so many turns. -/
def struck (one other tooth turns j : Nat) : Bool := (List.range turns).any fun m => (m * one + tooth) % other == j

theorem struck_succ (one other tooth n j : Nat) : struck one other tooth (n + 1) j = (struck one other tooth n j || ((n * one + tooth) % other == j)) := by
  unfold struck
  rw [List.range_succ, List.any_append]
  simp

/-- In all turns just those teeth are struck whose distance from the tooth the gcd divides. -/
theorem struck_all (one other tooth j : Nat) (h1 : 0 < one) (h2 : 0 < other) (hj : j < other) :
    struck one other tooth (other / Nat.gcd one other) j = decide (j % Nat.gcd one other = tooth % Nat.gcd one other) := by
  have hg : 0 < Nat.gcd one other := Nat.gcd_pos_of_pos_left _ h1
  rw [Bool.eq_iff_iff]
  simp only [struck, List.any_eq_true, List.mem_range, beq_iff_eq, decide_eq_true_eq]
  constructor
  · rintro ⟨m, _, rfl⟩
    rw [Nat.mod_mod_of_dvd _ (Nat.gcd_dvd_right _ _)]
    rw [Nat.add_mod, Nat.mul_mod, Nat.mod_eq_zero_of_dvd (Nat.gcd_dvd_left one other)]
    simp
  · intro h
    -- the distance, raised to be no less than nothing
    have hd : Nat.gcd one other ∣ j + (other * tooth - tooth) := by
      have hle : tooth ≤ other * tooth := Nat.le_mul_of_pos_left _ h2
      have : (j + (other * tooth - tooth)) % Nat.gcd one other = 0 := by
        have e : j + (other * tooth - tooth) + tooth = j + other * tooth := by omega
        have e2 : (j + (other * tooth - tooth) + tooth) % Nat.gcd one other = (0 + tooth) % Nat.gcd one other := by
          rw [e, Nat.add_mod, Nat.mul_mod, Nat.mod_eq_zero_of_dvd (Nat.gcd_dvd_right one other), h]
          simp
        rw [Nat.zero_add] at e2
        have := Nat.sub_mod_eq_zero_of_mod_eq e2
        simpa using this
      exact Nat.dvd_of_mod_eq_zero this
    obtain ⟨n, hn⟩ := hits one other _ h2 hd
    refine ⟨n % (other / Nat.gcd one other), Nat.mod_lt _ (turns_pos one other h2), ?_⟩
    have hp : ((n % (other / Nat.gcd one other)) * one) % other = (n * one) % other := by
      have hT : ((other / Nat.gcd one other) * (n / (other / Nat.gcd one other)) * one) % other = 0 :=
        (whole_iff one other _ h1).2 ⟨_, rfl⟩
      have hn' := Nat.div_add_mod n (other / Nat.gcd one other)
      conv => rhs; rw [← hn', Nat.add_mul, Nat.add_mod, hT]
      simp
    rw [Nat.add_mod, hp, hn, ← Nat.add_mod]
    have hle : tooth ≤ other * tooth := Nat.le_mul_of_pos_left _ h2
    have e : j + (other * tooth - tooth) + tooth = j + other * tooth := by omega
    rw [e, Nat.add_mul_mod_self_left, Nat.mod_eq_of_lt hj]

/-- The teeth whose distance from a tooth the gcd divides, in order, below a number. -/
def upto (g t i : Nat) : List Nat := (List.range i).filter fun j => decide (j % g = t % g)

theorem filt_skip (P : Nat → Bool) (x d : Nat) (hP : ∀ j, x ≤ j → j < x + d → P j = false) : (List.range (x + d)).filter P = (List.range x).filter P := by
  induction d with
  | zero => rfl
  | succ d ih =>
    rw [← Nat.add_assoc, List.range_succ, List.filter_append, ih (fun j h1 h2 => hP j h1 (by omega))]
    simp [hP (x + d) (by omega) (by omega)]

theorem mod_apart (g i e : Nat) (h0 : 0 < e) (hg : e < g) : (i + e) % g ≠ i % g := by
  intro h
  have := Nat.sub_mod_eq_zero_of_mod_eq h
  rw [Nat.add_sub_cancel_left, Nat.mod_eq_of_lt hg] at this
  omega

theorem upto_len (g t i : Nat) : (upto g t i).length ≤ i := by
  unfold upto
  have := List.length_filter_le (fun j => decide (j % g = t % g)) (List.range i)
  simpa using this

theorem upto_first (g t : Nat) (hg : 0 < g) : upto g t (t % g) = [] := by
  unfold upto
  rw [List.filter_eq_nil_iff]
  intro j hj
  have hj' : j < t % g := by simpa using hj
  have : t % g < g := Nat.mod_lt _ hg
  simp only [decide_eq_true_eq]
  rw [Nat.mod_eq_of_lt (by omega)]
  omega

theorem upto_step (g t i : Nat) (hg : 0 < g) (hi : i % g = t % g) : upto g t (i + g) = upto g t i ++ [i] := by
  unfold upto
  have e : i + g = (i + 1) + (g - 1) := by omega
  rw [e, filt_skip _ (i + 1) (g - 1) (fun j h1 h2 => by
    have := mod_apart g i (j - i) (by omega) (by omega)
    rw [show i + (j - i) = j by omega] at this
    simp only [decide_eq_false_iff_not]
    omega), List.range_succ, List.filter_append]
  simp [hi]

theorem upto_end (g t i b : Nat) (hi : i % g = t % g) (h1 : b ≤ i) (h2 : i < b + g) : upto g t i = upto g t b := by
  unfold upto
  have e : i = b + (i - b) := by omega
  rw [e]
  refine filt_skip _ b (i - b) fun j h3 h4 => ?_
  have := mod_apart g j (i - j) (by omega) (by omega)
  rw [show j + (i - j) = i by omega] at this
  simp only [decide_eq_false_iff_not]
  omega

theorem upto_self (a t : Nat) (ht : t < a) : upto a t a = [t] := by
  have h1 := upto_first a t (by omega)
  rw [Nat.mod_eq_of_lt ht] at h1
  have h2 := upto_step a t t (by omega) rfl
  rw [h1] at h2
  have h3 := upto_end a t (t + a) a (by simp) (by omega) (by omega)
  rw [← h3, h2]
  rfl

end Go.Proofs.Ytlmmjaolmmcklaa.Teeth
