/-
  Whether a train is valid: each wheel is picked out of those that are free.
-/
import Derived.Test.YtlmmjaolmmcklaaFree
namespace Go.Proofs.Ytlmmjaolmmcklaa
open Go.RowKit Go.Maps

/-- A pair's cells: driver, driven. -/
def prc (x : Int × Int) : List Value := [.int .i64 x.1, .int .i64 x.2]
def prs (l : List (Int × Int)) : List Value := l.flatMap prc
theorem Reads.pr {w : World} {B n k : Nat} {A : Option Addr} {l : List (Int × Int)} (h : Reads w B 2 A n (prs l)) (hk : k < n) :
    ∃ b o D V, A = some ⟨b, o, none⟩ ∧ b < B ∧ l[k]? = some (D, V) ∧ w.cell? ⟨b, o + k * 2, none⟩ = some (.int .i64 D) ∧ w.cell? ⟨b, o + k * 2 + 1, none⟩ = some (.int .i64 V) := by
  obtain ⟨b, o, ⟨D, V⟩, e, hb, hx, hc⟩ := h.rec_at (m := 2) (fun _ => rfl) (by omega) hk
  exact ⟨b, o, D, V, e, hb, hx, hc 0 _ rfl, hc 1 _ rfl⟩
theorem Reads.pr_len {w : World} {B n : Nat} {A : Option Addr} {l : List (Int × Int)} (h : Reads w B 2 A n (prs l)) : l.length = n := h.rec_len (m := 2) (fun _ => rfl) (by omega)

/-- All numbers fit into an int. -/
def Fit2 (l : List (Int × Int)) : Prop := ∀ D V : Int, ∀ i : Nat, l[i]? = some (D, V) → (-9223372036854775808 ≤ D ∧ D ≤ 9223372036854775807) ∧ -9223372036854775808 ≤ V ∧ V ≤ 9223372036854775807

def pick (S : Int → Bool) : List (Int × Int) → Bool
  | [] => true
  | x :: r => S x.1 && (!decide (x.2 = x.1) && S x.2) && pick (fun j => !decide (j = x.2) && (!decide (j = x.1) && S j)) r

def validB (n : Nat) (l : List (Int × Int)) : Bool := decide (1 ≤ l.length) && decide (l.length ≤ 3) && pick (freeB n) l

theorem pick_step (S : Int → Bool) (l : List (Int × Int)) (k : Nat) (D V : Int) (h : l[k]? = some (D, V)) :
    pick S (l.drop k) = (S D && (!decide (V = D) && S V) && pick (fun j => !decide (j = V) && (!decide (j = D) && S j)) (l.drop (k + 1))) := by
  obtain ⟨h1, h2⟩ := List.getElem?_eq_some_iff.1 h
  rw [List.drop_eq_getElem_cons h1, h2]
  rfl

set_option maxRecDepth 100000 in
theorem valid_any (A A' : Option Addr) (n c m c' : Nat) (hn : n ≤ 20) (hm : m ≤ 20) (l : List (Int × Int)) (hF : Fit2 l) (w : World) (hR : Reads w w.heap.size 2 A' m (prs l)) :
    Calls Try.prog 54 #[.agg #[.slice A n c], .slice A' m c'] w fun e w' => e = .returned (.bool (validB n l)) ∧ Below w.heap.size w w' := by
  have hl : l.length = m := hR.pr_len
  have H1 := Lib.hid (in_any 1 3 (some ⟨w.heap.size + 1, 0, none⟩) 1 1 [(m : Int)] ((w.alloc (.cells #[.slice A n c] 76)).alloc (.cells #[.int .i64 (m : Int)] 3)) (by unfold maxLen; omega)
    (by have := Reads.new_ints (w.alloc (.cells #[.slice A n c] 76)) [(m : Int)] 3 1 rfl
        rw [show (w.alloc (.cells #[.slice A n c] 76)).heap.size = w.heap.size + 1 by simp] at this
        exact this))
  go_enter Try.func54, Try.ntmps54
  go_wp2_with fail
  refine H1.mono ?_
  rintro e w1 ⟨rfl, hb1⟩
  have hB1 := Lib.hid (Below.trans (((Below.refl w.heap.size w).alloc (Nat.le_refl _) _).alloc (by simp) _) (hb1.mono (by simp; omega)))
  by_cases hin : 1 ≤ m ∧ m ≤ 3
  · have hi : inB 1 3 [(m : Int)] = true := by simp [inB]; omega
    rw [hi]
    have hc1 : w1.cell? ⟨w.heap.size, 0, none⟩ = some (.slice A n c) := (hb1.cell (by simp; omega)).trans (by rw [World.cell?_alloc_past _ _ _ (by simp)]; exact cellN _ _ _)
    go_wp2_with fail
    refine (free_any A n c hn w1).mono ?_
    rintro e w2 ⟨⟨b, rfl, hbs, hS⟩, hb2⟩
    have hB2 := Lib.hid (below_via hB1.out hB1.out.size hb2)
    replace hS := Lib.hid hS
    have hbs' : w.heap.size ≤ b := Nat.le_trans hB1.out.size hbs
    clear hb1 hb2 hc1
    go_wp2
    go_loopw [19] (fun i wr => ∃ k : Nat, k ≤ m ∧ i = .int .i64 k ∧ (∃ S, Hid (OwnsSet wr b n S) ∧ Hid (pick (freeB n) l = pick S (l.drop k))) ∧ Hid (Below w.heap.size w wr)) (fun i _ => m - (intOf i).toNat)
    case atStart => exact ⟨0, Nat.zero_le _, rfl, ⟨_, hS, Lib.hid rfl⟩, hB2⟩
    case round =>
      obtain ⟨k, hk, rfl, ⟨S, hown, hpc⟩, hnx⟩ := hrel
      by_cases hlt : k < m
      · obtain ⟨p, o, D, V, rfl, hp, hx, hcD, hcV⟩ := hR.pr hlt
        have hcD' := (hnx.out.cell hp).trans hcD
        have hcV' := (hnx.out.cell (p := ⟨p, o + k * 2 + 1, none⟩) hp).trans hcV
        have i0 : ∀ w, (Instr.index 70 (.agg #[.int .i64 D, .int .i64 V]) (.int .i64 0)).run Try.prog w = .ok (.int .i64 D) w := fun _ => by kernel_rfl
        have i1 : ∀ w, (Instr.index 70 (.agg #[.int .i64 D, .int .i64 V]) (.int .i64 1)).run Try.prog w = .ok (.int .i64 V) w := fun _ => by kernel_rfl
        have hown0 := Lib.hid (hown.out.alloc (.cells #[.int .i64 D, .int .i64 V] 82))
        have hps := Lib.hid (hpc.out.trans (pick_step S l k D V hx))
        have hnx0 := Lib.hid (hnx.out.alloc hnx.out.size (.cells #[.int .i64 D, .int .i64 V] 82))
        have hfit := Lib.hid (hF D V k hx)
        have hvb := Lib.hid (show validB n l = (decide (1 ≤ l.length) && decide (l.length ≤ 3) && pick (freeB n) l) from rfl)
        clear hF hR hcD hcV hx hown hpc hnx
        cases h1 : S D
        · have hres : Hid (false = validB n l) := Lib.hid (by rw [hvb.out, hps.out, h1]; simp)
          clear hvb hps
          go_wp2_with fail
          refine wp_loop_rounds 3 ?_
          rw [rounds_succ]
          go_wp2_with (first
            | (at_lookup; refine look_setv rfl _ _ rfl b n S D false h1 rfl hown0.out rfl (WalkArith.wf_i64 hfit.out.1) ?_)
            | go_in)
          go_ret
          exact ⟨ret_bool hres.out, hnx0.out⟩
        · cases h2 : (!decide (V = D) && S V)
          · have hres : Hid (false = validB n l) := Lib.hid (by rw [hvb.out, hps.out, h2]; simp)
            clear hvb hps
            go_wp2_with fail
            refine wp_loop_rounds 3 ?_
            rw [rounds_succ]
            go_wp2_with (first
              | (at_lookup; refine look_setv rfl _ _ rfl b n S D true h1 rfl hown0.out rfl (WalkArith.wf_i64 hfit.out.1) ?_)
              | (at_delete; refine del_set rfl _ _ rfl b n S D rfl hown0.out rfl (WalkArith.wf_i64 hfit.out.1) ?_; intro w3 hown3 hg3; replace hown3 := Lib.hid hown3; replace hg3 := Lib.hid hg3)
              | go_in)
            rw [rounds_succ]
            go_wp2_with (first
              | (at_lookup; refine look_setv rfl _ _ rfl b n _ V false h2 rfl hown3.out rfl (WalkArith.wf_i64 hfit.out.2) ?_)
              | go_in)
            have hnx3 := Lib.hid (hnx0.out.grown hg3.out hnx0.out.size (fun j hj => by cases hj; exact hbs'))
            go_ret
            exact ⟨ret_bool hres.out, hnx3.out⟩
          · have hps' : Hid (pick (freeB n) l = pick (fun j => !decide (j = V) && (!decide (j = D) && S j)) (l.drop (k + 1))) := Lib.hid (hps.out.trans (by rw [h1, h2]; simp))
            clear hvb hps
            go_wp2_with fail
            refine wp_loop_rounds 3 ?_
            rw [rounds_succ]
            go_wp2_with (first
              | (at_lookup; refine look_setv rfl _ _ rfl b n S D true h1 rfl hown0.out rfl (WalkArith.wf_i64 hfit.out.1) ?_)
              | (at_delete; refine del_set rfl _ _ rfl b n S D rfl hown0.out rfl (WalkArith.wf_i64 hfit.out.1) ?_; intro w3 hown3 hg3; replace hown3 := Lib.hid hown3; replace hg3 := Lib.hid hg3)
              | go_in)
            rw [rounds_succ]
            go_wp2_with (first
              | (at_lookup; refine look_setv rfl _ _ rfl b n _ V true h2 rfl hown3.out rfl (WalkArith.wf_i64 hfit.out.2) ?_)
              | (at_delete; refine del_set rfl _ _ rfl b n _ V rfl hown3.out rfl (WalkArith.wf_i64 hfit.out.2) ?_; intro w4 hown4 hg4; replace hown4 := Lib.hid hown4; replace hg4 := Lib.hid hg4)
              | go_in)
            rw [rounds_succ]
            have hnx3 := Lib.hid (hnx0.out.grown hg3.out hnx0.out.size (fun j hj => by cases hj; exact hbs'))
            have hnx4 := Lib.hid (hnx3.out.grown hg4.out hnx3.out.size (fun j hj => by cases hj; exact hbs'))
            go_wp2
            go_roundw
            case rel => exact ⟨k + 1, by omega, by go_num, ⟨_, hown4, hps'⟩, hnx4⟩
            case measure => simp [intOf]; omega
      · have hres : Hid (true = validB n l) := Lib.hid (by
          unfold validB
          rw [hpc.out, List.drop_eq_nil_of_le (by omega), hl]
          simp [pick, hin])
        clear hpc hown
        go_wp2
        go_ret
        exact ⟨ret_bool hres.out, hnx.out⟩
  · have hi : inB 1 3 [(m : Int)] = false := by simp [inB]; omega
    rw [hi]
    go_wp2
    go_ret
    refine ⟨ret_bool ?_, hB1.out⟩
    unfold validB
    rw [hl]
    simp; omega
end Go.Proofs.Ytlmmjaolmmcklaa
