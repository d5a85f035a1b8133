/-
  The walks of the library's search for a number, for a weighing, and of the strike of some weighings in place.
-/
import Derived.Test.YtoakeclpakjbiaaDoorPRec
import Derived.Test.YtoakeclpakjbiaaDoorRowOf
import Derived.Lib.SliceRun
namespace Go.Proofs.YtoakeclpakjbiaaDoor
open Go.RowKit
set_option linter.unusedVariables false
set_option linter.unusedSimpArgs false

theorem indexI_any (x : Int) (A : Option Addr) (n c : Nat) (l : List Int) (w : World) (hn : n ≤ maxLen) (hR : Reads w w.heap.size 1 A n (ints l)) :
    Calls Tryd.prog 130 #[.slice A n c, .int .i64 x] w fun e w' => e = .returned (.int .i64 (idxF (fun y => x == y) l)) ∧ w = w' := by
  have hl : l.length = n := by simpa using hR.len
  unfold maxLen at hn
  go_enter Tryd.func130, Tryd.ntmps130
  go_wp2
  go_loop [8] (fun i => ∃ k : Nat, k ≤ n ∧ i = .int .i64 k ∧ Hid ((l.take k).any (fun y => x == y) = false)) (fun i => n - (intOf i).toNat)
  case atStart => exact ⟨0, by omega, rfl, by simp [Hid]⟩
  case round =>
    obtain ⟨k, hk, rfl, ha⟩ := hrel
    by_cases hlt : k < n
    · obtain ⟨b, o, rfl, hb, hc⟩ := hR.int hlt
      have hlk : l[k]? = some (l[k]'(by omega)) := List.getElem?_eq_getElem (by omega)
      cases hp : (x == l[k]?.getD 0)
      · have hnx : Hid ((l.take (k + 1)).any (fun y => x == y) = false) := by
          show _ = _
          rw [List.take_succ_eq_append_getElem (by omega), List.any_append, ha.out]
          rw [hlk] at hp
          simpa using hp
        clear ha hl hlk
        go_wp2
        go_round
        case rel => exact ⟨k + 1, by omega, by go_num, hnx⟩
        case measure => simp [intOf]; omega
      · have hres : Hid (idxF (fun y => x == y) l = k) := by
          show _ = _
          unfold idxF
          have : l.findIdx? (fun y => x == y) = some k := by
            rw [List.findIdx?_eq_some_iff_getElem]
            rw [hlk] at hp
            refine ⟨by omega, by simpa using hp, fun j hj => ?_⟩
            have h0 := ha.out
            rw [List.any_eq_false] at h0
            have := h0 l[j] (by rw [List.mem_take_iff_getElem]; exact ⟨j, by omega, rfl⟩)
            simpa using this
          rw [this]
        clear ha hl hlk
        go_wp2
        go_ret
        exact ⟨ret_int hres.out.symm, rfl⟩
    · have hres : Hid (idxF (fun y => x == y) l = -1) := by
        show _ = _
        have h0 := ha.out
        rw [List.take_of_length_le (by omega), List.any_eq_false] at h0
        have : l.findIdx? (fun y => x == y) = none := by
          rw [List.findIdx?_eq_none_iff]
          intro x hx
          simpa using h0 x hx
        unfold idxF; rw [this]
      clear ha hl
      go_wp2
      go_ret
      exact ⟨ret_int hres.out.symm, rfl⟩

def hasI (l : List Int) (x : Int) : Bool := l.any fun y => x == y
theorem containsI_any (x : Int) (A : Option Addr) (n c : Nat) (l : List Int) (w : World) (hn : n ≤ maxLen) (hR : Reads w w.heap.size 1 A n (ints l)) :
    Calls Tryd.prog 116 #[.slice A n c, .int .i64 x] w fun e w' => e = .returned (.bool (hasI l x)) ∧ w = w' := by
  have H := Lib.hid (indexI_any x A n c l w hn hR)
  have hi : Hid (decide (0 ≤ idxF (fun y => x == y) l) = hasI l x) := idxF_any (fun y => x == y) l
  clear hR
  generalize idxF (fun y => x == y) l = ix at *
  go_enter Tryd.func116, Tryd.ntmps116
  go_wp2_with fail
  refine H.out.mono ?_
  rintro e w' ⟨rfl, rfl⟩
  go_wp2
  go_ret
  exact ⟨ret_bool hi.out, rfl⟩

/-- The place of the first weighing of which it is so; -1 if there is none. -/
def idxW (p : WE → Bool) (l : List WE) : Int := match l.findIdx? p with | some i => i | none => -1
theorem idxW_at {p : WE → Bool} {l : List WE} {k : Nat} {x : WE} (h : ∀ j y, j < k → l[j]? = some y → p y = false) (hx : l[k]? = some x) (hp : p x = true) : idxW p l = k := by
  have hk := (List.getElem?_eq_some_iff.1 hx).1
  unfold idxW
  have : l.findIdx? p = some k := by
    rw [List.findIdx?_eq_some_iff_getElem]
    rw [List.getElem?_eq_getElem hk] at hx
    cases hx
    refine ⟨hk, hp, fun j hj => ?_⟩
    have := h j _ hj (List.getElem?_eq_getElem (by omega))
    simp [this]
  rw [this]
theorem idxW_none {p : WE → Bool} {l : List WE} (h : ∀ (j : Nat) (y : WE), l[j]? = some y → p y = false) : idxW p l = -1 := by
  unfold idxW
  have : l.findIdx? p = none := by
    rw [List.findIdx?_eq_none_iff]
    intro x hx
    obtain ⟨j, hj⟩ := List.getElem?_of_mem hx
    exact h j x hj
  rw [this]

theorem indexW_any (p : WE → Bool) (g : Nat) (lb : Array Value) (A : Option Addr) (n c : Nat) (ws : List WE) (w : World) (hn : n ≤ maxLen)
    (eg : ∀ args w, (callFunc g args).run Tryd.prog w = .ok (.enter g args) w) (hR : Reads w w.heap.size 5 A n (wgs ws))
    (hf : ∀ (x : WE) w1, Below w.heap.size w w1 → Calls Tryd.prog g (#[.agg #[.int .i64 x.1, .int .i64 x.2.1, .int .i64 x.2.2.1, .int .i64 x.2.2.2.1, .int .i64 x.2.2.2.2]] ++ lb) w1 fun e w' => e = .returned (.bool (p x)) ∧ Below w1.heap.size w1 w') :
    Calls Tryd.prog 129 #[.slice A n c, .func (.func g) #[] lb] w fun e w' => e = .returned (.int .i64 (idxW p ws)) ∧ Below w.heap.size w w' := by
  have hl := hR.wg_len
  unfold maxLen at hn
  go_enter Tryd.func129, Tryd.ntmps129
  go_wp2
  go_loopw [8] (fun x wr => ∃ k : Nat, k ≤ n ∧ x = .int .i64 k ∧ Hid (∀ j y, j < k → ws[j]? = some y → p y = false) ∧ Hid (Below w.heap.size w wr)) (fun x _ => n - (intOf x).toNat)
  case atStart => exact ⟨0, by omega, rfl, fun j y h => absurd h (by omega), Below.refl _ _⟩
  case round =>
    obtain ⟨k, hk, rfl, hno, hB⟩ := hrel
    by_cases hlt : k < n
    · obtain ⟨b, o, N, P, K, L, H, rfl, hb, hx, c0, c1, c2, c3, c4⟩ := (hR.below hB.out).wg hlt
      have hF := Lib.hid (hf (N, P, K, L, H) wr hB.out)
      have hsz := Lib.hid hB.out.size
      clear hf hR
      cases hp : p (N, P, K, L, H)
      · rw [hp] at hF
        have hnx : Hid (∀ j y, j < k + 1 → ws[j]? = some y → p y = false) := by
          intro j y hj hy
          by_cases hjk : j = k
          · subst hjk
            rw [hx] at hy
            cases hy
            exact hp
          · exact hno.out j y (by omega) hy
        clear hx hno hp
        go_wp2_with fail
        refine hF.out.mono ?_
        rintro e w1 ⟨rfl, hb1⟩
        have hB1 := Lib.hid (below_via hB.out hsz.out hb1)
        clear hb1
        go_wp2
        go_roundw
        case rel => exact ⟨k + 1, by omega, by go_num, hnx, hB1⟩
        case measure => simp [intOf]; omega
      · rw [hp] at hF
        have hres := Lib.hid (idxW_at hno.out hx hp)
        clear hx hno hp
        go_wp2_with fail
        refine hF.out.mono ?_
        rintro e w1 ⟨rfl, hb1⟩
        have hB1 := Lib.hid (below_via hB.out hsz.out hb1)
        clear hb1
        go_wp2
        go_ret
        exact ⟨ret_int hres.out.symm, hB1.out⟩
    · have hres := Lib.hid (idxW_none (l := ws) (p := p) (fun j y hy => hno.out j y (by have := (List.getElem?_eq_some_iff.1 hy).1; omega) hy))
      clear hno hf hR
      go_wp2
      go_ret
      exact ⟨ret_int hres.out.symm, hB.out⟩
end Go.Proofs.YtoakeclpakjbiaaDoor
