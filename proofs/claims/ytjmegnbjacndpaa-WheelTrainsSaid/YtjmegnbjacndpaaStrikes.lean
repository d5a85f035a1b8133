/-
  The walks of the functions that tell which teeth are struck, and of the comparison of lists.
-/
import Derived.Test.YtjmegnbjacndpaaTeeth
import Derived.ChangeKeysEq
import Derived.Laws.StructEq
namespace Go.Proofs.Ytjmegnbjacndpaa
open Go.RowKit
theorem sameInts_any (A A' : Option Addr) (n m c c' : Nat) (l l' : List Int) (w : World) (hn : n ≤ maxLen) (hm : m ≤ maxLen)
    (h : Reads w w.heap.size 1 A n (ints l)) (h' : Reads w w.heap.size 1 A' m (ints l')) :
    Calls Try.prog 32 #[.slice A n c, .slice A' m c'] w fun e w' => e = .returned (.bool (decide (l = l'))) ∧ ∃ k, w' = w.drewN k := by
  have hl : l.length = n := by simpa using h.len
  have hl' : l'.length = m := by simpa using h'.len
  unfold maxLen at hn hm
  by_cases hnm : n = m
  · have hb : ((n : Int) != (m : Int)) = false := by simp [hnm]
    subst hnm
    go_enter Try.func32, Try.ntmps32
    go_wp2
    go_loopw [5] (fun i wr => ∃ k : Nat, k ≤ n ∧ i = .int .i64 k ∧ Hid (l.take k = l'.take k) ∧ ∃ q, wr = w.drewN q) (fun i _ => n - (intOf i).toNat)
    case atStart => exact ⟨0, by omega, rfl, rfl, 0, rfl⟩
    case round =>
      obtain ⟨k, hk, rfl, ht, q, rfl⟩ := hrel
      by_cases hlt : k < n
      · obtain ⟨b, o, rfl, hbb, hc⟩ := h.int hlt
        obtain ⟨b', o', rfl, hbb', hc'⟩ := h'.int hlt
        have hlk : l[k]? = some (l[k]'(by omega)) := List.getElem?_eq_getElem (by omega)
        have hlk' : l'[k]? = some (l'[k]'(by omega)) := List.getElem?_eq_getElem (by omega)
        by_cases he : l[k]?.getD 0 = l'[k]?.getD 0
        · have he' : (l[k]?.getD 0 != l'[k]?.getD 0) = false := by simpa using he
          have hnx : Hid (l.take (k + 1) = l'.take (k + 1)) := by
            show l.take (k + 1) = l'.take (k + 1)
            rw [hlk, hlk'] at he
            have he2 : l[k]'(by omega) = l'[k]'(by omega) := by simpa using he
            rw [List.take_add_one, List.take_add_one, ht.out, hlk, hlk', he2]
          clear ht he hlk hlk' hl hl'
          go_wp2
          go_quiet (fail)
          go_wp2
          go_roundw
          case rel => exact ⟨k + 1, by omega, by go_num, hnx, (by first | exact ⟨_, rfl⟩ | exact ⟨_, World.drewN_drewN _ _ _⟩)⟩
          case measure => simp [intOf]; omega
        · have he' : (l[k]?.getD 0 != l'[k]?.getD 0) = true := by simpa using he
          have hne : Hid (decide (l = l') = false) := by
            show decide (l = l') = false
            simp only [decide_eq_false_iff_not]
            rintro rfl
            exact he rfl
          clear ht he hlk hlk' hl hl'
          go_wp2
          go_quiet (fail)
          go_wp2
          go_ret
          exact ⟨ret_bool hne.out.symm, (by first | exact ⟨_, rfl⟩ | exact ⟨_, World.drewN_drewN _ _ _⟩)⟩
      · have heq : Hid (decide (l = l') = true) := by
          show decide (l = l') = true
          have := ht.out
          rw [List.take_of_length_le (by omega), List.take_of_length_le (by omega)] at this
          simpa using this
        clear ht hl hl'
        go_wp2
        go_ret
        exact ⟨ret_bool heq.out.symm, _, rfl⟩
  · have hb : ((n : Int) != (m : Int)) = true := by simp; omega
    have hne : Hid (decide (l = l') = false) := by
      show decide (l = l') = false
      simp only [decide_eq_false_iff_not]
      rintro rfl
      omega
    clear hnm hl hl'
    go_enter Try.func32, Try.ntmps32
    go_wp2
    go_ret
    exact ⟨ret_bool hne.out.symm, 0, rfl⟩
theorem info_int : (Try.prog.info? 3).map (fun i => (i.zero, i.size, i.bytes)) = some (some (.int .i64 0), 1, 8) := by kernel_rfl
end Go.Proofs.Ytjmegnbjacndpaa
