/-
  The library's Clone of pressings, weighings.
-/
import Derived.Test.YtoakeclpakjbiaaDoorApp0
import Derived.Test.YtoakeclpakjbiaaDoorPRec
namespace Go.Proofs.YtoakeclpakjbiaaDoor
open Go.RowKit
set_option linter.unusedVariables false

theorem pgs_one (l : List PR) : ∀ u ∈ pgs l, u.oneCell' = true := by
  intro u hu
  simp only [pgs, List.mem_flatMap] at hu
  obtain ⟨a, _, h⟩ := hu
  simp [pgc] at h
  rcases h with rfl | rfl | rfl | rfl <;> rfl
theorem wgs_one (l : List WE) : ∀ u ∈ wgs l, u.oneCell' = true := by
  intro u hu
  simp only [wgs, List.mem_flatMap] at hu
  obtain ⟨a, _, h⟩ := hu
  simp [wgc] at h
  rcases h with rfl | rfl | rfl | rfl | rfl <;> rfl
theorem info_int : (Tryd.prog.info? 3).map (fun i => (i.zero, i.size, i.bytes)) = some (some (.int .i64 0), 1, 8) := by kernel_rfl
theorem info_pg : (Tryd.prog.info? 87).map (fun i => (i.zero, i.size, i.bytes)) = some (some (.agg #[.int .i64 0, .int .i64 0, .int .i64 0, .int .i64 0]), 4, 32) := by kernel_rfl
theorem info_wg : (Tryd.prog.info? 76).map (fun i => (i.zero, i.size, i.bytes)) = some (some (.agg #[.int .i64 0, .int .i64 0, .int .i64 0, .int .i64 0, .int .i64 0]), 5, 40) := by kernel_rfl
theorem pgs_append (l l' : List PR) : pgs l ++ pgs l' = pgs (l ++ l') := by simp [pgs]
theorem wgs_append (l l' : List WE) : wgs l ++ wgs l' = wgs (l ++ l') := by simp [wgs]

theorem clonePg_any (A : Option Addr) (n c : Nat) (xs : List PR) (w : World) (hn : n ≤ 4096) (hR : Reads w w.heap.size 4 A n (pgs xs)) :
    Calls Tryd.prog 112 #[.slice A n c] w fun e w' => ∃ v, e = .returned v ∧ w'.ownsRow w.heap.size 87 4 v n (pgs xs) ∧ Below w.heap.size w w' := by
  have he := fun w => Lib.run_eql_slice_nil (P := Tryd.prog) w 22 87 A n c 0 0 Tryd.underlying22
  cases A with
  | none =>
    have hn0 : n = 0 := by
      rcases Nat.eq_zero_or_pos n with h | h
      · exact h
      · obtain ⟨b, o, h', _⟩ := hR.2 h; cases h'
    subst hn0
    have hx : xs = [] := List.eq_nil_of_length_eq_zero hR.pg_len
    subst hx
    clear hR
    go_enter Tryd.func112, Tryd.ntmps112
    go_wp2
    go_ret
    exact ⟨_, rfl, World.ownsRow_nil _ _ _ _, Below.refl _ _⟩
  | some ad =>
    obtain ⟨i0, hi, hz0, hz1, hz2⟩ := info_parts info_pg
    go_enter Tryd.func112, Tryd.ntmps112
    go_wp2_with (first
      | (at_builtin; refine wpList_app _ rfl _ _ 22 rfl w.heap.size 87 i0 _ 4 32 Tryd.underlying22 hi hz0 hz1 hz2 rfl (by decide) _ _ _ rfl (World.ownsRow_lit w #[] 0 (Nat.le_refl _) (by unfold maxLen; omega) rfl) w.heap.size (some ad) n c _ rfl (hR.alloc (Nat.le_refl _) _) (pgs_one _) ?c3 ?c4 ?c5 ?_))
    case c3 => unfold maxLen; omega
    case c4 => omega
    case c5 => simp
    intro v' w' hown hgr hat
    go_wp2
    go_ret
    refine ⟨_, rfl, by simpa using hown, ((Below.refl _ _).alloc (Nat.le_refl _) _).grown hgr (by simp) (fun k hk => ?_)⟩
    simp [Value.ownBlock] at hk
    omega

theorem cloneWg_any (A : Option Addr) (n c : Nat) (xs : List WE) (w : World) (hn : n ≤ 4096) (hR : Reads w w.heap.size 5 A n (wgs xs)) :
    Calls Tryd.prog 114 #[.slice A n c] w fun e w' => ∃ v, e = .returned v ∧ w'.ownsRow w.heap.size 76 5 v n (wgs xs) ∧ Below w.heap.size w w' := by
  have he := fun w => Lib.run_eql_slice_nil (P := Tryd.prog) w 23 76 A n c 0 0 Tryd.underlying23
  cases A with
  | none =>
    have hn0 : n = 0 := by
      rcases Nat.eq_zero_or_pos n with h | h
      · exact h
      · obtain ⟨b, o, h', _⟩ := hR.2 h; cases h'
    subst hn0
    have hx : xs = [] := List.eq_nil_of_length_eq_zero hR.wg_len
    subst hx
    clear hR
    go_enter Tryd.func114, Tryd.ntmps114
    go_wp2
    go_ret
    exact ⟨_, rfl, World.ownsRow_nil _ _ _ _, Below.refl _ _⟩
  | some ad =>
    obtain ⟨i0, hi, hz0, hz1, hz2⟩ := info_parts info_wg
    go_enter Tryd.func114, Tryd.ntmps114
    go_wp2_with (first
      | (at_builtin; refine wpList_app _ rfl _ _ 23 rfl w.heap.size 76 i0 _ 5 40 Tryd.underlying23 hi hz0 hz1 hz2 rfl (by decide) _ _ _ rfl (World.ownsRow_lit w #[] 0 (Nat.le_refl _) (by unfold maxLen; omega) rfl) w.heap.size (some ad) n c _ rfl (hR.alloc (Nat.le_refl _) _) (wgs_one _) ?c3 ?c4 ?c5 ?_))
    case c3 => unfold maxLen; omega
    case c4 => omega
    case c5 => simp
    intro v' w' hown hgr hat
    go_wp2
    go_ret
    refine ⟨_, rfl, by simpa using hown, ((Below.refl _ _).alloc (Nat.le_refl _) _).grown hgr (by simp) (fun k hk => ?_)⟩
    simp [Value.ownBlock] at hk
    omega
end Go.Proofs.YtoakeclpakjbiaaDoor
