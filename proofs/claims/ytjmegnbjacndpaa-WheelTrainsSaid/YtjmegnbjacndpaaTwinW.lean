/-
  The reference's copy of wheels.
-/
import Derived.Test.YtjmegnbjacndpaaSameT
import Derived.Test.YtjmegnbjacndpaaAppG
namespace Go.Proofs.Ytjmegnbjacndpaa
open Go.RowKit Go.Maps
set_option maxRecDepth 100000 in
theorem TwinWheels_any (A : Option Addr) (n c : Nat) (ts : List Int) (w : World) (hn : n ≤ 20) (hT : Reads w w.heap.size 1 A n (ints ts)) :
    Calls Try.prog 5 #[.agg #[.slice A n c]] w fun e w' => ∃ v, e = .returned (.agg #[v]) ∧ w'.ownsRow w.heap.size 3 1 v n (ints ts) ∧ Below w.heap.size w w' := by
  obtain ⟨i0, hi, hz0, hz1, hz2⟩ := info_parts info_int
  have hb0 := Lib.hid (blk2 (Below.refl ((w.alloc (.cells #[.slice A n c] 24)).alloc (.cells #[.slice none 0 0] 24)).heap.size ((w.alloc (.cells #[.slice A n c] 24)).alloc (.cells #[.slice none 0 0] 24))))
  have hB := Lib.hid (((Below.refl w.heap.size w).alloc (Nat.le_refl _) (.cells #[.slice A n c] 24)).alloc (by simp) (.cells #[.slice none 0 0] 24))
  have hz : w.heap.size + 2 ≤ ((w.alloc (.cells #[.slice A n c] 24)).alloc (.cells #[.slice none 0 0] 24)).heap.size := by simp
  have hR := Lib.hid (hT.below hB.out)
  clear hT
  have hOwn := Lib.hid (World.ownsRow_lit ((w.alloc (.cells #[.slice A n c] 24)).alloc (.cells #[.slice none 0 0] 24)) (base := w.heap.size + 2) (e := 3) (size := 1) #[] 0 hz (by unfold maxLen; omega) rfl)
  rw [show ((w.alloc (.cells #[.slice A n c] 24)).alloc (.cells #[.slice none 0 0] 24)).heap.size = w.heap.size + 1 + 1 by simp] at hOwn
  go_enter Try.func5, Try.ntmps5
  go_wp2_with (first
    | (at_builtin; refine wpList_app _ rfl _ _ 22 rfl (w.heap.size + 2) 3 i0 _ 1 8 Try.underlying22 hi hz0 hz1 hz2 rfl (by decide) _ 0 [] rfl (by exact hOwn.out) w.heap.size A n c _ rfl (hR.out.alloc hB.out.size _) (ints_one _) ?c3 ?c4 ?c5 ?_)
    | go_in)
  case c3 => unfold maxLen; omega
  case c4 => omega
  intro v' w' hown hgr hat
  have hbk : w'.heap[w.heap.size + 1]? = some (.cells #[.slice none 0 0] 24 (0, 0)) :=
    (hgr.block (w.heap.size + 1) (by simp) (by simp [Value.ownBlock])).trans ((heap_lt_alloc _ _ _ (by simp)).trans hb0.out.2)
  have c0 : w'.cell? ⟨w.heap.size + 1, 0, none⟩ = some (.slice none 0 0) := by simp [World.cell?, hbk]
  have f0 : w'.frozen? ⟨w.heap.size + 1, 0, none⟩ = false := by simp [World.frozen?, hbk]
  have hB1 := Lib.hid ((hB.out.alloc hB.out.size (.cells #[] 3)).grown hgr (by simp; omega) (fun k hk => by simp [Value.ownBlock] at hk; omega))
  have hO := Lib.hid hown
  clear hgr hown hbk hat
  obtain ⟨A', c', rfl, -⟩ := own_slice hO.out
  go_wp2
  have g0 := World.cell?_setCell_same w' ⟨w.heap.size + 1, 0, none⟩ (.slice A' n c') c0
  refine bodyPost_ret (v := .agg #[.slice A' n c']) (by simp [results, Try.results5, go_sem, g0]) rfl ⟨_, rfl, ?_, hB1.out.setCell (by simp) _⟩
  have := own_far (p := ⟨w.heap.size + 1, 0, none⟩) hO.out (by simp) (.slice A' n c')
  simpa using own_mono this (by omega)
end Go.Proofs.Ytjmegnbjacndpaa
