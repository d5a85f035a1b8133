/-
  The keys of an own set, sorted; a copy of it.
-/
import Derived.Test.YtjmegnbjacndpaaWSet
import Derived.Test.YtjmegnbjacndpaaWLay
import Derived.RangeFuncSeq
import Derived.OwnWalkIn
import Derived.TacticsInMore
namespace Go.Proofs.Ytjmegnbjacndpaa
open Go.RowKit Go.Maps Go.Sort Go.Shelf
set_option linter.unusedVariables false
set_option linter.unusedSimpArgs false

theorem sortsA (m : Nat) : AnyZI.SortsIn Try.prog sortedA_ren Fence.wide m :=
  ⟨fun blk off cap ss W hH hblk hsz => callsIn_wide.2 (AnyM.slices_Sort_int sortA blk off cap ss W hH hblk hsz),
   fun p cap W => callsIn_wide.2 (AnyM.slices_Sort_int_none sortA p cap W)⟩
theorem keysC (b : Nat) (W : World) : Calls Try.prog 38 #[.map (some b)] W fun e w' => e = .returned (.func (.func 50) #[] #[.pointer (some ⟨W.heap.size, 0, none⟩)]) ∧ w' = W.alloc (.cells #[.map (some b)] 78) :=
  (callsIn_wide (n := 6)).1 (AnyZI.keys_in keysA Fence.wide 6 trivial rfl (some b) W)
theorem sortedC (q b n : Nat) (S : Int → Bool) (W : World) (hq : W.heap[q]? = some (.cells #[.map (some b)] 78 (0, 0))) (hF : OwnsF W b n S) (hS : ∀ k, S k = true → 1 ≤ k ∧ k ≤ (n : Int)) (hn : n ≤ 20) :
    Calls Try.prog 37 #[.func (.func 50) #[] #[.pointer (some ⟨q, 0, none⟩)]] W fun e w' => ∃ v, e = .returned v ∧ w'.ownsRow W.heap.size 3 1 v (frs n S).length (ints (frs n S)) ∧ Below W.heap.size W w' := by
  obtain ⟨D, h1, h2, h3, h4⟩ := hF
  have hsz : Maps.size D ≤ n := h1.size_le
  have hseq : SeqGives Fence.wide 2 Try.prog 50 #[.pointer (some ⟨q, 0, none⟩)] encZ (fun ss => ss.Perm (intKeys D)) (Maps.size D) W :=
    AnyZI.keys_gives (ρ := keysA_ren) { keysA with } Fence.wide _ trivial rfl (by omega) q b n D W (Array.getElem?_eq_some_iff.1 hq).1 (by simp [World.cell?, hq]) h1
  have cS := AnyZI.sorted_in sortedA Fence.wide 5 trivial trivial trivial trivial rfl (by omega) (sortsA _) (enters_of Try.func49 (by kernel_rfl) rfl) 50 #[.pointer (some ⟨q, 0, none⟩)] trivial (enters_of Try.func50 (by kernel_rfl) rfl) _ _ (by unfold maxLen; omega) (by omega) _ hseq
  change CallsIn _ _ Try.prog 37 _ _ _ at cS
  refine ((callsIn_wide (n := 5)).1 cS).mono ?_
  rintro e w' ⟨v, ss, rfl, hp, hrow, -, hb⟩
  have hl : ss.length = (frs n S).length := by rw [← frs_of_perm hS h1 h4 hp, List.length_mergeSort]
  refine ⟨v, rfl, ?_, hb⟩
  have := hrow
  rw [frs_of_perm hS h1 h4 hp, hl] at this
  exact this
theorem cloneC (b n : Nat) (S : Int → Bool) (W : World) (hF : OwnsF W b n S) :
    Calls Try.prog 39 #[.map (some b)] W fun e w' => e = .returned (.map (some W.heap.size)) ∧ OwnsF w' W.heap.size n S ∧ Below W.heap.size W w' := by
  obtain ⟨D, h1, h2, h3, h4⟩ := hF
  refine (AnyW.maps_Clone_owns cloneA 3 _ b n D W h1).mono ?_
  rintro e w' ⟨rfl, g1, -, g2⟩
  exact ⟨rfl, ⟨D, g1, h2, h3, h4⟩, g2⟩
end Go.Proofs.Ytjmegnbjacndpaa
