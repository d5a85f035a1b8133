/-
  The iterator over trains: how it is made, and how it is run.
-/
import Derived.Laws.EntriesVeiled
import Derived.Test.YtjmegnbjacndpaaWIt
namespace Go.Proofs.Ytjmegnbjacndpaa
open Go.RowKit Go.Maps Go.Shelf
set_option linter.unusedVariables false
set_option linter.unusedSimpArgs false

theorem trains_any (A : Option Addr) (n c : Nat) (k : Int) (w : World) :
    Calls Try.prog 17 #[.agg #[.slice A n c], .int .i64 k] w fun e w' => e = .returned (.func (.func 35) #[] #[.pointer (some ⟨w.heap.size + 1, 0, none⟩), .pointer (some ⟨w.heap.size, 0, none⟩)]) ∧ w' = (w.alloc (.cells #[.slice A n c] 50)).alloc (.cells #[.int .i64 k] 3) := by
  have hmf : ∀ (fn : Fn) (first cap : Array Value) (w : World), (Instr.makeFunc fn first cap).run Try.prog w = .ok (.func fn first cap) w := fun _ _ _ _ => rfl
  go_enter Try.func17, Try.ntmps17
  go_wp2
  go_ret
  exact ⟨rfl, rfl⟩

set_option maxRecDepth 100000 in
set_option maxHeartbeats 4000000 in
theorem trn1_any (l : Nat) (Ds : List Nat) (pb sb : Nat) (A : Option Addr) (n c k : Nat) (T : List (List (Int × Int))) (JJ : List (List (Int × Int)) → World → Prop) (Jx : List (List (Int × Int)) → List (Int × Int) → World → Prop) (hJ : ∀ Q W W', JJ Q W → Below W.heap.size W W' → JJ Q W') (hY : RoundT l Ds T JJ Jx) (hn : n ≤ 20) (hk3 : k ≤ 3)
    (hT : ∀ x ∈ dfs n k (freeB n) [], x ∈ T) (Q : List (List (Int × Int))) (W : World) (hJW : JJ Q W) (hpb : W.heap[pb]? = some (.cells #[.int .i64 (k : Int)] 3 (0, 0))) (hnp : pb ∉ Ds) (hsb : W.heap[sb]? = some (.cells #[.slice A n c] 50 (0, 0))) (hns : sb ∉ Ds) (hds : ∀ d ∈ Ds, d ≤ l) (hl : l < W.heap.size) :
    Calls Try.prog 35 #[.func (.yield l) #[] #[], .pointer (some ⟨pb, 0, none⟩), .pointer (some ⟨sb, 0, none⟩)] W fun e W' => (∃ v, e = .returned v) ∧ Kp W.heap.size Ds W W' ∧ ∃ b, OutT JJ Jx Q (dfs n k (freeB n) []) b W' := by
  have hmf : ∀ (fn : Fn) (first cap : Array Value) (w : World), (Instr.makeFunc fn first cap).run Try.prog w = .ok (.func fn first cap) w := fun _ _ _ _ => rfl
  obtain ⟨yb, hyb⟩ : ∃ yb, yb = W.heap.size := ⟨_, rfl⟩
  obtain ⟨ab, hab⟩ : ∃ ab, ab = W.heap.size + 1 := ⟨_, rfl⟩
  obtain ⟨wb, hwb⟩ : ∃ z, z = (W.alloc (.cells #[.func (.yield l) #[] #[]] 76)).alloc (.cells #[.func (.func 36) #[] #[.pointer (some ⟨pb, 0, none⟩), .pointer (some ⟨yb, 0, none⟩), .pointer (some ⟨ab, 0, none⟩)]] 77) := ⟨_, rfl⟩
  have hbb : Below W.heap.size W wb := by rw [hwb]; exact ((Below.refl _ _).alloc (Nat.le_refl _) _).alloc (by simp) _
  have hTC : TC l Ds yb pb ab (k : Int) wb := by
    refine ⟨?_, keepO hbb hpb, ?_, fun h => ?_, hnp, fun h => ?_, hds, Nat.lt_of_lt_of_le hl hbb.size⟩
    · rw [hwb, hyb, Below.heap_alloc _ _ _ (by simp)]; exact heap_alloc_new W _
    · rw [hwb]; have := heap_alloc_new (W.alloc (.cells #[.func (.yield l) #[] #[]] 76)) (.cells #[.func (.func 36) #[] #[.pointer (some ⟨pb, 0, none⟩), .pointer (some ⟨yb, 0, none⟩), .pointer (some ⟨ab, 0, none⟩)]] 77); simp only [World.size_alloc] at this; rw [← hab] at this; exact this
    · have := hds _ h; omega
    · have := hds _ h; omega
  have HJ0 := Lib.hid (hJ Q W wb hJW hbb)
  have hJh := Lib.hid hJ
  have hKb := Lib.hid (Kp.of_below (D := Ds) hbb)
  obtain ⟨a0, -⟩ := one_facts hTC.a
  have hlab : ab < wb.heap.size := (Array.getElem?_eq_some_iff.1 hTC.a).1
  have hna := hTC.na
  have hs' := keepO hbb hsb
  obtain ⟨s0, -⟩ := one_facts hs'
  have hlsb : sb < wb.heap.size := (Array.getElem?_eq_some_iff.1 hs').1
  have hlw : l < wb.heap.size := Nat.lt_of_lt_of_le hl hbb.size
  have HFr := Lib.hid (fun z (hz : Hid (Kp wb.heap.size Ds wb z)) => freeF_any A n c hn z)
  have HADD := Lib.hid (fun (z : World) (fb : Nat) (hj : JJ Q z) (hz : Hid (Kp wb.heap.size Ds wb z)) (hF : OwnsF z fb n (freeB n)) (hfb : wb.heap.size ≤ fb) => add_any l Ds yb pb ab n k T JJ Jx hJ hY hn hk3 k Q (freeB n) [] none 0 0 fb z hj (hTC.keep hz.out) (by omega) ⟨rfl, fun h => absurd h (by omega)⟩ (fun p hp => by cases hp) hF (by omega) (fun x hx => by unfold freeB at hx; simpa using hx) hT)
  clear hJ hY hJW hpb hsb hTC hbb hT hs'
  have HQ := Lib.hid (fun z (hz : Hid (Kp wb.heap.size Ds wb z)) => (⟨(hz.out.cell (p := ⟨ab, 0, none⟩) hlab hna).trans a0, (hz.out.cell (p := ⟨sb, 0, none⟩) hlsb hns).trans s0⟩ : z.cell? ⟨ab, 0, none⟩ = some (.func (.func 36) #[] #[.pointer (some ⟨pb, 0, none⟩), .pointer (some ⟨yb, 0, none⟩), .pointer (some ⟨ab, 0, none⟩)]) ∧ z.cell? ⟨sb, 0, none⟩ = some (.slice A n c)))
  obtain ⟨S, hSd⟩ : ∃ S : World → Prop, S = fun z => z.cell? ⟨ab, 0, none⟩ = some (.func (.func 36) #[] #[.pointer (some ⟨pb, 0, none⟩), .pointer (some ⟨yb, 0, none⟩), .pointer (some ⟨ab, 0, none⟩)]) ∧ z.cell? ⟨sb, 0, none⟩ = some (.slice A n c) ∧ Hid (Kp wb.heap.size Ds wb z) := ⟨_, rfl⟩
  have HS := Lib.hid (fun z (hz : Hid (Kp wb.heap.size Ds wb z)) => (by rw [hSd]; exact ⟨(HQ.out z hz).1, (HQ.out z hz).2, hz⟩ : S z))
  have hSe := Lib.hid hSd
  clear a0 s0 hlab hlsb hSd
  go_enter Try.func35, Try.ntmps35
  go_wp2_with fail
  rw [← hab, ← hyb]
  rw [← hwb]
  clear hwb hyb hab
  have hSd := hSe.out
  refine wp_region_held_drew (S := S) (by kernel_rfl) ?_ (fun hHeld => ?_)
  · exact HS.out _ (Lib.hid (Kp.refl _ _ _).drew)
  have hKyd : Hid (Kp wb.heap.size Ds wb wb.drew) := Lib.hid (Kp.refl _ _ _).drew
  have hSyd : wb.heap.size ≤ wb.drew.heap.size := Nat.le_refl _
  have hBl := (Below.refl wb.heap.size wb).drew
  generalize wb.drew = yd at *
  refine tkY (v := ?_) 0 6 rfl rfl (by kernel_rfl) (by kernel_rfl) (by kernel_rfl) (fun _ _ _ h => h) (by kernel_rfl) ?_ (by assumption) ?_
  rotate_left
  · intro w hSw; rw [hSd] at hSw; obtain ⟨q0, q1, -⟩ := hSw; go_simp; (try with_reducible rfl)
  try simp only [Act.put, List.setIfInBounds_toArray, List.set_cons_zero, List.set_cons_succ]
  refine tkY (v := ?_) 1 7 rfl rfl (by kernel_rfl) (by kernel_rfl) (by kernel_rfl) (fun _ _ _ h => h) (by kernel_rfl) ?_ (by assumption) ?_
  rotate_left
  · intro w hSw; rw [hSd] at hSw; obtain ⟨q0, q1, -⟩ := hSw; go_simp; (try with_reducible rfl)
  try simp only [Act.put, List.setIfInBounds_toArray, List.set_cons_zero, List.set_cons_succ]
  refine wpAnyH_ready (rs := [2]) (by kernel_rfl) (by simp) ?_
  refine AllReadyH.cons (o := _) rfl (fun Kq hK => ?_) AllReadyH.nil
  go_simp
  refine (HFr.out yd hKyd).mono ?_
  rintro e f2yd ⟨⟨fb, rfl, hfb, hF_⟩, hb⟩
  have hKf2yd := Lib.hid (hKyd.out.call hSyd hb)
  have hSf2yd := Nat.le_trans hSyd hb.size
  have hF := Lib.hid hF_
  have hBl := hBl.trans (hb.mono hSyd)
  have hfb' := Nat.le_trans hSyd hfb
  clear hb hF_ hfb
  try go_simp
  refine hK.out _ _ ?_ (fun hHeld => ?_)
  · exact HS.out _ hKf2yd
  clear hK Kq
  try simp only [Act.put, List.setIfInBounds_toArray, List.set_cons_zero, List.set_cons_succ]
  refine wpAnyH_ready (rs := [3]) (by kernel_rfl) (by simp) ?_
  refine AllReadyH.cons (o := _) rfl (fun Kq hK => ?_) AllReadyH.nil
  go_simp
  refine (HADD.out f2yd fb (hJh.out _ wb f2yd HJ0.out hBl) hKf2yd hF.out hfb').mono ?_
  rintro e g3f2yd ⟨bb, rfl, hkp, hout⟩
  have hKg3f2yd := Lib.hid (hKf2yd.out.trans (hkp.mono hSf2yd (fun d hd => Or.inl hd)))
  have hSg3f2yd := Nat.le_trans hSf2yd hkp.size
  have HOUT := Lib.hid hout
  clear hkp hout
  try go_simp
  refine hK.out _ _ ?_ (fun hHeld => ?_)
  · exact HS.out _ hKg3f2yd
  clear hK Kq
  try simp only [Act.put, List.setIfInBounds_toArray, List.set_cons_zero, List.set_cons_succ]
  refine wpAnyH_done (by kernel_rfl) ?_ _
  clear HS HQ hSd HFr HADD
  have hKW := Lib.hid (hKb.out.trans (hKg3f2yd.out.mono hKb.out.size (fun d hd => Or.inl hd)))
  go_wp2
  refine bodyPost_end (results_none rfl _ _ _) rfl ?_
  exact ⟨⟨_, rfl⟩, hKW.out, bb, HOUT.out⟩

end Go.Proofs.Ytjmegnbjacndpaa
