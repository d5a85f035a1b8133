/-
  The walk of the reference's press without some weighings.
-/
import Derived.Test.YtoakeclpakjbiaaDoorPTw
import Derived.Test.YtoakeclpakjbiaaDoorStk
import Derived.Test.YtoakeclpakjbiaaDoorWei
namespace Go.Proofs.YtoakeclpakjbiaaDoor
open Go.RowKit
set_option linter.unusedVariables false
set_option linter.unusedSimpArgs false

/-- What the reference's list is while it is filled. -/
def RWInv (ob : Nat) (y0 : World) (A1 : Option Addr) (n c1 : Nat) (L : List WE) (x : World) : Prop :=
  ∃ A2 m2 c2, x.heap[ob]? = some (.cells #[.slice A1 n c1, .slice A2 m2 c2] 25 (0, 0)) ∧ x.ownsRow (ob + 1) 76 5 (.slice A2 m2 c2) m2 (wgs L) ∧ Below ob y0 x ∧ ob + 1 ≤ x.heap.size
theorem lessW_snoc {ws : List WE} {L : List Int} {k : Nat} {x : WE} (hx : ws[k]? = some x) : lessW (ws.take (k + 1)) L = lessW (ws.take k) L ++ if hasI L x.1 then [] else [x] := by
  unfold lessW
  rw [List.take_add_one, hx, List.filter_append]
  cases h : hasI L x.1 <;> simp [h]
theorem hasI_next {L : List Int} {q : Nat} (hq : q < L.length) (N : Int) : hasI (L.take (q + 1)) N = (hasI (L.take q) N || (L[q]?.getD 0 == N)) := by
  rw [hasI_snoc hq N, Bool.or_comm]
  congr 1
  rw [Bool.eq_iff_iff]
  simp only [decide_eq_true_eq, beq_iff_eq]
  exact ⟨Eq.symm, Eq.symm⟩
theorem set_one1 {y : World} {b : Nat} {t : TypeId} {c0 c1 : Value} (h : y.heap[b]? = some (.cells #[c0, c1] t (0, 0))) (v : Value) : (y.setCell ⟨b, 1, none⟩ v).heap[b]? = some (.cells #[c0, v] t (0, 0)) := by
  simp [World.setCell, Array.getElem?_modify, h]
theorem new_reads (W : World) (x : WE) : Reads (W.alloc (.cells #[.int .i64 x.1, .int .i64 x.2.1, .int .i64 x.2.2.1, .int .i64 x.2.2.2.1, .int .i64 x.2.2.2.2] 76)) (W.heap.size + 1) 5 (some ⟨W.heap.size, 0, none⟩) 1 (wgs [x]) :=
  ⟨rfl, fun _ => ⟨W.heap.size, 0, rfl, by omega, fun j u hu => by
    rw [Nat.zero_add, World.cell?_alloc_at _ _ _ _ rfl]
    simpa [wgs, wgc] using hu⟩⟩

set_option maxRecDepth 100000 in
set_option maxHeartbeats 4000000 in
theorem rwithout_any (A A' : Option Addr) (n c n' c' : Nat) (ps : List PR) (ws : List WE) (Al : Option Addr) (nl cl : Nat) (L : List Int) (w : World) (hn4 : n ≤ 4096) (hn4' : n' ≤ 4096) (hnl : nl ≤ 4096)
    (hR : Reads w w.heap.size 4 A n (pgs ps)) (hW : Reads w w.heap.size 5 A' n' (wgs ws)) (hLr : Reads w w.heap.size 1 Al nl (ints L)) (hL : Laid w) :
    Calls Tryd.prog 78 #[.agg #[.slice A n c, .slice A' n' c'], .slice Al nl cl] w fun e w' => ∃ A1 c1 A2 m2 c2, e = .returned (.agg #[.slice A1 n c1, .slice A2 m2 c2]) ∧
      w'.ownsRow w.heap.size 87 4 (.slice A1 n c1) n (pgs ps) ∧ w'.ownsRow w.heap.size 76 5 (.slice A2 m2 c2) m2 (wgs (lessW ws L)) ∧ Below w.heap.size w w' := by
  obtain ⟨ib, hib, hzb0, hzb1, hzb2⟩ := info_parts info_wg
  have hl' := Lib.hid hW.wg_len
  have hll : Hid (L.length = nl) := by show _ = _; simpa using hLr.len
  obtain ⟨wb, hwb⟩ : ∃ wb, wb = (w.alloc (.cells #[.slice A n c, .slice A' n' c'] 25)).alloc (.cells #[.slice none 0 0, .slice none 0 0] 25) := ⟨_, rfl⟩
  have HP0 := Lib.hid (PB.start hwb hR hW hL)
  have HTw := Lib.hid (fun z (hz : PB w wb A A' n c n' c' ps ws z) => Twin_any A A' n c n' c' ps ws z hn4 hn4' hz.rp hz.rw_)
  have HLr := Lib.hid (fun z (hz : PB w wb A A' n c n' c' ps ws z) => (hLr.below hz.bel).more hz.bel.size)
  clear hR hW hL hLr
  go_enter Tryd.func78, Tryd.ntmps78
  go_wp2_with fail
  rw [← hwb]
  clear hwb
  refine (HTw.out _ HP0.out).mono ?_
  rintro e z1 ⟨A1, c1, A2, c2, rfl, ho1, ho2, hb1⟩
  have HP1 := Lib.hid (HP0.out.below hb1)
  have HO1 := Lib.hid ho1
  clear hb1 ho1 ho2
  obtain ⟨y0, hy0⟩ : ∃ y0, y0 = z1.alloc (.cells #[.slice A1 n c1, .slice none 0 0] 25) := ⟨_, rfl⟩
  have hby : Below z1.heap.size z1 y0 := by rw [hy0]; exact (Below.refl _ _).alloc (Nat.le_refl _) _
  have HI0 : Hid (RWInv z1.heap.size z1 A1 n c1 (lessW (ws.take 0) L) y0) :=
    ⟨none, 0, 0, by rw [hy0]; exact heap_alloc_new z1 _, World.ownsRow_nil _ _ _ _, hby, by rw [hy0]; simp⟩
  obtain ⟨p0, p1, -, -⟩ := two_facts HP1.out.b0
  have HPy := Lib.hid (HP1.out.below hby)
  obtain ⟨p0', p1', -, -⟩ := two_facts HPy.out.b0
  rw [hy0] at p0' p1'
  go_wp2
  rw [← hy0]
  clear hy0 hby p0 p1 p0' p1' HPy
  go_loopw [17] (fun x wr => ∃ k : Nat, k ≤ n' ∧ x = .int .i64 k ∧ Hid (RWInv z1.heap.size z1 A1 n c1 (lessW (ws.take k) L) wr)) (fun x _ => n' - (intOf x).toNat)
  case atStart => exact ⟨0, by omega, rfl, HI0⟩
  case round =>
    clear HI0
    obtain ⟨k, hk, rfl, hI⟩ := hrel
    obtain ⟨A3, m3, c3, hob, hown, hbl, hsz⟩ := hI.out
    have HPr := Lib.hid (HP1.out.below hbl)
    have HOb := Lib.hid hob
    have HOw := Lib.hid hown
    have HBl := Lib.hid hbl
    have HSz := Lib.hid hsz
    clear hob hown hbl hsz hI
    by_cases hlt : k < n'
    · obtain ⟨b, o, N, P, K, Lo, H, rfl, hb, hx, c0, c1', c2', c3', c4⟩ := HPr.out.rw_.wg hlt
      have Hx := Lib.hid hx
      have hsn := Lib.hid (lessW_snoc (L := L) hx)
      clear hx
      obtain ⟨wx, hwx⟩ : ∃ wx, wx = wr.alloc (.cells #[.int .i64 N, .int .i64 P, .int .i64 K, .int .i64 Lo, .int .i64 H] 76) := ⟨_, rfl⟩
      have hbx : Below wr.heap.size wr wx := by rw [hwx]; exact (Below.refl _ _).alloc (Nat.le_refl _) _
      have HPx := Lib.hid (HPr.out.below hbx)
      have hxb : wx.heap[wr.heap.size]? = some (.cells #[.int .i64 N, .int .i64 P, .int .i64 K, .int .i64 Lo, .int .i64 H] 76 (0, 0)) := by rw [hwx]; exact heap_alloc_new wr _
      obtain ⟨x0, x1, x2, x3, x4⟩ := five_facts hxb
      have HObx := Lib.hid (keepO hbx HOb.out)
      have HOwx := Lib.hid (own_below HOw.out hbx)
      have HBlx := Lib.hid (below_via HBl.out (by have := HSz.out; omega) hbx)
      have HSzx : Hid (z1.heap.size + 1 ≤ wx.heap.size) := Nat.le_trans HSz.out hbx.size
      have hxz : wx.heap.size = wr.heap.size + 1 := by rw [hwx]; simp
      have HXz := Lib.hid hxz
      clear hbx hxb hxz
      go_wp2
      rw [← hwx]
      clear hwx c0 c1' c2' c3' c4
      go_loop [8, 23] (fun s8 x => ∃ q : Nat, q ≤ nl ∧ x = .int .i64 q ∧ ∃ r : Bool, s8 = .bool r ∧ Hid (hasI (L.take q) N = r)) (fun _ x => nl - (intOf x).toNat)
      case atStart => exact ⟨0, by omega, rfl, false, rfl, rfl⟩
      case round =>
        obtain ⟨q, hq, rfl, r, rfl, hr⟩ := hrel
        by_cases hqt : q < nl
        · obtain ⟨b', o', rfl, hbb, hc0⟩ := (HLr.out wx HPx.out).int hqt
          have hnx := Lib.hid (hasI_next (L := L) (q := q) (by have := hll.out; omega) N)
          cases r
          · go_wp2
            go_round
            case rel => exact ⟨q + 1, by omega, by go_num, _, rfl, by show _ = _; rw [hnx.out, hr.out]; rfl⟩
            case measure => simp [intOf]; omega
          · go_wp2
            go_round
            case rel => exact ⟨q + 1, by omega, by go_num, _, rfl, by show _ = _; rw [hnx.out, hr.out]; rfl⟩
            case measure => simp [intOf]; omega
        · obtain rfl : q = nl := by omega
          have hfull : Hid (hasI L N = r) := by
            show _ = _
            have := hr.out
            rwa [List.take_of_length_le (by have := hll.out; omega)] at this
          clear hr
          cases r
          · obtain ⟨p0, p1, f0, f1⟩ := two_facts HObx.out
            have hby : Below wx.heap.size wx (wx.alloc (.cells #[.int .i64 N, .int .i64 P, .int .i64 K, .int .i64 Lo, .int .i64 H] 76)) := (Below.refl _ _).alloc (Nat.le_refl _) _
            have HOwy := Lib.hid (own_below HOwx.out hby)
            have HOby := Lib.hid (keepO hby HObx.out)
            have HBly := Lib.hid (below_via HBlx.out (by have := HSzx.out; omega) hby)
            have hm3 : m3 ≤ 4096 := by
              have h1 := (Reads.of_own HOwx.out).wg_len
              have h2 : (lessW (ws.take k) L).length ≤ (ws.take k).length := List.length_filter_le _ _
              simp only [List.length_take] at h2
              omega
            clear hby
            go_wp2_with (at_builtin; refine wpList_app _ rfl _ _ 23 rfl (z1.heap.size + 1) 76 ib _ 5 40 Tryd.underlying23 hib hzb0 hzb1 hzb2 rfl (by decide) _ _ _ rfl HOwy.out (wx.heap.size + 1) (some ⟨wx.heap.size, 0, none⟩) 1 1 (wgs [(N, P, K, Lo, H)]) rfl (new_reads wx (N, P, K, Lo, H)) (wgs_one _) ?c3 ?c4 ?c5 ?_)
            case c3 => unfold maxLen; omega
            case c4 => omega
            case c5 => have := HSzx.out; simp; omega
            intro v5 w5 hown5 hgr5 hat5
            have hv5 : ∀ j, (Value.slice A3 m3 c3).ownBlock = some j → z1.heap.size + 1 ≤ j := fun j hj => (own_lt HOwy.out hj).1
            have hob5 := (hgr5.block z1.heap.size (by have := HSzx.out; simp; omega) (fun e => by have := hv5 _ e.symm; omega)).trans HOby.out
            have HB5 := Lib.hid (HBly.out.grown hgr5 (by have := HSzx.out; simp; omega) (fun j hj => by have := hv5 _ hj; omega))
            have HS5 : Hid (z1.heap.size + 1 ≤ w5.heap.size) := Nat.le_trans (by have := HSzx.out; simp; omega) hgr5.size
            have HO5 := Lib.hid hown5
            obtain ⟨A5, c5, rfl⟩ := own_val hown5
            have HOb5 := Lib.hid hob5
            obtain ⟨p0, p1, f0, f1⟩ := two_facts hob5
            clear hgr5 hat5 hown5 hob5 hv5
            go_wp2
            go_roundw
            case rel => exact ⟨k + 1, by omega, by go_num, Lib.hid ⟨A5, m3 + 1, c5, set_one1 HOb5.out _, (by rw [hsn.out, hfull.out, ← wgs_append]; exact own_far (p := ⟨z1.heap.size, 1, none⟩) HO5.out (by simp) _), HB5.out.setCell (by simp) _, by have := HS5.out; simp; exact this⟩⟩
            case measure => simp [intOf]; omega
          · go_wp2
            go_roundw
            case rel => exact ⟨k + 1, by omega, by go_num, Lib.hid ⟨A3, m3, c3, HObx.out, (by rw [hsn.out, hfull.out]; simpa using HOwx.out), HBlx.out, HSzx.out⟩⟩
            case measure => simp [intOf]; omega
    · obtain rfl : k = n' := by omega
      have hall : Hid (lessW (ws.take k) L = lessW ws L) := by show _ = _; rw [List.take_of_length_le (by have := hl'.out; omega)]
      obtain ⟨p0, p1, -, -⟩ := two_facts HOb.out
      obtain ⟨g0, g1, f0, f1⟩ := two_facts HPr.out.b1
      have hz1 := HP1.out.size
      go_wp2
      obtain ⟨e0, e1⟩ := set_back HPr.out.b1 (.slice A1 n c1) (.slice A3 m3 c3)
      refine bodyPost_ret (v := .agg #[.slice A1 n c1, .slice A3 m3 c3]) (by simp [results, Tryd.results78, go_sem, e0, e1]) rfl ⟨A1, c1, A3, m3, c3, rfl, ?_, ?_, below_two HPr.out.bel (by omega) _ _⟩
      · have h1 := own_below HO1.out HBl.out
        have hw := HP0.out.size
        exact own_mono (own_far (p := ⟨w.heap.size + 1, 1, none⟩) (own_far (p := ⟨w.heap.size + 1, 0, none⟩) h1 (by simp only; omega) _) (by simp only; omega) _) (by omega)
      · have h1 := HOw.out
        rw [hall.out] at h1
        exact own_mono (own_far (p := ⟨w.heap.size + 1, 1, none⟩) (own_far (p := ⟨w.heap.size + 1, 0, none⟩) h1 (by simp only; omega) _) (by simp only; omega) _) (by omega)
end Go.Proofs.YtoakeclpakjbiaaDoor
