/-
  The walk of a press in which parings go elsewhere.
-/
import Derived.Test.YtfplipbkjglmhaaDoorPRec
import Derived.Test.YtfplipbkjglmhaaDoorRowOf
import Derived.Lib.SliceRun
import Derived.Test.YtfplipbkjglmhaaDoorApp0
import Derived.Test.YtfplipbkjglmhaaDoorTk
import Derived.Test.YtfplipbkjglmhaaDoorPPress
namespace Go.Proofs.YtfplipbkjglmhaaDoor
open Go.RowKit
set_option linter.unusedVariables false
set_option linter.unusedSimpArgs false
theorem indexI_any (x : Int) (A : Option Addr) (n c : Nat) (l : List Int) (w : World) (hn : n ≤ maxLen) (hR : Reads w w.heap.size 1 A n (ints l)) :
    Calls Tryd.prog 117 #[.slice A n c,.int .i64 x] w fun e w'=>e = .returned (.int .i64 (idxF (fun y=>x==y) l))∧w=w':=by
  have hl:l.length=n:=(by simpa using hR.len);unfold maxLen at hn
  go_enter Tryd.func117,Tryd.ntmps117
  go_wp2
  go_loop [8] (fun i=>∃k:Nat,k≤n∧i = .int .i64 k∧Hid ((l.take k).any (fun y=>x==y)=false)) (fun i=>n - (intOf i).toNat)
  case atStart=>exact⟨0,by omega,rfl,by simp[Hid]⟩
  case round=>
    obtain⟨k,hk,rfl,ha⟩:=hrel;by_cases hlt:k<n
    · obtain⟨b,o,rfl,hb,hc⟩:=hR.int hlt;have hlk:l[k]? = some (l[k]'(by omega)):=List.getElem?_eq_getElem (by omega);cases hp:(x==l[k]?.getD 0)
      · have hnx : Hid ((l.take (k + 1)).any (fun y => x == y) = false) := by
          show _=_;rw[List.take_succ_eq_append_getElem (by omega),List.any_append,ha.out];rw[hlk] at hp;simpa using hp
        clear ha hl hlk;go_wp2
        go_round
        case rel=>exact⟨k+1,by omega,by go_num,hnx⟩
        case measure=>simp[intOf];omega
      · have hres : Hid (idxF (fun y => x == y) l = k) := by
          show _=_;unfold idxF;have:l.findIdx? (fun y=>x==y)=some k:=by
            rw[List.findIdx?_eq_some_iff_getElem];rw[hlk] at hp;refine⟨by omega,by simpa using hp,fun j hj=>?_⟩;have h0:=ha.out;rw[List.any_eq_false] at h0;have:=h0 l[j] (by rw[List.mem_take_iff_getElem];exact⟨j,by omega,rfl⟩);simpa using this
          rw[this]
        clear ha hl hlk;go_wp2;go_ret;exact⟨ret_int hres.out.symm,rfl⟩
    · have hres : Hid (idxF (fun y => x == y) l = -1) := by
        show _=_;have h0:=ha.out;rw[List.take_of_length_le (by omega),List.any_eq_false] at h0;have:l.findIdx? (fun y=>x==y)=none:=by
          rw[List.findIdx?_eq_none_iff];intro x hx;simpa using h0 x hx
        unfold idxF;rw[this]
      clear ha hl;go_wp2;go_ret;exact⟨ret_int hres.out.symm,rfl⟩
def hasI (l:List Int) (x:Int):Bool:=l.any fun y=>x==y
theorem containsI_any (x : Int) (A : Option Addr) (n c : Nat) (l : List Int) (w : World) (hn : n ≤ maxLen) (hR : Reads w w.heap.size 1 A n (ints l)) :
    Calls Tryd.prog 109 #[.slice A n c,.int .i64 x] w fun e w'=>e = .returned (.bool (hasI l x))∧w=w':=by
  have H:=Lib.hid (indexI_any x A n c l w hn hR);have hi:Hid (decide (0≤idxF (fun y=>x==y) l)=hasI l x):=idxF_any (fun y=>x==y) l;clear hR;generalize idxF (fun y=>x==y) l=ix at *
  go_enter Tryd.func109,Tryd.ntmps109
  (go_wp2_with fail);refine H.out.mono ?_;rintro e w' ⟨rfl,rfl⟩;go_wp2;go_ret;exact⟨ret_bool hi.out,rfl⟩
/-- The place of the first weighing of which it is so; -1 if there is none. -/
def idxW (p:WE→Bool) (l:List WE):Int:=match l.findIdx? p with|some i=>i|none=>-1
theorem idxW_at{p:WE→Bool}{l:List WE}{k:Nat}{x:WE}(h:∀j y,j<k→l[j]? = some y→p y=false)(hx:l[k]? = some x)(hp:p x=true):idxW p l=k:=by
  have hk:=(List.getElem?_eq_some_iff.1 hx).1;unfold idxW;have:l.findIdx? p=some k:=by
    rw[List.findIdx?_eq_some_iff_getElem];rw[List.getElem?_eq_getElem hk] at hx;cases hx;refine⟨hk,hp,fun j hj=>?_⟩;have:=h j _ hj (List.getElem?_eq_getElem (by omega));simp[this]
  rw[this]
theorem idxW_none{p:WE→Bool}{l:List WE}(h:∀(j:Nat) (y:WE),l[j]? = some y→p y=false):idxW p l = -1:=by
  unfold idxW;have:l.findIdx? p=none:=by
    rw[List.findIdx?_eq_none_iff];intro x hx;obtain⟨j,hj⟩:=List.getElem?_of_mem hx;exact h j x hj
  rw[this]
theorem indexW_any (p : WE → Bool) (g : Nat) (lb : Array Value) (A : Option Addr) (n c : Nat) (ws : List WE) (w : World) (hn : n ≤ maxLen)
    (eg:∀args w,(callFunc g args).run Tryd.prog w = .ok (.enter g args) w) (hR:Reads w w.heap.size 5 A n (wgs ws))
    (hf:∀(x:WE) w1,Below w.heap.size w w1→Calls Tryd.prog g (#[.agg #[.int .i64 x.1,.int .i64 x.2.1,.int .i64 x.2.2.1,.int .i64 x.2.2.2.1,.int .i64 x.2.2.2.2]]++lb) w1 fun e w'=>e = .returned (.bool (p x))∧Below w1.heap.size w1 w') :
    Calls Tryd.prog 116 #[.slice A n c,.func (.func g) #[] lb] w fun e w'=>e = .returned (.int .i64 (idxW p ws))∧Below w.heap.size w w':=by
  have hl:=hR.wg_len;unfold maxLen at hn
  go_enter Tryd.func116,Tryd.ntmps116
  go_wp2;go_loopw [8] (fun x wr=>∃k:Nat,k≤n∧x = .int .i64 k∧Hid (∀j y,j<k→ws[j]? = some y→p y=false)∧Hid (Below w.heap.size w wr)) (fun x _=>n - (intOf x).toNat)
  case atStart=>exact⟨0,by omega,rfl,fun j y h=>absurd h (by omega),Below.refl _ _⟩
  case round=>
    obtain⟨k,hk,rfl,hno,hB⟩:=hrel;by_cases hlt:k<n
    · obtain⟨b,o,N,P,K,L,H,rfl,hb,hx,c0,c1,c2,c3,c4⟩:=(hR.below hB.out).wg hlt;have hF:=Lib.hid (hf (N,P,K,L,H) wr hB.out);have hsz:=Lib.hid hB.out.size;clear hf hR;cases hp:p (N,P,K,L,H)
      · rw[hp] at hF;have hnx:Hid (∀j y,j<k+1→ws[j]? = some y→p y=false):=by
          intro j y hj hy;by_cases hjk:j=k
          · subst hjk;rw[hx] at hy;cases hy;exact hp
          · exact hno.out j y (by omega) hy
        clear hx hno hp;(go_wp2_with fail);refine hF.out.mono ?_;rintro e w1 ⟨rfl,hb1⟩;have hB1:=Lib.hid (below_via hB.out hsz.out hb1);clear hb1;go_wp2;go_roundw
        case rel=>exact⟨k+1,by omega,by go_num,hnx,hB1⟩
        case measure=>simp[intOf];omega
      · rw[hp] at hF;have hres:=Lib.hid (idxW_at hno.out hx hp);clear hx hno hp;(go_wp2_with fail);refine hF.out.mono ?_;rintro e w1 ⟨rfl,hb1⟩;have hB1:=Lib.hid (below_via hB.out hsz.out hb1);clear hb1;go_wp2;go_ret;exact⟨ret_int hres.out.symm,hB1.out⟩
    · have hres:=Lib.hid (idxW_none (l:=ws) (p:=p) (fun j y hy=>hno.out j y (by have:=(List.getElem?_eq_some_iff.1 hy).1;omega) hy));clear hno hf hR;go_wp2;go_ret;exact⟨ret_int hres.out.symm,hB.out⟩
end Go.Proofs.YtfplipbkjglmhaaDoor

namespace Go.Proofs.YtfplipbkjglmhaaDoor
open Go.RowKit
set_option linter.unusedVariables false
set_option linter.unusedSimpArgs false
section
variable {w:World} {gb cap n:Nat} {ty:TypeId} {F:Nat→WE}
theorem row5 (h : RowOf w gb ty 5 cap wgc n F) (hn : n ≤ cap) {k : Nat} (hk : k < n) :
    w.cell? ⟨gb,k*5,none⟩=some (.int .i64 (F k).1)∧w.cell? ⟨gb,k*5+1,none⟩=some (.int .i64 (F k).2.1)∧w.cell? ⟨gb,k*5+2,none⟩=some (.int .i64 (F k).2.2.1)∧
    w.cell? ⟨gb,k*5+3,none⟩=some (.int .i64 (F k).2.2.2.1)∧w.cell? ⟨gb,k*5+4,none⟩=some (.int .i64 (F k).2.2.2.2):=
  ⟨h.cell (fun _=>rfl) hn (t:=0) hk rfl,h.cell (fun _=>rfl) hn (t:=1) hk rfl,h.cell (fun _=>rfl) hn (t:=2) hk rfl,h.cell (fun _=>rfl) hn (t:=3) hk rfl,h.cell (fun _=>rfl) hn (t:=4) hk rfl⟩
theorem put5 (h : RowOf w gb ty 5 cap wgc n F) (i : Nat) (x : WE) :
    RowOf (((((w.setCell ⟨gb,i*5,none⟩ (.int .i64 x.1)).setCell ⟨gb,i*5+1,none⟩ (.int .i64 x.2.1)).setCell ⟨gb,i*5+2,none⟩ (.int .i64 x.2.2.1)).setCell ⟨gb,i*5+3,none⟩ (.int .i64 x.2.2.2.1)).setCell ⟨gb,i*5+4,none⟩ (.int .i64 x.2.2.2.2)) gb ty 5 cap wgc n (fun k=>if k=i then x else F k):=
  h.put (fun _=>rfl) i x
end
/-- Those that are kept of the first ones stand ahead, those that were not looked at where they stood. -/
structure Kept (p:WE→Bool) (ws:List WE) (i j:Nat) (F:Nat→WE):Prop where
  len:((ws.take j).filter fun x=>!p x).length=i
  ahead:∀k x,((ws.take j).filter fun x=>!p x)[k]? = some x→F k=x
  behind:∀k x,j≤k→ws[k]? = some x→F k=x
  lt:i<j
section
variable {p:WE→Bool} {ws:List WE} {i j:Nat} {F:Nat→WE} {x:WE}
theorem Kept.skip(h:Kept p ws i j F)(hx:ws[j]? = some x)(hp:p x=true):Kept p ws i (j+1) F:=by
  have e:(ws.take (j+1)).filter (fun x=>!p x)=(ws.take j).filter fun x=>!p x:=by
    rw[List.take_add_one,hx,List.filter_append];simp[hp]
  have:=h.lt;exact⟨by rw[e];exact h.len,fun k y hy=>h.ahead k y (by rw[←e];exact hy),fun k y hk=>h.behind k y (by omega),by omega⟩
theorem Kept.keep(h:Kept p ws i j F)(hx:ws[j]? = some x)(hp:p x=false):Kept p ws (i+1) (j+1) (fun k=>if k=i then x else F k):=by
  have e:(ws.take (j+1)).filter (fun x=>!p x)=((ws.take j).filter fun x=>!p x) ++ [x]:=by
    rw[List.take_add_one,hx,List.filter_append];simp[hp]
  have hl:=h.lt;have hlen:=h.len;refine⟨by rw[e];simp[hlen],fun k y hy=>?_,fun k y hk hy=>?_,by omega⟩
  · rw[e] at hy;by_cases hki:k=i
    · subst hki;rw[List.getElem?_append_right (by omega),hlen] at hy;simp at hy;simp[hy]
    · have hk : k < ((ws.take j).filter fun x => !p x).length := by
        have:=(List.getElem?_eq_some_iff.1 hy).1;simp at this;omega
      rw[List.getElem?_append_left hk] at hy;simp only[hki,if_false];exact h.ahead k y hy
  · have:k≠i:=(by omega);simp only[this,if_false];exact h.behind k y (by omega) hy
theorem Kept.start{k0:Nat}(hno:∀j y,j<k0→ws[j]? = some y→p y=false)(hx:ws[k0]? = some x)(hp:p x=true)(hF:∀k y,ws[k]? = some y→F k=y):Kept p ws k0 (k0+1) F:=by
  have hk:=(List.getElem?_eq_some_iff.1 hx).1;have e0:(ws.take k0).filter (fun x=>!p x)=ws.take k0:=by
    rw[List.filter_eq_self];intro y hy;obtain⟨j,hj⟩:=List.getElem?_of_mem hy;have hjk:j<k0:=(by have:=(List.getElem?_eq_some_iff.1 hj).1;simp at this;omega);rw[List.getElem?_take_of_lt hjk] at hj;simp[hno j y hjk hj]
  have e:(ws.take (k0+1)).filter (fun x=>!p x)=ws.take k0:=by
    rw[List.take_add_one,hx,List.filter_append,e0];simp[hp]
  refine⟨by rw[e];simp;omega,fun k y hy=>?_,fun k y hk hy=>hF k y hy,by omega⟩;rw[e] at hy;have hjk:k<k0:=(by have:=(List.getElem?_eq_some_iff.1 hy).1;simp at this;omega);rw[List.getElem?_take_of_lt hjk] at hy;exact hF k y hy
end
theorem run_clear5 {P : Program} (w : World) (t e ty : TypeId) (z : Value) (size : Nat) (ht : P.underlying t = some (.slice e)) (hv : ∀ w, (zeroValue e).run P w = .ok z w) (hz : z.cells.size = size) (h1 : ∀ v ∈ z.cells, v.oneCell' = true) (b o n c : Nat) (hn : 0 < n)
    (hc:∀j,j<n*size→(w.cell? ⟨b,o+j,none⟩).isSome=true) (hf:∀j,j<n*size→w.frozen? ⟨b,o+j,none⟩=false) :
    (Builtin.clear_ #[t] ty #[.slice (some ⟨b,o,none⟩) n c]).run P w = .ok (.tuple #[]) (w.setCells b o (Builtin.zeroCells z.cells n).toList):=by
  have hs:(Builtin.zeroCells z.cells n).toList.length=n*size:=(by simp[Builtin.zeroCells,hz]);have hst:=run_storeCells_cells (P:=P) b o (Builtin.zeroCells z.cells n).toList 0 w (by rw[hs];simpa using hc) (by rw[hs];simpa using hf) (by
    intro v hv';simp only[Builtin.zeroCells,Array.toList_map,List.mem_map] at hv';obtain⟨j,hj,rfl⟩:=hv';have hj':j<n*z.cells.size:=(by simpa using hj);have hpos:0<z.cells.size:=by
      rcases Nat.eq_zero_or_pos z.cells.size with h0|h0
      · rw[h0] at hj';omega
      · exact h0
    rw[getElem!_pos z.cells _ (Nat.mod_lt _ hpos)]
    exact h1 _ (Array.getElem_mem _))
  simp only[Nat.add_zero] at hst;obtain⟨m,rfl⟩:∃m,n=m+1:=⟨n - 1,by omega⟩;simp[Builtin.clear_,run_underlying ht,hv,hst]
theorem zeroW(w:World):(zeroValue 81).run Tryd.prog w = .ok (.agg #[.int .i64 0,.int .i64 0,.int .i64 0,.int .i64 0,.int .i64 0]) w:=by kernel_rfl
set_option maxRecDepth 100000 in
set_option maxHeartbeats 2000000 in
theorem deleteW_any (p : WE → Bool) (g : Nat) (lb : Array Value) (gb n c base : Nat) (ws : List WE) (w : World)
    (eg:∀args w,(callFunc g args).run Tryd.prog w = .ok (.enter g args) w) (hown:w.ownsRow base 81 5 (.slice (some ⟨gb,0,none⟩) n c) n (wgs ws))
    (hf:∀(x:WE) w1,Kp w.heap.size [gb] w w1→Calls Tryd.prog g (#[.agg #[.int .i64 x.1,.int .i64 x.2.1,.int .i64 x.2.2.1,.int .i64 x.2.2.2.1,.int .i64 x.2.2.2.2]]++lb) w1 fun e w'=>e = .returned (.bool (p x))∧Below w1.heap.size w1 w') :
    Calls Tryd.prog 106 #[.slice (some ⟨gb,0,none⟩) n c,.func (.func g) #[] lb] w fun e w'=>∃m,e = .returned (.slice (some ⟨gb,0,none⟩) m c)∧
      w'.ownsRow base 81 5 (.slice (some ⟨gb,0,none⟩) m c) m (wgs (ws.filter fun x=>!p x))∧Kp w.heap.size [gb] w w':=by
  have hR:=Reads.of_own hown;have hl:=hR.wg_len;obtain⟨-,hnc,hcm,hbg,hrow⟩:=RowOf.from (f:=wgc) (fun _=>rfl) (by omega) hown;have hgl:=hrow.lt;have hnm:n≤maxLen:=Nat.le_trans hnc hcm;have hI:=Lib.hid (indexW_any p g lb _ n c ws w hnm eg hR (fun x w1 hb=>hf x w1 (.of_below hb)));have HO:=Lib.hid hown;have HF:=Lib.hid hf;have hF0:∀k y,ws[k]? = some y→(fun k=>ws.getD k default) k=y:=fun k y hy=>(by simp[hy]);cases hfi:ws.findIdx? p with
  | none=>
    have hi:Hid (idxW p ws = -1):=(by show _=_;unfold idxW;rw[hfi]);have hfl:Hid (ws.filter (fun x=>!p x)=ws):=by
      show _=_;rw[List.filter_eq_self];intro x hx;rw[List.findIdx?_eq_none_iff] at hfi;simp[hfi x hx]
    rw[hi.out] at hI;rw[hfl.out];clear hown hf hfi hF0 hrow hR hbg hcm hnm
    go_enter Tryd.func106,Tryd.ntmps106
    (go_wp2_with fail);refine hI.out.mono ?_;rintro e w1 ⟨rfl,hb1⟩;have HB1:=Lib.hid hb1;clear hb1;go_wp2;go_ret;refine⟨n,rfl,?_,.of_below HB1.out⟩;refine⟨HO.out.1,?_⟩;rcases HO.out.2 with h0|⟨g1,cap',cur,h1,h2,h3,h4⟩
    · exact .inl h0
    · refine .inr ⟨g1,cap',cur,h1,h2,(HB1.out.block g1 ?_).trans h3,h4⟩;exact(Array.getElem?_eq_some_iff.1 h3).1
  | some k0=>
    have hi:Hid (idxW p ws=k0):=(by show _=_;unfold idxW;rw[hfi]);rw[List.findIdx?_eq_some_iff_getElem] at hfi;obtain⟨hk0,hpk,hno⟩:=hfi;have HK0:=Lib.hid (Kept.start (p:=p) (F:=fun k=>ws.getD k default) (x:=ws[k0]) (fun j y hj hy=>by
      have hj':=(List.getElem?_eq_some_iff.1 hy).2;have:=hno j hj;rw[hj'] at this
      simpa using this) (List.getElem?_eq_getElem hk0) hpk hF0)
    have hne:((k0:Int) == -1)=false:=beq_eq_false_iff_ne.2 (by omega);rw[hi.out] at hI;have hk0n:k0<n:=(by omega);have HL:=Lib.hid hl;have HR:=Lib.hid hrow;have HG:=Lib.hid hgl;have HX:=Lib.hid (And.intro hcm hbg);unfold maxLen at hnm hcm;clear hown hf hF0 hrow hR hbg hno hpk hl hi hk0
    go_enter Tryd.func106,Tryd.ntmps106
    (go_wp2_with fail);refine hI.out.mono ?_;rintro e w1 ⟨rfl,hb1⟩;have HB1:Hid (Kp w.heap.size [gb] w w1):=.of_below hb1;have HR1:=Lib.hid (HR.out.of_block (hb1.block gb HG.out));clear hb1 hne;have hne:((k0:Int) == -1)=false:=beq_eq_false_iff_ne.2 (by omega);go_wp2;go_loopw [5,6] (fun s5 s6 wr=>∃i j:Nat,i<j∧j≤n∧s5 = .int .i64 i∧s6 = .int .i64 j∧∃F:Nat→WE,Hid (RowOf wr gb 81 5 c wgc n F)∧Hid (Kp w.heap.size [gb] w wr)∧Hid (Kept p ws i j F)) (fun _ s6 _=>n - (intOf s6).toNat)
    case atStart=>exact⟨k0,k0+1,by omega,by omega,rfl,by go_num,_,HR1,HB1,HK0⟩
    case round=>
      clear HR1 HB1 HK0;obtain⟨i,j,hij,hjn,rfl,rfl,F,hRow,hKp,hKept⟩:=hrel;have hsz:w.heap.size≤wr.heap.size:=hKp.out.size;have HGr:=Lib.hid (Nat.lt_of_lt_of_le HG.out hsz);by_cases hlt:j<n
      · obtain⟨c0,c1,c2,c3,c4⟩:=row5 hRow.out hnc hlt;have hjl:ws[j]? = some (ws[j]'(by have:=HL.out;omega)):=List.getElem?_eq_getElem _;obtain⟨x,hx⟩:∃x,ws[j]? = some x:=⟨_,hjl⟩;rw[hKept.out.behind j x (Nat.le_refl _) hx] at c0 c1 c2 c3 c4;have Hx:=Lib.hid hx;clear hx hjl;obtain⟨N,P,K,L,H⟩:=x;simp only at c0 c1 c2 c3 c4;have hKa:=Lib.hid (hKp.out.alloc hsz (.cells #[.int .i64 N,.int .i64 P,.int .i64 K,.int .i64 L,.int .i64 H] 81));have hRa:=Lib.hid (hRow.out.of_block (heap_lt_alloc' wr (.cells #[.int .i64 N,.int .i64 P,.int .i64 K,.int .i64 L,.int .i64 H] 81) gb HGr.out));have hF:=Lib.hid (HF.out (N,P,K,L,H) _ hKa.out);have hOa:=Lib.hid (heap_alloc_new wr (.cells #[.int .i64 N,.int .i64 P,.int .i64 K,.int .i64 L,.int .i64 H] 81));have hza:wr.heap.size<(wr.alloc (.cells #[.int .i64 N,.int .i64 P,.int .i64 K,.int .i64 L,.int .i64 H] 81)).heap.size:=(by simp);have hza':=Lib.hid hza;clear hza;cases hp:p (N,P,K,L,H)
        · rw[hp] at hF;have HP:=Lib.hid hp;clear hp;(go_wp2_with fail);refine hF.out.mono ?_;rintro e w2 ⟨rfl,hb2⟩;have hO2:=hb2.block wr.heap.size hza'.out |>.trans hOa.out;have v0:w2.cell? ⟨wr.heap.size,0,none⟩=some (.int .i64 N):=(by simp[World.cell?,hO2]);have v1:w2.cell? ⟨wr.heap.size,1,none⟩=some (.int .i64 P):=(by simp[World.cell?,hO2]);have v2:w2.cell? ⟨wr.heap.size,2,none⟩=some (.int .i64 K):=(by simp[World.cell?,hO2]);have v3:w2.cell? ⟨wr.heap.size,3,none⟩=some (.int .i64 L):=(by simp[World.cell?,hO2]);have v4:w2.cell? ⟨wr.heap.size,4,none⟩=some (.int .i64 H):=(by simp[World.cell?,hO2]);have hR2:=Lib.hid (hRa.out.of_block (hb2.block gb (Nat.lt_trans HGr.out hza'.out)));obtain⟨o0,o1,o2,o3,o4⟩:=row5 hR2.out hnc (k:=i) (by omega);have f0:=hR2.out.frozen (i*5);have f1:=hR2.out.frozen (i*5+1);have f2:=hR2.out.frozen (i*5+2);have f3:=hR2.out.frozen (i*5+3);have f4:=hR2.out.frozen (i*5+4);have HB2:=Lib.hid (hKa.out.call (Nat.le_trans hsz (Nat.le_of_lt hza'.out)) hb2);clear hb2 hO2 c0 c1 c2 c3 c4 hF;have hin:(i:Int)<(n:Int):=(by omega);go_wp2;go_roundw
          case rel=>exact⟨i+1,j+1,by omega,by omega,by go_num,by go_num,_,Lib.hid (put5 hR2.out i (N,P,K,L,H)),Lib.hid (((((HB2.out.set (by simp) _).set (by simp) _).set (by simp) _).set (by simp) _).set (by simp) _),Lib.hid (hKept.out.keep Hx.out HP.out)⟩
          case measure=>simp[intOf];omega
        · rw[hp] at hF;have HP:=Lib.hid hp;clear hp;(go_wp2_with fail);refine hF.out.mono ?_;rintro e w2 ⟨rfl,hb2⟩;have hR2:=Lib.hid (hRa.out.of_block (hb2.block gb (Nat.lt_trans HGr.out hza'.out)));have HB2:=Lib.hid (hKa.out.call (Nat.le_trans hsz (Nat.le_of_lt hza'.out)) hb2);clear hb2 c0 c1 c2 c3 c4 hF;go_wp2;go_roundw
          case rel=>exact⟨i,j+1,by omega,by omega,rfl,by go_num,_,hR2,HB2,Lib.hid (hKept.out.skip Hx.out HP.out)⟩
          case measure=>simp[intOf];omega
      · obtain rfl:j=n:=(by omega);have hci:¬c=i:=by omega
        have hcl:∀ty,(Builtin.clear_ #[23] ty #[.slice (some ⟨gb,i*5,none⟩) (j - i) (c - i)]).run Tryd.prog wr = .ok (.tuple #[]) (wr.setCells gb (i*5) (Builtin.zeroCells #[.int .i64 0,.int .i64 0,.int .i64 0,.int .i64 0,.int .i64 0] (j - i)).toList):=fun ty=>
          run_clear5 wr 23 81 ty _ 5 Tryd.underlying23 zeroW rfl (by intro v hv;simp[Value.cells] at hv;subst hv;rfl) gb (i*5) (j - i) (c - i) (by omega)
            (fun t ht => hRow.out.there (by have : (j - i) * 5 = j * 5 - i * 5 := by rw [Nat.sub_mul]
                                            have h2:i*5≤j*5:=Nat.mul_le_mul_right _ (by omega);have h3:j*5≤c*5:=Nat.mul_le_mul_right _ hnc
                                            omega)) (fun t ht=>hRow.out.frozen _)
        have hil:i≤j:=(by omega);have hfin:Hid ((ws.filter fun x=>!p x).length=i∧∀k x,(ws.filter fun x=>!p x)[k]? = some x→F k=x):=by
          have h1:=hKept.out.len;have h2:=hKept.out.ahead;have e:ws.take j=ws:=List.take_of_length_le (by have:=HL.out;omega);rw[e] at h1 h2;exact⟨h1,h2⟩
        clear hKept;go_wp2;go_ret;obtain⟨q1,q2⟩:=hfin.out;have hL:=hRow.out.lose (fun _=>rfl) i (by omega) (Builtin.zeroCells #[.int .i64 0,.int .i64 0,.int .i64 0,.int .i64 0,.int .i64 0] (j - i)).toList;refine⟨i,rfl,?_,kp_sets (by simp) _ _ _ hKp.out⟩;have:=RowOf.own hL (fun _=>rfl) (base:=base) (l:=ws.filter fun x=>!p x) (by omega) (by omega) HX.out.1 HX.out.2 q2;rw[q1] at this;exact this
end Go.Proofs.YtfplipbkjglmhaaDoor

namespace Go.Proofs.YtfplipbkjglmhaaDoor
open Go.RowKit
set_option linter.unusedVariables false
theorem pgs_one(l:List PR):∀u∈pgs l,u.oneCell'=true:=by
  intro u hu;simp only[pgs,List.mem_flatMap] at hu;obtain⟨a,_,h⟩:=hu;simp[pgc] at h;rcases h with rfl|rfl|rfl|rfl<;>rfl
theorem wgs_one(l:List WE):∀u∈wgs l,u.oneCell'=true:=by
  intro u hu;simp only[wgs,List.mem_flatMap] at hu;obtain⟨a,_,h⟩:=hu;simp[wgc] at h;rcases h with rfl|rfl|rfl|rfl|rfl<;>rfl
theorem info_int:(Tryd.prog.info? 3).map (fun i=>(i.zero,i.size,i.bytes))=some (some (.int .i64 0),1,8):=by kernel_rfl
theorem info_pg:(Tryd.prog.info? 51).map (fun i=>(i.zero,i.size,i.bytes))=some (some (.agg #[.int .i64 0,.int .i64 0,.int .i64 0,.int .i64 0]),4,32):=by kernel_rfl
theorem info_wg:(Tryd.prog.info? 81).map (fun i=>(i.zero,i.size,i.bytes))=some (some (.agg #[.int .i64 0,.int .i64 0,.int .i64 0,.int .i64 0,.int .i64 0]),5,40):=by kernel_rfl
theorem clonePg_any (A : Option Addr) (n c : Nat) (xs : List PR) (w : World) (hn : n ≤ 4096) (hR : Reads w w.heap.size 4 A n (pgs xs)) :
    Calls Tryd.prog 105 #[.slice A n c] w fun e w'=>∃v,e = .returned v∧w'.ownsRow w.heap.size 51 4 v n (pgs xs)∧Below w.heap.size w w':=by
  have he:=fun w=>Lib.run_eql_slice_nil (P:=Tryd.prog) w 22 51 A n c 0 0 Tryd.underlying22;cases A with
  | none=>
    have hn0:n=0:=by
      rcases Nat.eq_zero_or_pos n with h|h
      · exact h
      · obtain⟨b,o,h',_⟩:=hR.2 h;cases h'
    subst hn0;have hx:xs = []:=List.eq_nil_of_length_eq_zero hR.pg_len;subst hx;clear hR
    go_enter Tryd.func105,Tryd.ntmps105
    go_wp2;go_ret;exact⟨_,rfl,World.ownsRow_nil _ _ _ _,Below.refl _ _⟩
  | some ad=>
    obtain⟨i0,hi,hz0,hz1,hz2⟩:=info_parts info_pg
    go_enter Tryd.func105,Tryd.ntmps105
    go_wp2_with (first
      | (at_builtin;refine wpList_app _ rfl _ _ 22 rfl w.heap.size 51 i0 _ 4 32 Tryd.underlying22 hi hz0 hz1 hz2 rfl (by decide) _ _ _ rfl (World.ownsRow_lit w #[] 0 (Nat.le_refl _) (by unfold maxLen;omega) rfl) w.heap.size (some ad) n c _ rfl (hR.alloc (Nat.le_refl _) _) (pgs_one _) ?c3 ?c4 ?c5 ?_))
    case c3=>unfold maxLen;omega
    case c4=>omega
    case c5=>simp
    intro v' w' hown hgr hat;go_wp2;go_ret;refine⟨_,rfl,by simpa using hown,((Below.refl _ _).alloc (Nat.le_refl _) _).grown hgr (by simp) (fun k hk=>?_)⟩;simp[Value.ownBlock] at hk;omega
theorem cloneWg_any (A : Option Addr) (n c : Nat) (xs : List WE) (w : World) (hn : n ≤ 4096) (hR : Reads w w.heap.size 5 A n (wgs xs)) :
    Calls Tryd.prog 107 #[.slice A n c] w fun e w'=>∃v,e = .returned v∧w'.ownsRow w.heap.size 81 5 v n (wgs xs)∧Below w.heap.size w w':=by
  have he:=fun w=>Lib.run_eql_slice_nil (P:=Tryd.prog) w 23 81 A n c 0 0 Tryd.underlying23;cases A with
  | none=>
    have hn0:n=0:=by
      rcases Nat.eq_zero_or_pos n with h|h
      · exact h
      · obtain⟨b,o,h',_⟩:=hR.2 h;cases h'
    subst hn0;have hx:xs = []:=List.eq_nil_of_length_eq_zero hR.wg_len;subst hx;clear hR
    go_enter Tryd.func107,Tryd.ntmps107
    go_wp2;go_ret;exact⟨_,rfl,World.ownsRow_nil _ _ _ _,Below.refl _ _⟩
  | some ad=>
    obtain⟨i0,hi,hz0,hz1,hz2⟩:=info_parts info_wg
    go_enter Tryd.func107,Tryd.ntmps107
    go_wp2_with (first
      | (at_builtin;refine wpList_app _ rfl _ _ 23 rfl w.heap.size 81 i0 _ 5 40 Tryd.underlying23 hi hz0 hz1 hz2 rfl (by decide) _ _ _ rfl (World.ownsRow_lit w #[] 0 (Nat.le_refl _) (by unfold maxLen;omega) rfl) w.heap.size (some ad) n c _ rfl (hR.alloc (Nat.le_refl _) _) (wgs_one _) ?c3 ?c4 ?c5 ?_))
    case c3=>unfold maxLen;omega
    case c4=>omega
    case c5=>simp
    intro v' w' hown hgr hat;go_wp2;go_ret;refine⟨_,rfl,by simpa using hown,((Below.refl _ _).alloc (Nat.le_refl _) _).grown hgr (by simp) (fun k hk=>?_)⟩;simp[Value.ownBlock] at hk;omega
end Go.Proofs.YtfplipbkjglmhaaDoor

namespace Go.Proofs.YtfplipbkjglmhaaDoor
open Go.RowKit
set_option linter.unusedVariables false
set_option linter.unusedSimpArgs false
theorem own_val{w:World}{base:Nat}{e:TypeId}{size n:Nat}{v:Value}{xs:List Value}(h:w.ownsRow base e size v n xs):∃A c,v = .slice A n c:=by
  rcases h.2 with ⟨rfl,rfl⟩|⟨g,cap,cur,rfl,_⟩
  · exact⟨_,_,rfl⟩
  · exact⟨_,_,rfl⟩
theorem own_below{w w':World}{base:Nat}{e:TypeId}{size n:Nat}{v:Value}{xs:List Value}(h:w.ownsRow base e size v n xs)(hb:Below w.heap.size w w'):w'.ownsRow base e size v n xs:=by
  refine⟨h.1,?_⟩;rcases h.2 with h0|⟨g1,cap',cur,h1,h2,h3,h4⟩
  · exact .inl h0
  · exact .inr ⟨g1,cap',cur,h1,h2,(hb.block g1 (Array.getElem?_eq_some_iff.1 h3).1).trans h3,h4⟩
theorem deleteW_own (p : WE → Bool) (g : Nat) (lb : Array Value) (v : Value) (n base : Nat) (ws : List WE) (w : World)
    (eg:∀args w,(callFunc g args).run Tryd.prog w = .ok (.enter g args) w) (hown:w.ownsRow base 81 5 v n (wgs ws)) (hb:base≤w.heap.size)
    (hf:∀(x:WE) w1,Below base w w1→Calls Tryd.prog g (#[.agg #[.int .i64 x.1,.int .i64 x.2.1,.int .i64 x.2.2.1,.int .i64 x.2.2.2.1,.int .i64 x.2.2.2.2]]++lb) w1 fun e w'=>e = .returned (.bool (p x))∧Below w1.heap.size w1 w') :
    Calls Tryd.prog 106 #[v,.func (.func g) #[] lb] w fun e w'=>∃v' m,e = .returned v'∧
      w'.ownsRow base 81 5 v' m (wgs (ws.filter fun x=>!p x))∧Below base w w':=by
  have h0:=hown;rcases hown.2 with ⟨rfl,rfl⟩|⟨gb,cap,cur,rfl,hg,_⟩
  · have hx:ws = []:=List.eq_nil_of_length_eq_zero (Reads.wg_len (w:=w) (B:=0) (A:=none) ⟨h0.1,fun h=>absurd h (by omega)⟩);subst hx;have hI:=Lib.hid (indexW_any p g lb none 0 0 [] w (by unfold maxLen;omega) eg Reads.none_ (fun x w1 hb1=>hf x w1 (hb1.mono hb)));have hi:Hid (idxW p [] = -1):=rfl;rw[hi.out] at hI;have HB:=Lib.hid hb;clear hf h0 hown hb
    go_enter Tryd.func106,Tryd.ntmps106
    (go_wp2_with fail);refine hI.out.mono ?_;rintro e w1 ⟨rfl,hb1⟩;have HB1:=Lib.hid hb1;clear hb1;go_wp2;go_ret;exact⟨_,0,rfl,World.ownsRow_nil _ _ _ _,HB1.out.mono HB.out⟩
  · refine(deleteW_any p g lb gb n cap base ws w eg h0 (fun x w1 hk=>hf x w1 (hk.below hb (by simpa using hg)))).mono ?_;rintro e w' ⟨m,rfl,h1,h2⟩;exact⟨_,m,rfl,h1,h2.below hb (by simpa using hg)⟩
theorem without1_any (x : WE) (bl : Nat) (Al : Option Addr) (nl cl : Nat) (L : List Int) (w : World) (hc : w.cell? ⟨bl, 0, none⟩ = some (.slice Al nl cl)) (hR : Reads w w.heap.size 1 Al nl (ints L)) (hn : nl ≤ maxLen) :
    Calls Tryd.prog 108 (#[.agg #[.int .i64 x.1,.int .i64 x.2.1,.int .i64 x.2.2.1,.int .i64 x.2.2.2.1,.int .i64 x.2.2.2.2]] ++ #[.pointer (some ⟨bl,0,none⟩)]) w fun e w'=>e = .returned (.bool (hasI L x.1))∧Below w.heap.size w w':=by
  obtain⟨N,P,K,Lo,H⟩:=x;have hblt:bl<w.heap.size:=by
    rcases Nat.lt_or_ge bl w.heap.size with h|h
    · exact h
    · have:w.heap[bl]? = none:=Array.getElem?_eq_none h;simp[World.cell?,this] at hc
  have hc':∀o,(w.alloc o).cell? ⟨bl,0,none⟩=some (.slice Al nl cl):=fun o=>(by rw[World.cell?_alloc_lt _ _ _ hblt];exact hc);have hH:=Lib.hid (fun o=>containsI_any N Al nl cl L (w.alloc o) hn ((hR.alloc (Nat.le_refl _) o).more (by simp)));clear hR hc hblt hn;simp only;generalize hasI L N=r at *
  go_enter Tryd.func108,Tryd.ntmps108
  (go_wp2_with fail);refine(hH.out _).mono ?_;rintro e w1 ⟨rfl,rfl⟩;go_wp2;go_ret;exact⟨rfl,(Below.refl _ _).alloc (Nat.le_refl _) _⟩
/-- The weighings that are none of some. -/
def lessW (ws:List WE) (L:List Int):List WE:=ws.filter fun x=>!hasI L x.1
set_option maxRecDepth 100000 in
set_option maxHeartbeats 2000000 in
theorem without_any (A A' : Option Addr) (n c n' c' : Nat) (ps : List PR) (ws : List WE) (Al : Option Addr) (nl cl : Nat) (L : List Int) (w : World) (hn4 : n ≤ 4096) (hn4' : n' ≤ 4096) (hnl : nl ≤ maxLen)
    (hR:Reads w w.heap.size 4 A n (pgs ps)) (hW:Reads w w.heap.size 5 A' n' (wgs ws)) (hLr:Reads w w.heap.size 1 Al nl (ints L)) :
    Calls Tryd.prog 85 #[.agg #[.slice A n c,.slice A' n' c'],.slice Al nl cl] w fun e w'=>∃A1 c1 A2 m2 c2,e = .returned (.agg #[.slice A1 n c1,.slice A2 m2 c2])∧
      w'.ownsRow w.heap.size 51 4 (.slice A1 n c1) n (pgs ps)∧w'.ownsRow w.heap.size 81 5 (.slice A2 m2 c2) m2 (wgs (lessW ws L))∧Below w.heap.size w w':=by
  have eg:∀args w,(callFunc 108 args).run Tryd.prog w = .ok (.enter 108 args) w:=fun _ _=>(by kernel_rfl);obtain⟨wz,hwz⟩:∃wz,wz=(((w.alloc (.cells #[.slice A n c,.slice A' n' c'] 25)).alloc (.cells #[.slice Al nl cl] 46)).alloc (.cells #[.slice none 0 0,.slice none 0 0] 25)):=⟨_,rfl⟩;have hWz:Below w.heap.size w wz:=(by rw[hwz];exact(((Below.refl _ _).alloc (Nat.le_refl _) _).alloc (by simp) _).alloc (by simp<;>omega) _);have hz3:wz.heap.size=w.heap.size+3:=(by rw[hwz];simp);have hb0:wz.heap[w.heap.size]? = some (.cells #[.slice A n c,.slice A' n' c'] 25 (0,0)):=by
    rw[hwz,heap_lt_alloc' _ _ _ (by simp<;>omega),heap_lt_alloc' _ _ _ (by simp)];exact heap_alloc_new w _
  have hb1:wz.heap[w.heap.size+1]? = some (.cells #[.slice Al nl cl] 46 (0,0)):=by
    rw[hwz,heap_lt_alloc' _ _ _ (by simp)];have:=heap_alloc_new (w.alloc (.cells #[.slice A n c,.slice A' n' c'] 25)) (.cells #[.slice Al nl cl] 46);simpa using this
  have hb2:wz.heap[w.heap.size+2]? = some (.cells #[.slice none 0 0,.slice none 0 0] 25 (0,0)):=by
    rw[hwz];have:=heap_alloc_new ((w.alloc (.cells #[.slice A n c,.slice A' n' c'] 25)).alloc (.cells #[.slice Al nl cl] 46)) (.cells #[.slice none 0 0,.slice none 0 0] 25);simpa using this
  obtain⟨S,hSd⟩:∃S:World→Prop,S=fun z=>(z.cell? ⟨w.heap.size,0,none⟩=some (.slice A n c)∧z.cell? ⟨w.heap.size,1,none⟩=some (.slice A' n' c'))∧Hid (Below (w.heap.size+2) wz z):=⟨_,rfl⟩
  have HS:=Lib.hid (fun z (hz:Hid (Below (w.heap.size+2) wz z))=>(by
    rw[hSd];have e0:=(hz.out.block w.heap.size (by omega)).trans hb0
    exact⟨⟨by simp[World.cell?,e0],by simp[World.cell?,e0]⟩,hz⟩:S z))
  have HSB:=Lib.hid (fun z (hz:S z)=>(show Hid (Below (w.heap.size+2) wz z) from(by rw[hSd] at hz;exact hz.2)).out);have HSZ:=Lib.hid (fun z (hz:S z)=>(Nat.le_trans (by omega) (HSB.out z hz).size:w.heap.size+2≤z.heap.size));have HR:=Lib.hid (fun z (hz:Below (w.heap.size+2) wz z)=>((hR.below hWz).below (hz.mono (by omega))).more (by have:=hz.size;omega:w.heap.size≤z.heap.size));have HW:=Lib.hid (fun z (hz:Below (w.heap.size+2) wz z)=>((hW.below hWz).below (hz.mono (by omega))).more (by have:=hz.size;omega:w.heap.size≤z.heap.size));have HCl:=Lib.hid (fun z (hz:Below (w.heap.size+2) wz z)=>((hLr.below hWz).below (hz.mono (by omega))).more (by have:=hz.size;omega:w.heap.size≤z.heap.size));have HC:=Lib.hid (fun z (hz:Below (w.heap.size+2) wz z)=>(by
    have e0:=(hz.block (w.heap.size+1) (by omega)).trans hb1
    simp[World.cell?,e0]:z.cell? ⟨w.heap.size+1,0,none⟩=some (.slice Al nl cl)))
  have hB3z:Below (w.heap.size+3) wz wz:=Below.refl _ _;have hZ0:Hid (Below (w.heap.size+2) wz wz.drew):=(Below.refl _ _).drew;have hO0:Hid (wz.drew.heap[w.heap.size+2]? = some (.cells #[.slice none 0 0,.slice none 0 0] 25 (0,0))):=hb2;have HWZ:=Lib.hid hWz;have HZ3:=Lib.hid hz3;clear hR hW hLr hb0 hb1 hb2 hB3z hWz hz3
  go_enter Tryd.func85,Tryd.ntmps85
  (go_wp2_with fail);rw[←hwz];clear hwz;refine wp_region_held_drew (S:=S) (by kernel_rfl) ?_ (fun hHeld=>?_)
  · exact HS.out _ hZ0
  refine tY (v:=?_) 0 5 ?_ ?_;rotate_left
  · intro w hSw;rw[hSd] at hSw;obtain⟨⟨q0,q1⟩,-⟩:=hSw;go_simp;(try with_reducible rfl)
  (try simp only[N0]);refine tY (v:=?_) 1 6 ?_ ?_;rotate_left
  · intro w hSw;rw[hSd] at hSw;obtain⟨⟨q0,q1⟩,-⟩:=hSw;go_simp;(try with_reducible rfl)
  (try simp only[N0]);refine tY (v:=?_) 3 8 ?_ ?_;rotate_left
  · intro w hSw;rw[hSd] at hSw;obtain⟨⟨q0,q1⟩,-⟩:=hSw;go_simp;(try with_reducible rfl)
  (try simp only[N0]);refine tY (v:=?_) 4 9 ?_ ?_;rotate_left
  · intro w hSw;rw[hSd] at hSw;obtain⟨⟨q0,q1⟩,-⟩:=hSw;go_simp;(try with_reducible rfl)
  (try simp only[N0]);refine tY (v:=?_) 6 11 ?_ ?_;rotate_left
  · intro w hSw;rw[hSd] at hSw;obtain⟨⟨q0,q1⟩,-⟩:=hSw;go_simp;(try with_reducible rfl)
  (try simp only[N0]);refine wpAnyH_ready (rs:=[2]) (by kernel_rfl) (by simp) ?_;refine AllReadyH.cons (o:=_) rfl (fun Kq hK=>?_) AllReadyH.nil;go_simp;refine(clonePg_any A n c ps _ hn4 ((HR.out _ (HSB.out _ hHeld)))).mono ?_;rintro e z1 ⟨v1,rfl,hw1,hb1⟩;have hB1:=Lib.hid (below_via (HSB.out _ hHeld) (HSZ.out _ hHeld) hb1);have HO1:=Lib.hid hw1;have HB1:=Lib.hid hb1;have hO1:=Lib.hid (keepO hb1 hO0.out);clear hb1 hw1;have HS1:=Lib.hid (HS.out _ hB1);(try go_simp);refine hK.out _ _ ?_ (fun hHeld=>?_)
  · exact HS1.out
  clear hK Kq;(try simp only[N0]);refine wpAnyH_ready (rs:=[5]) (by kernel_rfl) (by simp) ?_;refine AllReadyH.cons (o:=_) rfl (fun Kq hK=>?_) AllReadyH.nil;go_simp;refine(cloneWg_any A' n' c' ws _ hn4' ((HW.out _ (HSB.out _ hHeld)))).mono ?_;rintro e z2 ⟨v2,rfl,hw2,hb2⟩;have hB2:=Lib.hid (below_via (HSB.out _ hHeld) (HSZ.out _ hHeld) hb2);have HO2:=Lib.hid hw2;have HB2:=Lib.hid hb2;have hO2:=Lib.hid (keepO hb2 hO1.out);clear hb2 hw2;have HS2:=Lib.hid (HS.out _ hB2);(try go_simp);refine hK.out _ _ ?_ (fun hHeld=>?_)
  · exact HS2.out
  clear hK Kq;(try simp only[N0]);refine wpAnyH_ready (rs:=[7]) (by kernel_rfl) (by simp) ?_;refine AllReadyH.cons (o:=_) rfl (fun Kq hK=>?_) AllReadyH.nil;go_simp;refine(deleteW_own (fun x=>hasI L x.1) 108 #[.pointer (some ⟨w.heap.size+1,0,none⟩)] v2 n' z1.heap.size ws z2 eg HO2.out HB2.out.size (fun x x1 hx1=>without1_any x (w.heap.size+1) Al nl cl L x1 (HC.out _ (below_via (HSB.out _ HS1.out) (HSZ.out _ HS1.out) (HB2.out.trans hx1))) (HCl.out _ (below_via (HSB.out _ HS1.out) (HSZ.out _ HS1.out) (HB2.out.trans hx1))) hnl)).mono ?_;rintro e z3 ⟨v3,m3,rfl,hw3,hb3⟩;have hB3:=Lib.hid (below_via (HSB.out _ HS1.out) (HSZ.out _ HS1.out) (HB2.out.trans hb3));have HO3:=Lib.hid hw3;have HB3:=Lib.hid (HB2.out.trans hb3);have hO3:=Lib.hid ((hb3.block _ (Nat.lt_of_lt_of_le (Array.getElem?_eq_some_iff.1 hO1.out).1 (Nat.le_refl _))).trans hO2.out);clear hb3 hw3;obtain⟨A3,c3,hv3⟩:=own_val HO3.out;obtain⟨A1,c1,hv1⟩:=own_val HO1.out;rw[hv3];obtain⟨g0,g1,f0,f1⟩:=two_facts hO3.out;(try go_simp);refine hK.out _ _ ?_ (fun hHeld=>?_)
  · exact HS.out _ hB3
  clear hK Kq;(try simp only[N0]);refine tY (v:=?_) 8 13 ?_ ?_;rotate_left
  · intro w hSw;rw[hSd] at hSw;obtain⟨⟨q0,q1⟩,-⟩:=hSw;go_simp;(try with_reducible rfl)
  (try simp only[N0]);refine wpAnyH_ready (rs:=[9]) (by kernel_rfl) (by simp) ?_;refine AllReadyH.cons (o:=_) rfl (fun Kq hK=>?_) AllReadyH.nil;go_simp;refine hK.out _ _ ?_ (fun hHeld=>?_)
  · exact HS.out _ (Lib.hid (((hB3.out).setCell (by simp) _).setCell (by simp) _))
  clear hK Kq;(try simp only[N0]);refine wpAnyH_done (by kernel_rfl) ?_ _;(go_wp2_with fail);have hbk:=set_two z3 (w.heap.size+2) 25 (.slice A1 n c1) (.slice A3 m3 c3) _ _ hO3.out;obtain⟨e0,e1,-,-⟩:=two_facts hbk;have hF:=HSB.out _ hHeld;have hz:=HZ3.out;have hz1:=HB1.out.size;have hzd:wz.drew.heap.size=wz.heap.size:=rfl;refine bodyPost_ret (v:=.agg #[.slice A1 n c1,.slice A3 m3 c3]) (by simp[results,Tryd.results85,go_sem,e0,e1]) rfl ⟨A1,c1,A3,m3,c3,rfl,?_,?_,HWZ.out.trans (hF.mono (by omega))⟩
  · have h1:=own_below HO1.out HB3.out;rw[hv1] at h1;exact own_mono (own_far (p:=⟨w.heap.size+2,1,none⟩) (own_far (p:=⟨w.heap.size+2,0,none⟩) h1 (by simp only;omega) _) (by simp only;omega) _) (by omega)
  · have h1:=HO3.out;rw[hv3] at h1;exact own_mono (own_far (p:=⟨w.heap.size+2,1,none⟩) (own_far (p:=⟨w.heap.size+2,0,none⟩) h1 (by simp only;omega) _) (by simp only;omega) _) (by omega)
end Go.Proofs.YtfplipbkjglmhaaDoor

namespace Go.Proofs.YtfplipbkjglmhaaDoor
open Go.RowKit
set_option linter.unusedVariables false
set_option linter.unusedSimpArgs false
section
variable {w wb z y:World} {A A':Option Addr} {n c n' c':Nat} {ps:List PR} {ws:List WE}
end
theorem set_back {y : World} {b : Nat} {t : TypeId} {v0 v1 : Value} (h : y.heap[b]? = some (.cells #[v0, v1] t (0, 0))) (u0 u1 : Value) :
    ((y.setCell ⟨b,0,none⟩ u0).setCell ⟨b,1,none⟩ u1).cell? ⟨b,0,none⟩=some u0∧((y.setCell ⟨b,0,none⟩ u0).setCell ⟨b,1,none⟩ u1).cell? ⟨b,1,none⟩=some u1:=by
  obtain⟨h0,h1,-,-⟩:=two_facts (set_two y b t u0 u1 _ _ h);exact⟨h0,h1⟩
theorem below_two{B:Nat}{a y:World}(h:Below B a y){b:Nat}(hb:B≤b)(u0 u1:Value):Below B a ((y.setCell ⟨b,0,none⟩ u0).setCell ⟨b,1,none⟩ u1):=(h.setCell hb u0).setCell hb u1
section
variable {w:World} {gb cap n:Nat} {ty:TypeId} {F:Nat→PR}
end
end Go.Proofs.YtfplipbkjglmhaaDoor
