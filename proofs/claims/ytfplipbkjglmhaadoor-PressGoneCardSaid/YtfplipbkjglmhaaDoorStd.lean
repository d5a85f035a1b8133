/-
  A press at work while it is started: its blocks, the two rows that grow.
-/
import Derived.Test.YtfplipbkjglmhaaDoorCst
import Derived.Test.YtfplipbkjglmhaaDoorPTw
namespace Go.Proofs.YtfplipbkjglmhaaDoor
open Go.RowKit
set_option linter.unusedVariables false
set_option linter.unusedSimpArgs false
/-- Where the parings of a place go. -/
def toT (ps:List PR) (i:Nat):Option Nat:=
  match ps[i]? with
  | some x=>if x.2.2.2=0 then none else some (idxP ps x.2.2.2).toNat
  | none=>none
/-- What is so ahead of all notes. -/
def base (ps:List PR) (i k:Nat):Sp:=if k=6∧(match ps[i]? with|some x=>decide (x.2.2.2=0)|none=>false)=true then(0,0) else(0,1000000)
/-- One note. -/
def note1 (ps:List PR) (x:WE) (R:Nat→Nat→Sp):Nat→Nat→Sp:=fun i k=>if(i:Int)=idxP ps x.2.1∧(k:Int)=x.2.2.1 then both (R i k) (x.2.2.2.1,x.2.2.2.2) else R i k
def rowsT (ps:List PR) (ws:List WE):Nat→Nat→Sp:=ws.foldl (fun R x=>note1 ps x R) (base ps)
theorem rowsT_take{ps:List PR}{ws:List WE}{m:Nat}{x:WE}(h:ws[m]? = some x):rowsT ps (ws.take (m+1))=note1 ps x (rowsT ps (ws.take m)):=by
  unfold rowsT;rw[List.take_add_one,h];simp
structure ValidF (ps:List PR) (ws:List WE):Prop where
  n10:ps.length≤10
  m30:ws.length≤30
  to_:∀(i:Nat) (x:PR),ps[i]? = some x→x.2.2.2=0∨(i:Int)<idxP ps x.2.2.2
  id1:∀(i:Nat) (x:PR),ps[i]? = some x→1≤x.1∧x.1≤9999
  inc:∀(i:Nat) (x y:PR),ps[i]? = some x→ps[i+1]? = some y→x.1<y.1
  w_:∀(m:Nat) (x:WE),ws[m]? = some x→0≤idxP ps x.2.1∧1≤x.2.2.1∧x.2.2.1≤6∧0≤x.2.2.2.1∧x.2.2.2.1≤1000000∧0≤x.2.2.2.2∧x.2.2.2.2≤1000000
theorem allW_at{ps:List PR}:∀{ws:List WE} {last:Int},allW ps last ws=true→∀(m:Nat) (x:WE),ws[m]? = some x→∃l,okW ps l x=true
  | [],_,_,m,x,h=>by simp at h
  | y::r,last,ha,m,x,h=>by
    simp only[allW,Bool.and_eq_true] at ha;cases m with
    | zero=>simp at h;subst h;exact⟨_,ha.1⟩
    | succ m=>exact allW_at ha.2 m x (by simpa using h)
theorem valid_facts{ps:List PR}{ws:List WE}(h:validP ps ws=true):ValidF ps ws:=by
  simp only[validP,Bool.and_eq_true,decide_eq_true_eq] at h;obtain⟨⟨⟨h1,h2⟩,h3⟩,h4⟩:=h;have hP:∀(i:Nat) (x:PR),ps[i]? = some x→okP ps i x=true:=by
    intro i x hx;have:=List.all_eq_true.1 h3 i (List.mem_range.2 (List.getElem?_eq_some_iff.1 hx).1);rw[hx] at this;exact this
  refine⟨h1,h2,fun i x hx=>?_,fun i x hx=>?_,fun i x y hx hy=>?_,fun m x hx=>?_⟩
  · have:=hP i x hx;simp only[okP,okTo,Bool.and_eq_true,Bool.or_eq_true,decide_eq_true_eq] at this;exact this.2
  · have:=hP i x hx;simp only[okP,Bool.and_eq_true] at this;exact rng_iff this.1.1.1.1
  · have:=hP (i+1) y hy;simp only[okP,okPrev,hx,Bool.and_eq_true,decide_eq_true_eq] at this;exact this.1.2.1
  · obtain⟨l,hl⟩:=allW_at h4 m x hx;simp only[okW,Bool.and_eq_true,decide_eq_true_eq] at hl;obtain⟨⟨⟨⟨⟨⟨-,-⟩,a⟩,b⟩,c⟩,d⟩,e⟩:=hl;have:=rng_iff b;have:=rng_iff c;have:=rng_iff d;omega
section
variable {ps:List PR} {ws:List WE}
theorem ValidF.fwd(h:ValidF ps ws):Fwd ps.length (toT ps):=by
  intro i k hi ht;unfold toT at ht;rw[List.getElem?_eq_getElem hi] at ht;have h1:=h.to_ i _ (List.getElem?_eq_getElem hi);have hb:=idxP_bound ps (ps[i]).2.2.2;simp only at ht;split at ht
  · cases ht
  · cases ht;rcases h1 with h0|h0
    · contradiction
    · omega
/-- The notes leave numbers from 0 to most. -/
theorem ValidF.inr(h:ValidF ps ws):∀m,∀i k,0≤(rowsT ps (ws.take m) i k).1∧(rowsT ps (ws.take m) i k).1≤1000000∧0≤(rowsT ps (ws.take m) i k).2∧(rowsT ps (ws.take m) i k).2≤1000000
  | 0,i,k=>by
    have:rowsT ps (ws.take 0) i k=(0,0)∨rowsT ps (ws.take 0) i k=(0,1000000):=by
      simp only[List.take_zero,rowsT,List.foldl_nil];unfold base;generalize (match ps[i]? with|some x=>decide (x.2.2.2=0)|none=>false)=c;by_cases h:k=6∧c=true
      · rw[if_pos h];exact Or.inl rfl
      · rw[if_neg h];exact Or.inr rfl
    rcases this with e|e<;>rw[e]<;>simp
  | m+1,i,k=>by
    cases hx:ws[m]? with
    | none=>
      have hl:=List.getElem?_eq_none_iff.1 hx;have ih:=h.inr m i k;rw[List.take_of_length_le (by omega)];rw[List.take_of_length_le (by omega)] at ih;exact ih
    | some x=>
      have ih:=h.inr m i k;have hw:=h.w_ m x hx;rw[rowsT_take hx];unfold note1;split
      · simp only[both];omega
      · exact ih
theorem ValidF.smr(h:ValidF ps ws)(m:Nat):SmR (rowsT ps (ws.take m)) ps.length:=by
  intro i k hi hk;have:=h.inr m i k;omega
theorem toV_toT(h:ValidF ps ws){i:Nat}{x:PR}(hx:ps[i]? = some x):toV (toT ps) i=if x.2.2.2=0 then -1 else idxP ps x.2.2.2:=by
  unfold toV toT;rw[hx];have h1:=h.to_ i x hx;by_cases h0:x.2.2.2=0
  · simp[h0]
  · simp only[h0,if_false];have:(i:Int)<idxP ps x.2.2.2:=h1.resolve_left h0;omega
end
end Go.Proofs.YtfplipbkjglmhaaDoor

namespace Go.Proofs.YtfplipbkjglmhaaDoor
open Go.RowKit
set_option linter.unusedVariables false
set_option linter.unusedSimpArgs false
theorem tos_succ(t:Nat→Option Nat)(n:Nat):ints (tos t (n+1))=ints (tos t n)++ints [toV t n]:=by
  simp[tos,ints,List.range_succ]
theorem rws_succ(R:Nat→Nat→Sp)(n:Nat):rws R (n+1)=rws R n++rowc (R n):=by
  simp[rws,List.range_succ]
theorem rowc_one(f:Nat→Sp):∀u∈rowc f,u.oneCell'=true:=by
  intro u hu;simp[rowc] at hu;rcases hu with rfl|rfl|rfl|rfl|rfl|rfl|rfl|rfl|rfl|rfl|rfl|rfl|rfl|rfl<;>rfl
theorem setCell_same(w:World)(b o:Nat)(v:Value){cs:Array Value}{t:TypeId}(h:w.heap[b]? = some (.cells cs t (0,0)))(hv:cs[o]? = some v):(w.setCell ⟨b,o,none⟩ v).heap[b]? = w.heap[b]?:=by
  have hs:cs.setIfInBounds o v=cs:=by
    apply Array.ext_getElem?
    intro i;rw[Array.getElem?_setIfInBounds];split
    · rename_i e;subst e;split
      · exact hv.symm
      · rename_i hn;rw[Array.getElem?_eq_none (by omega)]
    · rfl
  simp[World.setCell,Array.getElem?_modify,h,hs]
/-- The state while a press is started: kt places are in the one row, kr in the other. -/
structure Std (w wr:World) (vp vw vt vr:Value) (kt kr:Nat) (t:Nat→Option Nat) (R:Nat→Nat→Sp):Prop where
  b1:wr.heap[w.heap.size]? = some (.cells #[vp,vw] 25 (0,0))
  m:wr.heap[w.heap.size+1]? = some (.cells #[vp,vw,vt,vr,.slice none 0 0,.slice none 0 0] 111 (0,0))
  to_:wr.ownsRow (w.heap.size+2) 3 1 vt kt (ints (tos t kt))
  rows:wr.ownsRow (w.heap.size+2) 107 14 vr kr (rws R kr)
  bel:Below w.heap.size w wr
  sz:w.heap.size+2≤wr.heap.size
section
variable {w wr wz:World} {vp vw vt vr:Value} {kt kr:Nat} {t:Nat→Option Nat} {R:Nat→Nat→Sp}
theorem Std.below(h:Std w wr vp vw vt vr kt kr t R)(hb:Below wr.heap.size wr wz):Std w wz vp vw vt vr kt kr t R where
  b1:=keepO hb h.b1
  m:=keepO hb h.m
  to_:=ownR_below h.to_ hb
  rows:=ownR_below h.rows hb
  bel:=h.bel.trans (hb.mono h.bel.size)
  sz:=Nat.le_trans h.sz hb.size
theorem Std.drew(h:Std w wr vp vw vt vr kt kr t R):Std w wr.drew vp vw vt vr kt kr t R:=h.below (Below.refl _ _).drew
theorem Std.cells (h : Std w wr vp vw vt vr kt kr t R) : wr.cell? ⟨w.heap.size, 0, none⟩ = some vp ∧ wr.cell? ⟨w.heap.size, 1, none⟩ = some vw ∧ wr.cell? ⟨w.heap.size + 1, 0, none⟩ = some vp ∧ wr.cell? ⟨w.heap.size + 1, 1, none⟩ = some vw ∧
    wr.cell? ⟨w.heap.size+1,2,none⟩=some vt∧wr.cell? ⟨w.heap.size+1,3,none⟩=some vr∧wr.frozen? ⟨w.heap.size+1,2,none⟩=false∧wr.frozen? ⟨w.heap.size+1,3,none⟩=false:=by
  have h1:=h.b1;have h2:=h.m;refine⟨?_,?_,?_,?_,?_,?_,?_,?_⟩
  · simp[World.cell?,h1]
  · simp[World.cell?,h1]
  · simp[World.cell?,h2]
  · simp[World.cell?,h2]
  · simp[World.cell?,h2]
  · simp[World.cell?,h2]
  · simp[World.frozen?,h2]
  · simp[World.frozen?,h2]
/-- Some cells of another block are stored. -/
theorem Std.far(h:Std w wr vp vw vt vr kt kr t R){p:Addr}(hp:w.heap.size+2≤p.block)(ht:∀q,vt.ownBlock=some q→q≠p.block)(hr:∀q,vr.ownBlock=some q→q≠p.block)(u:Value):Std w (wr.setCell p u) vp vw vt vr kt kr t R where
  b1:=by rw[Below.heap_setCell _ _ _ _ (by omega)];exact h.b1
  m:=by rw[Below.heap_setCell _ _ _ _ (by omega)];exact h.m
  to_:=ownR_block h.to_ fun q hq=>Below.heap_setCell _ _ _ _ (ht q hq)
  rows:=ownR_block h.rows fun q hq=>Below.heap_setCell _ _ _ _ (hr q hq)
  bel:=h.bel.setCell (by omega) u
  sz:=by simpa using h.sz
theorem Std.grewT{wA:World}(h:Std w wr vp vw vt vr kt kr t R)(hg:wr.grownBy wA vt.ownBlock):wA.cell? ⟨w.heap.size+1,2,none⟩=some vt∧wA.frozen? ⟨w.heap.size+1,2,none⟩=false:=by
  have hm:wA.heap[w.heap.size+1]? = _:=(hg.block _ (by have:=h.sz;omega) (fun e=>by have:=(ownR_lt h.to_ e.symm).1;omega)).trans h.m;exact⟨by simp[World.cell?,hm],by simp[World.frozen?,hm]⟩
theorem Std.grewR{wA:World}(h:Std w wr vp vw vt vr kt kr t R)(hg:wr.grownBy wA vr.ownBlock):wA.cell? ⟨w.heap.size+1,3,none⟩=some vr∧wA.frozen? ⟨w.heap.size+1,3,none⟩=false:=by
  have hm:wA.heap[w.heap.size+1]? = _:=(hg.block _ (by have:=h.sz;omega) (fun e=>by have:=(ownR_lt h.rows e.symm).1;omega)).trans h.m;exact⟨by simp[World.cell?,hm],by simp[World.frozen?,hm]⟩
theorem Std.appT {wA : World} {v' : Value} (h : Std w wr vp vw vt vr kt kr t R) (ho : wA.ownsRow (w.heap.size + 2) 3 1 v' (kt + 1) (ints (tos t kt) ++ ints [toV t kt])) (hg : wr.grownBy wA vt.ownBlock) :
    Std w (wA.setCell ⟨w.heap.size+1,2,none⟩ v') vp vw v' vr (kt+1) kr t R:=by
  have hz:=h.sz;have hno:∀q,q<w.heap.size+2→¬vt.ownBlock=some q:=fun q hq e=>(by have:=(ownR_lt h.to_ e).1;omega);have hm:wA.heap[w.heap.size+1]? = some (.cells #[vp,vw,vt,vr,.slice none 0 0,.slice none 0 0] 111 (0,0)):=(hg.block _ (by omega) (fun e=>hno _ (by omega) e.symm)).trans h.m;have hb:wA.heap[w.heap.size]? = _:=(hg.block _ (by omega) (fun e=>hno _ (by omega) e.symm)).trans h.b1;have hr:=own_grown h.rows hg (own_ap1 h.to_ h.rows);refine⟨?_,?_,ownR_block (by rw[tos_succ];exact ho) fun q hq=>?_,ownR_block hr fun q hq=>?_,?_,?_⟩
  · rw[Below.heap_setCell _ _ _ _ (by simp)];exact hb
  · simp[World.setCell,Array.getElem?_modify,hm]
  · have:=(ownR_lt ho hq).1;exact Below.heap_setCell _ _ _ _ (by simp only;omega)
  · have:=(ownR_lt hr hq).1;exact Below.heap_setCell _ _ _ _ (by simp only;omega)
  · exact(h.bel.grown hg h.bel.size (fun q hq=>by have:=(ownR_lt h.to_ hq).1;omega)).setCell (by simp) _
  · have:=hg.size;simp;omega
theorem Std.appR {wA : World} {v' : Value} (h : Std w wr vp vw vt vr kt kr t R) (ho : wA.ownsRow (w.heap.size + 2) 107 14 v' (kr + 1) (rws R kr ++ rowc (R kr))) (hg : wr.grownBy wA vr.ownBlock) :
    Std w (wA.setCell ⟨w.heap.size+1,3,none⟩ v') vp vw vt v' kt (kr+1) t R:=by
  have hz:=h.sz;have hno:∀q,q<w.heap.size+2→¬vr.ownBlock=some q:=fun q hq e=>(by have:=(ownR_lt h.rows e).1;omega);have hm:wA.heap[w.heap.size+1]? = some (.cells #[vp,vw,vt,vr,.slice none 0 0,.slice none 0 0] 111 (0,0)):=(hg.block _ (by omega) (fun e=>hno _ (by omega) e.symm)).trans h.m;have hb:wA.heap[w.heap.size]? = _:=(hg.block _ (by omega) (fun e=>hno _ (by omega) e.symm)).trans h.b1;have ht:=own_grown h.to_ hg (own_ap1 h.rows h.to_);refine⟨?_,?_,ownR_block ht fun q hq=>?_,ownR_block (by rw[rws_succ];exact ho) fun q hq=>?_,?_,?_⟩
  · rw[Below.heap_setCell _ _ _ _ (by simp)];exact hb
  · simp[World.setCell,Array.getElem?_modify,hm]
  · have:=(ownR_lt ht hq).1;exact Below.heap_setCell _ _ _ _ (by simp only;omega)
  · have:=(ownR_lt ho hq).1;exact Below.heap_setCell _ _ _ _ (by simp only;omega)
  · exact(h.bel.grown hg h.bel.size (fun q hq=>by have:=(ownR_lt h.rows hq).1;omega)).setCell (by simp) _
  · have:=hg.size;simp;omega
end
section
variable {w wr wz:World} {vp vw vt vr:Value} {kt kr:Nat} {t:Nat→Option Nat} {R:Nat→Nat→Sp}
theorem Std.same(h:Std w wr vp vw vt vr kt kr t R)(hh:∀q:Nat,wz.heap[q]? = wr.heap[q]?)(hos:wz.os=wr.os)(htp:wz.tape=wr.tape)(hou:wz.output=wr.output):Std w wz vp vw vt vr kt kr t R:=by
  have hb:Below wr.heap.size wr wz:=⟨hos,htp,hou,by
    rcases Nat.eq_zero_or_pos wr.heap.size with h0|h0
    · omega
    · have h1:=hh (wr.heap.size - 1);rw[Array.getElem?_eq_getElem (show wr.heap.size - 1<wr.heap.size by omega)] at h1;have:=(Array.getElem?_eq_some_iff.1 h1).1
      omega,fun q _=>hh q⟩
  exact h.below hb
end
theorem ownR_ne{w:World}{base:Nat}{e t:TypeId}{size n b:Nat}{v:Value}{xs:List Value}{cs:Array Value}{fz:Nat×Nat}(h:w.ownsRow base e size v n xs)(hb:w.heap[b]? = some (.cells cs t fz))(ht:t≠e:=by decide):∀q,v.ownBlock=some q→q≠b:=by
  rintro q hq rfl;rcases h.2 with ⟨h0,-⟩|⟨g1,cap1,cur1,h1,-,h3,-⟩
  · rw[h0] at hq;cases hq
  · rw[h1] at hq;simp only[Value.ownBlock,Option.some.injEq] at hq;subst hq;rw[h3] at hb;injection hb with hb;injection hb with _ h5;exact ht h5.symm
theorem rd_one{w:World}{b:Nat}{u:Int}{t:TypeId}(h:w.heap[b]? = some (.cells #[.int .i64 u] t (0,0))):Reads w w.heap.size 1 (some ⟨b,0,none⟩) 1 (ints [u]):=by
  refine⟨rfl,fun _=>⟨b,0,rfl,(Array.getElem?_eq_some_iff.1 h).1,fun j u hu=>?_⟩⟩;have hj:j<1:=(List.getElem?_eq_some_iff.1 hu).1;obtain rfl:j=0:=(by omega);simp[ints] at hu;subst hu;simp[World.cell?,h]
theorem rd_row{w:World}{b:Nat}{f:Nat→Sp}(h:w.heap[b]? = some (.cells #[.int .i64 (f 0).1,.int .i64 (f 0).2,.int .i64 (f 1).1,.int .i64 (f 1).2,.int .i64 (f 2).1,.int .i64 (f 2).2,.int .i64 (f 3).1,.int .i64 (f 3).2,.int .i64 (f 4).1,.int .i64 (f 4).2,.int .i64 (f 5).1,.int .i64 (f 5).2,.int .i64 (f 6).1,.int .i64 (f 6).2] 107 (0,0))):Reads w w.heap.size 14 (some ⟨b,0,none⟩) 1 (rowc f):=by
  refine⟨rfl,fun _=>⟨b,0,rfl,(Array.getElem?_eq_some_iff.1 h).1,fun j u hu=>?_⟩⟩;have hj:j<14:=(List.getElem?_eq_some_iff.1 hu).1;rcases (by omega:j=0∨j=1∨j=2∨j=3∨j=4∨j=5∨j=6∨j=7∨j=8∨j=9∨j=10∨j=11∨j=12∨j=13) with rfl|rfl|rfl|rfl|rfl|rfl|rfl|rfl|rfl|rfl|rfl|rfl|rfl|rfl <;>
  · simp[rowc] at hu;subst hu;simp[World.cell?,h]
/-- A row while its ends are laid. -/
def kf (j q:Nat):Sp:=if q<j then(0,1000000) else(0,0)
theorem kf_step{w:World}{b j:Nat}(hj:j<7)(h:w.heap[b]? = some (.cells #[.int .i64 (kf j 0).1,.int .i64 (kf j 0).2,.int .i64 (kf j 1).1,.int .i64 (kf j 1).2,.int .i64 (kf j 2).1,.int .i64 (kf j 2).2,.int .i64 (kf j 3).1,.int .i64 (kf j 3).2,.int .i64 (kf j 4).1,.int .i64 (kf j 4).2,.int .i64 (kf j 5).1,.int .i64 (kf j 5).2,.int .i64 (kf j 6).1,.int .i64 (kf j 6).2] 107 (0,0))):(w.setCell ⟨b,j*2+1,none⟩ (.int .i64 1000000)).heap[b]? = some (.cells #[.int .i64 (kf (j+1) 0).1,.int .i64 (kf (j+1) 0).2,.int .i64 (kf (j+1) 1).1,.int .i64 (kf (j+1) 1).2,.int .i64 (kf (j+1) 2).1,.int .i64 (kf (j+1) 2).2,.int .i64 (kf (j+1) 3).1,.int .i64 (kf (j+1) 3).2,.int .i64 (kf (j+1) 4).1,.int .i64 (kf (j+1) 4).2,.int .i64 (kf (j+1) 5).1,.int .i64 (kf (j+1) 5).2,.int .i64 (kf (j+1) 6).1,.int .i64 (kf (j+1) 6).2] 107 (0,0)):=by
  rcases (by omega:j=0∨j=1∨j=2∨j=3∨j=4∨j=5∨j=6) with rfl|rfl|rfl|rfl|rfl|rfl|rfl <;>
  · simp[World.setCell,Array.getElem?_modify,h,kf]
theorem kf_six{w:World}{b:Nat}{f:Nat→Sp}(hf:∀q,q<7→f q=if q=6 then(0,0) else(0,1000000))(h:w.heap[b]? = some (.cells #[.int .i64 (kf 7 0).1,.int .i64 (kf 7 0).2,.int .i64 (kf 7 1).1,.int .i64 (kf 7 1).2,.int .i64 (kf 7 2).1,.int .i64 (kf 7 2).2,.int .i64 (kf 7 3).1,.int .i64 (kf 7 3).2,.int .i64 (kf 7 4).1,.int .i64 (kf 7 4).2,.int .i64 (kf 7 5).1,.int .i64 (kf 7 5).2,.int .i64 (kf 7 6).1,.int .i64 (kf 7 6).2] 107 (0,0))):(w.setCell ⟨b,13,none⟩ (.int .i64 0)).heap[b]? = some (.cells #[.int .i64 (f 0).1,.int .i64 (f 0).2,.int .i64 (f 1).1,.int .i64 (f 1).2,.int .i64 (f 2).1,.int .i64 (f 2).2,.int .i64 (f 3).1,.int .i64 (f 3).2,.int .i64 (f 4).1,.int .i64 (f 4).2,.int .i64 (f 5).1,.int .i64 (f 5).2,.int .i64 (f 6).1,.int .i64 (f 6).2] 107 (0,0)):=by
  rw[hf 0 (by omega),hf 1 (by omega),hf 2 (by omega),hf 3 (by omega),hf 4 (by omega),hf 5 (by omega),hf 6 (by omega)];simp[World.setCell,Array.getElem?_modify,h,kf]
theorem kf_all{w:World}{b:Nat}{f:Nat→Sp}(hf:∀q,q<7→f q=(0,1000000))(h:w.heap[b]? = some (.cells #[.int .i64 (kf 7 0).1,.int .i64 (kf 7 0).2,.int .i64 (kf 7 1).1,.int .i64 (kf 7 1).2,.int .i64 (kf 7 2).1,.int .i64 (kf 7 2).2,.int .i64 (kf 7 3).1,.int .i64 (kf 7 3).2,.int .i64 (kf 7 4).1,.int .i64 (kf 7 4).2,.int .i64 (kf 7 5).1,.int .i64 (kf 7 5).2,.int .i64 (kf 7 6).1,.int .i64 (kf 7 6).2] 107 (0,0))):w.heap[b]? = some (.cells #[.int .i64 (f 0).1,.int .i64 (f 0).2,.int .i64 (f 1).1,.int .i64 (f 1).2,.int .i64 (f 2).1,.int .i64 (f 2).2,.int .i64 (f 3).1,.int .i64 (f 3).2,.int .i64 (f 4).1,.int .i64 (f 4).2,.int .i64 (f 5).1,.int .i64 (f 5).2,.int .i64 (f 6).1,.int .i64 (f 6).2] 107 (0,0)):=by
  rw[hf 0 (by omega),hf 1 (by omega),hf 2 (by omega),hf 3 (by omega),hf 4 (by omega),hf 5 (by omega),hf 6 (by omega)];simpa [kf] using h
theorem base_some{ps:List PR}{i:Nat}{x:PR}(hx:ps[i]? = some x)(h0:¬x.2.2.2=0):∀q,q<7→base ps i q=(0,1000000):=by
  intro q _;unfold base;simp[hx,h0]
theorem base_none{ps:List PR}{i:Nat}{x:PR}(hx:ps[i]? = some x)(h0:x.2.2.2=0):∀q,q<7→base ps i q=if q=6 then(0,0) else(0,1000000):=by
  intro q _;unfold base;simp[hx,h0]
theorem toV_idx{ps:List PR}{ws:List WE}(h:ValidF ps ws){i:Nat}{x:PR}(hx:ps[i]? = some x):toV (toT ps) i=idxP ps x.2.2.2:=by
  rw[toV_toT h hx];split
  · rename_i h0;rw[h0];refine(idxP_none fun j y hy=>?_).symm;have:=h.id1 j y hy;unfold isId;rw[beq_eq_false_iff_ne];omega
  · rfl
/-- A press at work, of the call's own memory. -/
structure MO (w':World) (mb n:Nat) (vp vw:Value) (t:Nat→Option Nat) (R:Nat→Nat→Sp) (At Ar Au:Option Addr) (ct cr cu gI:Nat):Prop where
  m:w'.heap[mb]? = some (.cells #[vp,vw,.slice At n ct,.slice Ar n cr,.slice Au n cu,.slice (some ⟨gI,0,none⟩) n n] 111 (0,0))
  to_:w'.ownsRow (mb+1) 3 1 (.slice At n ct) n (ints (tos t n))
  rows:w'.ownsRow (mb+1) 107 14 (.slice Ar n cr) n (rws R n)
  up:w'.ownsRow (mb+1) 36 2 (.slice Au n cu) n (sps (upP t R) n)
  into:RowOf w' gI 36 2 n spc n (intoP t R)
  g:mb<gI
theorem rd_spans{w:World}{gI n:Nat}{I:Nat→Sp}(h:RowOf w gI 36 2 n spc n I):Reads w w.heap.size 2 (some ⟨gI,0,none⟩) n (sps I n):=by
  refine⟨sps_len I n,fun _=>⟨gI,0,rfl,h.lt,fun j u hu=>?_⟩⟩;have hj:j<n*2:=(by rw[←sps_len I n];exact(List.getElem?_eq_some_iff.1 hu).1);have hd:j=j/2*2+j%2:=(by omega);have e:=flat_get (fun i=>spc (I i)) 2 (fun _=>rfl) (List.range n) (j/2) (j%2) (by omega);have hr:(List.range n)[j/2]? = some (j/2):=(by rw[List.getElem?_range (by omega)]);rw[hr,←hd] at e;have hu':(spc (I (j/2)))[j%2]? = some u:=(by rw[←hu];exact e.symm);have:=h.cell (fun _=>rfl) (Nat.le_refl _) (k:=j/2) (by omega) hu';rw[←hd] at this;simpa using this
theorem MO.mr{w':World}{mb n:Nat}{vp vw:Value}{t:Nat→Option Nat}{R:Nat→Nat→Sp}{At Ar Au:Option Addr}{ct cr cu gI:Nat}(h:MO w' mb n vp vw t R At Ar Au ct cr cu gI):MR w' mb n t R (upP t R) (intoP t R) At Ar Au (some ⟨gI,0,none⟩) ct cr cu n:=by
  have hm:=h.m;refine⟨(Array.getElem?_eq_some_iff.1 hm).1,?_,?_,?_,?_,.of_own h.to_,.of_own h.rows,.of_own h.up,rd_spans h.into⟩<;>simp[World.cell?,hm]
end Go.Proofs.YtfplipbkjglmhaaDoor
