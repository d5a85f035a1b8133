/-
 The verifier's own walk to weights by choices, within their notes, with which just so much is missing at pressings.
-/
import Derived.Test.YtfplipbkjglmhaaDoorRNt
import Derived.Test.YtfplipbkjglmhaaDoorStart
import Derived.Test.YtfplipbkjglmhaaDoorChg
import Derived.Test.YtfplipbkjglmhaaDoorAsk
import Derived.Test.YtfplipbkjglmhaaDoorRdy
import Derived.Test.YtfplipbkjglmhaaDoorYld
import Derived.Test.YtfplipbkjglmhaaDoorFir
import Derived.Test.YtfplipbkjglmhaaDoorUnd
import Derived.Test.YtfplipbkjglmhaaDoorTk
import Derived.Test.YtfplipbkjglmhaaDoorTq
import Derived.Test.YtfplipbkjglmhaaDoorGonD
namespace Go.Proofs.YtfplipbkjglmhaaDoor
open Go.RowKit
set_option linter.unusedVariables false
set_option linter.unusedSimpArgs false
/-- A weight that goes into a pressing, or comes out of it: the pressing, the kind, the sign, what it can be. -/
abbrev TM:=Int×Int×Int×Int×Int
def tmc (x:TM):List Value:=[.int .i64 x.1,.int .i64 x.2.1,.int .i64 x.2.2.1,.int .i64 x.2.2.2.1,.int .i64 x.2.2.2.2]
def tms (l:List TM):List Value:=l.flatMap tmc
theorem tms_len:∀l:List TM,(tms l).length=l.length*5
 |[]=>rfl
 |x::r=>by have:=tms_len r;simp only[tms,List.flatMap_cons,List.length_append,List.length_cons] at this ⊢;rw[this];simp[tmc];omega
def addT (s:Sp) (x:TM):Sp:=if x.2.2.1 > 0 then(s.1+x.2.2.2.1,s.2+x.2.2.2.2) else(s.1 - x.2.2.2.2,s.2 - x.2.2.2.1)
def sumS (l:List TM):Sp:=l.foldl addT (0,0)
theorem sumS_snoc(l:List TM)(x:TM):sumS (l ++ [x])=addT (sumS l) x:=by unfold sumS;rw[List.foldl_append];rfl
/-- Terms that are small enough to be summed. -/
def TmB (l:List TM):Prop:=∀x∈l,-1000000≤x.2.2.2.1∧x.2.2.2.1≤1000000∧-1000000≤x.2.2.2.2∧x.2.2.2.2≤1000000
theorem sumS_take{l:List TM}(h:TmB l):∀t,t≤l.length→-(1000000*(t:Int))≤(sumS (l.take t)).1∧(sumS (l.take t)).1≤1000000*(t:Int)∧-(1000000*(t:Int))≤(sumS (l.take t)).2∧(sumS (l.take t)).2≤1000000*(t:Int)
 |0,_=>by simp[sumS]
 |t+1,ht=>by
  have ih:=sumS_take h t (by omega);have hx:=List.getElem?_eq_getElem (show t<l.length by omega);have hb:=h _ (List.getElem_mem (show t<l.length by omega));rw[List.take_add_one,hx,Option.toList_some,sumS_snoc];unfold addT;split<;>simp only<;>omega
structure SM (w z:World) (s:Sp):Prop where
 r0:z.heap[w.heap.size]? = some (.cells #[.int .i64 0,.int .i64 0] 36 (0,0))
 s0:z.heap[w.heap.size+1]? = some (.cells #[.int .i64 s.1,.int .i64 s.2] 36 (0,0))
 bel:Below w.heap.size w z
theorem SM.below{w z y:World}{s:Sp}(h:SM w z s)(hb:Below z.heap.size z y):SM w y s:=⟨keepO hb h.r0,keepO hb h.s0,below_via h.bel h.bel.size hb⟩
theorem SM.set{w z:World}{s:Sp}(h:SM w z s)(a b:Int):SM w ((z.setCell ⟨w.heap.size+1,0,none⟩ (.int .i64 a)).setCell ⟨w.heap.size+1,1,none⟩ (.int .i64 b)) (a,b):=
 ⟨(heap_sets2 z (w.heap.size+1) w.heap.size _ _ (by omega)).trans h.r0,set_two z _ _ _ _ _ _ h.s0,(h.bel.setCell (p:=⟨w.heap.size+1,0,none⟩) (by simp only;omega) _).setCell (p:=⟨w.heap.size+1,1,none⟩) (by simp only;omega) _⟩
set_option maxRecDepth 100000 in
set_option maxHeartbeats 4000000 in
theorem sum_any(A:Option Addr)(m c:Nat)(l:List TM)(w:World)(hm:m≤100)(hT:TmB l)(hR:Reads w w.heap.size 5 A m (tms l)) :
  Calls Tryd.prog 60 #[.slice A m c] w fun e w'=>e = .returned (.agg #[.int .i64 (sumS l).1,.int .i64 (sumS l).2])∧Below w.heap.size w w':=by
 have hl:l.length=m:=by
  have h:=hR.1;rw[tms_len] at h;omega
 have hlh:=Lib.hid hl;have hTh:=Lib.hid hT;have HRd:=Lib.hid (fun z (hz:Below w.heap.size w z)=>(hR.below hz).more hz.size);have hS0:Hid (SM w ((w.alloc (.cells #[.int .i64 0,.int .i64 0] 36)).alloc (.cells #[.int .i64 0,.int .i64 0] 36)) (0,0)):=by
  refine⟨?_,?_,((Below.refl _ _).alloc (Nat.le_refl _) _).alloc (by simp) _⟩
  ·rw[heap_lt_alloc' _ _ _ (by simp)];exact heap_alloc_new w _
  ·have:=heap_alloc_new (w.alloc (.cells #[.int .i64 0,.int .i64 0] 36)) (.cells #[.int .i64 0,.int .i64 0] 36);simpa using this
 clear hR hT hl
 go_enter Tryd.func60,Tryd.ntmps60
 go_wp2_with fail
 obtain⟨wb,hwb⟩:∃wb,wb=(w.alloc (.cells #[.int .i64 0,.int .i64 0] 36)).alloc (.cells #[.int .i64 0,.int .i64 0] 36):=⟨_,rfl⟩;rw[←hwb] at hS0 ⊢;clear hwb;go_loopw [8] (fun u wr=>∃wl,wl=wr∧∃t:Nat,t≤m∧u = .int .i64 t∧Hid (SM w wl (sumS (l.take t)))) (fun u _=>m - (intOf u).toNat)
 case atStart=>exact⟨_,rfl,0,Nat.zero_le _,rfl,hS0⟩
 case round=>
  obtain⟨wr,rfl,t,ht,rfl,HS⟩:=hrel;by_cases htn:t<m
  ·have hti:(t:Int)<(m:Int):=(by omega);have ht0:(0:Int)≤(t:Int):=(by omega);obtain⟨b,o,x,hAe,hblt,hx,hc⟩:=Reads.rec_at (f:=tmc) (m:=5) (fun _=>rfl) (by omega) (HRd.out _ HS.out.bel) htn;obtain⟨I,K,sg,L,H⟩:=x;have hbx:=hTh.out _ (List.mem_of_getElem? hx);have hst:sumS (l.take (t+1))=addT (sumS (l.take t)) (I,K,sg,L,H):=(by rw[List.take_add_one,hx,Option.toList_some,sumS_snoc]);obtain⟨b1,b2,b3,b4⟩:=sumS_take hTh.out t (by rw[hlh.out];omega);obtain⟨s,hs_⟩:∃s,s=sumS (l.take t):=⟨_,rfl⟩;rw[←hs_] at b1 b2 b3 b4 hst HS;have hsth:=Lib.hid hst;subst hAe;have y0:wr.cell? ⟨b,o+t*5,none⟩=some (.int .i64 I):=(by have h:=hc 0 _ rfl;simpa [Nat.add_assoc] using h);have y1:wr.cell? ⟨b,o+t*5+1,none⟩=some (.int .i64 K):=(by have h:=hc 1 _ rfl;simpa [Nat.add_assoc] using h);have y2:wr.cell? ⟨b,o+t*5+2,none⟩=some (.int .i64 sg):=(by have h:=hc 2 _ rfl;simpa [Nat.add_assoc] using h);have y3:wr.cell? ⟨b,o+t*5+3,none⟩=some (.int .i64 L):=(by have h:=hc 3 _ rfl;simpa [Nat.add_assoc] using h);have y4:wr.cell? ⟨b,o+t*5+4,none⟩=some (.int .i64 H):=(by have h:=hc 4 _ rfl;simpa [Nat.add_assoc] using h);obtain⟨g1,g2,g3,g4⟩:=hbx;simp only at g1 g2 g3 g4;clear hs_ hst hx hc;obtain⟨wk,hwk_⟩:∃wk,wk=wr.alloc (.cells #[.int .i64 I,.int .i64 K,.int .i64 sg,.int .i64 L,.int .i64 H] 117):=⟨_,rfl⟩;obtain⟨xb,hxb_⟩:∃xb,xb=wr.heap.size:=⟨_,rfl⟩;have hb:Below wr.heap.size wr wk:=(by rw[hwk_];exact(Below.refl _ _).alloc (Nat.le_refl _) _);have hXk:wk.heap[xb]? = some (.cells #[.int .i64 I,.int .i64 K,.int .i64 sg,.int .i64 L,.int .i64 H] 117 (0,0)):=by rw[hwk_,hxb_];exact heap_alloc_new _ _
   have HSk:=Lib.hid (HS.out.below hb);have hwk:=Lib.hid hwk_;have hxb:=Lib.hid hxb_;have hXh:=Lib.hid hXk;clear hwk_ hxb_ hb hXk HS
   go_upto_region 5 with (fail)
   rw[←hwk.out,←hxb.out];clear hwk hxb y0 y1 y2 y3 y4;obtain⟨x0,x1,x2,x3,x4⟩:=facts5 hXh.out;obtain⟨s0,s1,-,-⟩:=two_facts HSk.out.s0;by_cases hsg:sg > 0
   ·have w1:IntKind.i64.wrap (s.1+L)=s.1+L:=IntWalk.i64_in _ (by omega);have w2:IntKind.i64.wrap (s.2+H)=s.2+H:=IntWalk.i64_in _ (by omega);have hsd:decide (sg > 0)=true:=(by simpa using hsg);have hnx:Hid (sumS (l.take (t+1))=(s.1+L,s.2+H)):=(by show _=_;rw[hsth.out];unfold addT;rw[if_pos hsg]);clear hsth;(go_wp2_with fail);clear x0 x1 x2 x3 x4 s0 s1;refine(span_mk (s.1+L) (s.2+H) wk).mono ?_;rintro e z ⟨rfl,hb⟩;have HSz:=Lib.hid (HSk.out.below hb);obtain⟨s0,s1,f0,f1⟩:=two_facts HSz.out.s0;have HS2:=Lib.hid (HSz.out.set (s.1+L) (s.2+H));clear hb HSk;go_wp2;go_roundw
    case rel=>exact⟨_,rfl,t+1,by omega,by go_num,by rw[hnx.out];exact HS2⟩
    case measure=>simp[intOf];omega
   ·have w1:IntKind.i64.wrap (s.1 - H)=s.1 - H:=IntWalk.i64_in _ (by omega);have w2:IntKind.i64.wrap (s.2 - L)=s.2 - L:=IntWalk.i64_in _ (by omega);have hsd:decide (sg > 0)=false:=(by simpa using hsg);have hnx:Hid (sumS (l.take (t+1))=(s.1 - H,s.2 - L)):=(by show _=_;rw[hsth.out];unfold addT;rw[if_neg hsg]);clear hsth hsg;(go_wp2_with fail);clear x0 x1 x2 x3 x4 s0 s1;refine(span_mk (s.1 - H) (s.2 - L) wk).mono ?_;rintro e z ⟨rfl,hb⟩;have HSz:=Lib.hid (HSk.out.below hb);obtain⟨s0,s1,f0,f1⟩:=two_facts HSz.out.s0;have HS2:=Lib.hid (HSz.out.set (s.1 - H) (s.2 - L));clear hb HSk;go_wp2;go_roundw
    case rel=>exact⟨_,rfl,t+1,by omega,by go_num,by rw[hnx.out];exact HS2⟩
    case measure=>simp[intOf];omega
  ·obtain rfl:m=t:=(by omega);have hti:¬(m:Int)<(m:Int):=(by omega);have hall:Hid (sumS (l.take m)=sumS l):=(by show _=_;rw[List.take_of_length_le (by rw[hlh.out];omega)]);rw[hall.out] at HS;obtain⟨s0,s1,-,-⟩:=two_facts HS.out.s0;obtain⟨r0,r1,f0,f1⟩:=two_facts HS.out.r0;have hO':=Lib.hid (set_two wr w.heap.size _ (.int .i64 (sumS l).1) (.int .i64 (sumS l).2) _ _ HS.out.r0);have hB:=Lib.hid ((HS.out.bel.setCell (p:=⟨w.heap.size,0,none⟩) (Nat.le_refl _) (.int .i64 (sumS l).1)).setCell (p:=⟨w.heap.size,1,none⟩) (Nat.le_refl _) (.int .i64 (sumS l).2));clear HS;go_wp2;obtain⟨k0,k1,-,-⟩:=two_facts hO'.out;exact bodyPost_ret (v:=.agg #[.int .i64 (sumS l).1,.int .i64 (sumS l).2]) (by simp[results,Tryd.results60,go_sem,k0,k1]) rfl ⟨rfl,hB.out⟩
/-- A list of numbers to choose by. -/
def usV (xs:List Nat):List Value:=xs.map fun(x:Nat)=>Value.int .u32 (x:Int)
def chS (xs:List Nat) (i:Nat):Nat:=xs[i%xs.length]?.getD 0
set_option maxRecDepth 100000 in
theorem choose_any(A:Option Addr)(m c:Nat)(xs:List Nat)(i:Nat)(w:World)(hm:m≤maxLen)(hi:i≤1000000)(hx:∀x∈xs,x≤4294967295)(hR:Reads w w.heap.size 1 A m (usV xs)) :
  Calls Tryd.prog 28 #[.slice A m c,.int .i64 i] w fun e w'=>e = .returned (.int .i64 (chS xs i))∧w'=w∧chS xs i≤4294967295:=by
 have hl:xs.length=m:=by have h:=hR.1;simpa [usV] using h
 by_cases hz:m=0
 ·have he:((m:Int)==0)=true:=(by simp[hz]);have hc:chS xs i=0:=(by unfold chS;rw[List.getElem?_eq_none (by omega)];rfl);rw[hc]
  go_enter Tryd.func28,Tryd.ntmps28
  go_wp2;go_ret;exact⟨rfl,rfl,by omega⟩
 ·have he:((m:Int)==0)=false:=(by simpa using hz);obtain⟨q,hq_⟩:∃q,q=i%m:=⟨_,rfl⟩;have hqm:q<m:=(by rw[hq_];exact Nat.mod_lt _ (by omega));have hrem:(i:Int).tmod (m:Int)=(q:Int):=(by rw[hq_];exact Int.ofNat_tmod i m);obtain⟨b,o,hAe,hb,hc⟩:=hR.2 (by omega);obtain⟨x,hxq⟩:∃x,xs[q]? = some x:=⟨_,List.getElem?_eq_getElem (by omega)⟩;have hv:chS xs i=x:=by
   unfold chS;have e:i%xs.length=q:=(by rw[hl];exact hq_.symm);rw[e,hxq];rfl
  have hle:=hx _ (List.mem_of_getElem? hxq);have y0:w.cell? ⟨b,o+q,none⟩=some (.int .u32 (x:Int)):=hc q _ (by unfold usV;rw[List.getElem?_map,hxq];rfl);rw[hv];have hw:IntKind.i64.wrap (x:Int)=(x:Int):=IntWalk.i64_in _ (by omega);have hq0:(0:Int)≤(q:Int):=(by omega);have hq1:(q:Int)<(m:Int):=(by omega);have hnz:((m:Int)==0)=false:=he;have hx0:(0:Int)≤(x:Int):=(by omega);have hx1:(x:Int)≤4294967295:=(by omega);subst hAe;clear hv hxq hc hq_ hR hl hz
  go_enter Tryd.func28,Tryd.ntmps28
  go_wp2;go_ret;exact⟨rfl,rfl,hle⟩
end Go.Proofs.YtfplipbkjglmhaaDoor

namespace Go.Proofs.YtfplipbkjglmhaaDoor
open Go.RowKit
set_option linter.unusedVariables false
set_option linter.unusedSimpArgs false
/-- The terms of a pressing: its seed, the parings that come to it, what comes out of it. -/
def trmP (t:Nat→Option Nat) (R:Nat→Nat→Sp) (U:Nat→Sp) (i:Nat):Nat→List TM
 |0=>[((i:Int),1,1,(R i 1).1,(R i 1).2)]
 |k+1=>if t k=some i then trmP t R U i k ++ [((k:Int),6,1,(U k).1,(U k).2)] else trmP t R U i k
def trmK (t:Nat→Option Nat) (R:Nat→Nat→Sp) (U:Nat→Sp) (i:Nat):Nat→List TM
 |0=>trmP t R U i i
 |q+1=>trmK t R U i q ++ [((i:Int),(q:Int)+2,-1,(R i (q+2)).1,(R i (q+2)).2)]
def trmS (t:Nat→Option Nat) (R:Nat→Nat→Sp) (U:Nat→Sp) (i:Nat):List TM:=trmK t R U i 4
theorem trmP_len(t:Nat→Option Nat)(R:Nat→Nat→Sp)(U:Nat→Sp)(i:Nat):∀k,(trmP t R U i k).length≤k+1
 |0=>by simp[trmP]
 |k+1=>by
  have:=trmP_len t R U i k;unfold trmP;split
  ·simp;omega
  ·omega
theorem tms_app(a b:List TM):tms (a++b)=tms a++tms b:=by simp[tms]
theorem tm_one(x:TM):∀u∈tms [x],u.oneCell'=true:=by
 intro u hu;simp[tms,tmc] at hu;rcases hu with rfl|rfl|rfl|rfl|rfl<;>rfl
theorem info_tm:(Tryd.prog.info? 117).map (fun i=>(i.zero,i.size,i.bytes))=some (some (.agg #[.int .i64 0,.int .i64 0,.int .i64 0,.int .i64 0,.int .i64 0]),5,40):=by kernel_rfl
theorem sps_at(U:Nat→Sp):∀n k,k<n→(sps U n)[k*2]? = some (.int .i64 (U k).1)∧(sps U n)[k*2+1]? = some (.int .i64 (U k).2)
 |0,k,h=>by omega
 |n+1,k,h=>by
  rw[sps_succ];have hl:=sps_len U n;by_cases e:k<n
  ·obtain⟨a,b⟩:=sps_at U n k e;exact⟨by rw[List.getElem?_append_left (by omega)];exact a,by rw[List.getElem?_append_left (by omega)];exact b⟩
  ·obtain rfl:k=n:=(by omega);exact⟨by rw[List.getElem?_append_right (by omega),hl];simp[spc],by rw[List.getElem?_append_right (by omega),hl];simp[spc]⟩
theorem ownR_base{w:World}{b b':Nat}{e:TypeId}{size n:Nat}{v:Value}{xs:List Value}(h:w.ownsRow b e size v n xs)(hb:b'≤b):w.ownsRow b' e size v n xs:=by
 refine⟨h.1,?_⟩;rcases h.2 with h0|⟨g,cap,cur,hv,hg,r⟩
 ·exact .inl h0
 ·exact .inr ⟨g,cap,cur,hv,Nat.le_trans hb hg,r⟩
theorem to_at{ps:List PR}{ws:List WE}(hF:ValidF ps ws){k i:Nat}(hi:i<ps.length){I D P T:Int}(hk:ps[k]? = some (I,D,P,T)):(T==idQ ps i)=decide (toT ps k=some i):=by
 have h1:1≤idQ ps i:=by
  have:=(hF.id1 i _ (List.getElem?_eq_getElem hi)).1;show 1≤(match ps[i]? with|some x=>x.1|none=>0);rw[List.getElem?_eq_getElem hi];exact this
 rw[Bool.eq_iff_iff];simp only[beq_iff_eq,decide_eq_true_eq];have ht:toT ps k=if T=0 then none else some (idxP ps T).toNat:=by unfold toT;rw[hk]
 rw[ht];constructor
 ·intro e;rw[if_neg (by omega),e,idx_idQ hF hi];rfl
 ·intro e;split at e
  ·cases e
  ·rename_i hT;rcases hF.to_ k _ hk with h|h
   ·exact absurd h hT
   ·simp only at h;injection e with e;have hix:idxP ps T=(i:Int):=by omega
    -- the pressing at i has that Id
    have hbd:=idxP_bound ps T;unfold idxP at hix;cases hf:ps.findIdx? (isId T) with
    |none=>rw[hf] at hix;simp only at hix;omega
    |some q=>
     rw[hf] at hix;simp only at hix;obtain rfl:q=i:=(by omega);obtain⟨hq,hp,_⟩:=List.findIdx?_eq_some_iff_getElem.1 hf;show T=(match ps[q]? with|some x=>x.1|none=>0);rw[List.getElem?_eq_getElem hq];unfold isId at hp;simpa using (by simpa using hp:ps[q].1=T).symm
set_option maxRecDepth 100000 in
set_option maxHeartbeats 8000000 in
theorem terms_any(A A':Option Addr)(n c n' c':Nat)(ps:List PR)(ws:List WE)(Ap:Option Addr)(cp:Nat)(U:Nat→Sp)(i:Nat)(w:World)(hnm:n≤maxLen)(hv:validP ps ws=true)(hin:i<n)
  (hR:Reads w w.heap.size 4 A n (pgs ps)) (hW:Reads w w.heap.size 5 A' n' (wgs ws)) (hU:Reads w w.heap.size 2 Ap n (sps U n)) :
  Calls Tryd.prog 61 #[.agg #[.slice A n c,.slice A' n' c'],.int .i64 i,.slice Ap n cp] w fun e w'=>(∃m v,e = .returned v∧w'.ownsRow w.heap.size 117 5 v m (tms (trmS (toT ps) (rowsT ps ws) U i)))∧Below w.heap.size w w':=by
 have hl:ps.length=n:=hR.pg_len;have hVF_:=valid_facts hv;have hn10:n≤10:=by have:=hVF_.n10;omega
 have HB0:=Lib.hid ((Below.refl w.heap.size w).alloc (Nat.le_refl _) (.cells #[.slice A n c,.slice A' n' c'] 25));have HRd:=Lib.hid (fun z (hz:Below w.heap.size w z)=>(hR.below hz).more hz.size);have HUd:=Lib.hid (fun z (hz:Below w.heap.size w z)=>(hU.below hz).more hz.size);have HNo:=Lib.hid (fun k (hk:k<7) z (hz:Below w.heap.size w z)=>Noted_any A A' n c n' c' ps ws i k z ((hR.below hz).more hz.size) ((hW.below hz).more hz.size) hv hin hk);have hO0:=heap_alloc_new w (.cells #[.slice A n c,.slice A' n' c'] 25);have HOp:=Lib.hid (fun z (hz:Below (w.alloc (.cells #[.slice A n c,.slice A' n' c'] 25)).heap.size (w.alloc (.cells #[.slice A n c,.slice A' n' c'] 25)) z)=>keepO hz hO0);have hlh:=Lib.hid hl;have hVF:=Lib.hid hVF_;have hi0:(0:Int)≤(i:Int):=by omega
 have hi1:(i:Int)<(n:Int):=by omega
 obtain⟨i0,hi,hz0,hz1,hz2⟩:=info_parts info_tm;obtain⟨p0,p1,-,-⟩:=two_facts hO0;clear hR hW hU hv hVF_ hl;obtain⟨R,hR_⟩:∃R,R=rowsT ps ws:=⟨_,rfl⟩;rw[←hR_] at HNo ⊢;clear hR_
 go_enter Tryd.func61,Tryd.ntmps61
 go_wp2_with fail
 clear p0 p1;obtain⟨wb,hwb_⟩:∃wb,wb=w.alloc (.cells #[.slice A n c,.slice A' n' c'] 25):=⟨_,rfl⟩;have hwbs:wb.heap.size=w.heap.size+1:=by rw[hwb_];simp
 have hwbh:=Lib.hid hwbs;have hwbl:w.heap.size≤wb.heap.size:=by omega
 rw[←hwb_] at HB0 hO0 HOp ⊢;clear hwb_ hwbs;refine(HNo.out 1 (by omega) wb HB0.out).mono ?_;rintro e z1 ⟨rfl,hb⟩;have hB1:=Lib.hid (below_via HB0.out HB0.out.size hb);have hP1:=Lib.hid hb;obtain⟨z2,hz2_⟩:∃z,z=z1.alloc (.cells #[.int .i64 i,.int .i64 1,.int .i64 1,.int .i64 (R i 1).1,.int .i64 (R i 1).2] 117):=⟨_,rfl⟩;have hb2:Below z1.heap.size z1 z2:=by rw[hz2_];exact(Below.refl _ _).alloc (Nat.le_refl _) _
 have hOw_:z2.ownsRow wb.heap.size 117 5 (.slice (some ⟨z1.heap.size,0,none⟩) 1 1) 1 (tms (trmP (toT ps) R U i 0)):=by
  rw[hz2_];exact World.ownsRow_lit z1 #[.int .i64 i,.int .i64 1,.int .i64 1,.int .i64 (R i 1).1,.int .i64 (R i 1).2] 1 hP1.out.size (by unfold maxLen;omega) rfl
 have hOw:=Lib.hid hOw_;have hB2:=Lib.hid (below_via hB1.out hB1.out.size hb2);have hP2:=Lib.hid (below_via hP1.out hP1.out.size hb2);have hz2h:=Lib.hid hz2_;clear hb hb2 hB1 hP1 hz2_ hOw_ HB0 hO0;go_wp2_with fail
 rw[←hz2h.out];clear hz2h;go_loopw [7,17] (fun v u wr=>∃wl,wl=wr∧∃k m:Nat,k≤i∧m≤k+1∧u = .int .i64 k∧Hid (wl.ownsRow wb.heap.size 117 5 v m (tms (trmP (toT ps) R U i k)))∧Hid (Below w.heap.size w wl)∧Hid (Below wb.heap.size wb wl)) (fun _ u _=>i - (intOf u).toNat)
 case atStart=>exact⟨_,rfl,0,1,by omega,by omega,rfl,hOw,hB2,hP2⟩
 case round=>
  clear hOw hB2 hP2;obtain⟨wq,rfl,k,m,hk_,hmk,rfl,HOw,HBq,HPq⟩:=hrel;obtain⟨Ao,co,rfl⟩:=ownR_val HOw.out;obtain⟨p0,p1,-,-⟩:=two_facts (HOp.out _ HPq.out);by_cases hki:k<i
  ·have hkii:(k:Int)<(i:Int):=(by omega);have hk0:(0:Int)≤(k:Int):=(by omega);have hk1:(k:Int)<(n:Int):=(by omega);obtain⟨bp,op,I,D,P,T,hAe,hbp,hx,y0,y1,y2,y3⟩:=(HRd.out _ HBq.out).pg (show k<n by omega);obtain⟨bp2,op2,I2,D2,P2,T2,hAe2,hbp2,hx2,x0,-,-,-⟩:=(HRd.out _ HBq.out).pg hin;rw[hAe] at hAe2;simp only[Option.some.injEq,Addr.mk.injEq,and_true] at hAe2;obtain⟨rfl,rfl⟩:=hAe2;have hto:=to_at hVF.out (show i<ps.length by rw[hlh.out];exact hin) hx;rw[show idQ ps i=I2 by unfold idQ;rw[hx2]] at hto;obtain⟨bu,ou,hAu,hbu,hcu⟩:=(HUd.out _ HBq.out).2 (by omega);obtain⟨c1,c2⟩:=sps_at U n k (by omega);have u0:wq.cell? ⟨bu,ou+k*2,none⟩=some (.int .i64 (U k).1):=hcu _ _ c1;have u1:wq.cell? ⟨bu,ou+k*2+1,none⟩=some (.int .i64 (U k).2):=hcu _ _ c2;have hUh0:=Lib.hid u0;have hUh1:=Lib.hid u1;subst hAe hAu;clear hx hx2 hcu c1 c2 u0 u1;cases hc:decide (toT ps k=some i) with
   |false=>
    rw[hc] at hto;have hst:Hid (trmP (toT ps) R U i (k+1)=trmP (toT ps) R U i k):=(by show (if _ then _ else _)=_;rw[if_neg (by simpa using hc)]);clear hc;(go_wp2_with fail);(go_quiet (fail));rename_i nq;have hbd:=below_drewN (Below.refl wq.heap.size wq) nq;have HOd:=Lib.hid (ownR_below HOw.out hbd);have HBd:=Lib.hid (below_drewN HBq.out nq);have HPd:=Lib.hid (below_drewN HPq.out nq);clear hbd hto;go_wp2;go_roundw
    case rel=>exact⟨_,rfl,k+1,m,by omega,by omega,by go_num,by rw[hst.out];exact HOd,HBd,HPd⟩
    case measure=>simp[intOf];omega
   |true=>
    rw[hc] at hto;have hst:Hid (trmP (toT ps) R U i (k+1)=trmP (toT ps) R U i k ++ [((k:Int),6,1,(U k).1,(U k).2)]):=(by show (if _ then _ else _)=_;rw[if_pos (by simpa using hc)]);clear hc;(go_wp2_with fail);(go_quiet (fail));rename_i nq;have hbd:=below_drewN (Below.refl wq.heap.size wq) nq;have HOd:=Lib.hid (ownR_below HOw.out hbd);have HBd:=Lib.hid (below_drewN HBq.out nq);have HPd:=Lib.hid (below_drewN HPq.out nq);have u0:(wq.drewN nq).cell? ⟨bu,ou+k*2,none⟩=some (.int .i64 (U k).1):=(hbd.cell (by simp only;omega)).trans hUh0.out;have u1:(wq.drewN nq).cell? ⟨bu,ou+k*2+1,none⟩=some (.int .i64 (U k).2):=(hbd.cell (by simp only;omega)).trans hUh1.out;clear hbd hto y0 y1 y2 y3 x0 p0 p1;generalize wq.drewN nq=wd at *;obtain⟨ux,hux⟩:∃x,x=U k:=⟨_,rfl⟩;rw[←hux] at u0 u1 hst;clear hux;obtain⟨wk,hwk_⟩:∃wk,wk=wd.alloc (.cells #[.int .i64 k,.int .i64 6,.int .i64 1,.int .i64 ux.1,.int .i64 ux.2] 117):=⟨_,rfl⟩;have hbA:Below wd.heap.size wd wk:=(by rw[hwk_];exact(Below.refl _ _).alloc (Nat.le_refl _) _);have HOw3:=Lib.hid (ownR_below HOd.out hbA);have hLn:Reads wk wk.heap.size 5 (some ⟨wd.heap.size,0,none⟩) 1 (tms [((k:Int),6,1,ux.1,ux.2)]):=rd_cel (cs:=#[.int .i64 k,.int .i64 6,.int .i64 1,.int .i64 ux.1,.int .i64 ux.2]) (t:=117) (by rw[hwk_];exact heap_alloc_new _ _) rfl;have HLn:=Lib.hid hLn;have HB3:=Lib.hid (below_via HBd.out HBd.out.size hbA);have HP3:=Lib.hid (below_via HPd.out HPd.out.size hbA);have hlw:=HPd.out.size;have hwk:=Lib.hid hwk_
    rw[hwk_] at HOw3 HLn;clear hLn hbA HOw HOd HBq HPq hUh0 hUh1
    go_wp2_with (first
     |(at_builtin;refine wpList_app _ rfl _ _ 114 rfl wb.heap.size 117 i0 _ 5 40 Tryd.underlying114 hi hz0 hz1 hz2 rfl (by decide) (.slice Ao m co) m (tms (trmP (toT ps) R U i k)) rfl HOw3.out _ (some ⟨wd.heap.size,0,none⟩) 1 1 (tms [((k:Int),6,1,ux.1,ux.2)]) rfl HLn.out (tm_one _) ?c3 ?c4 ?c5 ?_))
    case c3=>unfold maxLen;omega
    case c4=>omega
    case c5=>first|omega|(simp<;>omega)
    intro v' z4 hown hgr hatv;rw[←hwk.out] at hgr;have HB4:=Lib.hid (HB3.out.grown hgr HB3.out.size (fun q hq=>Nat.le_trans (by omega) (ownR_lt HOw3.out hq).1));have HP4:=Lib.hid (HP3.out.grown hgr HP3.out.size (fun q hq=>(ownR_lt HOw3.out hq).1));have hxs:Hid (z4.ownsRow wb.heap.size 117 5 v' (m+1) (tms (trmP (toT ps) R U i (k+1)))):=by
     show World.ownsRow _ _ _ _ _ _ _;rw[hst.out,tms_app];exact hown
    clear hown hgr hatv HOw3 HB3 HP3 HLn u0 u1 hwk hwk_;obtain⟨A4,c4,rfl⟩:=ownR_val hxs.out;go_wp2;go_roundw
    case rel=>exact⟨_,rfl,k+1,m+1,by omega,by omega,by go_num,hxs,HB4,HP4⟩
    case measure=>simp[intOf];omega
  ·obtain rfl:i=k:=(by omega);have hkii:¬(i:Int)<(i:Int):=(by omega);have hsK:Hid (trmP (toT ps) R U i i=trmK (toT ps) R U i 0):=rfl;rw[hsK.out] at HOw;have HPq2:=HPq;clear p0 p1 HPq;(go_wp2_with fail);go_loopw [7,9] (fun v u wr=>∃wl,wl=wr∧∃q m:Nat,q≤4∧m≤i+1+q∧u = .int .i64 ((q+2:Nat):Int)∧Hid (wl.ownsRow wb.heap.size 117 5 v m (tms (trmK (toT ps) R U i q)))∧Hid (Below w.heap.size w wl)∧Hid (Below wb.heap.size wb wl)) (fun _ u _=>6 - (intOf u).toNat)
   case atStart=>exact⟨_,rfl,0,m,by omega,by omega,rfl,HOw,HBq,HPq2⟩
   case round=>
    clear HOw HBq HPq2;obtain⟨wr,rfl,q,m',hq_,hmq,rfl,HOw,HBq,HPq⟩:=hrel;obtain⟨Ao',co',rfl⟩:=ownR_val HOw.out;obtain⟨p0,p1,-,-⟩:=two_facts (HOp.out _ HPq.out);obtain⟨K,hK_⟩:∃K:Int,K=((q+2:Nat):Int):=⟨_,rfl⟩;rw[←hK_];by_cases hq4:q<4
    ·have hK5:K≤5:=(by omega);have hst:Hid (trmK (toT ps) R U i (q+1)=trmK (toT ps) R U i q ++ [((i:Int),K,-1,(R i (q+2)).1,(R i (q+2)).2)]):=(by show _=_;rw[hK_];rfl);have hNo:=HNo.out (q+2) (by omega) wr HBq.out;rw[←hK_] at hNo;have hNoh:=Lib.hid hNo;have hKh:=Lib.hid hK_;have hK1:IntKind.i64.wrap (K+1)=K+1:=IntWalk.i64_in _ (by omega);clear hNo hK_;(go_wp2_with fail);clear p0 p1;refine hNoh.out.mono ?_;rintro e wd ⟨rfl,hb⟩;have HOd:=Lib.hid (ownR_below HOw.out hb);have HBd:=Lib.hid (below_via HBq.out HBq.out.size hb);have HPd:=Lib.hid (below_via HPq.out HPq.out.size hb);obtain⟨ux,hux⟩:∃x,x=R i (q+2):=⟨_,rfl⟩;rw[←hux] at hst ⊢;clear hux hb hNoh;obtain⟨wk,hwk_⟩:∃wk,wk=wd.alloc (.cells #[.int .i64 i,.int .i64 K,.int .i64 (-1),.int .i64 ux.1,.int .i64 ux.2] 117):=⟨_,rfl⟩;have hbA:Below wd.heap.size wd wk:=(by rw[hwk_];exact(Below.refl _ _).alloc (Nat.le_refl _) _);have HOw3:=Lib.hid (ownR_below HOd.out hbA);have hLn:Reads wk wk.heap.size 5 (some ⟨wd.heap.size,0,none⟩) 1 (tms [((i:Int),K,-1,ux.1,ux.2)]):=rd_cel (cs:=#[.int .i64 i,.int .i64 K,.int .i64 (-1),.int .i64 ux.1,.int .i64 ux.2]) (t:=117) (by rw[hwk_];exact heap_alloc_new _ _) rfl;have HLn:=Lib.hid hLn;have HB3:=Lib.hid (below_via HBd.out HBd.out.size hbA);have HP3:=Lib.hid (below_via HPd.out HPd.out.size hbA);have hlw:=HPd.out.size;have hwk:=Lib.hid hwk_;rw[hwk_] at HOw3 HLn;clear hLn hbA HOw HOd HBq HPq
     go_wp2_with (first
      |(at_builtin;refine wpList_app _ rfl _ _ 114 rfl wb.heap.size 117 i0 _ 5 40 Tryd.underlying114 hi hz0 hz1 hz2 rfl (by decide) (.slice Ao' m' co') m' (tms (trmK (toT ps) R U i q)) rfl HOw3.out _ (some ⟨wd.heap.size,0,none⟩) 1 1 (tms [((i:Int),K,-1,ux.1,ux.2)]) rfl HLn.out (tm_one _) ?c3 ?c4 ?c5 ?_))
     case c3=>unfold maxLen;omega
     case c4=>omega
     case c5=>first|omega|(simp<;>omega)
     intro v' z4 hown hgr hatv;rw[←hwk.out] at hgr;have HB4:=Lib.hid (HB3.out.grown hgr HB3.out.size (fun q hq=>Nat.le_trans (by omega) (ownR_lt HOw3.out hq).1));have HP4:=Lib.hid (HP3.out.grown hgr HP3.out.size (fun q hq=>(ownR_lt HOw3.out hq).1));have hxs:Hid (z4.ownsRow wb.heap.size 117 5 v' (m'+1) (tms (trmK (toT ps) R U i (q+1)))):=by
      show World.ownsRow _ _ _ _ _ _ _;rw[hst.out,tms_app];exact hown
     clear hown hgr hatv HOw3 HB3 HP3 HLn hwk hwk_;obtain⟨A4,c4,rfl⟩:=ownR_val hxs.out;go_wp2;go_roundw
     case rel=>exact⟨_,rfl,q+1,m'+1,by omega,by omega,by rw[hKh.out];go_num,hxs,HB4,HP4⟩
     case measure=>rw[hKh.out];simp[intOf];omega
    ·obtain rfl:q=4:=(by omega);have hK5:¬K≤5:=(by omega);go_wp2;go_ret;exact⟨⟨m',_,rfl,ownR_base HOw.out hwbl⟩,HBq.out⟩
end Go.Proofs.YtfplipbkjglmhaaDoor

namespace Go.Proofs.YtfplipbkjglmhaaDoor
open Go.RowKit
set_option linter.unusedVariables false
set_option linter.unusedSimpArgs false
/-- What a term adds to the sum. -/
def tv (x:TM):Sp:=if x.2.2.1 > 0 then(x.2.2.2.1,x.2.2.2.2) else(-x.2.2.2.2,-x.2.2.2.1)
theorem addT_tv(s:Sp)(x:TM):addT s x=plus s (tv x):=by
 unfold addT tv plus;split<;>simp only[Prod.mk.injEq]<;>exact⟨by omega,by omega⟩
theorem fold_plus:∀(l:List TM) (s:Sp),l.foldl addT s=plus s (sumS l)
 |[],s=>by simp[sumS,plus]
 |x::r,s=>by
  rw[List.foldl_cons,fold_plus r,addT_tv];have e:sumS (x::r)=plus (tv x) (sumS r):=by
   show List.foldl addT (0,0) (x::r)=_;rw[List.foldl_cons,fold_plus r,addT_tv];simp[plus]
  rw[e];unfold plus;simp only[Prod.mk.injEq];exact⟨by omega,by omega⟩
theorem sumS_cons(x:TM)(r:List TM):sumS (x::r)=plus (tv x) (sumS r):=by
 show List.foldl addT (0,0) (x::r)=_;rw[List.foldl_cons,fold_plus r,addT_tv];simp[plus]
/-- What a weight can be, if what all behind it can be is known. -/
def canT (left:Int) (x:TM) (rest:Sp):Sp:=if x.2.2.1<0 then both (-(left - rest.1),-(left - rest.2)) (x.2.2.2.1,x.2.2.2.2) else both (left - rest.2,left - rest.1) (x.2.2.2.1,x.2.2.2.2)
theorem canT_left{left own:Int}{x:TM}{rest:Sp}(hs:x.2.2.1=1∨x.2.2.1 = -1)(h1:(canT left x rest).1≤own)(h2:own≤(canT left x rest).2) :
  rest.1≤left - x.2.2.1*own∧left - x.2.2.1*own≤rest.2∧x.2.2.2.1≤own∧own≤x.2.2.2.2:=by
 unfold canT at h1 h2;rcases hs with e|e
 ·rw[if_neg (by omega)] at h1 h2;unfold both at h1 h2;simp only at h1 h2;rw[e];omega
 ·rw[if_pos (by omega)] at h1 h2;unfold both at h1 h2;simp only at h1 h2;rw[e];omega
theorem canT_ne{left:Int}{x:TM}{r:List TM}(hs:x.2.2.1=1∨x.2.2.1 = -1)(hx:x.2.2.2.1≤x.2.2.2.2)(hr:Ne (sumS r))(h1:(sumS (x::r)).1≤left)(h2:left≤(sumS (x::r)).2):Ne (canT left x (sumS r)):=by
 rw[sumS_cons] at h1 h2;unfold tv plus at h1 h2;unfold canT Ne both at *;rcases hs with e|e
 ·rw[if_pos (by omega)] at h1 h2;simp only at h1 h2;rw[if_neg (by omega)];simp only;omega
 ·rw[if_neg (by omega)] at h1 h2;simp only at h1 h2;rw[if_pos (by omega)];simp only;omega
theorem sumS_ne:∀l:List TM,(∀x∈l,x.2.2.2.1≤x.2.2.2.2)→Ne (sumS l)
 |[],_=>by simp[sumS,Ne]
 |x::r,h=>by
  have h1:=sumS_ne r fun y hy=>h y (List.mem_cons_of_mem _ hy);have h2:=h x (List.mem_cons_self ..);rw[sumS_cons];unfold tv plus Ne at *;split<;>simp only<;>omega
section
variable {t:Nat→Option Nat} {R:Nat→Nat→Sp} {U:Nat→Sp} {i:Nat}
theorem sum_trmP:∀k,sumS (trmP t R U i k)=plus (feed t U i k) (R i 1)
 |0=>by simp[trmP,sumS,addT,feed,plus]
 |k+1=>by
  unfold trmP feed;split
  ·rw[sumS_snoc,sum_trmP k,addT_tv];unfold tv plus;rw[if_pos (show (1:Int) > 0 by decide)];simp only[Prod.mk.injEq];exact⟨by omega,by omega⟩
  ·exact sum_trmP k
/-- The sum of a pressing's terms is what its parings can be. -/
theorem sum_trmS:sumS (trmS t R U i)=minus (plus (feed t U i i) (R i 1)) (restS R i):=by
 unfold trmS;simp only[trmK,sumS_snoc,sum_trmP,addT_tv,Nat.zero_add,Nat.reduceAdd];unfold tv minus restS plus;simp only[if_neg (show ¬((-1:Int) > 0) by decide),Prod.mk.injEq];exact⟨by omega,by omega⟩
theorem trmP_sg:∀k,∀x∈trmP t R U i k,x.2.2.1=1
 |0,x,h=>by simp[trmP] at h;rw[h]
 |k+1,x,h=>by
  unfold trmP at h;split at h
  ·rw[List.mem_append] at h;rcases h with h|h
   ·exact trmP_sg k x h
   ·simp at h;rw[h]
  ·exact trmP_sg k x h
theorem trmS_sg:∀x∈trmS t R U i,x.2.2.1=1∨x.2.2.1 = -1:=by
 intro x h;unfold trmS at h;simp only[trmK,List.mem_append,List.mem_singleton] at h;rcases h with (((h|rfl)|rfl)|rfl)|rfl
 ·exact .inl (trmP_sg i x h)
 all_goals exact .inr rfl
end
/-- The weights while they are laid: of a pressing its Id (0), nothing (1), and its kinds (1 + kind). -/
abbrev WF:=Nat→Nat→Int
def updF (F:WF) (a b:Nat) (v:Int):WF:=fun p q=>if p=a∧q=b then v else F p q
theorem updF_at(F:WF)(a b:Nat)(v:Int):updF F a b v a b=v:=by unfold updF;rw[if_pos ⟨rfl,rfl⟩]
theorem updF_ne(F:WF){a b p q:Nat}(v:Int)(h:¬(p=a∧q=b)):updF F a b v p q=F p q:=by unfold updF;rw[if_neg h]
def tgA (x:TM):Nat:=x.1.toNat
def tgB (x:TM):Nat:=1+x.2.1.toNat
def vT (F:WF) (x:TM):Int:=x.2.2.1*F (tgA x) (tgB x)
def sumV (F:WF) (l:List TM):Int:=l.foldl (fun s x=>s+vT F x) 0
theorem sumV_snoc(F:WF)(l:List TM)(x:TM):sumV F (l ++ [x])=sumV F l+vT F x:=by unfold sumV;rw[List.foldl_append];rfl
theorem sumV_congr{F G:WF}:∀(l:List TM),(∀x∈l,F (tgA x) (tgB x)=G (tgA x) (tgB x))→sumV F l=sumV G l:=by
 intro l h;unfold sumV;have key:∀(l:List TM) (s:Int),(∀x∈l,F (tgA x) (tgB x)=G (tgA x) (tgB x))→l.foldl (fun s x=>s+vT F x) s=l.foldl (fun s x=>s+vT G x) s:=by
  intro l
  induction l with
  |nil=>intro s _;rfl
  |cons y r ih=>
   intro s h;rw[List.foldl_cons,List.foldl_cons,ih _ (fun x hx=>h x (List.mem_cons_of_mem _ hx))];unfold vT;rw[h y (List.mem_cons_self ..)]
 exact key l 0 h
/-- No two terms are one weight. -/
def Apart (l:List TM):Prop:=l.Pairwise fun x y=>¬(tgA x=tgA y∧tgB x=tgB y)
/-- While the terms of a pressing are laid. -/
structure InL (L:List TM) (F0 F:WF) (i:Nat) (M left:Int) (m:Nat):Prop where
 a:left=F i 7+M - sumV F (L.take m)
 b:(sumS (L.drop m)).1≤left∧left≤(sumS (L.drop m)).2
 c:∀x∈L.take m,x.2.2.2.1≤F (tgA x) (tgB x)∧F (tgA x) (tgB x)≤x.2.2.2.2
 d:∀p q,(∀x∈L.take m,¬(p=tgA x∧q=tgB x))→F p q=F0 p q
theorem InL.step{L:List TM}{F0 F:WF}{i m:Nat}{M left own:Int}(h:InL L F0 F i M left m)(hA:Apart L)(hN:∀x∈L,¬(i=tgA x∧7=tgB x))(hs:∀x∈L,x.2.2.1=1∨x.2.2.1 = -1){x:TM}(hx:L[m]? = some x)
  (h1:(canT left x (sumS (L.drop (m+1)))).1≤own) (h2:own≤(canT left x (sumS (L.drop (m+1)))).2):InL L F0 (updF F (tgA x) (tgB x) own) i M (left - x.2.2.1*own) (m+1):=by
 have hmem:=List.mem_of_getElem? hx;obtain⟨g1,g2,g3,g4⟩:=canT_left (hs x hmem) h1 h2;have ht:L.take (m+1)=L.take m ++ [x]:=by rw[List.take_add_one,hx];rfl
 obtain⟨hm,hxe⟩:=List.getElem?_eq_some_iff.1 hx;have hap:∀y∈L.take m,¬(tgA y=tgA x∧tgB y=tgB x):=by
  intro y hy;obtain⟨j,hj,rfl⟩:=List.getElem_of_mem hy;rw[List.length_take] at hj;have:=List.pairwise_iff_getElem.1 hA j m (by omega) hm (by omega);rw[hxe] at this;rw[List.getElem_take];exact this
 have hun:∀y∈L.take m,updF F (tgA x) (tgB x) own (tgA y) (tgB y)=F (tgA y) (tgB y):=fun y hy=>updF_ne F own (hap y hy);have hi7:updF F (tgA x) (tgB x) own i 7=F i 7:=updF_ne F own (hN x hmem);refine⟨?_,⟨g1,g2⟩,?_,?_⟩
 ·rw[ht,sumV_snoc,sumV_congr (G:=F) _ hun,hi7];unfold vT;rw[updF_at];have:=h.a;omega
 ·intro y hy;rw[ht,List.mem_append,List.mem_singleton] at hy;rcases hy with hy|rfl
  ·rw[hun y hy];exact h.c y hy
  ·rw[updF_at];exact⟨g3,g4⟩
 ·intro p q hpq;rw[ht] at hpq;rw[updF_ne F own (fun e=>hpq x (by simp) e)];exact h.d p q fun y hy=>hpq y (by simp[hy])
theorem apart_snoc{l:List TM}{x:TM}(h:Apart l)(hx:∀y∈l,¬(tgA y=tgA x∧tgB y=tgB x)):Apart (l ++ [x]):=by
 unfold Apart;rw[List.pairwise_append];exact⟨h,List.pairwise_singleton ..,fun y hy z hz=>by simp at hz;subst hz;exact hx y hy⟩
/-- What comes to a place as parings. -/
def inW (t:Nat→Option Nat) (F:WF) (i:Nat):Nat→Int
 |0=>0
 |k+1=>if t k=some i then inW t F i k+F k 7 else inW t F i k
section
variable {t:Nat→Option Nat} {R:Nat→Nat→Sp} {U:Nat→Sp} {i:Nat}
theorem trmP_mem:∀k,∀x∈trmP t R U i k,(tgA x=i∧tgB x=2∧x.2.2.2=R i 1)∨∃j,j<k∧t j=some i∧tgA x=j∧tgB x=7∧x.2.2.2=U j
 |0,x,h=>by simp[trmP] at h;subst h;exact .inl ⟨by simp[tgA],by simp[tgB],rfl⟩
 |k+1,x,h=>by
  unfold trmP at h;split at h
  ·rename_i ht;rw[List.mem_append,List.mem_singleton] at h;rcases h with h|rfl
   ·rcases trmP_mem k x h with h|⟨j,hj,r⟩
    ·exact .inl h
    ·exact .inr ⟨j,by omega,r⟩
   ·exact .inr ⟨k,by omega,ht,by simp[tgA],by simp[tgB],rfl⟩
  ·rcases trmP_mem k x h with h|⟨j,hj,r⟩
   ·exact .inl h
   ·exact .inr ⟨j,by omega,r⟩
theorem trmP_apart:∀k,Apart (trmP t R U i k)
 |0=>List.pairwise_singleton ..
 |k+1=>by
  unfold trmP;split
  ·refine apart_snoc (trmP_apart k) fun y hy=>?_;rcases trmP_mem k y hy with ⟨-,h,-⟩|⟨j,hj,-,h,-,-⟩
   ·rw[h];simp[tgB]
   ·rw[h];simp[tgA];omega
  ·exact trmP_apart k
theorem trmK_mem:∀q,∀x∈trmK t R U i q,(tgA x=i∧tgB x=2∧x.2.2.2=R i 1)∨(∃j,j<i∧t j=some i∧tgA x=j∧tgB x=7∧x.2.2.2=U j)∨∃p,p<q∧tgA x=i∧tgB x=p+3∧x.2.2.2=R i (p+2)
 |0,x,h=>by
  rcases trmP_mem i x h with h|h
  ·exact .inl h
  ·exact .inr (.inl h)
 |q+1,x,h=>by
  simp only[trmK,List.mem_append,List.mem_singleton] at h;rcases h with h|rfl
  ·rcases trmK_mem q x h with h|h|⟨p,hp,r⟩
   ·exact .inl h
   ·exact .inr (.inl h)
   ·exact .inr (.inr ⟨p,by omega,r⟩)
  ·exact .inr (.inr ⟨q,by omega,by simp[tgA],by simp[tgB];omega,rfl⟩)
theorem trmK_apart:∀q,Apart (trmK t R U i q)
 |0=>trmP_apart i
 |q+1=>by
  refine apart_snoc (trmK_apart q) fun y hy=>?_;have e1:tgA ((i:Int),(q:Int)+2,(-1:Int),(R i (q+2)).1,(R i (q+2)).2)=i:=(by simp[tgA]);have e2:tgB ((i:Int),(q:Int)+2,(-1:Int),(R i (q+2)).1,(R i (q+2)).2)=q+3:=(by simp[tgB];omega);rw[e1,e2];rcases trmK_mem q y hy with ⟨-,h,-⟩|⟨j,hj,-,h,-,-⟩|⟨p,hp,-,h,-⟩
  ·rw[h];omega
  ·rw[h];omega
  ·rw[h];omega
theorem trmS_apart:Apart (trmS t R U i):=trmK_apart 4
theorem trmS_no7:∀x∈trmS t R U i,¬(i=tgA x∧7=tgB x):=by
 intro x hx;rcases trmK_mem 4 x hx with ⟨-,h,-⟩|⟨j,hj,-,h,-,-⟩|⟨p,hp,-,h,-⟩
 ·omega
 ·omega
 ·omega
theorem trmP_in(k:Nat):((i:Int),(1:Int),(1:Int),(R i 1).1,(R i 1).2)∈trmP t R U i k:=by
 induction k with
 |zero=>simp[trmP]
 |succ k ih=>unfold trmP;split<;>simp[ih]
theorem trmP_par{j:Nat}(ht:t j=some i):∀k,j<k→((j:Int),(6:Int),(1:Int),(U j).1,(U j).2)∈trmP t R U i k
 |0,h=>by omega
 |k+1,h=>by
  unfold trmP;by_cases e:j=k
  ·subst e;rw[if_pos ht];simp
  ·have ih:=trmP_par ht k (by omega);split
   ·simp[ih]
   ·exact ih
theorem sumV_P(F:WF):∀k,sumV F (trmP t R U i k)=inW t F i k+F i 2
 |0=>by simp[trmP,sumV,inW,vT,tgA,tgB]
 |k+1=>by
  unfold trmP inW;split
  ·rw[sumV_snoc,sumV_P F k];have e:vT F ((k:Int),(6:Int),(1:Int),(U k).1,(U k).2)=F k 7:=(by simp[vT,tgA,tgB]);rw[e];omega
  ·exact sumV_P F k
theorem sumV_S(F:WF):sumV F (trmS t R U i)=inW t F i i+F i 2 - F i 3 - F i 4 - F i 5 - F i 6:=by
 have e:∀q:Nat,vT F ((i:Int),(q:Int)+2,(-1:Int),(R i (q+2)).1,(R i (q+2)).2) = - F i (q+3):=fun q=>by
  have h:((q:Int)+2).toNat=q+2:=(by omega);simp[vT,tgA,tgB,h,show 1+(q+2)=q+3 by omega]
 unfold trmS;show sumV F ((((trmK t R U i 0 ++ [_]) ++ [_]) ++ [_]) ++ [_])=_;rw[sumV_snoc,sumV_snoc,sumV_snoc,sumV_snoc,e 0,e 1,e 2,e 3];have h0:sumV F (trmK t R U i 0)=inW t F i i+F i 2:=sumV_P F i;rw[h0];simp only[Nat.zero_add,Nat.reduceAdd];omega
end
/-- What parings can be, if so much is missing. -/
def givU (t:Nat→Option Nat) (R:Nat→Nat→Sp) (M:Nat→Int):Nat→Sp:=fixU fun f i=>both ((canS t R f i).1 - M i,(canS t R f i).2 - M i) (R i 6)
theorem givU_eq(t:Nat→Option Nat)(R:Nat→Nat→Sp)(M:Nat→Int)(i:Nat):givU t R M i=both ((canS t R (givU t R M) i).1 - M i,(canS t R (givU t R M) i).2 - M i) (R i 6):=
 fixU_eq (fun f f' i h=>by simp only[canS];rw[feed_congr i i (fun j hj _=>h j hj)]) i
theorem givU_up(t:Nat→Option Nat)(R:Nat→Nat→Sp):∀i,givU t R (fun _=>0) i=upP t R i:=by
 intro i
 induction i using Nat.strongRecOn with
 |_ i ih=>
  rw[givU_eq,upP_eq];unfold canS recS;rw[feed_congr i i (fun j hj _=>ih j hj)];simp only[Int.sub_zero]
def entF (t:Nat→Option Nat) (U:Nat→Sp) (ids:Nat→Int) (F:WF) (i:Nat):WF:=if t i=none then updF (updF F i 0 (ids i)) i 7 (U i).1 else updF F i 0 (ids i)
/-- The pressings from a place on are laid. -/
structure OI (t:Nat→Option Nat) (R:Nat→Nat→Sp) (U:Nat→Sp) (ids M:Nat→Int) (n:Nat) (F:WF) (i:Nat):Prop where
 done:∀j,i≤j→j<n→F j 0=ids j∧F j 1=0∧(∀k,1≤k→k≤5→(R j k).1≤F j (1+k)∧F j (1+k)≤(R j k).2)∧((U j).1≤F j 7∧F j 7≤(U j).2)∧inW t F j j+F j 2 - F j 3 - F j 4 - F j 5 - F j 6=F j 7+M j
 par:∀j q,j<i→t j=some q→i≤q→(U j).1≤F j 7∧F j 7≤(U j).2
 one:∀j,j<i→F j 1=0
section
variable {t:Nat→Option Nat} {R:Nat→Nat→Sp} {U:Nat→Sp} {ids M:Nat→Int} {n i:Nat} {F G:WF}
theorem OI.start(hF:Fwd n t):OI t R U ids M n (fun _ _=>0) n:=
 ⟨fun j h1 h2=>by omega,fun j q hj ht hq=>by have:=(hF j q hj ht).2;omega,fun _ _=>rfl⟩
theorem ent_0:entF t U ids F i i 0=ids i:=by
 unfold entF;split
 ·rw[updF_ne _ _ (by omega),updF_at]
 ·rw[updF_at]
theorem ent_ne{p q:Nat}(h:p≠i∨(q≠0∧q≠7)):entF t U ids F i p q=F p q:=by
 unfold entF;split
 ·rw[updF_ne _ _ (by omega),updF_ne _ _ (by omega)]
 ·rw[updF_ne _ _ (by omega)]
theorem ent_7:entF t U ids F i i 7=if t i=none then(U i).1 else F i 7:=by
 unfold entF;split
 ·rw[updF_at]
 ·rw[updF_ne _ _ (by omega)]
theorem OI.range(hF:Fwd n t)(h:OI t R U ids M n F (i+1))(hi:i<n)(hU:Ne (U i)):(U i).1≤entF t U ids F i i 7∧entF t U ids F i i 7≤(U i).2:=by
 rw[ent_7];split
 ·exact⟨Int.le_refl _,hU⟩
 ·cases ht:t i with
  |none=>exact absurd ht ‹_›
  |some q=>exact h.par i q (by omega) ht (by have:=(hF i q hi ht).1;omega)
theorem OI.enter(hF:Fwd n t)(h:OI t R U ids M n F (i+1))(hi:i<n)(hU:Ne (U i))(hUe:U i=both ((canS t R U i).1 - M i,(canS t R U i).2 - M i) (R i 6)) :
  InL (trmS t R U i) (entF t U ids F i) (entF t U ids F i) i (M i) (entF t U ids F i i 7+M i) 0:=by
 obtain⟨r1,r2⟩:=h.range hF hi hU;refine⟨by simp[sumV],?_,fun x hx=>by simp at hx,fun _ _ _=>rfl⟩;rw[List.drop_zero,sum_trmS];have e1:(U i).1=max ((canS t R U i).1 - M i) (R i 6).1:=by rw[hUe];rfl
 have e2:(U i).2=min ((canS t R U i).2 - M i) (R i 6).2:=by rw[hUe];rfl
 show (canS t R U i).1≤_∧_≤(canS t R U i).2;omega
theorem OI.leave(hF:Fwd n t)(h:OI t R U ids M n F (i+1))(hi:i<n)(hU:Ne (U i)){left:Int}(g:InL (trmS t R U i) (entF t U ids F i) G i (M i) left (trmS t R U i).length):left=0∧OI t R U ids M n G i:=by
 obtain⟨r1,r2⟩:=h.range hF hi hU;have hl:left=0:=by
  have hb:=g.b;rw[List.drop_length] at hb;simp[sumS] at hb;omega
 have ga:=g.a;have gc:=g.c;have gd:=g.d;rw[List.take_length] at ga gc gd
 -- what is no term's weight stays
 have keep:∀p q,(p≠i→q=7→¬(p<i∧t p=some i))→(p=i→q<2∨q=7)→G p q=entF t U ids F i p q:=by
  intro p q h1 h2;refine gd p q fun x hx=>?_;rintro ⟨rfl,rfl⟩;rcases trmK_mem 4 x hx with ⟨a,b,-⟩|⟨j,hj,ht,a,b,-⟩|⟨p,hp,a,b,-⟩
  ·have:=h2 a;omega
  ·rw[a,b] at h1;exact h1 (by omega) rfl ⟨hj,ht⟩
  ·have:=h2 a;omega
 have k0:G i 0=ids i:=by rw[keep i 0 (fun h=>absurd rfl h) (fun _=>by omega),ent_0]
 have k1:G i 1=0:=by rw[keep i 1 (fun h=>absurd rfl h) (fun _=>by omega),ent_ne (.inr (by omega))];exact h.one i (by omega)
 have k7:G i 7=entF t U ids F i i 7:=keep i 7 (fun h=>absurd rfl h) (fun _=>by omega);have kf:∀p q,p≠i→q≠7→G p q=F p q:=fun p q hp hq=>by rw[keep p q (fun _ e=>absurd e hq) (fun e=>absurd e hp),ent_ne (.inl hp)]
 have kg:∀p,i<p→G p 7=F p 7:=fun p hp=>by rw[keep p 7 (fun _ _ hh=>by omega) (fun e=>by omega),ent_ne (.inl (by omega))]
 have kp:∀p q,p≤i→t p=some q→q≠i→G p 7=F p 7:=fun p q hp ht hq=>by
  by_cases e:p=i
  ·subst e;rw[k7,ent_7,if_neg (by rw[ht];simp)]
  ·rw[keep p 7 (fun _ _ hh=>by rw[ht] at hh;simp at hh;omega) (fun e'=>absurd e' e),ent_ne (.inl e)]
 have kin:∀j,i<j→∀m,inW t G j m=inW t F j m:=by
  intro j hj m
  induction m with
  |zero=>rfl
  |succ m ih=>
   unfold inW;split
   ·rename_i ht;rw[ih];by_cases hm:i<m
    ·rw[kg m hm]
    ·rw[kp m j (by omega) ht (by omega)]
   ·exact ih
 refine⟨hl,fun j h1 h2=>?_,fun j q hj ht hq=>?_,fun j hj=>?_⟩
 ·by_cases e:j=i
  ·subst e;refine⟨k0,k1,fun k a b=>?_,by rw[k7];exact⟨r1,r2⟩,?_⟩
   ·have hin:((j:Int),(1:Int),(1:Int),(R j 1).1,(R j 1).2)∈trmS t R U j:=(by unfold trmS;simp only[trmK,List.mem_append];exact .inl (.inl (.inl (.inl (trmP_in j)))));have hik:∀q:Nat,q<4→((j:Int),(q:Int)+2,(-1:Int),(R j (q+2)).1,(R j (q+2)).2)∈trmS t R U j:=by
     intro q hq;unfold trmS;simp only[trmK,List.mem_append,List.mem_singleton];rcases (by omega:q=0∨q=1∨q=2∨q=3) with rfl|rfl|rfl|rfl<;>simp
    by_cases e1:k=1
    ·subst e1;have:=gc _ hin;simpa [tgA,tgB] using this
    ·have h3:=gc _ (hik (k - 2) (by omega));have e2:tgB ((j:Int),((k - 2:Nat):Int)+2,(-1:Int),(R j (k - 2+2)).1,(R j (k - 2+2)).2)=1+k:=(by simp only[tgB];omega);have e3:tgA ((j:Int),((k - 2:Nat):Int)+2,(-1:Int),(R j (k - 2+2)).1,(R j (k - 2+2)).2)=j:=(by simp[tgA]);rw[e2,e3] at h3;simp only[show k - 2+2=k by omega] at h3;exact h3
   ·rw[hl,sumV_S] at ga;omega
  ·obtain⟨a,b,c,d,f⟩:=h.done j (by omega) h2;have hj:i<j:=(by omega);refine⟨by rw[kf j 0 e (by omega)];exact a,by rw[kf j 1 e (by omega)];exact b,fun k k1 k5=>by rw[kf j (1+k) e (by omega)];exact c k k1 k5,by rw[kg j hj];exact d,?_⟩;rw[kin j hj,kf j 2 e (by omega),kf j 3 e (by omega),kf j 4 e (by omega),kf j 5 e (by omega),kf j 6 e (by omega),kg j hj];exact f
 ·by_cases e:q=i
  ·subst e;have hmem:((j:Int),(6:Int),(1:Int),(U j).1,(U j).2)∈trmS t R U q:=(by unfold trmS;simp only[trmK,List.mem_append];exact .inl (.inl (.inl (.inl (trmP_par ht q hj)))));have:=gc _ hmem;simpa [tgA,tgB] using this
  ·rw[kp j q (by omega) ht e];exact h.par j q (by omega) ht (by omega)
 ·rw[kf j 1 (by omega) (by omega)];exact h.one j (by omega)
end
end Go.Proofs.YtfplipbkjglmhaaDoor

namespace Go.Proofs.YtfplipbkjglmhaaDoor
open Go.RowKit
set_option linter.unusedVariables false
set_option linter.unusedSimpArgs false
/-- One cell of an element is stored. -/
theorem RowOf.put1{α:Type}{w:World}{gb:Nat}{ty:TypeId}{m cap n:Nat}{f:α→List Value}{F:Nat→α}(h:RowOf w gb ty m cap f n F)(hm:∀x,(f x).length=m){i j:Nat}(hj:j<m)(v:Value)(x:α)(hx:f x=(f (F i)).set j v) :
  RowOf (w.setCell ⟨gb,i*m+j,none⟩ v) gb ty m cap f n (fun k=>if k=i then x else F k):=by
 obtain⟨g,h1,h2⟩:=h;have hs:=rowIs_sets [v] (i*m+j) w g h1;refine⟨_,hs,fun k hk t u hu=>?_⟩;simp only[List.length_singleton];replace hu:(f (if k=i then x else F k))[t]? = some u:=hu;have ht:t<m:=by rw[←hm (if k=i then x else F k)];exact(List.getElem?_eq_some_iff.1 hu).1
 by_cases hki:k=i
 ·subst hki;rw[if_pos rfl,hx] at hu;by_cases htj:t=j
  ·subst htj;rw[if_pos ⟨by omega,by omega⟩];have hl:t<(f (F k)).length:=(by rw[hm];exact hj);rw[List.getElem?_set_self hl] at hu;simpa using hu
  ·rw[if_neg (by omega)];rw[List.getElem?_set_ne (by omega)] at hu;exact h2 k hk t u hu
 ·rw[if_neg hki] at hu;have hne:k*m+t≠i*m+j:=by
   intro e;rcases Nat.lt_or_ge k i with hlt|hge
   ·have:(k+1)*m≤i*m:=Nat.mul_le_mul_right _ hlt;rw[Nat.succ_mul] at this;omega
   ·have:(i+1)*m≤k*m:=Nat.mul_le_mul_right _ (by omega);rw[Nat.succ_mul] at this;omega
  rw[if_neg (by omega)];exact h2 k hk t u hu
theorem wdc_len(f:Nat→Int):(wdc f).length=8:=rfl
theorem spc_len(s:Sp):(spc s).length=2:=rfl
theorem make_wds(n:Nat)(hn:n≤10)(w:World):(Instr.makeSlice 29 (.int .i64 n) (.int .i64 n)).run Tryd.prog w = .ok (.slice (some ⟨w.heap.size,0,none⟩) n n) (w.alloc (.cells (madeCells #[.int .i64 0,.int .i64 0,.int .i64 0,.int .i64 0,.int .i64 0,.int .i64 0,.int .i64 0,.int .i64 0] (n*8)) 43)):=by
 obtain⟨i0,hi,hz0,hz1,hz2⟩:=info_parts info_wd;have:=run_make w 29 43 i0 _ Tryd.underlying29 hi hz0 .i64 .i64 n n (by omega) (by omega) (by rw[hz2];omega) (by omega);rw[this,hz1];rfl
theorem made_wds(w:World)(n:Nat):RowOf (w.alloc (.cells (madeCells #[.int .i64 0,.int .i64 0,.int .i64 0,.int .i64 0,.int .i64 0,.int .i64 0,.int .i64 0,.int .i64 0] (n*8)) 43)) w.heap.size 43 8 n wdc n (fun _=>(fun _=>(0:Int))):=by
 refine⟨fun _=>.int .i64 0,⟨_,heap_alloc_new w _,size_madeCells _ _,fun i hi=>?_⟩,fun k hk t u hu=>?_⟩
 ·simp only[madeCells];rw[Array.getElem?_map,Array.getElem?_range,if_pos hi];have h:=Nat.mod_lt i (show 0<8 by decide);rcases (by omega:i%8=0∨i%8=1∨i%8=2∨i%8=3∨i%8=4∨i%8=5∨i%8=6∨i%8=7) with h|h|h|h|h|h|h|h<;>simp[h]
 ·have ht:t<8:=(List.getElem?_eq_some_iff.1 hu).1;rcases (by omega:t=0∨t=1∨t=2∨t=3∨t=4∨t=5∨t=6∨t=7) with rfl|rfl|rfl|rfl|rfl|rfl|rfl|rfl<;>simpa [wdc] using hu
/-- A row of parings reads as a list. -/
theorem RowOf.sps{w:World}{gb n:Nat}{U:Nat→Sp}(h:RowOf w gb 36 2 n spc n U)(hn:n≤maxLen):Reads w w.heap.size 2 (some ⟨gb,0,none⟩) n (sps U n):=by
 have ho:=h.own (base:=0) spc_len (l:=(List.range n).map U) (by simp) (by simp) hn (Nat.zero_le _) (fun k x hx=>by
  rw[List.getElem?_map] at hx;cases hr:(List.range n)[k]? with
  |none=>rw[hr] at hx;cases hx
  |some q=>
   rw[hr] at hx;have:q=k:=(by rw[List.getElem?_range (by have:=(List.getElem?_eq_some_iff.1 hr).1;simpa using this)] at hr;simpa using hr.symm);subst this
   simpa using hx)
 have hlen:((List.range n).map U).length=n:=by simp
 rw[hlen,List.flatMap_map] at ho;exact Reads.of_own ho
/-- A row reads as a list. -/
theorem RowOf.lst{α:Type}{w:World}{gb n m:Nat}{ty:TypeId}{f:α→List Value}{F:Nat→α}(hm:∀x,(f x).length=m)(h:RowOf w gb ty m n f n F)(hn:n≤maxLen):Reads w w.heap.size m (some ⟨gb,0,none⟩) n (((List.range n).map F).flatMap f):=by
 have ho:=h.own (base:=0) hm (l:=(List.range n).map F) (by simp) (by simp) hn (Nat.zero_le _) (fun k x hx=>by
  rw[List.getElem?_map] at hx;cases hr:(List.range n)[k]? with
  |none=>rw[hr] at hx;cases hx
  |some q=>
   rw[hr] at hx;have:q=k:=(by rw[List.getElem?_range (by have:=(List.getElem?_eq_some_iff.1 hr).1;simpa using this)] at hr;simpa using hr.symm);subst this
   simpa using hx)
 have hlen:((List.range n).map F).length=n:=by simp
 rw[hlen] at ho;exact Reads.of_own ho
end Go.Proofs.YtfplipbkjglmhaaDoor

namespace Go.Proofs.YtfplipbkjglmhaaDoor
open Go.RowKit Go.Maps
set_option linter.unusedVariables false
theorem zeroN(w:World):(zeroValue 3).run Tryd.prog w = .ok (.int .i64 0) w:=by kernel_rfl
/-- Block b of w is a map of at most n numbers to numbers, in which each number reads as S says. -/
def OwnsNum (w:World) (b n:Nat) (S:Int→Int):Prop:=
 ∃D:DataW Unit,w.ownsMap Tryd.prog 3 (plainElem Tryd.prog 3) b n D∧IsMap D∧∀k:Int,D.atKey (.int .i64 k) (.lit (.int .i64 0)) = .lit (.int .i64 (S k))
theorem OwnsNum.made(w:World):OwnsNum (w.alloc (.map #[] 0)) w.heap.size 0 (fun _=>0):=
 ⟨.map [],World.ownsMap_made _ _ _ _,⟨[],rfl⟩,fun _=>rfl⟩
theorem OwnsNum.mono{w:World}{b n m:Nat}{S:Int→Int}(h:OwnsNum w b n S)(hn:n≤m):OwnsNum w b m S:=by
 obtain⟨D,h1,h2⟩:=h;exact⟨D,h1.mono hn,h2⟩
theorem OwnsNum.lt{w:World}{b n:Nat}{S:Int→Int}(h:OwnsNum w b n S):b<w.heap.size:=by
 obtain⟨D,h1,h2⟩:=h;exact h1.lt
theorem OwnsNum.of_block{w w':World}{b n:Nat}{S:Int→Int}(h:OwnsNum w b n S)(hb:w'.heap[b]? = w.heap[b]?):OwnsNum w' b n S:=by
 obtain⟨D,⟨es,clock,h1,h2⟩,h3⟩:=h;exact⟨D,⟨es,clock,hb.trans h1,h2⟩,h3⟩
theorem OwnsNum.below{w w':World}{b n B:Nat}{S:Int→Int}(h:OwnsNum w b n S)(hb:Below B w w')(hB:b<B):OwnsNum w' b n S:=h.of_block (hb.block b hB)
section
variable {w:World} {ops:Array Oper} {rest:List Oper} {o:Oper} {a:Act} {Q:Exit→Act→World→Prop}
theorem num_elem{P:Program}{e:TypeId}{v:Value}{x:Int}{ps:List MemPlace}(he:P.underlying e=some (.int .i64))(hv:plainElem (H:=Unit) P e v=some (.lit (.int .i64 x),ps)):v = .int .i64 x:=by
 obtain⟨a,rfl,hz,-⟩:=plainElem_int_inv he hv;cases hz;rfl
/-- A look-up in such a map. -/
theorem run_num{b n:Nat}{S:Int→Int}{k:Int}(hown:OwnsNum w b n S)(hk:(Lit.int .i64 k).wf=true):(Instr.lookup 112 (.map (some b)) (.int .i64 k) false).run Tryd.prog w = .ok (.int .i64 (S k)) w:=by
 obtain⟨D,h1,_,h3⟩:=hown;obtain⟨v,ps,hrun,hv⟩:=h1.lookup lawJ Tryd.underlying112 (zeroN w) (plainElem_int Tryd.underlying3 (by decide)) (keyOf_int_mk Tryd.underlying3 hk);rw[h3 k] at hv;have hvv:=num_elem Tryd.underlying3 hv;subst hvv;exact hrun
theorem look_num(hg:o.guard=none)(m x:Operand)(hop:o.op=Op.lookup 112 m x false)(b n:Nat)(S:Int→Int)(k v:Int)(hv:S k=v)
  (hm:a.eval m = .map (some b)) (hown:OwnsNum w b n S) (hx:a.eval x = .int .i64 k) (hk:(Lit.int .i64 k).wf=true)
  (hK:wpList Tryd.prog ops Q rest (a.put o.dst (.int .i64 v)) w):wpList Tryd.prog ops Q (o::rest) a w:=by
 subst hv;have hrun:=run_num hown hk;refine wpList_plain hg fun K' hK'=>?_;unfold Oper.wp;simp[execOp,hop,hm,hx,hrun,Result.andThen];exact hK' _ _ hK
theorem put_num(hg:o.guard=none)(m x v:Operand)(hop:o.op=Op.mapUpdate 112 m x v)(b n:Nat)(S:Int→Int)(k u:Int)
  (hm:a.eval m = .map (some b)) (hown:OwnsNum w b n S) (hn:n<maxLen) (hx:a.eval x = .int .i64 k) (hk:(Lit.int .i64 k).wf=true) (hv:a.eval v = .int .i64 u) (hu:(Lit.int .i64 u).wf=true)
  (hK:∀w',OwnsNum w' b (n+1) (fun j=>if j=k then u else S j)→w.grownBy w' (some b)→wpList Tryd.prog ops Q rest (a.put o.dst undef) w'):wpList Tryd.prog ops Q (o::rest) a w:=by
 obtain⟨D,h1,h2,h3⟩:=hown;refine wpList_mapUpdate_own w hg m x v 112 hop 3 3 lawJ Tryd.underlying112 _ b n D hm h1 hn _ _ _ hx hv (keyOf_int_mk Tryd.underlying3 hk) (.lit (.int .i64 u)) [] (plainElem_int Tryd.underlying3 hu) ?_;intro w' g1 g2;refine hK w' ⟨_,g1,?_,fun j=>?_⟩ g2
 ·obtain⟨es,rfl⟩:=h2;exact⟨_,rfl⟩
 ·by_cases hj:j=k
  ·subst hj;rw[atKey_put_same h2 (k:=.int .i64 j) (by simp[WideAt.IsKeyLit])];simp
  ·rw[atKey_put_other (by simpa using hj),h3];simp[hj]
end
end Go.Proofs.YtfplipbkjglmhaaDoor

namespace Go.Proofs.YtfplipbkjglmhaaDoor
open Go.RowKit
set_option linter.unusedVariables false
set_option linter.unusedSimpArgs false
open Go.Maps
def gok (t:Nat→Option Nat) (R:Nat→Nat→Sp) (M:Nat→Int) (n:Nat):Prop:=∀i,i<n→Ne (givU t R M i)∧∀k,1≤k→k≤5→Ne (R i k)
/-- What given answers. -/
def GivR (t:Nat→Option Nat) (R:Nat→Nat→Sp) (ids M:Nat→Int) (n:Nat) (e:Ending) (w':World):Prop:=
 (¬gok t R M n∧e = .returned (.tuple #[.slice none 0 0,.bool false]))∨(gok t R M n∧∃A c F,e = .returned (.tuple #[.slice A n c,.bool true])∧Reads w' w'.heap.size 8 A n (wds ((List.range n).map F))∧OI t R (givU t R M) ids M n F 0)
/-- The parings ahead of a place; nothing behind it. -/
def upTo (U:Nat→Sp) (i:Nat):Nat→Sp:=fun j=>if j<i then U j else(0,0)
theorem trmP_congr{t:Nat→Option Nat}{R:Nat→Nat→Sp}{U U':Nat→Sp}{i:Nat}:∀k,(∀j,j<k→U j=U' j)→trmP t R U i k=trmP t R U' i k
 |0,_=>rfl
 |k+1,h=>by unfold trmP;rw[trmP_congr k (fun j hj=>h j (by omega)),h k (by omega)]
theorem trmS_congr{t:Nat→Option Nat}{R:Nat→Nat→Sp}{U U':Nat→Sp}{i:Nat}(h:∀j,j<i→U j=U' j):trmS t R U i=trmS t R U' i:=by
 unfold trmS;simp only[trmK,trmP_congr i h]
theorem trmS_len(t:Nat→Option Nat)(R:Nat→Nat→Sp)(U:Nat→Sp)(i:Nat):(trmS t R U i).length≤i+5:=by
 have:=trmP_len t R U i i;unfold trmS;simp only[trmK,List.length_append,List.length_singleton];omega
theorem trmS_bd{t:Nat→Option Nat}{R:Nat→Nat→Sp}{U:Nat→Sp}{i:Nat}(hR:∀k,k<7→0≤(R i k).1∧(R i k).1≤1000000∧0≤(R i k).2∧(R i k).2≤1000000)(hU:∀j,j<i→-1000000≤(U j).1∧(U j).1≤1000000∧-1000000≤(U j).2∧(U j).2≤1000000):TmB (trmS t R U i):=by
 intro x hx;rcases trmK_mem 4 x hx with ⟨-,-,e⟩|⟨j,hj,-,-,-,e⟩|⟨p,hp,-,-,e⟩
 ·have:=hR 1 (by omega);rw[show x.2.2.2.1=(R i 1).1 by rw[e],show x.2.2.2.2=(R i 1).2 by rw[e]];omega
 ·have:=hU j hj;rw[show x.2.2.2.1=(U j).1 by rw[e],show x.2.2.2.2=(U j).2 by rw[e]];exact this
 ·have:=hR (p+2) (by omega);rw[show x.2.2.2.1=(R i (p+2)).1 by rw[e],show x.2.2.2.2=(R i (p+2)).2 by rw[e]];omega
theorem trm_pos{t:Nat→Option Nat}{R:Nat→Nat→Sp}{U:Nat→Sp}{i:Nat}:∀x∈trmS t R U i,∃a b:Nat,a≤i∧1≤b∧b≤6∧x.1=a∧x.2.1=b:=by
 have hp:∀k,k≤i→∀x∈trmP t R U i k,∃a b:Nat,a≤i∧1≤b∧b≤6∧x.1=a∧x.2.1=b:=by
  intro k
  induction k with
  |zero=>intro _ x h;simp[trmP] at h;subst h;exact⟨i,1,Nat.le_refl _,by omega,by omega,rfl,rfl⟩
  |succ k ih=>
   intro hk x h;unfold trmP at h;split at h
   ·rw[List.mem_append,List.mem_singleton] at h;rcases h with h|rfl
    ·exact ih (by omega) x h
    ·exact⟨k,6,by omega,by omega,by omega,rfl,rfl⟩
   ·exact ih (by omega) x h
 have hk:∀q,q≤4→∀x∈trmK t R U i q,∃a b:Nat,a≤i∧1≤b∧b≤6∧x.1=a∧x.2.1=b:=by
  intro q
  induction q with
  |zero=>intro _ x h;exact hp i (Nat.le_refl _) x h
  |succ q ih=>
   intro hq x h;simp only[trmK,List.mem_append,List.mem_singleton] at h;rcases h with h|rfl
   ·exact ih (by omega) x h
   ·exact⟨i,q+2,Nat.le_refl _,by omega,by omega,rfl,by simp⟩
 exact hk 4 (Nat.le_refl _)
/-- If all is not empty, no term is empty. -/
theorem trm_ne{t:Nat→Option Nat}{R:Nat→Nat→Sp}{U:Nat→Sp}{i:Nat}(hR:∀k,1≤k→k≤5→Ne (R i k))(hU:∀j,j<i→Ne (U j)):∀x∈trmS t R U i,x.2.2.2.1≤x.2.2.2.2:=by
 intro x hx;rcases trmK_mem 4 x hx with ⟨-,-,e⟩|⟨j,hj,-,-,-,e⟩|⟨p,hp,-,-,e⟩
 ·have:=hR 1 (by omega) (by omega);rw[e];exact this
 ·have:=hU j hj;rw[e];exact this
 ·have:=hR (p+2) (by omega) (by omega);rw[e];exact this
def lackS (ms:List (Int×Int)):Int→Int:=ms.foldl (fun S p=>fun j=>if j=p.1 then p.2 else S j) (fun _=>0)
theorem lackS_snoc(ms:List (Int×Int))(p:Int×Int):lackS (ms ++ [p])=fun j=>if j=p.1 then p.2 else lackS ms j:=by unfold lackS;rw[List.foldl_append];rfl
theorem lackS_bd{ms:List (Int×Int)}(h:∀x∈ms,-20000000≤x.2∧x.2≤20000000)(j:Int):-20000000≤lackS ms j∧lackS ms j≤20000000:=by
 unfold lackS;have key:∀(l:List (Int×Int)) (S:Int→Int),(∀x∈l,-20000000≤x.2∧x.2≤20000000)→(∀j,-20000000≤S j∧S j≤20000000)→∀j,-20000000≤l.foldl (fun S p=>fun j=>if j=p.1 then p.2 else S j) S j∧l.foldl (fun S p=>fun j=>if j=p.1 then p.2 else S j) S j≤20000000:=by
  intro l
  induction l with
  |nil=>intro S _ hS j;exact hS j
  |cons y r ih=>
   intro S hl hS j;rw[List.foldl_cons];refine ih _ (fun x hx=>hl x (List.mem_cons_of_mem _ hx)) (fun j=>?_) j;split
   ·exact hl y (List.mem_cons_self ..)
   ·exact hS j
 exact key ms _ h (fun j=>by omega) j
/-- What stands in each world behind the copy of the press and the map of what is missing. -/
structure GW (w:World) (A A':Option Addr) (n c n' c' mb q:Nat) (S:Int→Int) (z:World):Prop where
 b0:z.heap[w.heap.size]? = some (.cells #[.slice A n c,.slice A' n' c'] 25 (0,0))
 mp:OwnsNum z mb q S
 lt:w.heap.size<mb
 bel:Below w.heap.size w z
section
variable {w z y:World} {A A':Option Addr} {n c n' c' mb q q':Nat} {S S':Int→Int}
theorem GW.below(h:GW w A A' n c n' c' mb q S z)(hb:Below z.heap.size z y):GW w A A' n c n' c' mb q S y:=⟨keepO hb h.b0,h.mp.below hb h.mp.lt,h.lt,below_via h.bel h.bel.size hb⟩
theorem GW.cells(h:GW w A A' n c n' c' mb q S z):z.cell? ⟨w.heap.size,0,none⟩=some (.slice A n c)∧z.cell? ⟨w.heap.size,1,none⟩=some (.slice A' n' c'):=by
 obtain⟨a,b,-,-⟩:=two_facts h.b0;exact⟨a,b⟩
theorem GW.put(h:GW w A A' n c n' c' mb q S z)(hs:OwnsNum y mb q' S')(hg:z.grownBy y (some mb)):GW w A A' n c n' c' mb q' S' y:=by
 have h1:=h.lt;exact⟨(hg.block _ (Array.getElem?_eq_some_iff.1 h.b0).1 (by simp;omega)).trans h.b0,hs,h.lt,h.bel.grown hg h.bel.size (fun k hk=>by cases hk;omega)⟩
end
/-- .. and behind the parings. -/
structure FW (w:World) (A A':Option Addr) (n c n' c' mb q:Nat) (S:Int→Int) (gp:Nat) (U:Nat→Sp) (z:World):Prop extends GW w A A' n c n' c' mb q S z where
 row:RowOf z gp 36 2 n spc n U
 gl:mb<gp
theorem FW.below{w z y:World}{A A':Option Addr}{n c n' c' mb q gp:Nat}{S:Int→Int}{U:Nat→Sp}(h:FW w A A' n c n' c' mb q S gp U z)(hb:Below z.heap.size z y):FW w A A' n c n' c' mb q S gp U y:=⟨h.toGW.below hb,h.row.of_block (hb.block gp h.row.lt),h.gl⟩
theorem rd_nil2{w:World}{size:Nat}(A:Option Addr):Reads w w.heap.size size A 0 (tms []):=⟨by simp[tms],fun h=>absurd h (by omega)⟩
theorem tms_at(l:List TM)(k:Nat):(tms l).drop (k*5)=tms (l.drop k):=by
 induction k generalizing l with
 |zero=>simp
 |succ k ih=>
  cases l with
  |nil=>simp[tms]
  |cons x r=>
   have e:tms (x::r)=tmc x++tms r:=(by simp[tms]);rw[List.drop_succ_cons,←ih r,e,show (k+1)*5=5+k*5 by omega,←List.drop_drop];rfl
theorem rd_drop{w:World}{B b o n k:Nat}{l:List TM}(h:Reads w B 5 (some ⟨b,o,none⟩) n (tms l))(hk:k≤n):Reads w B 5 (some ⟨b,o+k*5,none⟩) (n - k) (tms (l.drop k)):=by
 have hl:=h.1;refine⟨by rw[←tms_at,List.length_drop,hl,Nat.sub_mul],fun h0=>?_⟩;obtain⟨b',o',e,hb,hc⟩:=h.2 (by omega);cases e;refine⟨b,o+k*5,rfl,hb,fun j u hu=>?_⟩;rw[←tms_at,List.getElem?_drop] at hu;have:=hc _ u hu;rw[←Nat.add_assoc] at this;exact this
theorem ownR_cap{w:World}{base size n n' cap:Nat}{e:TypeId}{A:Option Addr}{xs:List Value}(h:w.ownsRow base e size (.slice A n' cap) n xs):n≤cap∨n=0:=by
 rcases h.2 with ⟨_,h0⟩|⟨g,c,cur,hv,_,_,hc,_⟩
 ·exact .inr h0
 ·cases hv;exact .inl hc
/-- .. and behind the weights. -/
structure HW (w:World) (A A':Option Addr) (n c n' c' mb q:Nat) (S:Int→Int) (gp:Nat) (U:Nat→Sp) (gk:Nat) (F:WF) (z:World):Prop extends FW w A A' n c n' c' mb q S gp U z where
 wts:RowOf z gk 43 8 n wdc n F
 ll:gp<gk
theorem HW.below{w z y:World}{A A':Option Addr}{n c n' c' mb q gp gk:Nat}{S:Int→Int}{U:Nat→Sp}{F:WF}(h:HW w A A' n c n' c' mb q S gp U gk F z)(hb:Below z.heap.size z y):HW w A A' n c n' c' mb q S gp U gk F y:=⟨h.toFW.below hb,h.wts.of_block (hb.block gk h.wts.lt),h.ll⟩
theorem wdc_set(f:Nat→Int){j:Nat}(hj:j<8)(v:Int):wdc (fun q=>if q=j then v else f q)=(wdc f).set j (.int .i64 v):=by
 rcases (by omega:j=0∨j=1∨j=2∨j=3∨j=4∨j=5∨j=6∨j=7) with rfl|rfl|rfl|rfl|rfl|rfl|rfl|rfl<;>simp[wdc]
/-- One weight is laid. -/
theorem HW.lay{w z:World}{A A':Option Addr}{n c n' c' mb q gp gk:Nat}{S:Int→Int}{U:Nat→Sp}{F:WF}(h:HW w A A' n c n' c' mb q S gp U gk F z){p j:Nat}(hj:j<8)(v:Int) :
  HW w A A' n c n' c' mb q S gp U gk (updF F p j v) (z.setCell ⟨gk,p*8+j,none⟩ (.int .i64 v)):=by
 have h1:=h.lt;have h2:=h.gl;have h3:=h.ll;have far:∀q,q≠gk→(z.setCell ⟨gk,p*8+j,none⟩ (.int .i64 v)).heap[q]? = z.heap[q]?:=fun q hq=>Below.heap_setCell z ⟨gk,p*8+j,none⟩ _ q hq;refine⟨⟨⟨(far _ (by omega)).trans h.b0,h.mp.of_block (far mb (by omega)),h.lt,h.bel.setCell (p:=⟨gk,p*8+j,none⟩) (by simp only;omega) _⟩,h.row.of_block (far gp (by omega)),h.gl⟩,?_,h.ll⟩;refine(h.wts.put1 wdc_len hj (.int .i64 v) (fun q=>if q=j then v else F p q) (wdc_set (F p) hj v)).congr (Nat.le_refl _) fun k _=>?_
 funext q
 unfold updF;by_cases e:k=p
 ·subst e;rw[if_pos rfl];simp
 ·rw[if_neg e,if_neg (fun h=>e h.1)]
set_option maxRecDepth 100000 in
set_option maxHeartbeats 16000000 in
theorem given_any(A A':Option Addr)(n c n' c':Nat)(ps:List PR)(ws:List WE)(Am Ab:Option Addr)(m cm nb cb:Nat)(ms:List (Int×Int))(xs:List Nat)(w:World)(hnm:n≤maxLen)(hv:validP ps ws=true)(hm10:m≤10)(hnb:nb≤maxLen)
  (hms:∀x∈ms,-20000000≤x.2∧x.2≤20000000) (hmk:∀x∈ms,(Lit.int .i64 x.1).wf=true) (hxs:∀x∈xs,x≤4294967295)
  (hR:Reads w w.heap.size 4 A n (pgs ps)) (hW:Reads w w.heap.size 5 A' n' (wgs ws)) (hM:Reads w w.heap.size 2 Am m (mss ms)) (hX:Reads w w.heap.size 1 Ab nb (usV xs)) :
  Calls Tryd.prog 17 #[.agg #[.slice A n c,.slice A' n' c'],.slice Am m cm,.slice Ab nb cb] w fun e w'=>GivR (toT ps) (rowsT ps ws) (idQ ps) (fun i=>lackS ms (idQ ps i)) n e w'∧Below w.heap.size w w':=by
 have hl:ps.length=n:=hR.pg_len;have hVF_:=valid_facts hv;have hn10:n≤10:=by have:=hVF_.n10;omega
 have hml:ms.length=m:=hM.rec_len (f:=spc) (m:=2) (fun _=>rfl) (by omega);have HMd:=Lib.hid (fun z (hz:Below w.heap.size w z)=>(hM.below hz).more hz.size);have HRd:=Lib.hid (fun z (hz:Below w.heap.size w z)=>(hR.below hz).more hz.size);have HWd:=Lib.hid (fun z (hz:Below w.heap.size w z)=>(hW.below hz).more hz.size);have HXd:=Lib.hid (fun z (hz:Below w.heap.size w z)=>(hX.below hz).more hz.size);have hmsh:=Lib.hid hms;have hmkh:=Lib.hid hmk;have hmlh:=Lib.hid hml;have hlh:=Lib.hid hl;have hvh:=Lib.hid hv;have hVF:=Lib.hid hVF_;have hm64:(m:Int)≤10:=by omega
 have hn64:(n:Int)≤10:=by omega
 have hO0:=heap_alloc_new w (.cells #[.slice A n c,.slice A' n' c'] 25);have hB0:=(Below.refl w.heap.size w).alloc (Nat.le_refl _) (.cells #[.slice A n c,.slice A' n' c'] 25);obtain⟨wm,hwm_⟩:∃wm,wm=(w.alloc (.cells #[.slice A n c,.slice A' n' c'] 25)).alloc (.map #[] 0):=⟨_,rfl⟩;have hbm:Below (w.alloc (.cells #[.slice A n c,.slice A' n' c'] 25)).heap.size (w.alloc (.cells #[.slice A n c,.slice A' n' c'] 25)) wm:=by rw[hwm_];exact(Below.refl _ _).alloc (Nat.le_refl _) _
 have hG0_:GW w A A' n c n' c' (w.heap.size+1) 0 (lackS (ms.take 0)) wm:=by
  refine⟨keepO hbm hO0,?_,by omega,below_via hB0 hB0.size hbm⟩;have:=OwnsNum.made (w.alloc (.cells #[.slice A n c,.slice A' n' c'] 25));rw[hwm_];simpa [lackS] using this
 have hG0:=Lib.hid hG0_;have hwm:=Lib.hid hwm_;clear hR hW hM hX hv hVF_ hl hml hms hmk hO0 hB0 hbm hG0_ hwm_;obtain⟨Sm,hSm_⟩:∃S,S=lackS ms:=⟨_,rfl⟩;rw[←hSm_];have hSm:=Lib.hid hSm_;clear hSm_;have hmm:=@run_makeMap Tryd.prog
 go_enter Tryd.func17,Tryd.ntmps17
 go_wp2_with fail
 clear hmm;try rw[←hwm.out]
 clear hwm;obtain⟨mb,hmb_⟩:∃mb,mb=w.heap.size+1:=⟨_,rfl⟩;rw[←hmb_] at hG0 ⊢;clear hmb_;go_loopw [32] (fun u wr=>∃wl,wl=wr∧∃t:Nat,t≤m∧u = .int .i64 t∧Hid (GW w A A' n c n' c' mb t (lackS (ms.take t)) wl)) (fun u _=>m - (intOf u).toNat)
 case atStart=>exact⟨_,rfl,0,Nat.zero_le _,rfl,hG0⟩
 case round=>
  obtain⟨wr,rfl,t,ht,rfl,HG⟩:=hrel;by_cases htn:t<m
  ·have hti:(t:Int)<(m:Int):=(by omega);have ht0:(0:Int)≤(t:Int):=(by omega);obtain⟨b,o,p,hAe,hblt,hx,hc⟩:=Reads.rec_at (f:=spc) (m:=2) (fun _=>rfl) (by omega) (HMd.out _ HG.out.bel) htn;obtain⟨g1,g2⟩:=hmsh.out _ (List.mem_of_getElem? hx);have hwf:=Lib.hid (hmkh.out _ (List.mem_of_getElem? hx));have hst:=Lib.hid (show lackS (ms.take (t+1))=fun j=>if j=p.1 then p.2 else lackS (ms.take t) j by rw[List.take_add_one,hx,Option.toList_some,lackS_snoc]);obtain⟨I,L⟩:=p;simp only at g1 g2;subst hAe;have y0:wr.cell? ⟨b,o+t*2,none⟩=some (.int .i64 I):=(by have h:=hc 0 _ rfl;simpa [Nat.add_assoc] using h);have y1:wr.cell? ⟨b,o+t*2+1,none⟩=some (.int .i64 L):=(by have h:=hc 1 _ rfl;simpa [Nat.add_assoc] using h);obtain⟨wk,hwk_⟩:∃wk,wk=wr.alloc (.cells #[.int .i64 I,.int .i64 L] 62):=⟨_,rfl⟩;obtain⟨xb,hxb_⟩:∃xb,xb=wr.heap.size:=⟨_,rfl⟩;have hb:Below wr.heap.size wr wk:=(by rw[hwk_];exact(Below.refl _ _).alloc (Nat.le_refl _) _);have hXk:wk.heap[xb]? = some (.cells #[.int .i64 I,.int .i64 L] 62 (0,0)):=(by rw[hwk_,hxb_];exact heap_alloc_new _ _);have HGk:=Lib.hid (HG.out.below hb);have hwk:=Lib.hid hwk_;have hxb:=Lib.hid hxb_;have hXh:=Lib.hid hXk;clear hwk_ hxb_ hb hXk HG hx hc
   go_upto_region 5 with (fail)
   rw[←hwk.out,←hxb.out];clear hwk hxb y0 y1;obtain⟨x0,x1,-,-⟩:=two_facts hXh.out;have d1:decide (L < -20000000)=false:=(by simp;omega);have d2:decide (L > 20000000)=false:=(by simp;omega);obtain⟨St,hSt_⟩:∃St,St=lackS (ms.take t):=⟨_,rfl⟩;rw[←hSt_] at hst HGk;clear hSt_;have hwL:=Lib.hid (show (Lit.int .i64 L).wf=true from WalkArith.wf_i64 (by omega))
   go_wp2_with (first
    |(at_mapUpdate;refine put_num rfl _ _ _ rfl mb t St I L rfl HGk.out.mp (by unfold maxLen;omega) rfl hwf.out rfl hwL.out ?_;intro w1 hown1 hgrow1;replace hown1:=Lib.hid hown1;replace hgrow1:=Lib.hid hgrow1))
   clear x0 x1 d1 d2;have HG1:=Lib.hid (HGk.out.put hown1.out hgrow1.out);clear hown1 hgrow1 HGk;go_wp2;go_roundw
   case rel=>exact⟨_,rfl,t+1,by omega,by go_num,by rw[hst.out];exact HG1⟩
   case measure=>simp[intOf];omega
  ·obtain rfl:m=t:=(by omega);have hti:¬(m:Int)<(m:Int):=(by omega);have hall:Hid (ms.take m=ms):=(by show _=_;exact List.take_of_length_le (by rw[hmlh.out];omega));rw[hall.out,←hSm.out] at HG;have hSb:=Lib.hid (fun j=>by rw[hSm.out];exact lackS_bd hmsh.out j:∀j,-20000000≤Sm j∧Sm j≤20000000);obtain⟨U,hU_⟩:∃U,U=givU (toT ps) (rowsT ps ws) (fun i=>Sm (idQ ps i)):=⟨_,rfl⟩;have hU:=Lib.hid hU_;obtain⟨z2,hz2_⟩:∃z,z=wr.alloc (.cells (madeCells #[.int .i64 0,.int .i64 0] (n*2)) 36):=⟨_,rfl⟩;have hb:Below wr.heap.size wr z2:=(by rw[hz2_];exact(Below.refl _ _).alloc (Nat.le_refl _) _);obtain⟨gp,hgp_⟩:∃g,g=wr.heap.size:=⟨_,rfl⟩;have hF0_:FW w A A' n c n' c' mb m Sm gp (upTo U 0) z2:=⟨HG.out.below hb,(by rw[hz2_,hgp_];exact(made_sps wr n).congr (Nat.le_refl _) (fun k _=>by simp[upTo])),by rw[hgp_];exact HG.out.mp.lt⟩;have hF0:=Lib.hid hF0_;obtain⟨p0,p1⟩:=HG.out.cells;obtain⟨p2,p3⟩:=hF0_.toGW.cells;rw[hz2_] at p2 p3;have hz2:=Lib.hid hz2_;have hgp:=Lib.hid hgp_;have hmk:=make_sps n hn10;clear hU_ hz2_ hgp_ hF0_ hb hall;(go_wp2_with fail);rw[←hz2.out,←hgp.out];clear hz2 hgp p0 p1 p2 p3 hmk HG hti;go_loopw [57] (fun u wr=>∃wl,wl=wr∧∃i:Nat,i≤n∧u = .int .i64 i∧Hid (FW w A A' n c n' c' mb m Sm gp (upTo U i) wl)∧Hid (∀j,j<i→Ne (U j))) (fun u _=>n - (intOf u).toNat)
   case atStart=>exact⟨_,rfl,0,Nat.zero_le _,rfl,hF0,Lib.hid (fun j hj=>absurd hj (by omega))⟩
   case round=>
    clear hF0;obtain⟨wq,rfl,i,hi_,rfl,HF,hne⟩:=hrel;obtain⟨p0,p1⟩:=HF.out.toGW.cells;by_cases hin:i<n
    ·have hii:(i:Int)<(n:Int):=(by omega);have hi0:(0:Int)≤(i:Int):=(by omega);obtain⟨bp,op,I,D,P,T,hAe,hbp,hx,y0,y1,y2,y3⟩:=(HRd.out _ HF.out.bel).pg hin;have hI:Hid (idQ ps i=I):=(by show _=_;unfold idQ;rw[hx]);obtain⟨wk,hwk_⟩:∃wk,wk=wq.alloc (.cells #[.int .i64 I,.int .i64 D,.int .i64 P,.int .i64 T] 51):=⟨_,rfl⟩;obtain⟨xb,hxb_⟩:∃xb,xb=wq.heap.size:=⟨_,rfl⟩;have hb:Below wq.heap.size wq wk:=(by rw[hwk_];exact(Below.refl _ _).alloc (Nat.le_refl _) _);have hXk:wk.heap[xb]? = some (.cells #[.int .i64 I,.int .i64 D,.int .i64 P,.int .i64 T] 51 (0,0)):=(by rw[hwk_,hxb_];exact heap_alloc_new _ _);have HT0_:=HF.out.below hb;have hwl:w.heap.size<wk.heap.size:=(by have:=HT0_.lt;have:=HT0_.gl;have:=HT0_.row.lt;omega);have hwk:=Lib.hid hwk_;have hxb:=Lib.hid hxb_;have hXh:=Lib.hid hXk;subst hAe
     go_upto_region 13 with (fail)
     rw[←hwk.out,←hxb.out];clear hwk hxb y0 y1 y2 y3 p0 p1 hwk_ hxb_ hXk hb hx;obtain⟨p0,p1⟩:=HT0_.toGW.cells;have HT0:=Lib.hid HT0_;have HTk:=Lib.hid (fun z (hz:Hid (Kp wk.heap.size [] wk z))=>HT0.out.below (hz.out.below (B':=wk.heap.size) (Nat.le_refl _) (by simp)));have hTB:Hid (TmB (trmS (toT ps) (rowsT ps ws) (upTo U i) i)):=by
      show TmB _;refine trmS_bd (rows_In1 hVF.out i) fun j hj=>?_;have h6:=rows_In1 hVF.out j 6 (by omega);have hUj:=hne.out j hj;have e:upTo U i j=both ((canS (toT ps) (rowsT ps ws) U j).1 - Sm (idQ ps j),(canS (toT ps) (rowsT ps ws) U j).2 - Sm (idQ ps j)) (rowsT ps ws j 6):=by
       unfold upTo;rw[if_pos hj];rw[hU.out];exact givU_eq _ _ _ _
      have e2:upTo U i j=U j:=(by unfold upTo;rw[if_pos hj]);rw[←e2,e] at hUj;rw[e];unfold Ne both at *;simp only at *;omega
     obtain⟨cc,hcc_⟩:∃c,c=sumS (trmS (toT ps) (rowsT ps ws) (upTo U i) i):=⟨_,rfl⟩;obtain⟨oo,hoo_⟩:∃c,c=rowsT ps ws i 6:=⟨_,rfl⟩;have hcc:=Lib.hid hcc_;have hoo:=Lib.hid hoo_;have HQw:=Lib.hid (fun w' (hz:Hid (Kp wk.heap.size [] wk w'))=>(⟨(hz.out.cell (by simp only;omega) (by simp;try omega)).trans p0,(hz.out.cell (by simp only;omega) (by simp;try omega)).trans p1⟩:w'.cell? ⟨w.heap.size,0,none⟩=some (.slice (some ⟨bp,op,none⟩) n c)∧w'.cell? ⟨w.heap.size,1,none⟩=some (.slice A' n' c')));obtain⟨S,hSd⟩:∃S:World→Prop,S=fun w'=>(w'.cell? ⟨w.heap.size,0,none⟩=some (.slice (some ⟨bp,op,none⟩) n c)∧w'.cell? ⟨w.heap.size,1,none⟩=some (.slice A' n' c'))∧Hid (Kp wk.heap.size [] wk w'):=⟨_,rfl⟩
     have HS:=Lib.hid (fun w' (hz:Hid (Kp wk.heap.size [] wk w'))=>(by rw[hSd];exact⟨HQw.out w' hz,hz⟩:S w'));clear p0 p1 HQw hcc_ hoo_ HT0_ HF
     go_cut [14,15] from 62 to 100 (fun s14 s15 wx=>∃wl,wl=wx∧∃na nb,s14 = .pointer (some ⟨na,0,none⟩)∧s15 = .pointer (some ⟨nb,0,none⟩)∧wl.heap[na]? = some (.cells #[.int .i64 cc.1,.int .i64 cc.2] 36 (0,0))∧wl.heap[nb]? = some (.cells #[.int .i64 oo.1,.int .i64 oo.2] 36 (0,0))∧na≠nb∧wk.heap.size≤na∧wk.heap.size≤nb∧Below wk.heap.size wk wl)
     case first=>
      refine wp_region_held_drew (S:=S) (by kernel_rfl) ?_ (fun hHeld=>?_)
      ·exact HS.out _ (Lib.hid (Kp.refl _ _ _).drew)
      have hKyd:Hid (Kp wk.heap.size [] wk wk.drew):=Lib.hid (Kp.refl _ _ _).drew;have hSyd:wk.heap.size≤wk.drew.heap.size:=Nat.le_refl _;generalize wk.drew=yd at *;refine tY (v:=?_) 0 62 ?_ ?_;rotate_left
      ·intro w hSw;rw[hSd] at hSw;obtain⟨⟨q0,q1⟩,-⟩:=hSw;go_simp;(try with_reducible rfl)
      (try simp only[N0]);refine tY (v:=?_) 1 63 ?_ ?_;rotate_left
      ·intro w hSw;rw[hSd] at hSw;obtain⟨⟨q0,q1⟩,-⟩:=hSw;go_simp;(try with_reducible rfl)
      (try simp only[N0]);refine tY (v:=?_) 2 64 ?_ ?_;rotate_left
      ·intro w hSw;rw[hSd] at hSw;obtain⟨⟨q0,q1⟩,-⟩:=hSw;go_simp;(try with_reducible rfl)
      (try simp only[N0]);refine tY (v:=?_) 5 67 ?_ ?_;rotate_left
      ·intro w hSw;rw[hSd] at hSw;obtain⟨⟨q0,q1⟩,-⟩:=hSw;go_simp;(try with_reducible rfl)
      (try simp only[N0]);refine tY (v:=?_) 6 68 ?_ ?_;rotate_left
      ·intro w hSw;rw[hSd] at hSw;obtain⟨⟨q0,q1⟩,-⟩:=hSw;go_simp;(try with_reducible rfl)
      try simp only[N0]
      iterate 7
       all_goals first
        |refine U3 3 8 9 ?_ ?_ ?_
        |refine U3 4 8 9 ?_ ?_ ?_
        |refine U2 3 9 ?_ ?_
        |refine U2 3 8 ?_ ?_
        |refine U3 7 8 9 ?_ ?_ ?_
        |refine U2 4 9 ?_ ?_
        |refine U2 4 8 ?_ ?_
        |refine U1 3 ?_
        |refine U2 8 9 ?_ ?_
        |refine U2 7 9 ?_ ?_
        |refine U2 7 8 ?_ ?_
        |refine U1 4 ?_
        |refine U1 9 ?_
        |refine U1 8 ?_
        |refine U1 7 ?_
        |refine U1 10 ?_
        |refine U1 11 ?_
       all_goals first
        |intro (t:Tag 3) Kq hK
         clear t;go_simp;refine(terms_any (some ⟨bp,op,none⟩) A' n c n' c' ps ws (some ⟨gp,0,none⟩) n (upTo U i) i yd hnm hvh.out hin (HRd.out _ (HTk.out yd hKyd).bel) (HWd.out _ (HTk.out yd hKyd).bel) ((HTk.out yd hKyd).row.sps hnm)).mono ?_;rintro e yd ⟨⟨m1,v1,rfl,hot⟩,hb⟩;obtain⟨At,ct,rfl⟩:=ownR_val hot;have hm1:m1≤100:=(by have h:=hot.1;rw[tms_len] at h;have h2:=trmS_len (toT ps) (rowsT ps ws) (upTo U i) i;omega);replace hKyd:=Lib.hid (hKyd.out.call hSyd hb);(try replace hOb:=keepO hb hOb);(try replace hOa:=keepO hb hOa);replace hSyd:=Nat.le_trans hSyd hb.size;clear hb;(try go_simp);refine hK.out _ _ ?_ (fun hHeld=>?_)
         ·exact HS.out _ hKyd
         clear hK Kq;try simp only[N0]
        |intro (t:Tag 8) Kq hK
         clear t;go_simp;obtain⟨na,hn_⟩:∃q,q=yd.heap.size:=⟨_,rfl⟩;have hOa:=heap_alloc_new yd (.cells #[.int .i64 0,.int .i64 0] 36);have hoba:=hSyd;rw[←hn_] at hOa hoba;have hbA:=(Below.refl yd.heap.size yd).alloc (Nat.le_refl _) (.cells #[.int .i64 0,.int .i64 0] 36);(try replace hot:=ownR_below hot hbA);(try have hnab:na≠nb:=by have h:=(Array.getElem?_eq_some_iff.1 hOb).1;omega);(try replace hOb:=keepO hbA hOb);replace hKyd:=Lib.hid (hKyd.out.alloc hSyd (.cells #[.int .i64 0,.int .i64 0] 36));replace hSyd:=Nat.le_trans hSyd hbA.size;clear hbA;generalize (yd.alloc (.cells #[.int .i64 0,.int .i64 0] 36))=yd at *;refine hK.out _ _ ?_ (fun hHeld=>?_)
         ·exact HS.out _ hKyd
         clear hK Kq;(try simp only[N0]);(try rw[←hn_]);clear hn_
        |intro (t:Tag 9) Kq hK
         clear t;go_simp;obtain⟨nb,hn_⟩:∃q,q=yd.heap.size:=⟨_,rfl⟩;have hOb:=heap_alloc_new yd (.cells #[.int .i64 0,.int .i64 0] 36);have hobb:=hSyd;rw[←hn_] at hOb hobb;have hbA:=(Below.refl yd.heap.size yd).alloc (Nat.le_refl _) (.cells #[.int .i64 0,.int .i64 0] 36);(try replace hot:=ownR_below hot hbA);(try have hnab:na≠nb:=by have h:=(Array.getElem?_eq_some_iff.1 hOa).1;omega);(try replace hOa:=keepO hbA hOa);replace hKyd:=Lib.hid (hKyd.out.alloc hSyd (.cells #[.int .i64 0,.int .i64 0] 36));replace hSyd:=Nat.le_trans hSyd hbA.size;clear hbA;generalize (yd.alloc (.cells #[.int .i64 0,.int .i64 0] 36))=yd at *;refine hK.out _ _ ?_ (fun hHeld=>?_)
         ·exact HS.out _ hKyd
         clear hK Kq;(try simp only[N0]);(try rw[←hn_]);clear hn_
        |intro (t:Tag 4) Kq hK
         clear t;go_simp;refine(sum_any At m1 ct _ yd hm1 hTB.out (Reads.of_own hot)).mono ?_;rintro e yd ⟨rfl,hb⟩;replace hKyd:=Lib.hid (hKyd.out.call hSyd hb);(try replace hOb:=keepO hb hOb);(try replace hOa:=keepO hb hOa);replace hSyd:=Nat.le_trans hSyd hb.size;clear hot hm1;rw[←hcc.out];clear hb;(try go_simp);refine hK.out _ _ ?_ (fun hHeld=>?_)
         ·exact HS.out _ hKyd
         clear hK Kq;try simp only[N0]
        |intro (t:Tag 7) Kq hK
         clear t;go_simp;refine(Noted_any (some ⟨bp,op,none⟩) A' n c n' c' ps ws i 6 yd (HRd.out _ (HTk.out yd hKyd).bel) (HWd.out _ (HTk.out yd hKyd).bel) hvh.out hin (by omega)).mono ?_;rintro e yd ⟨rfl,hb⟩;replace hKyd:=Lib.hid (hKyd.out.call hSyd hb);(try replace hOb:=keepO hb hOb);(try replace hOa:=keepO hb hOa);replace hSyd:=Nat.le_trans hSyd hb.size;rw[←hoo.out];clear hb;(try go_simp);refine hK.out _ _ ?_ (fun hHeld=>?_)
         ·exact HS.out _ hKyd
         clear hK Kq;try simp only[N0]
        |intro (t:Tag 10) Kq hK
         clear t;obtain⟨e0,e1,g0,g1⟩:=two_facts hOa;go_simp;clear e0  e1  g0  g1;have hN0:=(heap_sets2 yd na _ (.int .i64 cc.1) (.int .i64 cc.2) (hnab.symm)).trans hOb;replace hOa:=set_two yd na _ (.int .i64 cc.1) (.int .i64 cc.2) _ _ hOa;replace hOb:=hN0;clear hN0;replace hKyd:=Lib.hid ((hKyd.out.set (p:=⟨na,0,none⟩) (Or.inr hoba) (.int .i64 cc.1)).set (p:=⟨na,1,none⟩) (Or.inr hoba) (.int .i64 cc.2));obtain⟨yd,hz_⟩:∃z,z=((yd.setCell ⟨na,0,none⟩ (.int .i64 cc.1)).setCell ⟨na,1,none⟩ (.int .i64 cc.2)):=⟨_,rfl⟩;rw[←hz_];rw[←hz_] at hOa hOb hKyd;replace hSyd:=Nat.le_trans hSyd (show _≤yd.heap.size by rw[hz_];simp);clear hz_;refine hK.out _ _ ?_ (fun hHeld=>?_)
         ·exact HS.out _ hKyd
         clear hK Kq;try simp only[N0]
        |intro (t:Tag 11) Kq hK
         clear t;obtain⟨e0,e1,g0,g1⟩:=two_facts hOb;go_simp;clear e0  e1  g0  g1;have hN0:=(heap_sets2 yd nb _ (.int .i64 oo.1) (.int .i64 oo.2) (hnab)).trans hOa;replace hOb:=set_two yd nb _ (.int .i64 oo.1) (.int .i64 oo.2) _ _ hOb;replace hOa:=hN0;clear hN0;replace hKyd:=Lib.hid ((hKyd.out.set (p:=⟨nb,0,none⟩) (Or.inr hobb) (.int .i64 oo.1)).set (p:=⟨nb,1,none⟩) (Or.inr hobb) (.int .i64 oo.2));obtain⟨yd,hz_⟩:∃z,z=((yd.setCell ⟨nb,0,none⟩ (.int .i64 oo.1)).setCell ⟨nb,1,none⟩ (.int .i64 oo.2)):=⟨_,rfl⟩;rw[←hz_];rw[←hz_] at hOb hOa hKyd;replace hSyd:=Nat.le_trans hSyd (show _≤yd.heap.size by rw[hz_];simp);clear hz_;refine hK.out _ _ ?_ (fun hHeld=>?_)
         ·exact HS.out _ hKyd
         clear hK Kq;try simp only[N0]
      all_goals
       refine wpAnyH_done (by kernel_rfl) ?_ _;clear HS hSd;go_wp2;go_meet;exact⟨_,rfl,na,nb,rfl,rfl,hOa,hOb,hnab,hoba,hobb,hKyd.out.below (B':=wk.heap.size) (Nat.le_refl _) (by simp)⟩
     case rest=>
      obtain⟨wl,rfl,na,nb,rfl,rfl,hOa,hOb,hnab,hna,hnb',hBk⟩:=‹∃wl,wl=_∧_›;clear HS hSd S HTk;have HF:=Lib.hid (HT0.out.below hBk);have HXl:=Lib.hid (keepO hBk hXh.out);have hnam:mb<na:=(by have:=HT0.out.gl;have:=HT0.out.row.lt;omega);have hnag:gp<na:=(by have:=HT0.out.row.lt;omega);have HOa:=Lib.hid hOa;have HOb:=Lib.hid hOb
      -- what the parings can be
      have hcan:Hid (cc=canS (toT ps) (rowsT ps ws) U i):=by
       show _=_;rw[hcc.out,trmS_congr (U':=U) (fun j hj=>by unfold upTo;rw[if_pos hj]),sum_trmS];rfl
      have hUi:Hid (U i=both (cc.1 - Sm I,cc.2 - Sm I) oo):=by
       show _=_;rw[hcan.out,hoo.out,←hI.out,hU.out];exact givU_eq _ _ _ _
      have hcb:=sumS_take hTB.out (trmS (toT ps) (rowsT ps ws) (upTo U i) i).length (Nat.le_refl _);rw[List.take_length,←hcc.out] at hcb;have hln:=trmS_len (toT ps) (rowsT ps ws) (upTo U i) i;obtain⟨c1,c2,c3,c4⟩:=hcb;have hob:=rows_In1 hVF.out i 6 (by omega);rw[←hoo.out] at hob;obtain⟨o1,o2,o3,o4⟩:=hob;obtain⟨l1,l2⟩:=hSb.out I;have hId:=hVF.out.id1 i;have hIw:(Lit.int .i64 I).wf=true:=by
       have hin':i<ps.length:=(by rw[hlh.out];exact hin);have h:=hId _ (List.getElem?_eq_getElem hin');have e:I=(ps[i]'hin').1:=(by rw[←hI.out];unfold idQ;rw[List.getElem?_eq_getElem hin']);exact WalkArith.wf_i64 (by omega)
      have hlk:=run_num HF.out.mp hIw;obtain⟨Lk,hLk⟩:∃x,x=Sm I:=⟨_,rfl⟩;rw[←hLk] at hlk hUi l1 l2;have wr1:IntKind.i64.wrap (cc.1 - Lk)=cc.1 - Lk:=IntWalk.i64_in _ (by omega);have wr2:IntKind.i64.wrap (cc.2 - Lk)=cc.2 - Lk:=IntWalk.i64_in _ (by omega);obtain⟨u1,hu1⟩:∃x,x=(U i).1:=⟨_,rfl⟩;obtain⟨u2,hu2⟩:∃x,x=(U i).2:=⟨_,rfl⟩;have hmx:(if cc.1 - Lk<oo.1 then oo.1 else cc.1 - Lk)=u1:=(by rw[hu1,hUi.out,mx_if];rfl);have hmn:(if oo.2<cc.2 - Lk then oo.2 else cc.2 - Lk)=u2:=(by rw[hu2,hUi.out,mn_if];rfl);have hu1h:=Lib.hid hu1;have hu2h:=Lib.hid hu2;obtain⟨a0,a1,fa0,fa1⟩:=two_facts hOa;obtain⟨b0,b1,-,-⟩:=two_facts hOb;obtain⟨x0,x1,x2,x3⟩:=facts4 HXl.out;clear hOa hOb hBk HT0 hXh hln hId hIw hLk hu1 hu2 hna hnb';(go_wp2_with fail);clear x0 x1 x2 x3 b0 b1 a0 a1 fa0 fa1 hlk wr1 wr2 hmx hmn;refine(span_mk u1 u2 wl).mono ?_;rintro e y1 ⟨rfl,hb⟩;have HF1:=Lib.hid (HF.out.below hb);have hOa1:=keepO hb HOa.out;have hwna:w.heap.size<na:=(by have:=HF.out.lt;omega);obtain⟨y2,hy2_⟩:∃y,y=(y1.setCell ⟨na,0,none⟩ (.int .i64 u1)).setCell ⟨na,1,none⟩ (.int .i64 u2):=⟨_,rfl⟩;have hOa2:y2.heap[na]? = some (.cells #[.int .i64 u1,.int .i64 u2] 36 (0,0)):=(by rw[hy2_];exact set_two y1 na _ _ _ _ _ hOa1);have far:∀q,q≠na→y2.heap[q]? = y1.heap[q]?:=fun q hq=>(by rw[hy2_];exact heap_sets2 y1 na q _ _ hq);have hB2:Below w.heap.size w y2:=(by rw[hy2_];exact(HF1.out.bel.setCell (p:=⟨na,0,none⟩) (by simp only;omega) _).setCell (p:=⟨na,1,none⟩) (by simp only;omega) _);have HF2:=Lib.hid (show FW w (some ⟨bp,op,none⟩) A' n c n' c' mb m Sm gp (upTo U i) y2 from⟨⟨(far _ (by omega)).trans HF1.out.b0,HF1.out.mp.of_block (far mb (by omega)),HF1.out.lt,hB2⟩,HF1.out.row.of_block (far gp (by omega)),HF1.out.gl⟩)
      have hy2:=Lib.hid hy2_;obtain⟨a0,a1,fa0,fa1⟩:=two_facts hOa1;have hOa2h:=Lib.hid hOa2;clear hy2_ hOa1 hOa2 far hB2 hb HF HF1 HOa HOb HXl
      go_upto_region 15 with (fail)
      rw[←hy2.out];clear hy2 a0 a1 fa0 fa1;obtain⟨a0,a1,-,-⟩:=two_facts hOa2h.out;by_cases hlh':u1 > u2
      ·have d1:decide (u1 > u2)=true:=(by simpa using hlh');have hng:¬gok (toT ps) (rowsT ps ws) (fun i=>Sm (idQ ps i)) n:=fun h=>by
        have h1:=(h i hin).1;rw[←hU.out] at h1;unfold Ne at h1;rw[←hu1h.out,←hu2h.out] at h1;omega
       go_wp2;exact bodyPost_ret (v:=.tuple #[.slice none 0 0,.bool false]) (by simp[results,Tryd.results17,go_sem]) rfl ⟨.inl ⟨hng,rfl⟩,HF2.out.bel⟩
      ·have d1:decide (u1 > u2)=false:=(by simpa using hlh');have hx0:i*2<n*2:=(by omega);have hx1:i*2+1<n*2:=(by omega);obtain⟨v0,e0⟩:=Option.isSome_iff_exists.1 (HF2.out.row.there hx0);obtain⟨v1,e1⟩:=Option.isSome_iff_exists.1 (HF2.out.row.there hx1);have f0:=HF2.out.row.frozen (i*2);have f1:=HF2.out.row.frozen (i*2+1);have hput:=HF2.out.row.put spc_len i (u1,u2);have hgw:w.heap.size<gp:=(by have:=HF2.out.lt;have:=HF2.out.gl;omega);obtain⟨y3,hy3_⟩:∃y,y=(y2.setCell ⟨gp,i*2,none⟩ (.int .i64 u1)).setCell ⟨gp,i*2+1,none⟩ (.int .i64 u2):=⟨_,rfl⟩;have hrow:RowOf y3 gp 36 2 n spc n (upTo U (i+1)):=by
        rw[hy3_];refine RowOf.congr hput (Nat.le_refl _) fun k hk=>?_;unfold upTo;by_cases e:k=i
        ·subst e;rw[if_pos (by omega),if_pos rfl,hu1h.out,hu2h.out]
        ·rw[if_neg e];by_cases e2:k<i
         ·rw[if_pos (by omega),if_pos e2]
         ·rw[if_neg (by omega),if_neg e2]
       have far:∀q,q≠gp→y3.heap[q]? = y2.heap[q]?:=fun q hq=>(by rw[hy3_,Below.heap_setCell _ ⟨gp,i*2+1,none⟩ _ q hq,Below.heap_setCell _ ⟨gp,i*2,none⟩ _ q hq]);have hB3:Below w.heap.size w y3:=(by rw[hy3_];exact(HF2.out.bel.setCell (p:=⟨gp,i*2,none⟩) (by simp only;omega) _).setCell (p:=⟨gp,i*2+1,none⟩) (by simp only;omega) _);have hgl:=HF2.out.gl;have HF3:=Lib.hid (show FW w (some ⟨bp,op,none⟩) A' n c n' c' mb m Sm gp (upTo U (i+1)) y3 from⟨⟨(far _ (by omega)).trans HF2.out.b0,HF2.out.mp.of_block (far mb (by omega)),HF2.out.lt,hB3⟩,hrow,HF2.out.gl⟩);have hne2:=Lib.hid (fun j (hj:j<i+1)=>(by
        by_cases e:j=i
        ·subst e;unfold Ne;rw[←hu1h.out,←hu2h.out];omega
        ·exact hne.out j (by omega):Ne (U j)))
       have hy3:=Lib.hid hy3_;clear hput hrow far hB3 hy3_ HF2
       go_upto_region 18 with (fail)
       rw[←hy3.out];clear hy3 a0 a1 e0 e1 f0 f1;go_wp2;go_roundw
       case rel=>exact⟨_,rfl,i+1,by omega,by go_num,HF3,hne2⟩
       case measure=>simp[intOf];omega
    ·obtain rfl:n=i:=(by omega);have hii:¬(n:Int)<(n:Int):=(by omega);obtain⟨z3,hz3_⟩:∃z,z=wq.alloc (.cells (madeCells #[.int .i64 0,.int .i64 0,.int .i64 0,.int .i64 0,.int .i64 0,.int .i64 0,.int .i64 0,.int .i64 0] (n*8)) 43):=⟨_,rfl⟩;have hb:Below wq.heap.size wq z3:=(by rw[hz3_];exact(Below.refl _ _).alloc (Nat.le_refl _) _);obtain⟨gk,hgk_⟩:∃g,g=wq.heap.size:=⟨_,rfl⟩;have hH0_:HW w A A' n c n' c' mb m Sm gp (upTo U n) gk (fun _ _=>0) z3:=⟨HF.out.below hb,by rw[hz3_,hgk_];exact made_wds wq n,by rw[hgk_];exact HF.out.row.lt⟩;have hH0:=Lib.hid hH0_;obtain⟨p2,p3⟩:=hH0_.toFW.toGW.cells;rw[hz3_] at p2 p3;have hz3:=Lib.hid hz3_;have hgk:=Lib.hid hgk_;have hmk:=make_wds n hn10;have hw1:IntKind.i64.wrap ((n:Int) - 1)=(n:Int) - 1:=IntWalk.i64_in _ (by omega);clear hz3_ hgk_ hH0_ hb;(go_wp2_with fail);rw[←hz3.out,←hgk.out];clear hz3 hgk p0 p1 p2 p3 hmk HF hii hw1;have hOI0:=Lib.hid (OI.start (t:=toT ps) (R:=rowsT ps ws) (U:=U) (ids:=idQ ps) (M:=fun i=>Sm (idQ ps i)) (n:=n) (by have h:=hVF.out.fwd;rw[hlh.out] at h;exact h));go_loopw [17,18] (fun v u wr=>∃wl,wl=wr∧∃(i kk:Nat) (G:WF),i≤n∧kk+20*i≤20*n∧v = .int .i64 kk∧u = .int .i64 ((i:Int) - 1)∧Hid (HW w A A' n c n' c' mb m Sm gp (upTo U n) gk G wl)∧Hid (OI (toT ps) (rowsT ps ws) U (idQ ps) (fun i=>Sm (idQ ps i)) n G i)) (fun _ u _=>(intOf u+1).toNat)
     case atStart=>exact⟨_,rfl,n,0,_,Nat.le_refl _,by omega,rfl,rfl,hH0,hOI0⟩
     case round=>
      clear hH0 hOI0;obtain⟨wq2,rfl,i,kk,G,hi2,hkk,rfl,rfl,HH,HO⟩:=hrel;obtain⟨p0,p1⟩:=HH.out.toFW.toGW.cells;by_cases hi0:i=0
      ·obtain⟨J,hJ⟩:∃J:Int,J=(i:Int) - 1:=⟨_,rfl⟩;rw[←hJ];have hge:¬(0:Int)≤J:=(by omega);have hok:gok (toT ps) (rowsT ps ws) (fun i=>Sm (idQ ps i)) n:=fun j hj=>⟨by rw[←hU.out];exact hne.out j hj,fun k k1 k5=>by have:=(HO.out.done j (by omega) hj).2.2.1 k k1 k5;unfold Ne;omega⟩
       have hwr:=HH.out.wts.lst wdc_len hnm;have hO0:OI (toT ps) (rowsT ps ws) (givU (toT ps) (rowsT ps ws) (fun i=>Sm (idQ ps i))) (idQ ps) (fun i=>Sm (idQ ps i)) n G 0:=(by rw[←hU.out];rw[←hi0];exact HO.out);have hres:=Lib.hid (show GivR (toT ps) (rowsT ps ws) (idQ ps) (fun i=>Sm (idQ ps i)) n (.returned (.tuple #[.slice (some ⟨gk,0,none⟩) n n,.bool true])) wq2 from .inr ⟨hok,_,_,G,rfl,hwr,hO0⟩);clear hok hwr hO0 hJ;go_wp2;exact bodyPost_ret (v:=.tuple #[.slice (some ⟨gk,0,none⟩) n n,.bool true]) (by simp[results,Tryd.results17,go_sem]) rfl ⟨hres.out,HH.out.bel⟩
      ·obtain⟨p,rfl⟩:∃p,i=p+1:=⟨i - 1,by omega⟩;rw[show (((p+1:Nat):Int) - 1)=(p:Int) by omega];have hpn:p<n:=(by omega);have hp0:(0:Int)≤(p:Int):=(by omega);have hp1:(p:Int)<(n:Int):=(by omega);obtain⟨bp,op,I,D,P,T,hAe,hbp,hx,y0,y1,y2,y3⟩:=(HRd.out _ HH.out.bel).pg hpn;have hI:Hid (idQ ps p=I):=(by show _=_;unfold idQ;rw[hx]);have hT:Hid (toT ps p=if T=0 then none else some (idxP ps T).toNat):=(by show _=_;unfold toT;rw[hx]);obtain⟨wk,hwk_⟩:∃wk,wk=wq2.alloc (.cells #[.int .i64 I,.int .i64 D,.int .i64 P,.int .i64 T] 51):=⟨_,rfl⟩;obtain⟨xb,hxb_⟩:∃xb,xb=wq2.heap.size:=⟨_,rfl⟩;have hb:Below wq2.heap.size wq2 wk:=(by rw[hwk_];exact(Below.refl _ _).alloc (Nat.le_refl _) _);have hXk:wk.heap[xb]? = some (.cells #[.int .i64 I,.int .i64 D,.int .i64 P,.int .i64 T] 51 (0,0)):=(by rw[hwk_,hxb_];exact heap_alloc_new _ _);have hglx:gk<xb:=(by rw[hxb_];exact HH.out.wts.lt);have HK:=Lib.hid (HH.out.below hb);have hwk:=Lib.hid hwk_;have hxb:=Lib.hid hxb_;have hXh:=Lib.hid hXk;subst hAe
       go_upto_region 25 with (fail)
       rw[←hwk.out,←hxb.out];clear hwk hxb y0 y1 y2 y3 p0 p1 hwk_ hxb_ hXk hb hx HH;obtain⟨x0,x1,x2,x3⟩:=facts4 hXh.out;obtain⟨v0,e0⟩:=Option.isSome_iff_exists.1 (HK.out.wts.there (show p*8<n*8 by omega));have f0:=HK.out.wts.frozen (p*8);obtain⟨w4,hw4_⟩:∃y,y=wk.setCell ⟨gk,p*8,none⟩ (.int .i64 I):=⟨_,rfl⟩;have HW1:=Lib.hid (show HW w (some ⟨bp,op,none⟩) A' n c n' c' mb m Sm gp (upTo U n) gk (updF G p 0 I) w4 by rw[hw4_];exact HK.out.lay (by omega) I);have hX4:=Lib.hid (show w4.heap[xb]? = some (.cells #[.int .i64 I,.int .i64 D,.int .i64 P,.int .i64 T] 51 (0,0)) by rw[hw4_,Below.heap_setCell wk ⟨gk,p*8,none⟩ _ xb (by simp only;omega)];exact hXh.out);have hw4:=Lib.hid hw4_;clear hw4_ HK hXh
       go_upto_region 26 with (fail)
       rw[←hw4.out];clear hw4 x0 x1 x2 x3 e0 f0;obtain⟨p0,p1⟩:=HW1.out.toFW.toGW.cells;(go_wp2_with fail);clear p0 p1;refine(terms_any (some ⟨bp,op,none⟩) A' n c n' c' ps ws (some ⟨gp,0,none⟩) n (upTo U n) p w4 hnm hvh.out hpn (HRd.out _ HW1.out.bel) (HWd.out _ HW1.out.bel) (HW1.out.row.sps hnm)).mono ?_;rintro e w5 ⟨⟨ml,v1,rfl,hot⟩,hb⟩;obtain⟨At,ct,rfl⟩:=ownR_val hot;rw[trmS_congr (U':=U) (fun j hj=>by unfold upTo;rw[if_pos (by omega)])] at hot;obtain⟨L,hL_⟩:∃L,L=trmS (toT ps) (rowsT ps ws) U p:=⟨_,rfl⟩;rw[←hL_] at hot;have HL:=Lib.hid (Reads.of_own hot);have hml2:Hid (L.length=ml):=(by show _=_;have h:=hot.1;rw[tms_len] at h;omega);have hL:=Lib.hid hL_;have HW2:=Lib.hid (HW1.out.below hb);have hX5:=Lib.hid (keepO hb hX4.out);have hUp:=HW2.out.row;have hoth:=Lib.hid hot;have hgk4:gk<w4.heap.size:=HW1.out.wts.lt;clear hot hL_ hb HW1 hX4;obtain⟨x0,x1,x2,x3⟩:=facts4 hX5.out
       go_upto_if 130 with (fail)
       clear x0 x1 x2 x3;have HW2h:=HW2;have hent:Hid (∀b,T=0∧b=updF (updF G p 0 I) p 7 (U p).1∨T≠0∧b=updF G p 0 I→entF (toT ps) U (idQ ps) G p=b):=by
        show ∀b,_;rintro b (⟨h0,rfl⟩|⟨h0,rfl⟩)
        ·unfold entF;rw[hT.out,if_pos h0,if_pos rfl,hI.out]
        ·unfold entF;rw[hT.out,if_neg h0,if_neg (by simp),hI.out]
       go_cut [] from 130 to 140 (fun wx=>∃wl,wl=wx∧HW w (some ⟨bp,op,none⟩) A' n c n' c' mb m Sm gp (upTo U n) gk (entF (toT ps) U (idQ ps) G p) wl∧Hid (Kp w5.heap.size [gk] w5 wl))
       case first=>
        by_cases hT0:T=0
        ·have hTz:(T==0)=true:=(by simpa using hT0);obtain⟨u1,hu1⟩:∃x,x=(U p).1:=⟨_,rfl⟩;have hen:=Lib.hid (hent.out _ (.inl ⟨hT0,by rw[←hu1]⟩));have hpu:w5.cell? ⟨gp,p*2,none⟩=some (.int .i64 u1):=by
          have h:=HW2.out.row.cell spc_len (Nat.le_refl _) (k:=p) (t:=0) (u:=.int .i64 u1) hpn (by unfold upTo;rw[if_pos hpn,hu1];rfl);simpa using h
         have hgpl:gp<w5.heap.size:=HW2.out.row.lt;have hgkl:=HW2.out.ll;clear hu1 hT0;have HQw:=Lib.hid (fun w' (hz:Hid (Kp w5.heap.size [gk] w5 w'))=>((hz.out.cell (by simp only;omega) (by simp;try omega)).trans hpu:w'.cell? ⟨gp,p*2,none⟩=some (.int .i64 u1)));obtain⟨S,hSd⟩:∃S:World→Prop,S=fun w'=>(w'.cell? ⟨gp,p*2,none⟩=some (.int .i64 u1))∧Hid (Kp w5.heap.size [gk] w5 w'):=⟨_,rfl⟩
         have HS:=Lib.hid (fun w' (hz:Hid (Kp w5.heap.size [gk] w5 w'))=>(by rw[hSd];exact⟨HQw.out w' hz,hz⟩:S w'));clear HQw hpu;(go_wp2_with fail);refine wp_region_held_drew (S:=S) (by kernel_rfl) ?_ (fun hHeld=>?_)
         ·exact HS.out _ (Lib.hid (Kp.refl _ _ _).drew)
         have hKyd:Hid (Kp w5.heap.size [gk] w5 w5.drew):=Lib.hid (Kp.refl _ _ _).drew;have hSyd:w5.heap.size≤w5.drew.heap.size:=Nat.le_refl _;have HWy:=HW2.out.below (Below.refl w5.heap.size w5).drew;generalize w5.drew=yd at *;refine tY (v:=?_) 0 131 ?_ ?_;rotate_left
         ·intro w hSw;rw[hSd] at hSw;obtain⟨q0,-⟩:=hSw;go_simp;(try with_reducible rfl)
         (try simp only[N0]);refine tY (v:=?_) 1 132 ?_ ?_;rotate_left
         ·intro w hSw;rw[hSd] at hSw;obtain⟨q0,-⟩:=hSw;go_simp;(try with_reducible rfl)
         (try simp only[N0]);refine tY (v:=?_) 2 133 ?_ ?_;rotate_left
         ·intro w hSw;rw[hSd] at hSw;obtain⟨q0,-⟩:=hSw;go_simp;(try with_reducible rfl)
         (try simp only[N0]);refine tY (v:=?_) 3 134 ?_ ?_;rotate_left
         ·intro w hSw;rw[hSd] at hSw;obtain⟨q0,-⟩:=hSw;go_simp;(try with_reducible rfl)
         (try simp only[N0]);refine tY (v:=?_) 4 135 ?_ ?_;rotate_left
         ·intro w hSw;rw[hSd] at hSw;obtain⟨q0,-⟩:=hSw;go_simp;(try with_reducible rfl)
         (try simp only[N0]);refine tY (v:=?_) 5 136 ?_ ?_;rotate_left
         ·intro w hSw;rw[hSd] at hSw;obtain⟨q0,-⟩:=hSw;go_simp;(try with_reducible rfl)
         (try simp only[N0]);refine tY (v:=?_) 6 137 ?_ ?_;rotate_left
         ·intro w hSw;rw[hSd] at hSw;obtain⟨q0,-⟩:=hSw;go_simp;(try with_reducible rfl)
         (try simp only[N0]);refine tY (v:=?_) 7 138 ?_ ?_;rotate_left
         ·intro w hSw;rw[hSd] at hSw;obtain⟨q0,-⟩:=hSw;go_simp;(try with_reducible rfl)
         (try simp only[N0]);refine tY (v:=?_) 8 139 ?_ ?_;rotate_left
         ·intro w hSw;rw[hSd] at hSw;obtain⟨q0,-⟩:=hSw;go_simp;(try with_reducible rfl)
         (try simp only[N0]);refine tY (v:=?_) 9 140 ?_ ?_;rotate_left
         ·intro w hSw;rw[hSd] at hSw;obtain⟨q0,-⟩:=hSw;go_simp;(try with_reducible rfl)
         (try simp only[N0]);refine wpAnyH_ready (rs:=[10]) (by kernel_rfl) (by simp) ?_;refine AllReadyH.cons (o:=_) rfl (fun Kq hK=>?_) AllReadyH.nil;obtain⟨v0,e0⟩:=Option.isSome_iff_exists.1 (HWy.wts.there (show p*8+7<n*8 by omega));have f0:=HWy.wts.frozen (p*8+7);go_simp;clear e0 f0;have HWz:=HWy.lay (p:=p) (j:=7) (by omega) u1;have hKzs:=Lib.hid (hKyd.out.set (p:=⟨gk,p*8+7,none⟩) (Or.inl (by simp)) (.int .i64 u1));generalize (yd.setCell ⟨gk,p*8+7,none⟩ (.int .i64 u1))=zs at *;refine hK.out _ _ ?_ (fun hHeld=>?_)
         ·exact HS.out _ hKzs
         clear hK Kq;(try simp only[N0]);refine wpAnyH_done (by kernel_rfl) ?_ _;clear HS hSd;generalize zs=wy at *;go_wp2;go_meet;exact⟨_,rfl,by rw[hen.out];exact HWz,hKzs⟩
        ·have hTz:(T==0)=false:=(by simpa using hT0);have hen:=Lib.hid (hent.out _ (.inr ⟨hT0,rfl⟩));go_wp2;go_meet;exact⟨_,rfl,by rw[hen.out];exact HW2.out,Lib.hid (Kp.refl _ _ _)⟩
       case rest=>
        obtain⟨wl,rfl,HWl_,hKl⟩:=‹∃wl,wl=_∧_›;have HWl:=Lib.hid HWl_;have hotl:=Lib.hid (ownR_block hoth.out fun q hq=>hKl.out.block q (ownR_lt hoth.out hq).2 (by have:=(ownR_lt hoth.out hq).1;simp;omega));have hXl:=Lib.hid ((hKl.out.block xb (Array.getElem?_eq_some_iff.1 hX5.out).1 (by simp;omega)).trans hX5.out);obtain⟨F0,hF0_⟩:∃f,f=entF (toT ps) U (idQ ps) G p:=⟨_,rfl⟩;have hFw:Fwd n (toT ps):=(by have h:=hVF.out.fwd;rw[hlh.out] at h;exact h);have hUe:U p=both ((canS (toT ps) (rowsT ps ws) U p).1 - Sm (idQ ps p),(canS (toT ps) (rowsT ps ws) U p).2 - Sm (idQ ps p)) (rowsT ps ws p 6):=(by rw[hU.out];exact givU_eq _ _ _ _);obtain⟨r1,r2⟩:=HO.out.range hFw hpn (hne.out p hpn);have hIn:=HO.out.enter hFw hpn (hne.out p hpn) hUe;rw[←hF0_] at r1 r2 hIn;rw[←hF0_] at HWl;have ho6:=rows_In1 hVF.out p 6 (by omega);have hF7:0≤F0 p 7∧F0 p 7≤1000000:=by
         rw[hUe] at r1 r2;unfold both at r1 r2;simp only at r1 r2;omega
        obtain⟨f7,hf7_⟩:∃x,x=F0 p 7:=⟨_,rfl⟩;have hc7:wl.cell? ⟨gk,p*8+7,none⟩=some (.int .i64 f7):=HWl.out.wts.cell wdc_len (Nat.le_refl _) (k:=p) (t:=7) hpn (by rw[hf7_];rfl);have hIw:(Lit.int .i64 I).wf=true:=by
         have hin':p<ps.length:=(by rw[hlh.out];exact hpn);have h:=hVF.out.id1 p _ (List.getElem?_eq_getElem hin');have e:I=(ps[p]'hin').1:=(by rw[←hI.out];unfold idQ;rw[List.getElem?_eq_getElem hin']);exact WalkArith.wf_i64 (by omega)
        have hlk:=fun k=>run_num (w:=wl.drewN k) (HWl.out.mp.below (below_drewN (Below.refl wl.heap.size wl) k) HWl.out.mp.lt) hIw;obtain⟨Lk,hLk⟩:∃x,x=Sm I:=⟨_,rfl⟩;obtain⟨l1,l2⟩:=hSb.out I;rw[hI.out,←hLk,←hf7_] at hIn;rw[←hLk] at hlk l1 l2;rw[←hf7_] at hF7;have wr1:IntKind.i64.wrap (f7+Lk)=f7+Lk:=IntWalk.i64_in _ (by omega);obtain⟨x0,x1,x2,x3⟩:=facts4 hXl.out;have hInh:=Lib.hid hIn;have hf7:=Lib.hid hf7_;have hLkh:=Lib.hid hLk;have hF0:=Lib.hid hF0_;clear HWl_ hKl hF0_ r1 r2 hIn hf7_ hIw hLk hUe ho6;(go_wp2_with fail);(go_quiet (fail));rename_i nq;have hbd:=below_drewN (Below.refl wl.heap.size wl) nq;have HW6:=Lib.hid (HWl.out.below hbd);have hot6:=Lib.hid (ownR_below hotl.out hbd);have hX6:=Lib.hid (keepO hbd hXl.out);clear hlk x0 x1 x2 x3 hc7 hbd HWl hotl hXl wr1;generalize wl.drewN nq=w6 at *;have hLA:Apart L:=(by rw[hL.out];exact trmS_apart);have hL7:∀x∈L,¬(p=tgA x∧7=tgB x):=(by rw[hL.out];exact trmS_no7);have hLs:∀x∈L,x.2.2.1=1∨x.2.2.1 = -1:=(by rw[hL.out];exact trmS_sg);rw[←hL.out] at hInh;have hLAh:=Lib.hid hLA;have hL7h:=Lib.hid hL7;have hLsh:=Lib.hid hLs;have hml15:ml≤15:=(by have h:=hml2.out;rw[hL.out] at h;have:=trmS_len (toT ps) (rowsT ps ws) U p;omega);clear hLA hL7 hLs;(go_wp2_with fail);go_loopw [17,21,154] (fun v u s wr=>∃wl,wl=wr∧∃(tt:Nat) (left:Int) (H:WF),tt≤ml∧v = .int .i64 ((kk+tt:Nat):Int)∧u = .int .i64 left∧s = .int .i64 tt∧Hid (InL L F0 H p Lk left tt)∧Hid (HW w (some ⟨bp,op,none⟩) A' n c n' c' mb m Sm gp (upTo U n) gk H wl)∧Hid (wl.ownsRow w4.heap.size 117 5 (.slice At ml ct) ml (tms L))∧Hid (wl.heap[xb]? = some (.cells #[.int .i64 I,.int .i64 D,.int .i64 P,.int .i64 T] 51 (0,0)))) (fun _ _ s _=>ml - (intOf s).toNat)
        case atStart=>exact⟨_,rfl,0,_,F0,Nat.zero_le _,rfl,rfl,rfl,hInh,HW6,hot6,hX6⟩
        case round=>
         clear HW6 hot6 hX6 hInh;obtain⟨wz,rfl,tt,left,H,htt,rfl,rfl,rfl,hIn,HWz,hotz,hXz⟩:=hrel;by_cases htl:tt<ml
         ·have hti:(tt:Int)<(ml:Int):=(by omega);have ht0:(0:Int)≤(tt:Int):=(by omega);have hml64:(ml:Int)≤15:=(by omega);have HLz:=Reads.of_own hotz.out;obtain⟨b,o,x,hAe,hblt,hx,hc⟩:=Reads.rec_at (f:=tmc) (m:=5) (fun _=>rfl) (by omega) HLz htl;have hxh:=Lib.hid hx;obtain⟨Xi,Xk,sg,lo,hi'⟩:=x;subst hAe;have y0:wz.cell? ⟨b,o+tt*5,none⟩=some (.int .i64 Xi):=(by have h:=hc 0 _ rfl;simpa [Nat.add_assoc] using h);have y1:wz.cell? ⟨b,o+tt*5+1,none⟩=some (.int .i64 Xk):=(by have h:=hc 1 _ rfl;simpa [Nat.add_assoc] using h);have y2:wz.cell? ⟨b,o+tt*5+2,none⟩=some (.int .i64 sg):=(by have h:=hc 2 _ rfl;simpa [Nat.add_assoc] using h);have y3:wz.cell? ⟨b,o+tt*5+3,none⟩=some (.int .i64 lo):=(by have h:=hc 3 _ rfl;simpa [Nat.add_assoc] using h);have y4:wz.cell? ⟨b,o+tt*5+4,none⟩=some (.int .i64 hi'):=(by have h:=hc 4 _ rfl;simpa [Nat.add_assoc] using h);obtain⟨wk2,hwk_⟩:∃wk,wk=wz.alloc (.cells #[.int .i64 Xi,.int .i64 Xk,.int .i64 sg,.int .i64 lo,.int .i64 hi'] 117):=⟨_,rfl⟩;obtain⟨tb,htb_⟩:∃xb,xb=wz.heap.size:=⟨_,rfl⟩;have htbg:gk<tb:=(by rw[htb_];exact HWz.out.wts.lt);have hb:Below wz.heap.size wz wk2:=(by rw[hwk_];exact(Below.refl _ _).alloc (Nat.le_refl _) _);have hTk:wk2.heap[tb]? = some (.cells #[.int .i64 Xi,.int .i64 Xk,.int .i64 sg,.int .i64 lo,.int .i64 hi'] 117 (0,0)):=(by rw[hwk_,htb_];exact heap_alloc_new _ _);have HWk:=Lib.hid (HWz.out.below hb);have hotk:=Lib.hid (ownR_below hotz.out hb);have hXk2:=Lib.hid (keepO hb hXz.out)
          have hTh:=Lib.hid hTk;have hwk2:=Lib.hid hwk_;have htb:=Lib.hid htb_;clear hwk_ htb_ hb hTk HWz hotz hXz HLz hx hc hblt
          go_upto_region 33 with (fail)
          rw[←hwk2.out,←htb.out];clear hwk2 htb y0 y1 y2 y3 y4;have hcc2:=(ownR_cap hotk.out);have hw1:IntKind.i64.wrap ((tt:Int)+1)=(tt:Int)+1:=IntWalk.i64_in _ (by omega);have ht1:(tt:Int)+1≤(ml:Int):=(by omega);have hTBL:TmB L:=by
           rw[hL.out];refine trmS_bd (rows_In1 hVF.out p) fun j hj=>?_;have h6:=rows_In1 hVF.out j 6 (by omega);have hUj:=hne.out j (by omega);rw[hU.out,givU_eq] at hUj ⊢;unfold Ne both at *;simp only at *;omega
          have hTBLh:=Lib.hid hTBL;have hTBd:=Lib.hid (fun y hy=>hTBL y (List.mem_of_mem_drop hy):TmB (L.drop (tt+1)));obtain⟨rs,hrs_⟩:∃r,r=sumS (L.drop (tt+1)):=⟨_,rfl⟩;have hrs:=Lib.hid hrs_;have hRdL:=Lib.hid (Reads.of_own hotk.out);clear hTBL hrs_
          go_cut [24] from 159 to 163 (fun s24 wx=>∃wl,wl=wx∧∃qb,s24 = .pointer (some ⟨qb,0,none⟩)∧wl.heap[qb]? = some (.cells #[.int .i64 rs.1,.int .i64 rs.2] 36 (0,0))∧Below wk2.heap.size wk2 wl)
          case first=>
           by_cases hct:ct=tt+1
           ·have hz:ml - (tt+1)=0:=(by omega);have hd0:=Lib.hid (show L.drop (tt+1) = [] from List.drop_eq_nil_of_le (by rw[hml2.out];omega));have hzh:=Lib.hid hz;clear hz;subst hct;(go_wp2_with fail);refine(sum_any (some ⟨b,o,none⟩) (ml - (tt+1)) 0 (L.drop (tt+1)) wk2 (by omega) hTBd.out (by rw[hzh.out,hd0.out];exact rd_nil2 _)).mono ?_;rintro e ws2 ⟨rfl,hb⟩;rw[←hrs.out];obtain⟨qb,hqb_⟩:∃q,q=ws2.heap.size:=⟨_,rfl⟩;obtain⟨wt,hwt_⟩:∃y,y=ws2.alloc (.cells #[.int .i64 rs.1,.int .i64 rs.2] 36):=⟨_,rfl⟩;have hQ:=heap_alloc_new ws2 (.cells #[.int .i64 rs.1,.int .i64 rs.2] 36);have hb3:Below ws2.heap.size ws2 wt:=(by rw[hwt_];exact(Below.refl _ _).alloc (Nat.le_refl _) _);rw[←hwt_,←hqb_] at hQ;have hbq:=below_via hb hb.size hb3;have hwt:=Lib.hid hwt_;have hqb:=Lib.hid hqb_;clear hwt_ hqb_ hb hb3 hcc2;go_wp2;rw[←hwt.out];go_meet;exact⟨_,rfl,qb,by rw[hqb.out],hQ,hbq⟩
           ·(go_wp2_with fail);refine(sum_any (some ⟨b,o+(tt+1)*5,none⟩) (ml - (tt+1)) (ct - (tt+1)) (L.drop (tt+1)) wk2 (by omega) hTBd.out (rd_drop hRdL.out (by omega))).mono ?_;rintro e ws2 ⟨rfl,hb⟩;rw[←hrs.out];obtain⟨qb,hqb_⟩:∃q,q=ws2.heap.size:=⟨_,rfl⟩;obtain⟨wt,hwt_⟩:∃y,y=ws2.alloc (.cells #[.int .i64 rs.1,.int .i64 rs.2] 36):=⟨_,rfl⟩;have hQ:=heap_alloc_new ws2 (.cells #[.int .i64 rs.1,.int .i64 rs.2] 36);have hb3:Below ws2.heap.size ws2 wt:=(by rw[hwt_];exact(Below.refl _ _).alloc (Nat.le_refl _) _);rw[←hwt_,←hqb_] at hQ;have hbq:=below_via hb hb.size hb3;have hwt:=Lib.hid hwt_;have hqb:=Lib.hid hqb_;clear hwt_ hqb_ hb hb3 hcc2;go_wp2;rw[←hwt.out];go_meet;exact⟨_,rfl,qb,by rw[hqb.out],hQ,hbq⟩
          case rest=>
           obtain⟨wl,rfl,qb,rfl,hQ,hBq⟩:=‹∃wl,wl=_∧_›;have HWl:=Lib.hid (HWk.out.below hBq);have hotl:=Lib.hid (ownR_below hotk.out hBq);have hXl:=Lib.hid (keepO hBq hXk2.out);have hTl:=Lib.hid (keepO hBq hTh.out);have hQh:=Lib.hid hQ;have hmem:=List.mem_of_getElem? hxh.out;obtain⟨hlt,hLe⟩:=List.getElem?_eq_some_iff.1 hxh.out;have hdr:=List.drop_eq_getElem_cons hlt;rw[hLe] at hdr;obtain⟨g1,g2,g3,g4⟩:=hTBLh.out _ hmem;simp only at g1 g2 g3 g4;have hln:L.length≤15:=(by rw[hml2.out];exact hml15);have hrb:=sumS_take hTBd.out (L.drop (tt+1)).length (Nat.le_refl _);have hlb:=sumS_take (show TmB (L.drop tt) from fun y hy=>hTBLh.out y (List.mem_of_mem_drop hy)) (L.drop tt).length (Nat.le_refl _);rw[List.take_length] at hrb hlb;rw[←hrs.out] at hrb;have hl1:(L.drop (tt+1)).length≤15:=(by rw[List.length_drop];omega);have hl2:(L.drop tt).length≤15:=(by rw[List.length_drop];omega);obtain⟨r1,r2,r3,r4⟩:=hrb;obtain⟨q1,q2,q3,q4⟩:=hlb;obtain⟨b1,b2⟩:=hIn.out.b;have hsg:=hLsh.out _ hmem;simp only at hsg;have hl0:-15000000≤left∧left≤15000000:=(by omega);have hr0:-15000000≤rs.1∧rs.1≤15000000∧-15000000≤rs.2∧rs.2≤15000000:=(by omega);clear q1 q2 q3 q4 b1 b2 hl1 hl2 hln r1 r2 r3 r4 hlt hLe;obtain⟨l1',l2'⟩:=hl0;obtain⟨r1,r2,r3,r4⟩:=hr0;obtain⟨a1,ha1_⟩:∃a,a=if sg<0 then -(left - rs.1) else left - rs.2:=⟨_,rfl⟩;obtain⟨a2,ha2_⟩:∃a,a=if sg<0 then -(left - rs.2) else left - rs.1:=⟨_,rfl⟩;have hca:Hid (canT left (Xi,Xk,sg,lo,hi') rs=both (a1,a2) (lo,hi')):=by show _=_;rw[ha1_,ha2_];unfold canT;simp only;split<;>rfl
           have hab:-30000000≤a1∧a1≤30000000∧-30000000≤a2∧a2≤30000000:=(by rw[ha1_,ha2_];split<;>omega);have hne0:Hid (gok (toT ps) (rowsT ps ws) (fun i=>Sm (idQ ps i)) n→(canT left (Xi,Xk,sg,lo,hi') rs).1≤(canT left (Xi,Xk,sg,lo,hi') rs).2):=by
            show _→_;intro hg;have hall:∀x∈L,x.2.2.2.1≤x.2.2.2.2:=(by rw[hL.out];exact trm_ne (hg p hpn).2 (fun j hj=>hne.out j (by omega)));have hI1:=hIn.out.b;rw[hdr] at hI1;rw[hrs.out];exact canT_ne hsg (hall _ hmem) (sumS_ne _ fun y hy=>hall y (List.mem_of_mem_drop hy)) hI1.1 hI1.2
           have w1:IntKind.i64.wrap (left - rs.2)=left - rs.2:=IntWalk.i64_in _ (by omega);have w2:IntKind.i64.wrap (left - rs.1)=left - rs.1:=IntWalk.i64_in _ (by omega);have w3:IntKind.i64.wrap (-(left - rs.2)) = -(left - rs.2):=IntWalk.i64_in _ (by omega);have w4:IntKind.i64.wrap (-(left - rs.1)) = -(left - rs.1):=IntWalk.i64_in _ (by omega);have hsgh:=Lib.hid hsg;have ha1:=Lib.hid ha1_;have ha2:=Lib.hid ha2_;obtain⟨s0,s1,-,-⟩:=two_facts hQ;clear hQ hBq hmem hdr hsg ha1_ ha2_ hTBd HWk hotk hXk2 hTh hRdL;(go_wp2_with fail);(go_quiet (fail));rename_i nq;have hbd:=below_drewN (Below.refl wl.heap.size wl) nq;have HW7:=Lib.hid (HWl.out.below hbd);have hot7:=Lib.hid (ownR_below hotl.out hbd);have hX7:=Lib.hid (keepO hbd hXl.out);have hT7:=Lib.hid (keepO hbd hTl.out);clear hbd HWl hotl hXl hTl hQh s0 s1 w1 w2;generalize wl.drewN nq=w7 at *;obtain⟨x0,x1,x2,x3,x4⟩:=facts5 hT7.out
           go_upto_if 174 with (fail)
           go_cut [25,26] from 172 to 178 (fun s25 s26 wx=>∃wl,wl=wx∧s25 = .int .i64 a1∧s26 = .int .i64 a2∧Hid (wl=w7))
           case first=>
            go_wp2
            ·rename_i hs0;go_meet;exact⟨_,rfl,by rw[ha1.out,if_pos hs0],by rw[ha2.out,if_pos hs0],Lib.hid rfl⟩
            ·rename_i hs0;go_meet;exact⟨_,rfl,by rw[ha1.out,if_neg (by omega)],by rw[ha2.out,if_neg (by omega)],Lib.hid rfl⟩
           case rest=>
            obtain⟨wl,rfl,rfl,rfl,hw7⟩:=‹∃wl,wl=_∧_›;obtain rfl:=hw7.out;clear hw7;clear w3 w4;obtain⟨ab1,ab2,ab3,ab4⟩:=hab;obtain⟨c1,hc1_⟩:∃c,c=max a1 lo:=⟨_,rfl⟩;obtain⟨c2,hc2_⟩:∃c,c=min a2 hi':=⟨_,rfl⟩;have hmx:(if a1<lo then lo else a1)=c1:=(by rw[hc1_,mx_if]);have hmn:(if hi'<a2 then hi' else a2)=c2:=(by rw[hc2_,mn_if]);have hcc:Hid (canT left (Xi,Xk,sg,lo,hi') rs=(c1,c2)):=(by show _=_;rw[hca.out,hc1_,hc2_];rfl);have hcb:-30000000≤c1∧c1≤30000000∧-30000000≤c2∧c2≤30000000:=(by omega);have hloc:=Lib.hid (show lo≤c1∧c2≤hi' by omega);obtain⟨cb1,cb2,cb3,cb4⟩:=hcb;clear hc1_ hc2_;(go_wp2_with fail);(go_quiet (fail));rename_i nq;have hbd:=below_drewN (Below.refl wl.heap.size wl) nq;have HW8:=Lib.hid (HW7.out.below hbd);have hot8:=Lib.hid (ownR_below hot7.out hbd);have hX8:=Lib.hid (keepO hbd hX7.out);have hT8:=Lib.hid (keepO hbd hT7.out);clear hbd HW7 hot7 hX7 hT7 x0 x1 x2 x3 x4 hmx hmn;generalize wl.drewN nq=w8 at *;obtain⟨K,hK_⟩:∃K:Nat,(K:Int)=(kk:Int)+(tt:Int):=⟨kk+tt,by omega⟩;have hKb:K≤1000:=(by omega);rw[←hK_];have hKh:=Lib.hid hK_;clear hK_;by_cases hgt:c1 > c2
            ·have d1:decide (c1 > c2)=true:=(by simpa using hgt);have hng:¬gok (toT ps) (rowsT ps ws) (fun i=>Sm (idQ ps i)) n:=fun h=>by
              have h1:=hne0.out h;rw[hcc.out] at h1;simp only at h1;omega
             go_wp2;exact bodyPost_ret (v:=.tuple #[.slice none 0 0,.bool false]) (by simp[results,Tryd.results17,go_sem]) rfl ⟨.inl ⟨hng,rfl⟩,HW8.out.bel⟩
            ·have d1:decide (c1 > c2)=false:=(by simpa using hgt);(go_wp2_with fail);refine(choose_any Ab nb cb xs K w8 hnb (by omega) hxs (HXd.out _ HW8.out.bel)).mono ?_;rintro e wz ⟨rfl,rfl,hcle⟩;obtain⟨cN,hcN⟩:∃x,x=chS xs K:=⟨_,rfl⟩;rw[←hcN] at hcle ⊢;clear hcN d1;have hcw:IntKind.i64.wrap ((K:Int)+1)=(K:Int)+1:=IntWalk.i64_in _ (by omega);obtain⟨r,hr⟩:∃r,(cN:Int)/4%(c2 - c1+1)=r:=⟨_,rfl⟩;have hrb:0≤r∧r≤c2 - c1:=by
              have h1:=Int.emod_nonneg ((cN:Int)/4) (show c2 - c1+1≠0 by omega);have h2:=Int.emod_lt_of_pos ((cN:Int)/4) (show 0<c2 - c1+1 by omega);omega
             obtain⟨hrb1,hrb2⟩:=hrb;have wr5:IntKind.i64.wrap (c1+r)=c1+r:=IntWalk.i64_in _ (by omega)
             go_upto_if 208 with (fail)
             clear hr wr5 hcw
             go_cut [28] from 206 to 209 (fun s28 wx=>∃wl,wl=wx∧∃own,s28 = .int .i64 own∧c1≤own∧own≤c2∧Hid (wl=wz))
             case first=>
              go_wp2
              all_goals (go_meet;exact⟨_,rfl,_,rfl,by omega,by omega,Lib.hid rfl⟩)
             case rest=>
              obtain⟨wl,rfl,own0,rfl,ho1,ho2,hw9⟩:=‹∃wl,wl=_∧_›;obtain rfl:=hw9.out;clear hw9
              go_upto_if 212 with (fail)
              go_cut [28] from 210 to 213 (fun s28 wx=>∃wlq,wlq=wx∧∃own,s28 = .int .i64 own∧c1≤own∧own≤c2∧Hid (wlq=wl))
              case first=>
               go_wp2
               all_goals (go_meet;exact⟨_,rfl,_,rfl,by omega,by omega,Lib.hid rfl⟩)
              case' rest=>skip
              clear ho1 ho2;obtain⟨wlq,rfl,own,rfl,ho1,ho2,hw9⟩:=‹∃wlq,wlq=_∧_›;obtain rfl:=hw9.out;clear hw9 hcle hrb1 hrb2 hgt;obtain⟨a,b',ha,hb1,hb6,hXi,hXk⟩:=trm_pos _ (show (Xi,Xk,sg,lo,hi')∈trmS (toT ps) (rowsT ps ws) U p by rw[←hL.out];exact List.mem_of_getElem? hxh.out);simp only at hXi hXk;subst hXi hXk;have hIn2:Hid (InL L F0 (updF H a (1+b') own) p Lk (left - sg*own) (tt+1)):=Lib.hid (hIn.out.step hLAh.out hL7h.out hLsh.out hxh.out (by rw[←hrs.out,hcc.out];exact ho1) (by rw[←hrs.out,hcc.out];exact ho2));obtain⟨lc1,lc2⟩:=hloc.out;have w6:IntKind.i64.wrap (sg*own)=sg*own:=by
               refine IntWalk.i64_in _ ?_;rcases hsgh.out with e|e<;>rw[e]<;>omega
              have w7:IntKind.i64.wrap (left - sg*own)=left - sg*own:=by
               refine IntWalk.i64_in _ ?_;rcases hsgh.out with e|e<;>rw[e]<;>omega
              have hw1:IntKind.i64.wrap ((tt:Int)+1)=(tt:Int)+1:=IntWalk.i64_in _ (by omega);obtain⟨x0,x1,x2,-,-⟩:=facts5 hT8.out;have htbl:tb<wlq.heap.size:=(Array.getElem?_eq_some_iff.1 hT8.out).1;have hai0:(0:Int)≤(a:Int):=(by omega);have hai1:(a:Int)<(n:Int):=(by omega);have hbi0:(0:Int)≤(b':Int):=(by omega);have hbi1:(b':Int)<7:=(by omega);have hx2:=Lib.hid x2;clear hIn hcc hca hne0 ho1 ho2 hloc lc1 lc2 ab1 ab2 ab3 ab4 cb1 cb2 cb3 cb4 r1 r2 r3 r4 g1 g2 g3 g4 l1' l2' hrs x2;have HQw:=Lib.hid (fun w' (hz:Hid (Kp wlq.heap.size [gk] wlq w'))=>(⟨(hz.out.cell (by simp only;omega) (by simp;try omega)).trans x0,(hz.out.cell (by simp only;omega) (by simp;try omega)).trans x1⟩:w'.cell? ⟨tb,0,none⟩=some (.int .i64 a)∧w'.cell? ⟨tb,1,none⟩=some (.int .i64 b')));obtain⟨S,hSd⟩:∃S:World→Prop,S=fun w'=>(w'.cell? ⟨tb,0,none⟩=some (.int .i64 a)∧w'.cell? ⟨tb,1,none⟩=some (.int .i64 b'))∧Hid (Kp wlq.heap.size [gk] wlq w'):=⟨_,rfl⟩
              have HS:=Lib.hid (fun w' (hz:Hid (Kp wlq.heap.size [gk] wlq w'))=>(by rw[hSd];exact⟨HQw.out w' hz,hz⟩:S w'));clear HQw x0 x1;(go_wp2_with fail);refine wp_region_held_drew (S:=S) (by kernel_rfl) ?_ (fun hHeld=>?_)
              ·exact HS.out _ (Lib.hid (Kp.refl _ _ _).drew)
              have hKyd:Hid (Kp wlq.heap.size [gk] wlq wlq.drew):=Lib.hid (Kp.refl _ _ _).drew;have hSyd:wlq.heap.size≤wlq.drew.heap.size:=Nat.le_refl _;have HWy:=HW8.out.below (Below.refl wlq.heap.size wlq).drew;generalize wlq.drew=yd at *;refine tY (v:=?_) 0 214 ?_ ?_;rotate_left
              ·intro w hSw;rw[hSd] at hSw;obtain⟨⟨q0,q1⟩,-⟩:=hSw;go_simp;(try with_reducible rfl)
              (try simp only[N0]);refine tY (v:=?_) 1 215 ?_ ?_;rotate_left
              ·intro w hSw;rw[hSd] at hSw;obtain⟨⟨q0,q1⟩,-⟩:=hSw;go_simp;(try with_reducible rfl)
              (try simp only[N0]);refine tY (v:=?_) 2 216 ?_ ?_;rotate_left
              ·intro w hSw;rw[hSd] at hSw;obtain⟨⟨q0,q1⟩,-⟩:=hSw;go_simp;(try with_reducible rfl)
              (try simp only[N0]);refine tY (v:=?_) 3 217 ?_ ?_;rotate_left
              ·intro w hSw;rw[hSd] at hSw;obtain⟨⟨q0,q1⟩,-⟩:=hSw;go_simp;(try with_reducible rfl)
              (try simp only[N0]);refine tY (v:=?_) 4 218 ?_ ?_;rotate_left
              ·intro w hSw;rw[hSd] at hSw;obtain⟨⟨q0,q1⟩,-⟩:=hSw;go_simp;(try with_reducible rfl)
              (try simp only[N0]);refine tY (v:=?_) 5 219 ?_ ?_;rotate_left
              ·intro w hSw;rw[hSd] at hSw;obtain⟨⟨q0,q1⟩,-⟩:=hSw;go_simp;(try with_reducible rfl)
              (try simp only[N0]);refine tY (v:=?_) 6 220 ?_ ?_;rotate_left
              ·intro w hSw;rw[hSd] at hSw;obtain⟨⟨q0,q1⟩,-⟩:=hSw;go_simp;(try with_reducible rfl)
              (try simp only[N0]);refine tY (v:=?_) 7 221 ?_ ?_;rotate_left
              ·intro w hSw;rw[hSd] at hSw;obtain⟨⟨q0,q1⟩,-⟩:=hSw;go_simp;(try with_reducible rfl)
              (try simp only[N0]);refine tY (v:=?_) 8 222 ?_ ?_;rotate_left
              ·intro w hSw;rw[hSd] at hSw;obtain⟨⟨q0,q1⟩,-⟩:=hSw;go_simp;(try with_reducible rfl)
              (try simp only[N0]);refine wpAnyH_ready (rs:=[9]) (by kernel_rfl) (by simp) ?_;refine AllReadyH.cons (o:=_) rfl (fun Kq hK=>?_) AllReadyH.nil;obtain⟨v0,e0⟩:=Option.isSome_iff_exists.1 (HWy.wts.there (show a*8+1+b'<n*8 by omega));have f0:=HWy.wts.frozen (a*8+1+b');go_simp;clear e0 f0;have HWz:=HWy.lay (p:=a) (j:=1+b') (by omega) own;rw[←Nat.add_assoc] at HWz;have hKzs:=Lib.hid (hKyd.out.set (p:=⟨gk,a*8+1+b',none⟩) (Or.inl (by simp)) (.int .i64 own));generalize (yd.setCell ⟨gk,a*8+1+b',none⟩ (.int .i64 own))=zs at *;refine hK.out _ _ ?_ (fun hHeld=>?_)
              ·exact HS.out _ hKzs
              clear hK Kq;(try simp only[N0]);refine wpAnyH_done (by kernel_rfl) ?_ _;clear HS hSd;generalize zs=wy at *;have HWy2:=Lib.hid HWz;have hoty:=Lib.hid (ownR_block hot8.out fun q hq=>hKzs.out.block q (ownR_lt hot8.out hq).2 (by have:=(ownR_lt hot8.out hq).1;simp;omega));have hXy:=Lib.hid ((hKzs.out.block xb (Array.getElem?_eq_some_iff.1 hX8.out).1 (by simp;omega)).trans hX8.out);have x2:wy.cell? ⟨tb,2,none⟩=some (.int .i64 sg):=(hKzs.out.cell (by simp only;omega) (by simp;try omega)).trans hx2.out;clear HWz HW8 hot8 hX8 hT8;go_wp2;go_roundw
              case rel=>exact⟨_,rfl,tt+1,_,_,by omega,by rw[hKh.out];go_num,rfl,by go_num,hIn2,HWy2,hoty,hXy⟩
              case measure=>simp[intOf];omega
         ·obtain rfl:ml=tt:=(by omega);have hFw2:Fwd n (toT ps):=(by have h:=hVF.out.fwd;rw[hlh.out] at h;exact h);have hg:InL (trmS (toT ps) (rowsT ps ws) U p) (entF (toT ps) U (idQ ps) G p) H p (Sm (idQ ps p)) left (trmS (toT ps) (rowsT ps ws) U p).length:=by
           rw[←hL.out,hml2.out,←hF0.out,hI.out,←hLkh.out];exact hIn.out
          obtain⟨hz0,hO2_⟩:=HO.out.leave hFw2 hpn (hne.out p hpn) hg;subst hz0;have hO2:=Lib.hid hO2_;have htl2:¬(ml:Int)<(ml:Int):=(by omega);have hw1:IntKind.i64.wrap ((p:Int) - 1)=(p:Int) - 1:=IntWalk.i64_in _ (by omega);clear hg hO2_ hFw2;go_wp2;go_roundw
          case rel=>exact⟨_,rfl,p,kk+ml,H,by omega,by omega,rfl,rfl,HWz,hO2⟩
          case measure=>simp[intOf]
end Go.Proofs.YtfplipbkjglmhaaDoor
