/-
 The walk of what the notes of one weight leave, by the reference.
-/
import Derived.Test.YtfplipbkjglmhaaDoorWith
import Derived.Test.YtfplipbkjglmhaaDoorPSpans
import Derived.Test.YtfplipbkjglmhaaDoorLead
import Derived.BigQuiet
namespace Go.Proofs.YtfplipbkjglmhaaDoor
open Go.RowKit
set_option linter.unusedVariables false
set_option linter.unusedSimpArgs false
theorem facts5c{x:World}{b:Nat}{c0 c1 c2 c3 c4:Value}{t:TypeId}(h:x.heap[b]? = some (.cells #[c0,c1,c2,c3,c4] t (0,0))):x.cell? ⟨b,0,none⟩=some c0∧x.cell? ⟨b,1,none⟩=some c1∧x.cell? ⟨b,2,none⟩=some c2∧x.cell? ⟨b,3,none⟩=some c3∧x.cell? ⟨b,4,none⟩=some c4:=
 ⟨by simp[World.cell?,h],by simp[World.cell?,h],by simp[World.cell?,h],by simp[World.cell?,h],by simp[World.cell?,h]⟩
theorem ValidF.mono{ps:List PR}{ws:List WE}(h:ValidF ps ws):∀(d i:Nat) (x y:PR),ps[i]? = some x→ps[i+d+1]? = some y→x.1<y.1
 |0,i,x,y,hx,hy=>h.inc i x y hx hy
 |d+1,i,x,y,hx,hy=>by
  have hl:=(List.getElem?_eq_some_iff.1 hy).1;have hm:ps[i+d+1]? = some (ps[i+d+1]'(by omega)):=List.getElem?_eq_getElem (by omega);have h1:=h.mono d i x _ hx hm;have h2:=h.inc (i+d+1) _ y hm hy;omega
theorem id_idx{ps:List PR}{ws:List WE}(h:ValidF ps ws){i:Nat}{x:PR}(hx:ps[i]? = some x)(P:Int):idxP ps P=(i:Int)↔P=x.1:=by
 constructor
 ·intro e;unfold idxP at e;split at e
  ·rename_i j hj;obtain rfl:j=i:=(by omega);rw[List.findIdx?_eq_some_iff_getElem] at hj;obtain⟨h1,h2,-⟩:=hj;rw[List.getElem?_eq_getElem h1] at hx;cases hx;exact(beq_iff_eq.1 h2).symm
  ·omega
 ·intro e;subst e;refine idxP_at (x:=x) (fun j y hj hy=>?_) hx (by simp[isId]);have:=h.mono (i - j - 1) j y x hy (by rw[show j+(i - j - 1)+1=i by omega];exact hx);unfold isId;rw[beq_eq_false_iff_ne];omega
/-- The state while notes are read. -/
structure NS (w:World) (A A':Option Addr) (n c n' c':Nat) (s:Sp) (z:World):Prop where
 b0:z.heap[w.heap.size]? = some (.cells #[.slice A n c,.slice A' n' c'] 25 (0,0))
 b1:z.heap[w.heap.size+1]? = some (.cells #[.int .i64 0,.int .i64 0] 36 (0,0))
 b2:z.heap[w.heap.size+2]? = some (.cells #[.int .i64 s.1,.int .i64 s.2] 36 (0,0))
 bel:Below w.heap.size w z
section
variable {w z y:World} {A A':Option Addr} {n c n' c':Nat} {s:Sp}
theorem NS.below(h:NS w A A' n c n' c' s z)(hb:Below z.heap.size z y):NS w A A' n c n' c' s y:=
 ⟨keepO hb h.b0,keepO hb h.b1,keepO hb h.b2,below_via h.bel (by have:=(Array.getElem?_eq_some_iff.1 h.b0).1;omega) hb⟩
theorem NS.drew(h:NS w A A' n c n' c' s z):NS w A A' n c n' c' s z.drew:=h.below (Below.refl _ _).drew
theorem NS.drewN(h:NS w A A' n c n' c' s z)(k:Nat):NS w A A' n c n' c' s (z.drewN k):=h.below (below_drewN (Below.refl _ _) k)
theorem NS.set(h:NS w A A' n c n' c' s z)(u:Sp):NS w A A' n c n' c' u ((z.setCell ⟨w.heap.size+2,0,none⟩ (.int .i64 u.1)).setCell ⟨w.heap.size+2,1,none⟩ (.int .i64 u.2)):=
 ⟨(heap_sets2 _ _ _ _ _ (by omega)).trans h.b0,(heap_sets2 _ _ _ _ _ (by omega)).trans h.b1,set_two _ _ _ _ _ _ _ h.b2,below_two h.bel (by omega) _ _⟩
theorem NS.cells(h:NS w A A' n c n' c' s z):z.cell? ⟨w.heap.size,0,none⟩=some (.slice A n c)∧z.cell? ⟨w.heap.size,1,none⟩=some (.slice A' n' c')∧z.cell? ⟨w.heap.size+2,0,none⟩=some (.int .i64 s.1)∧z.cell? ⟨w.heap.size+2,1,none⟩=some (.int .i64 s.2)∧
  z.frozen? ⟨w.heap.size+2,0,none⟩=false∧z.frozen? ⟨w.heap.size+2,1,none⟩=false:=by
 obtain⟨a,b,-,-⟩:=two_facts h.b0;obtain⟨d,e,f,g⟩:=two_facts h.b2;exact⟨a,b,d,e,f,g⟩
theorem NS.res(h:NS w A A' n c n' c' s z)(u:Sp):((z.setCell ⟨w.heap.size+1,0,none⟩ (.int .i64 u.1)).setCell ⟨w.heap.size+1,1,none⟩ (.int .i64 u.2)).cell? ⟨w.heap.size+1,0,none⟩=some (.int .i64 u.1)∧
  ((z.setCell ⟨w.heap.size+1,0,none⟩ (.int .i64 u.1)).setCell ⟨w.heap.size+1,1,none⟩ (.int .i64 u.2)).cell? ⟨w.heap.size+1,1,none⟩=some (.int .i64 u.2)∧
  Below w.heap.size w ((z.setCell ⟨w.heap.size+1,0,none⟩ (.int .i64 u.1)).setCell ⟨w.heap.size+1,1,none⟩ (.int .i64 u.2)):=by
 obtain⟨a,b⟩:=set_back h.b1 (.int .i64 u.1) (.int .i64 u.2);exact⟨a,b,below_two h.bel (by omega) _ _⟩
theorem NS.start(w:World)(A A':Option Addr)(n c n' c':Nat)(s:Sp):NS w A A' n c n' c' s (((w.alloc (.cells #[.slice A n c,.slice A' n' c'] 25)).alloc (.cells #[.int .i64 0,.int .i64 0] 36)).alloc (.cells #[.int .i64 s.1,.int .i64 s.2] 36)):=by
 have h2:=heap_alloc_new ((w.alloc (.cells #[.slice A n c,.slice A' n' c'] 25)).alloc (.cells #[.int .i64 0,.int .i64 0] 36)) (.cells #[.int .i64 s.1,.int .i64 s.2] 36);have h1:=heap_alloc_new (w.alloc (.cells #[.slice A n c,.slice A' n' c'] 25)) (.cells #[.int .i64 0,.int .i64 0] 36);simp only[World.size_alloc] at h1 h2;refine⟨?_,?_,by simpa using h2,(((Below.refl _ _).alloc (Nat.le_refl _) _).alloc (by simp) _).alloc (by simp;omega) _⟩
 ·rw[heap_lt_alloc' _ _ _ (by simp;omega),heap_lt_alloc' _ _ _ (by simp)];exact heap_alloc_new w _
 ·rw[heap_lt_alloc' _ _ _ (by simp)];simpa using h1
end
set_option maxRecDepth 100000 in
set_option maxHeartbeats 4000000 in
theorem Noted_any(A A':Option Addr)(n c n' c':Nat)(ps:List PR)(ws:List WE)(i k:Nat)(w:World)(hR:Reads w w.heap.size 4 A n (pgs ps))(hW:Reads w w.heap.size 5 A' n' (wgs ws))(hv:validP ps ws=true)(hin:i<n)(hk7:k<7) :
  Calls Tryd.prog 27 #[.agg #[.slice A n c,.slice A' n' c'],.int .i64 i,.int .i64 k] w fun e w'=>e = .returned (.agg #[.int .i64 (rowsT ps ws i k).1,.int .i64 (rowsT ps ws i k).2])∧Below w.heap.size w w':=by
 have hVF:=Lib.hid (valid_facts hv);have hl:ps.length=n:=hR.pg_len;have hl':ws.length=n':=hW.wg_len;have hn:n≤10:=by have:=hVF.out.n10;omega
 have hn':n'≤30:=by have:=hVF.out.m30;omega
 have hii:(i:Int)<(n:Int):=by omega
 have i0:(0:Int)≤(i:Int):=by omega
 have hS0:=Lib.hid (NS.start w A A' n c n' c' (0,1000000));have HRd:=Lib.hid (fun z (hz:Below w.heap.size w z)=>(hR.below hz).more hz.size);have HWd:=Lib.hid (fun z (hz:Below w.heap.size w z)=>(hW.below hz).more hz.size);obtain⟨bp,op,I,D,Pr,T,hA,hbp,hpi,y0,y1,y2,y3⟩:=(HRd.out _ hS0.out.bel).pg hin;have hpi:=Lib.hid hpi;clear hR hW hv;subst hA;obtain⟨p0,p1,q0,q1,g0,g1⟩:=hS0.out.cells;by_cases hk:k=6
 ·subst hk;by_cases hT:T=0
  ·subst hT;have hS1:=Lib.hid (NS.start w (some ⟨bp,op,none⟩) A' n c n' c' (0,0));have hb:Hid (base ps i 6=(0,0)):=by show _=_;rw[base_none hpi.out rfl 6 (by omega)];rfl
   go_enter Tryd.func27,Tryd.ntmps27
   (go_wp2_with fail);clear hS0 p0 p1 q0 q1 g0 g1 y0 y1 y2 y3;have hS0:Hid (NS w (some ⟨bp,op,none⟩) A' n c n' c' (rowsT ps (ws.take 0) i 6) (((w.alloc (.cells #[.slice (some ⟨bp,op,none⟩) n c,.slice A' n' c'] 25)).alloc (.cells #[.int .i64 0,.int .i64 0] 36)).alloc (.cells #[.int .i64 0,.int .i64 0] 36))):=(by show NS _ _ _ _ _ _ _ _ _;rw[show rowsT ps (ws.take 0) i 6=base ps i 6 from rfl,hb.out];exact hS1.out);clear hS1 hb;generalize (((w.alloc (.cells #[.slice (some ⟨bp,op,none⟩) n c,.slice A' n' c'] 25)).alloc (.cells #[.int .i64 0,.int .i64 0] 36)).alloc (.cells #[.int .i64 0,.int .i64 0] 36))=wb at *;go_loopw [26] (fun v wq=>∃m:Nat,m≤n'∧v = .int .i64 m∧Hid (NS w (some ⟨bp,op,none⟩) A' n c n' c' (rowsT ps (ws.take m) i 6) wq)) (fun v _=>n' - (intOf v).toNat)
   case atStart=>exact⟨0,by omega,rfl,hS0⟩
   case round=>
    clear hS0;obtain⟨m,hm,rfl,hSm⟩:=hrel;by_cases hmt:m<n'
    ·have hmi:(m:Int)<(n':Int):=(by omega);have m0:(0:Int)≤(m:Int):=(by omega);obtain⟨bw,ow,N,P,K,L,H,rfl,hbw,hx,x0,x1,x2,x3,x4⟩:=(HWd.out _ hSm.out.bel).wg hmt;have hx:=Lib.hid hx;have hRw:=Lib.hid (rowsT_take (ps:=ps) hx.out);have hidx:=Lib.hid (id_idx hVF.out hpi.out P);have hzB:=(Below.refl wr.heap.size wr).alloc (Nat.le_refl _) (.cells #[.int .i64 N,.int .i64 P,.int .i64 K,.int .i64 L,.int .i64 H] 81);have hXB:=heap_alloc_new wr (.cells #[.int .i64 N,.int .i64 P,.int .i64 K,.int .i64 L,.int .i64 H] 81);have hS:=hSm.out.below hzB;obtain⟨bp2,op2,I',D',P',T',hA2,hbp2,hpx,y0,y1,y2,y3⟩:=(HRd.out _ hS.bel).pg hin;simp only[Option.some.injEq,Addr.mk.injEq,and_true] at hA2;obtain⟨rfl,rfl⟩:=hA2;have hpx:=Lib.hid hpx;have hpe:=Option.some.inj (hpx.out.symm.trans hpi.out);simp only[Prod.mk.injEq] at hpe;obtain⟨rfl,rfl,rfl,rfl⟩:=hpe;have hwb:wr.heap.size≠w.heap.size+2:=(by have:=(Array.getElem?_eq_some_iff.1 hSm.out.b2).1;omega);clear hzB hSm;(go_wp2_with fail);generalize (wr.alloc (.cells #[.int .i64 N,.int .i64 P,.int .i64 K,.int .i64 L,.int .i64 H] 81))=z at *;obtain⟨xb,hxb⟩:∃xb,xb=wr.heap.size:=⟨_,rfl⟩;rw[←hxb] at hXB hwb ⊢;clear hxb x0 x1 x2 x3 x4;obtain⟨p0,p1,q0,q1,g0,g1⟩:=hS.cells;obtain⟨x0,x1,x2,x3,x4⟩:=facts5c hXB;have hSh:=Lib.hid hS;clear hS hXB;by_cases hP:P=I'
     ·by_cases hK:K=6
      ·subst hP;subst hK;have hN:Hid (rowsT ps (ws.take (m+1)) i 6=both (rowsT ps (ws.take m) i 6) (L,H)):=by
        show _=_;rw[hRw.out];unfold note1;rw[if_pos ⟨(hidx.out.2 rfl).symm,rfl⟩]
       generalize rowsT ps (ws.take m) i 6=s at *;obtain⟨s1,s2⟩:=s;(go_quiet (fail));clear y0 y1 y2 y3;go_wp2;rename_i nq;rw[mx_if,mn_if];go_roundw
       case rel=>
        refine⟨m+1,by omega,by go_num,?_⟩;rw[hN.out];exact Lib.hid ((hSh.out.drewN nq).set (both (s1,s2) (L,H)))
       case measure=>simp[intOf];omega
      ·subst hP;have hKb:(K==6)=false:=(by simpa using hK);have hN:Hid (rowsT ps (ws.take (m+1)) i 6=rowsT ps (ws.take m) i 6):=by
        show _=_;rw[hRw.out];unfold note1;rw[if_neg (fun h=>hK h.2.symm)]
       generalize rowsT ps (ws.take m) i 6=s at *;(go_quiet (fail));clear y0 y1 y2 y3;go_wp2;go_roundw
       case rel=>exact⟨m+1,by omega,by go_num,by rw[hN.out];exact Lib.hid (hSh.out.drewN _)⟩
       case measure=>simp[intOf];omega
     ·have hPb:(P==I')=false:=(by simpa using hP);have hN:Hid (rowsT ps (ws.take (m+1)) i 6=rowsT ps (ws.take m) i 6):=by
       show _=_;rw[hRw.out];unfold note1;rw[if_neg (fun h=>hP (hidx.out.1 h.1.symm))]
      generalize rowsT ps (ws.take m) i 6=s at *;(go_quiet (fail));clear y0 y1 y2 y3;go_wp2;go_roundw
      case rel=>exact⟨m+1,by omega,by go_num,by rw[hN.out];exact Lib.hid (hSh.out.drewN _)⟩
      case measure=>simp[intOf];omega
    ·obtain rfl:m=n':=(by omega);have ht:Hid (rowsT ps (ws.take m) i 6=rowsT ps ws i 6):=(by show _=_;rw[List.take_of_length_le (by omega)]);obtain⟨p0,p1,q0,q1,g0,g1⟩:=hSm.out.cells;obtain⟨o0,o1,of0,of1⟩:=two_facts hSm.out.b1;have hSh:=Lib.hid (hSm.out.res (rowsT ps (ws.take m) i 6));clear hSm;generalize rowsT ps (ws.take m) i 6=s at *;go_wp2;obtain⟨e0,e1⟩:=hSh.out;exact bodyPost_ret (v:=.agg #[.int .i64 s.1,.int .i64 s.2]) (by simp[results,Tryd.results27,go_sem,e0,e1.1]) rfl ⟨by rw[←ht.out],e1.2⟩
  ·have hTb:(T==0)=false:=(by simpa using hT);have hb:Hid (base ps i 6=(0,1000000)):=by show _=_;rw[base_some hpi.out hT 6 (by omega)]
   go_enter Tryd.func27,Tryd.ntmps27
   (go_wp2_with fail);clear p0 p1 q0 q1 g0 g1 y0 y1 y2 y3;have hS1:Hid (NS w (some ⟨bp,op,none⟩) A' n c n' c' (rowsT ps (ws.take 0) i 6) (((w.alloc (.cells #[.slice (some ⟨bp,op,none⟩) n c,.slice A' n' c'] 25)).alloc (.cells #[.int .i64 0,.int .i64 0] 36)).alloc (.cells #[.int .i64 0,.int .i64 1000000] 36))):=(by show NS _ _ _ _ _ _ _ _ _;rw[show rowsT ps (ws.take 0) i 6=base ps i 6 from rfl,hb.out];exact hS0.out);clear hS0 hb;have hS0:=hS1;clear hS1;generalize (((w.alloc (.cells #[.slice (some ⟨bp,op,none⟩) n c,.slice A' n' c'] 25)).alloc (.cells #[.int .i64 0,.int .i64 0] 36)).alloc (.cells #[.int .i64 0,.int .i64 1000000] 36))=wb at *;go_loopw [26] (fun v wq=>∃m:Nat,m≤n'∧v = .int .i64 m∧Hid (NS w (some ⟨bp,op,none⟩) A' n c n' c' (rowsT ps (ws.take m) i 6) wq)) (fun v _=>n' - (intOf v).toNat)
   case atStart=>exact⟨0,by omega,rfl,hS0⟩
   case round=>
    clear hS0;obtain⟨m,hm,rfl,hSm⟩:=hrel;by_cases hmt:m<n'
    ·have hmi:(m:Int)<(n':Int):=(by omega);have m0:(0:Int)≤(m:Int):=(by omega);obtain⟨bw,ow,N,P,K,L,H,rfl,hbw,hx,x0,x1,x2,x3,x4⟩:=(HWd.out _ hSm.out.bel).wg hmt;have hx:=Lib.hid hx;have hRw:=Lib.hid (rowsT_take (ps:=ps) hx.out);have hidx:=Lib.hid (id_idx hVF.out hpi.out P);have hzB:=(Below.refl wr.heap.size wr).alloc (Nat.le_refl _) (.cells #[.int .i64 N,.int .i64 P,.int .i64 K,.int .i64 L,.int .i64 H] 81);have hXB:=heap_alloc_new wr (.cells #[.int .i64 N,.int .i64 P,.int .i64 K,.int .i64 L,.int .i64 H] 81);have hS:=hSm.out.below hzB;obtain⟨bp2,op2,I',D',P',T',hA2,hbp2,hpx,y0,y1,y2,y3⟩:=(HRd.out _ hS.bel).pg hin;simp only[Option.some.injEq,Addr.mk.injEq,and_true] at hA2;obtain⟨rfl,rfl⟩:=hA2;have hpx:=Lib.hid hpx;have hpe:=Option.some.inj (hpx.out.symm.trans hpi.out);simp only[Prod.mk.injEq] at hpe;obtain⟨rfl,rfl,rfl,rfl⟩:=hpe;have hwb:wr.heap.size≠w.heap.size+2:=(by have:=(Array.getElem?_eq_some_iff.1 hSm.out.b2).1;omega);clear hzB hSm;(go_wp2_with fail);generalize (wr.alloc (.cells #[.int .i64 N,.int .i64 P,.int .i64 K,.int .i64 L,.int .i64 H] 81))=z at *;obtain⟨xb,hxb⟩:∃xb,xb=wr.heap.size:=⟨_,rfl⟩;rw[←hxb] at hXB hwb ⊢;clear hxb x0 x1 x2 x3 x4;obtain⟨p0,p1,q0,q1,g0,g1⟩:=hS.cells;obtain⟨x0,x1,x2,x3,x4⟩:=facts5c hXB;have hSh:=Lib.hid hS;clear hS hXB;by_cases hP:P=I'
     ·by_cases hK:K=6
      ·subst hP;subst hK;have hN:Hid (rowsT ps (ws.take (m+1)) i 6=both (rowsT ps (ws.take m) i 6) (L,H)):=by
        show _=_;rw[hRw.out];unfold note1;rw[if_pos ⟨(hidx.out.2 rfl).symm,rfl⟩]
       generalize rowsT ps (ws.take m) i 6=s at *;obtain⟨s1,s2⟩:=s;(go_quiet (fail));clear y0 y1 y2 y3;go_wp2;rename_i nq;rw[mx_if,mn_if];go_roundw
       case rel=>
        refine⟨m+1,by omega,by go_num,?_⟩;rw[hN.out];exact Lib.hid ((hSh.out.drewN nq).set (both (s1,s2) (L,H)))
       case measure=>simp[intOf];omega
      ·subst hP;have hKb:(K==6)=false:=(by simpa using hK);have hN:Hid (rowsT ps (ws.take (m+1)) i 6=rowsT ps (ws.take m) i 6):=by
        show _=_;rw[hRw.out];unfold note1;rw[if_neg (fun h=>hK h.2.symm)]
       generalize rowsT ps (ws.take m) i 6=s at *;(go_quiet (fail));clear y0 y1 y2 y3;go_wp2;go_roundw
       case rel=>exact⟨m+1,by omega,by go_num,by rw[hN.out];exact Lib.hid (hSh.out.drewN _)⟩
       case measure=>simp[intOf];omega
     ·have hPb:(P==I')=false:=(by simpa using hP);have hN:Hid (rowsT ps (ws.take (m+1)) i 6=rowsT ps (ws.take m) i 6):=by
       show _=_;rw[hRw.out];unfold note1;rw[if_neg (fun h=>hP (hidx.out.1 h.1.symm))]
      generalize rowsT ps (ws.take m) i 6=s at *;(go_quiet (fail));clear y0 y1 y2 y3;go_wp2;go_roundw
      case rel=>exact⟨m+1,by omega,by go_num,by rw[hN.out];exact Lib.hid (hSh.out.drewN _)⟩
      case measure=>simp[intOf];omega
    ·obtain rfl:m=n':=(by omega);have ht:Hid (rowsT ps (ws.take m) i 6=rowsT ps ws i 6):=(by show _=_;rw[List.take_of_length_le (by omega)]);obtain⟨p0,p1,q0,q1,g0,g1⟩:=hSm.out.cells;obtain⟨o0,o1,of0,of1⟩:=two_facts hSm.out.b1;have hSh:=Lib.hid (hSm.out.res (rowsT ps (ws.take m) i 6));clear hSm;generalize rowsT ps (ws.take m) i 6=s at *;go_wp2;obtain⟨e0,e1⟩:=hSh.out;exact bodyPost_ret (v:=.agg #[.int .i64 s.1,.int .i64 s.2]) (by simp[results,Tryd.results27,go_sem,e0,e1.1]) rfl ⟨by rw[←ht.out],e1.2⟩
 ·have hkb:((k:Int)==6)=false:=(by simp;omega);have hb:Hid (base ps i k=(0,1000000)):=by show _=_;unfold base;rw[if_neg (fun h=>hk h.1)]
  go_enter Tryd.func27,Tryd.ntmps27
  (go_wp2_with fail);clear p0 p1 q0 q1 g0 g1 y0 y1 y2 y3;have hS1:Hid (NS w (some ⟨bp,op,none⟩) A' n c n' c' (rowsT ps (ws.take 0) i k) (((w.alloc (.cells #[.slice (some ⟨bp,op,none⟩) n c,.slice A' n' c'] 25)).alloc (.cells #[.int .i64 0,.int .i64 0] 36)).alloc (.cells #[.int .i64 0,.int .i64 1000000] 36))):=(by show NS _ _ _ _ _ _ _ _ _;rw[show rowsT ps (ws.take 0) i k=base ps i k from rfl,hb.out];exact hS0.out);clear hS0 hb;have hS0:=hS1;clear hS1;generalize (((w.alloc (.cells #[.slice (some ⟨bp,op,none⟩) n c,.slice A' n' c'] 25)).alloc (.cells #[.int .i64 0,.int .i64 0] 36)).alloc (.cells #[.int .i64 0,.int .i64 1000000] 36))=wb at *;go_loopw [26] (fun v wq=>∃m:Nat,m≤n'∧v = .int .i64 m∧Hid (NS w (some ⟨bp,op,none⟩) A' n c n' c' (rowsT ps (ws.take m) i k) wq)) (fun v _=>n' - (intOf v).toNat)
  case atStart=>exact⟨0,by omega,rfl,hS0⟩
  case round=>
   clear hS0;obtain⟨m,hm,rfl,hSm⟩:=hrel;by_cases hmt:m<n'
   ·have hmi:(m:Int)<(n':Int):=(by omega);have m0:(0:Int)≤(m:Int):=(by omega);obtain⟨bw,ow,N,P,K,L,H,rfl,hbw,hx,x0,x1,x2,x3,x4⟩:=(HWd.out _ hSm.out.bel).wg hmt;have hx:=Lib.hid hx;have hRw:=Lib.hid (rowsT_take (ps:=ps) hx.out);have hidx:=Lib.hid (id_idx hVF.out hpi.out P);have hzB:=(Below.refl wr.heap.size wr).alloc (Nat.le_refl _) (.cells #[.int .i64 N,.int .i64 P,.int .i64 K,.int .i64 L,.int .i64 H] 81);have hXB:=heap_alloc_new wr (.cells #[.int .i64 N,.int .i64 P,.int .i64 K,.int .i64 L,.int .i64 H] 81);have hS:=hSm.out.below hzB;obtain⟨bp2,op2,I',D',P',T',hA2,hbp2,hpx,y0,y1,y2,y3⟩:=(HRd.out _ hS.bel).pg hin;simp only[Option.some.injEq,Addr.mk.injEq,and_true] at hA2;obtain⟨rfl,rfl⟩:=hA2;have hpx:=Lib.hid hpx;have hpe:=Option.some.inj (hpx.out.symm.trans hpi.out);simp only[Prod.mk.injEq] at hpe;obtain⟨rfl,rfl,rfl,rfl⟩:=hpe;have hwb:wr.heap.size≠w.heap.size+2:=(by have:=(Array.getElem?_eq_some_iff.1 hSm.out.b2).1;omega);clear hzB hSm;(go_wp2_with fail);generalize (wr.alloc (.cells #[.int .i64 N,.int .i64 P,.int .i64 K,.int .i64 L,.int .i64 H] 81))=z at *;obtain⟨xb,hxb⟩:∃xb,xb=wr.heap.size:=⟨_,rfl⟩;rw[←hxb] at hXB hwb ⊢;clear hxb x0 x1 x2 x3 x4;obtain⟨p0,p1,q0,q1,g0,g1⟩:=hS.cells;obtain⟨x0,x1,x2,x3,x4⟩:=facts5c hXB;have hSh:=Lib.hid hS;clear hS hXB;by_cases hP:P=I'
    ·by_cases hK:K=(k:Int)
     ·subst hP;subst hK;have hN:Hid (rowsT ps (ws.take (m+1)) i k=both (rowsT ps (ws.take m) i k) (L,H)):=by
       show _=_;rw[hRw.out];unfold note1;rw[if_pos ⟨(hidx.out.2 rfl).symm,rfl⟩]
      generalize rowsT ps (ws.take m) i k=s at *;obtain⟨s1,s2⟩:=s;(go_quiet (fail));clear y0 y1 y2 y3;go_wp2;rename_i nq;rw[mx_if,mn_if];go_roundw
      case rel=>
       refine⟨m+1,by omega,by go_num,?_⟩;rw[hN.out];exact Lib.hid ((hSh.out.drewN nq).set (both (s1,s2) (L,H)))
      case measure=>simp[intOf];omega
     ·subst hP;have hKb:(K==(k:Int))=false:=(by simpa using hK);have hN:Hid (rowsT ps (ws.take (m+1)) i k=rowsT ps (ws.take m) i k):=by
       show _=_;rw[hRw.out];unfold note1;rw[if_neg (fun h=>hK h.2.symm)]
      generalize rowsT ps (ws.take m) i k=s at *;(go_quiet (fail));clear y0 y1 y2 y3;go_wp2;go_roundw
      case rel=>exact⟨m+1,by omega,by go_num,by rw[hN.out];exact Lib.hid (hSh.out.drewN _)⟩
      case measure=>simp[intOf];omega
    ·have hPb:(P==I')=false:=(by simpa using hP);have hN:Hid (rowsT ps (ws.take (m+1)) i k=rowsT ps (ws.take m) i k):=by
      show _=_;rw[hRw.out];unfold note1;rw[if_neg (fun h=>hP (hidx.out.1 h.1.symm))]
     generalize rowsT ps (ws.take m) i k=s at *;(go_quiet (fail));clear y0 y1 y2 y3;go_wp2;go_roundw
     case rel=>exact⟨m+1,by omega,by go_num,by rw[hN.out];exact Lib.hid (hSh.out.drewN _)⟩
     case measure=>simp[intOf];omega
   ·obtain rfl:m=n':=(by omega);have ht:Hid (rowsT ps (ws.take m) i k=rowsT ps ws i k):=(by show _=_;rw[List.take_of_length_le (by omega)]);obtain⟨p0,p1,q0,q1,g0,g1⟩:=hSm.out.cells;obtain⟨o0,o1,of0,of1⟩:=two_facts hSm.out.b1;have hSh:=Lib.hid (hSm.out.res (rowsT ps (ws.take m) i k));clear hSm;generalize rowsT ps (ws.take m) i k=s at *;go_wp2;obtain⟨e0,e1⟩:=hSh.out;exact bodyPost_ret (v:=.agg #[.int .i64 s.1,.int .i64 s.2]) (by simp[results,Tryd.results27,go_sem,e0,e1.1]) rfl ⟨by rw[←ht.out],e1.2⟩
end Go.Proofs.YtfplipbkjglmhaaDoor
