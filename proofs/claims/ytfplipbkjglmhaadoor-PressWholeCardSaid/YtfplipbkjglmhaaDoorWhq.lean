/-
 PressWhole, the tied card: for every press and choices the law returns true, and its arguments read as before. The package's table of checks is laid as the program's text lays it (the given ties).
-/
import Derived.Test.YtfplipbkjglmhaaDoorTrB
import Derived.Test.YtfplipbkjglmhaaDoorAliv
import Derived.Test.YtfplipbkjglmhaaDoorAsk
import Derived.Test.YtfplipbkjglmhaaDoorFir
import Derived.Test.YtfplipbkjglmhaaDoorPAll
import Derived.Test.YtfplipbkjglmhaaDoorPLaid
import Derived.Test.YtfplipbkjglmhaaDoorCards
import Derived.Test.YtfplipbkjglmhaaDoorTie
import Derived.SevenTiedAt
namespace Go.Proofs.YtfplipbkjglmhaaDoor
open Go.RowKit
set_option linter.unusedVariables false
set_option linter.unusedSimpArgs false
section
variable {t:Nat→Option Nat} {R:Nat→Nat→Sp} {n:Nat} {F:WF}
/-- All seed is all that came out, if parings that go nowhere are none. -/
theorem TruF.whole(h:TruF t R n F)(hF:Fwd n t)(h0:∀j,j<n→t j=none→0≤(R j 6).1∧(R j 6).2≤0):sumN (fun i=>F i 2) n=sumN (fun i=>F i 3) n+sumN (fun i=>F i 4) n+sumN (fun i=>F i 5) n+sumN (fun i=>F i 6) n:=by
 have e1:=to_swap (F:=F) hF (fun _=>1) n (Nat.le_refl _);have e2:sumN (fun j=>yTo t (fun _=>1) j*F j 7) n=sumN (fun j=>F j 7) n:=by
  refine sumN_congr n fun j hj=>?_;cases ht:t j with
  |none=>
   have a:=h0 j hj ht;have b:=h.in_ j hj 6 (by omega) (by omega);simp only[Nat.reduceAdd] at b;have e:F j 7=0:=(by omega);rw[e,Int.mul_zero]
  |some q=>
   have e:yTo t (fun _=>1) j=1:=(by unfold yTo;rw[ht]);rw[e,Int.one_mul]
 have e3:sumN (fun i=>1*inW t F i n) n=sumN (fun i=>inW t F i i) n:=sumN_congr n fun i hi=>by rw[Int.one_mul,inW_far hF i n (by omega) (Nat.le_refl _)]
 rw[e2,e3] at e1;have e4:sumN (fun i=>F i 2+inW t F i i) n=sumN (fun i=>F i 3+F i 4+F i 5+F i 6+F i 7) n:=sumN_congr n fun i hi=>by have:=h.bal i hi;omega
 rw[sumN_add,sumN_add,sumN_add,sumN_add,sumN_add] at e4;omega
end
/-- What is told of the kinds below one. -/
def toldF (ps:List PR) (ws:List WE) (k:Nat):Nat→Sp:=fun q=>if 1≤q∧q<k then allS ps ws q else(0,0)
theorem rowOf_zero{w:World}{b:Nat}(h:w.heap[b]? = some (.cells #[.int .i64 0,.int .i64 0,.int .i64 0,.int .i64 0,.int .i64 0,.int .i64 0,.int .i64 0,.int .i64 0,.int .i64 0,.int .i64 0,.int .i64 0,.int .i64 0] 37 (0,0))):RowOf w b 37 2 6 spc 6 (fun _=>(0,0)):=by
 refine⟨fun _=>.int .i64 0,⟨_,h,rfl,fun i hi=>?_⟩,fun k hk t u hu=>?_⟩
 ·rcases (by omega:i=0∨i=1∨i=2∨i=3∨i=4∨i=5∨i=6∨i=7∨i=8∨i=9∨i=10∨i=11) with rfl|rfl|rfl|rfl|rfl|rfl|rfl|rfl|rfl|rfl|rfl|rfl<;>rfl
 ·have ht:t<2:=(List.getElem?_eq_some_iff.1 hu).1;rcases (by omega:t=0∨t=1) with rfl|rfl<;>simpa [spc] using hu
def onec (v:Int):List Value:=[.int .i64 v]
theorem onec_len(v:Int):(onec v).length=1:=rfl
theorem rowOf_zero7{w:World}{b:Nat}(h:w.heap[b]? = some (.cells #[.int .i64 0,.int .i64 0,.int .i64 0,.int .i64 0,.int .i64 0,.int .i64 0,.int .i64 0] 41 (0,0))):RowOf w b 41 1 7 onec 7 (fun _=>0):=by
 refine⟨fun _=>.int .i64 0,⟨_,h,rfl,fun i hi=>?_⟩,fun k hk t u hu=>?_⟩
 ·rcases (by omega:i=0∨i=1∨i=2∨i=3∨i=4∨i=5∨i=6) with rfl|rfl|rfl|rfl|rfl|rfl|rfl<;>rfl
 ·have ht:t<1:=(List.getElem?_eq_some_iff.1 hu).1;obtain rfl:t=0:=(by omega);simpa [onec] using hu
/-- What stands behind what is told, and the two truths. -/
structure WX (w5:World) (A6 A7:Option Addr) (n c6 c7 tb lb:Nat) (T:Nat→Sp) (z:World):Prop where
 bel:Below w5.heap.size w5 z
 told:RowOf z tb 37 2 6 spc 6 T
 lst:z.heap[lb]? = some (.cells #[.slice A7 n c7,.slice A6 n c6] 29 (0,0))
 tl:w5.heap.size≤tb
 ll:tb<lb
section
variable {w5 z y:World} {A6 A7:Option Addr} {n c6 c7 tb lb ab:Nat} {T:Nat→Sp} {Z:Nat→Int}
theorem WX.under(h:WX w5 A6 A7 n c6 c7 tb lb T z)(hb:Below z.heap.size z y):WX w5 A6 A7 n c6 c7 tb lb T y:=⟨below_via h.bel h.bel.size hb,h.told.of_block (hb.block tb h.told.lt),keepO hb h.lst,h.tl,h.ll⟩
/-- .. and the sums of one truth. -/
structure AX (w5:World) (A6 A7:Option Addr) (n c6 c7 tb lb:Nat) (T:Nat→Sp) (ab:Nat) (Z:Nat→Int) (z:World):Prop extends WX w5 A6 A7 n c6 c7 tb lb T z where
 all:RowOf z ab 41 1 7 onec 7 Z
 al:lb<ab
theorem AX.under(h:AX w5 A6 A7 n c6 c7 tb lb T ab Z z)(hb:Below z.heap.size z y):AX w5 A6 A7 n c6 c7 tb lb T ab Z y:=⟨h.toWX.under hb,h.all.of_block (hb.block ab h.all.lt),h.al⟩
theorem AX.put(h:AX w5 A6 A7 n c6 c7 tb lb T ab Z z){k:Nat}(hk:k<7)(v:Int):AX w5 A6 A7 n c6 c7 tb lb T ab (fun q=>if q=k then v else Z q) (z.setCell ⟨ab,k,none⟩ (.int .i64 v)):=by
 have h1:=h.tl;have h2:=h.ll;have h3:=h.al;have far:∀q,q≠ab→(z.setCell ⟨ab,k,none⟩ (.int .i64 v)).heap[q]? = z.heap[q]?:=fun q hq=>Below.heap_setCell z ⟨ab,k,none⟩ _ q hq;refine⟨⟨h.bel.setCell (p:=⟨ab,k,none⟩) (by simp only;omega) _,h.told.of_block (far tb (by omega)),(far lb (by omega)).trans h.lst,h.tl,h.ll⟩,?_,h.al⟩;have:=h.all.put1 onec_len (i:=k) (j:=0) (by omega) (.int .i64 v) v rfl;simpa using this
theorem AX.cell(h:AX w5 A6 A7 n c6 c7 tb lb T ab Z z){k:Nat}(hk:k<7):z.cell? ⟨ab,k,none⟩=some (.int .i64 (Z k)):=by
 have:=h.all.cell onec_len (Nat.le_refl _) (k:=k) (t:=0) hk rfl;simpa using this
theorem AX.congr{Z':Nat→Int}(h:AX w5 A6 A7 n c6 c7 tb lb T ab Z z)(e:∀q,q<7→Z' q=Z q):AX w5 A6 A7 n c6 c7 tb lb T ab Z' z:=⟨h.toWX,h.all.congr (Nat.le_refl _) e,h.al⟩
theorem WX.cell(h:WX w5 A6 A7 n c6 c7 tb lb T z){k:Nat}(hk:k<6):z.cell? ⟨tb,k*2,none⟩=some (.int .i64 (T k).1)∧z.cell? ⟨tb,k*2+1,none⟩=some (.int .i64 (T k).2):=by
 have a:=h.told.cell spc_len (Nat.le_refl _) (k:=k) (t:=0) hk rfl;have b:=h.told.cell spc_len (Nat.le_refl _) (k:=k) (t:=1) hk rfl;exact⟨by simpa using a,b⟩
end
set_option maxRecDepth 100000 in
set_option maxHeartbeats 16000000 in
theorem law_whole(A A':Option Addr)(n c n' c':Nat)(ps:List PR)(ws:List WE)(Ab:Option Addr)(nb cb:Nat)(xs:List Nat)(w:World)(hnb:nb≤maxLen)(hxs:∀x∈xs,x≤4294967295)(hnm:n≤maxLen)(hnm':n'≤maxLen)
  (hR:Reads w w.heap.size 4 A n (pgs ps)) (hW:Reads w w.heap.size 5 A' n' (wgs ws)) (hX:Reads w w.heap.size 1 Ab nb (usV xs)) (hL:Laid w) :
  Calls Tryd.prog 3 #[.agg #[.slice A n c,.slice A' n' c'],.slice Ab nb cb] w fun e w'=>e = .returned (.bool true)∧Below w.heap.size w w':=by
 have hl:ps.length=n:=hR.pg_len;have hl':ws.length=n':=hW.wg_len;have HX0:=Lib.hid (PX.start (c:=c) (c':=c') hR hW hL);have HAl:=Lib.hid (fun z (K:PX w A A' n c n' c' ps ws z)=>alive_any z K.laid);have HRy:=Lib.hid (fun z (K:PX w A A' n c n' c' ps ws z)=>ready_any A A' n c n' c' ps ws z hnm hnm' K.rp K.rw_);have HXd:=Lib.hid (fun z (hz:Below w.heap.size w z)=>(hX.below hz).more hz.size);clear hX;clear hR hW hL;obtain⟨g,hg_⟩:∃g,g=(!(decide (20<n) || decide (50<n')) && validP ps ws):=⟨_,rfl⟩;rw[←hg_] at HRy;have hg:=Lib.hid hg_;clear hg_
 go_enter Tryd.func3,Tryd.ntmps3
 go_wp2_with fail
 refine(HAl.out _ HX0.out).mono ?_;rintro e z1 ⟨rfl,hb⟩;have HX1:=Lib.hid (HX0.out.below hb);clear hb HX0;obtain⟨p0,p1⟩:=HX1.out.cells;go_wp2_with fail
 clear p0 p1;refine(HRy.out _ HX1.out).mono ?_;rintro e z2 ⟨rfl,hb⟩;have HX2:=Lib.hid (HX1.out.below hb);clear hb HX1;cases g with
 |false=>
  go_wp2;go_ret;exact⟨rfl,HX2.out.bel⟩
 |true=>
 have hv:validP ps ws=true:=by have h:=hg.out;simp at h;exact h.2.symm ▸ rfl
 have hVF:=valid_facts hv;have hn10:n≤10:=by have:=hVF.n10;omega
 have hn30:n'≤30:=by have:=hVF.m30;omega
 clear hg HRy HAl;have hGv:=Lib.hid (fun z (K:PX w A A' n c n' c' ps ws z)=>given_any A A' n c n' c' ps ws none Ab 0 0 nb cb [] xs z hnm hv (by omega) hnb (fun x hx=>by simp at hx) (fun x hx=>by simp at hx) hxs K.rp K.rw_ ⟨by simp[mss],fun h=>absurd h (by omega)⟩ (HXd.out z K.bel));have hFi:=Lib.hid (fun z (K:PX w A A' n c n' c' ps ws z)=>pFirst_any A A' n c n' c' ps ws z hnm K.rp K.rw_ K.laid);have hVFh:=Lib.hid hVF;have hvh:=Lib.hid hv;have hlh:=Lib.hid hl;cases ht:hasT ps ws with
 |false=>
  obtain⟨fs,fe⟩:=firS_no hv ht;rw[fs,fe] at hFi;clear hGv hVF hv hl ht fs fe;obtain⟨p0,p1⟩:=HX2.out.cells;(go_wp2_with fail);clear p0 p1;refine(hFi.out _ HX2.out).mono ?_;rintro e z5 ⟨⟨A7,m7,c7,rfl,how⟩,hb⟩;have HX5:=Lib.hid (HX2.out.below hb);clear how hb;go_wp2;go_ret;exact⟨rfl,HX5.out.bel⟩
 |true=>
  obtain⟨fs,fe⟩:=firS_wdl hv hl ht;rw[fs,fe] at hFi;have hG_T:=fir_tru hVF hl ht;obtain⟨G,hG_⟩:∃G,G=firF ps ws n:=⟨_,rfl⟩;rw[←hG_] at hFi hG_T;have hG1:∀i,i<n→G i 1=0:=fun i _=>(by rw[hG_];exact firF_0.2);have hG:=Lib.hid hG_T;have hG1h:=Lib.hid hG1;have hth:=Lib.hid ht;have hFw:Hid (Fwd n (toT ps)):=(by have h:=hVF.fwd;rw[hl] at h;exact Lib.hid h);clear fs fe hG_ hG_T hG1;obtain⟨p0,p1⟩:=HX2.out.cells;(go_wp2_with fail);clear p0 p1;refine(hFi.out _ HX2.out).mono ?_;rintro e z3 ⟨⟨A7,m7,c7,rfl,how⟩,hb⟩;have hrd:=Reads.of_own how;obtain rfl:n=m7:=(by have h:=wds_len hrd;simpa [wdl] using h);have HX3:=Lib.hid (HX2.out.below hb);have HR3:=Lib.hid (hrd.more (Nat.le_refl _));clear how hb HX2 hrd hFi;obtain⟨p0,p1⟩:=HX3.out.cells;(go_wp2_with fail);clear p0 p1;refine(hGv.out _ HX3.out).mono ?_;rintro e w5 ⟨hg,hb⟩;rw[lack_nil] at hg;rcases hg.zero with ⟨hnh,rfl⟩|⟨hh,A6,c6,F,rfl,hR6,hT,h0⟩
  ·exact absurd ((hasT_iff hVF hl).1 ht) hnh
  have HT5:=Lib.hid (show TX w A A' n c n' c' ps ws A6 A7 F G w5 from⟨HX3.out.below hb,hR6,(HR3.out.below hb).more hb.size⟩);have hTh:=Lib.hid hT;have hF1h:=Lib.hid (fun i (hi:i<n)=>(h0 i hi).2);have hIR:=Lib.hid (rows_InR hVF n);have hAl:=Lib.hid (fun(k:Nat) z (K:PX w A A' n c n' c' ps ws z)=>pAll_any A A' n c n' c' ps ws k z hnm K.rp K.rw_ K.laid);have hAf:=Lib.hid (fun(k:Nat) (h1:1≤k) (h5:k≤5)=>allS_facts hVFh.out hvh.out hlh.out hth.out h1 h5);clear hb hg hh HX3 HR3 hGv hVF hv hl ht hR6 hT h0;obtain⟨p0,p1⟩:=HT5.out.cells;obtain⟨w6,hw1_⟩:∃y,y=w5.alloc (.cells #[.int .i64 0,.int .i64 0,.int .i64 0,.int .i64 0,.int .i64 0,.int .i64 0,.int .i64 0,.int .i64 0,.int .i64 0,.int .i64 0,.int .i64 0,.int .i64 0] 37):=⟨_,rfl⟩;obtain⟨tb,hb1_⟩:∃q,q=w5.heap.size:=⟨_,rfl⟩;have hB1:Below w5.heap.size w5 w6:=(by rw[hw1_];exact(Below.refl _ _).alloc (Nat.le_refl _) _);have hO1:w6.heap[tb]? = some (.cells #[.int .i64 0,.int .i64 0,.int .i64 0,.int .i64 0,.int .i64 0,.int .i64 0,.int .i64 0,.int .i64 0,.int .i64 0,.int .i64 0,.int .i64 0,.int .i64 0] 37 (0,0)):=(by rw[hw1_,hb1_];exact heap_alloc_new _ _);have hw1:=Lib.hid hw1_;have hb1:=Lib.hid hb1_;clear hw1_ hb1_;have hRw0:RowOf w6 tb 37 2 6 spc 6 (toldF ps ws 1):=(rowOf_zero hO1).congr (Nat.le_refl _) fun q _=>(by unfold toldF;rw[if_neg (by omega)]);have HB6:=Lib.hid hB1;have HRw:=Lib.hid hRw0;have htbw:Hid (w5.heap.size≤tb):=(by show _≤_;rw[hb1.out];exact Nat.le_refl _);(go_wp2_with fail);rw[←hw1.out,←hb1.out]
  clear hw1 hb1;clear p0 p1 hB1 hO1 hRw0;go_loopw [11] (fun u wr=>∃wl,wl=wr∧∃k:Nat,1≤k∧k≤6∧u = .int .i64 k∧Hid (Below w5.heap.size w5 wl)∧Hid (RowOf wl tb 37 2 6 spc 6 (toldF ps ws k))) (fun u _=>6 - (intOf u).toNat)
  case atStart=>exact⟨_,rfl,1,by omega,by omega,rfl,HB6,HRw⟩
  case round=>
   clear HB6 HRw;obtain⟨wq,rfl,k,hk1,hk6,rfl,HBq,HRq⟩:=hrel;by_cases hk:k≤5
   ·have hki:(k:Int)≤5:=(by omega);have hk0:(0:Int)≤(k:Int):=(by omega);have hk77:(k:Int)<6:=(by omega);have heA:=allE_t (k:=(k:Int)) hvh.out hth.out ⟨by omega,by omega⟩;obtain⟨f1,f2,f3⟩:=hAf.out k hk1 hk;have f3:=f3 F hTh.out;have hAk:=hAl.out k;obtain⟨s,hs_⟩:∃s,s=allS ps ws k:=⟨_,rfl⟩;rw[heA,←hs_] at hAk;rw[←hs_] at f1 f2 f3;have hAk:=Lib.hid hAk;have hs:=Lib.hid hs_;have HTq:=Lib.hid (HT5.out.under HBq.out);obtain⟨p0,p1⟩:=HTq.out.cells;clear hs_ heA;(go_wp2_with fail);clear p0 p1;refine(hAk.out _ HTq.out.toPX).mono ?_;rintro e wc ⟨rfl,hb⟩;obtain⟨wd,hw5_⟩:∃y,y=wc.alloc (.cells #[.int .i64 s.1,.int .i64 s.2] 36):=⟨_,rfl⟩;obtain⟨sb,hb5_⟩:∃q,q=wc.heap.size:=⟨_,rfl⟩;have hB5:Below wc.heap.size wc wd:=(by rw[hw5_];exact(Below.refl _ _).alloc (Nat.le_refl _) _);have hO5:wd.heap[sb]? = some (.cells #[.int .i64 s.1,.int .i64 s.2] 36 (0,0)):=(by rw[hw5_,hb5_];exact heap_alloc_new _ _);have hw5:=Lib.hid hw5_;have hb5:=Lib.hid hb5_;clear hw5_ hb5_;have hbb:=below_via hb hb.size hB5;have HBd:=Lib.hid (below_via HBq.out HBq.out.size hbb);have HRd:=Lib.hid (HRq.out.of_block (hbb.block tb HRq.out.lt));have hSd:=Lib.hid hO5;have htsb:tb≠sb:=by rw[hb5.out];have:=HRq.out.lt;have:=hb.size;omega
    go_upto_region 15 with (fail)
    rw[←hw5.out,←hb5.out];clear hw5 hb5;clear hb hB5 hO5 hAk hbb HTq HBq HRq;have d1:decide (s.1<0)=false:=(by simp;omega);have d2:decide (s.1 > s.2)=false:=(by simp;omega);have d3:decide (s.2 > 10000000)=false:=(by simp;omega);obtain⟨s0,s1,-,-⟩:=two_facts hSd.out;have hw1:IntKind.i64.wrap ((k:Int)+1)=(k:Int)+1:=IntWalk.i64_in _ (by omega);obtain⟨v0,e0⟩:=Option.isSome_iff_exists.1 (HRd.out.there (show k*2<6*2 by omega));obtain⟨v1,e1⟩:=Option.isSome_iff_exists.1 (HRd.out.there (show k*2+1<6*2 by omega));have g0:=HRd.out.frozen (k*2);have g1:=HRd.out.frozen (k*2+1);have hput:=HRd.out.put spc_len k s;obtain⟨y3,hy3_⟩:∃y,y=(wd.setCell ⟨tb,k*2,none⟩ (.int .i64 s.1)).setCell ⟨tb,k*2+1,none⟩ (.int .i64 s.2):=⟨_,rfl⟩;have HRy:=Lib.hid (show RowOf y3 tb 37 2 6 spc 6 (toldF ps ws (k+1)) by
     rw[hy3_];refine RowOf.congr hput (Nat.le_refl _) fun q hq=>?_;unfold toldF;by_cases e:q=k
     ·subst e;rw[if_pos (by omega),if_pos rfl,hs.out]
     ·rw[if_neg e];by_cases e2:1≤q∧q<k
      ·rw[if_pos (by omega),if_pos e2]
      ·rw[if_neg (by omega),if_neg e2])
    have htw:=htbw.out;have HBy:=Lib.hid (show Below w5.heap.size w5 y3 by rw[hy3_];exact(HBd.out.setCell (p:=⟨tb,k*2,none⟩) (by simp only;omega) _).setCell (p:=⟨tb,k*2+1,none⟩) (by simp only;omega) _);have hy3:=Lib.hid hy3_;clear hput hy3_ f1 f2 f3 htw HBd HRd
    go_upto_region 13 with (fail)
    rw[←hy3.out];clear hy3 e0 e1 g0 g1 s0 s1;go_wp2;go_roundw
    case rel=>exact⟨_,rfl,k+1,by omega,by omega,by go_num,HBy,HRy⟩
    case measure=>simp[intOf];omega
   ·obtain rfl:k=6:=(by omega);rw[show ((6:Nat):Int)=6 from rfl];obtain⟨T,hT_⟩:∃T,T=toldF ps ws 6:=⟨_,rfl⟩;rw[←hT_] at HRq;have hTo:=Lib.hid hT_;obtain⟨w7,hw2_⟩:∃y,y=wq.alloc (.cells #[.slice A7 n c7,.slice A6 n c6] 29):=⟨_,rfl⟩;obtain⟨lb,hb2_⟩:∃q,q=wq.heap.size:=⟨_,rfl⟩;have hB2:Below wq.heap.size wq w7:=(by rw[hw2_];exact(Below.refl _ _).alloc (Nat.le_refl _) _);have hO2:w7.heap[lb]? = some (.cells #[.slice A7 n c7,.slice A6 n c6] 29 (0,0)):=(by rw[hw2_,hb2_];exact heap_alloc_new _ _);have hw2:=Lib.hid hw2_;have hb2:=Lib.hid hb2_;clear hw2_ hb2_;have HW7_:WX w5 A6 A7 n c6 c7 tb lb T w7:=⟨below_via HBq.out HBq.out.size hB2,HRq.out.of_block (hB2.block tb HRq.out.lt),hO2,htbw.out,by rw[hb2.out];exact HRq.out.lt⟩;have HW7:=Lib.hid HW7_;clear hT_ HW7_ hB2 hO2 HBq HRq htbw;(go_wp2_with fail);rw[←hw2.out,←hb2.out];clear hw2 hb2
    -- what the two truths are
    have hTwo:=Lib.hid (fun j (hj:j<2)=>(by
     rcases (by omega:j=0∨j=1) with rfl|rfl
     ·refine⟨A7,c7,G,fun z hz=>?_,HT5.out.rG,hG.out,hG1h.out⟩;have:=hz.lst;simp[World.cell?,this]
     ·refine⟨A6,c6,F,fun z hz=>?_,HT5.out.rF,hTh.out,hF1h.out⟩;have:=hz.lst
      simp[World.cell?,this]:∃Aj cj Fj,(∀z,WX w5 A6 A7 n c6 c7 tb lb T z→z.cell? ⟨lb,j,none⟩=some (.slice Aj n cj))∧Reads w5 w5.heap.size 8 Aj n (wds (wdl Fj n))∧TruF (toT ps) (rowsT ps ws) n Fj∧∀i,i<n→Fj i 1=0))
    go_loopw [97] (fun u wr=>∃wl,wl=wr∧∃j:Nat,j≤2∧u = .int .i64 j∧Hid (WX w5 A6 A7 n c6 c7 tb lb T wl)) (fun u _=>2 - (intOf u).toNat)
    case atStart=>exact⟨_,rfl,0,by omega,rfl,HW7⟩
    case round=>
     clear HW7;obtain⟨wa,rfl,j,hj2,rfl,HWa⟩:=hrel;by_cases hj:j<2
     ·have hji:(j:Int)<2:=(by omega);have hj0:(0:Int)≤(j:Int):=(by omega);obtain⟨Aj,cj,Fj,hcel,hRj_,hTj_,hj1_⟩:=hTwo.out j hj;have q0:=hcel wa HWa.out;have hRj:=Lib.hid hRj_;have hTj:=Lib.hid hTj_;have hj1:=Lib.hid hj1_;have hjb:=Lib.hid (fun i (hi:i<n) q (h7:q<7)=>(by
       by_cases e:q=0
       ·subst e;rw[hj1_ i hi];omega
       ·have a:=hTj_.in_ i hi q (by omega) (by omega);have b:=hVFh.out.in_ i q;omega:0≤Fj i (1+q)∧Fj i (1+q)≤1000000))
      obtain⟨w8,hw3_⟩:∃y,y=wa.alloc (.cells #[.int .i64 0,.int .i64 0,.int .i64 0,.int .i64 0,.int .i64 0,.int .i64 0,.int .i64 0] 41):=⟨_,rfl⟩;obtain⟨ab,hb3_⟩:∃q,q=wa.heap.size:=⟨_,rfl⟩;have hB3:Below wa.heap.size wa w8:=(by rw[hw3_];exact(Below.refl _ _).alloc (Nat.le_refl _) _);have hO3:w8.heap[ab]? = some (.cells #[.int .i64 0,.int .i64 0,.int .i64 0,.int .i64 0,.int .i64 0,.int .i64 0,.int .i64 0] 41 (0,0)):=(by rw[hw3_,hb3_];exact heap_alloc_new _ _);have hw3:=Lib.hid hw3_;have hb3:=Lib.hid hb3_;clear hw3_ hb3_;have HA8:=Lib.hid (show AX w5 A6 A7 n c6 c7 tb lb T ab (fun q=>sumN (fun i=>Fj i (1+q)) 0) w8 from⟨HWa.out.under hB3,rowOf_zero7 hO3,by rw[hb3.out];exact(Array.getElem?_eq_some_iff.1 HWa.out.lst).1⟩);clear hcel hRj_ hTj_ hj1_ hB3 hO3;(go_wp2_with fail);rw[←hw3.out,←hb3.out];clear hw3 hb3;clear q0 HWa;go_loopw [103] (fun u wr=>∃wl,wl=wr∧∃t:Nat,t≤n∧u = .int .i64 t∧Hid (AX w5 A6 A7 n c6 c7 tb lb T ab (fun q=>sumN (fun i=>Fj i (1+q)) t) wl)) (fun u _=>n - (intOf u).toNat)
      case atStart=>exact⟨_,rfl,0,by omega,rfl,HA8⟩
      case round=>
       clear HA8;obtain⟨wb,rfl,t,ht_,rfl,HAb⟩:=hrel;by_cases htn:t<n
       ·have hti:(t:Int)<(n:Int):=(by omega);have ht0:(0:Int)≤(t:Int):=(by omega);have HRb:=(hRj.out.below HAb.out.bel).more HAb.out.bel.size;obtain⟨bj,oj,hAj,hbj,hc6⟩:=HRb.wl htn;obtain⟨fj,hfj_⟩:∃f,f=Fj t:=⟨_,rfl⟩;have hfb:=Lib.hid (fun q (h7:q<7)=>(by rw[hfj_];exact hjb.out t htn q h7:0≤fj (1+q)∧fj (1+q)≤1000000));rw[←hfj_] at hc6;have c0_:wb.cell? ⟨bj,oj+t*8,none⟩=some (.int .i64 (fj 0)):=hc6 0 (by omega);have c1_:wb.cell? ⟨bj,oj+t*8+1,none⟩=some (.int .i64 (fj 1)):=hc6 1 (by omega);have c2_:wb.cell? ⟨bj,oj+t*8+2,none⟩=some (.int .i64 (fj 2)):=hc6 2 (by omega);have c3_:wb.cell? ⟨bj,oj+t*8+3,none⟩=some (.int .i64 (fj 3)):=hc6 3 (by omega);have c4_:wb.cell? ⟨bj,oj+t*8+4,none⟩=some (.int .i64 (fj 4)):=hc6 4 (by omega);have c5_:wb.cell? ⟨bj,oj+t*8+5,none⟩=some (.int .i64 (fj 5)):=hc6 5 (by omega);have c6_:wb.cell? ⟨bj,oj+t*8+6,none⟩=some (.int .i64 (fj 6)):=hc6 6 (by omega);have c7_:wb.cell? ⟨bj,oj+t*8+7,none⟩=some (.int .i64 (fj 7)):=hc6 7 (by omega);have hfj:=Lib.hid hfj_;clear hfj_ hc6 HRb;obtain⟨wd,hw4_⟩:∃y,y=wb.alloc (.cells #[.int .i64 (fj 0),.int .i64 (fj 1),.int .i64 (fj 2),.int .i64 (fj 3),.int .i64 (fj 4),.int .i64 (fj 5),.int .i64 (fj 6),.int .i64 (fj 7)] 43):=⟨_,rfl⟩;obtain⟨xb,hb4_⟩:∃q,q=wb.heap.size:=⟨_,rfl⟩;have hB4:Below wb.heap.size wb wd:=(by rw[hw4_];exact(Below.refl _ _).alloc (Nat.le_refl _) _);have hO4:wd.heap[xb]? = some (.cells #[.int .i64 (fj 0),.int .i64 (fj 1),.int .i64 (fj 2),.int .i64 (fj 3),.int .i64 (fj 4),.int .i64 (fj 5),.int .i64 (fj 6),.int .i64 (fj 7)] 43 (0,0)):=by rw[hw4_,hb4_];exact heap_alloc_new _ _
        have hw4:=Lib.hid hw4_;have hb4:=Lib.hid hb4_;clear hw4_ hb4_;have HAd:=Lib.hid (HAb.out.under hB4);have hXd:=Lib.hid hO4;cases hAj
        go_upto_region 25 with (fail)
        rw[←hw4.out,←hb4.out];clear hw4 hb4;clear c0_ c1_ c2_ c3_ c4_ c5_ c6_ c7_ hB4 hO4 HAb hbj;obtain⟨x0,x1,x2,x3,x4,x5,x6,x7⟩:=facts8 hXd.out;have HA0:=Lib.hid (HAd.out.congr (Z':=fun q=>sumN (fun i=>Fj i (1+q)) (if q<0 then t+1 else t)) (fun q _=>by rw[if_neg (by omega)]));clear HAd;(go_wp2_with fail);clear x0 x1 x2 x3 x4 x5 x6 x7;go_loopw [109] (fun u wr=>∃wl,wl=wr∧∃k:Nat,k≤7∧u = .int .i64 k∧Hid (AX w5 A6 A7 n c6 c7 tb lb T ab (fun q=>sumN (fun i=>Fj i (1+q)) (if q<k then t+1 else t)) wl)) (fun u _=>7 - (intOf u).toNat)
        case atStart=>exact⟨_,rfl,0,by omega,rfl,HA0⟩
        case round=>
         clear HA0;obtain⟨wc,rfl,k,hk7,rfl,HAc⟩:=hrel;by_cases hk:k<7
         ·have hki:(k:Int)<7:=(by omega);have hk0:(0:Int)≤(k:Int):=(by omega);have hix:∀w,(Instr.index 41 (.agg #[.int .i64 (fj 1),.int .i64 (fj 2),.int .i64 (fj 3),.int .i64 (fj 4),.int .i64 (fj 5),.int .i64 (fj 6),.int .i64 (fj 7)]) (.int .i64 k)).run Tryd.prog w = .ok (.int .i64 (fj (1+k))) w:=by
           rcases (by omega:k=0∨k=1∨k=2∨k=3∨k=4∨k=5∨k=6) with rfl|rfl|rfl|rfl|rfl|rfl|rfl<;>exact fun _=>by kernel_rfl
          obtain⟨m1,m2⟩:=hfb.out k hk;obtain⟨fk,hfk_⟩:∃x,x=fj (1+k):=⟨_,rfl⟩;rw[←hfk_] at hix m1 m2;have hfk:=Lib.hid hfk_;have d1:decide (fk<0)=false:=(by simp;omega);have d2:decide (fk > 1000000)=false:=(by simp;omega);obtain⟨zk,hzk_⟩:∃x,x=sumN (fun i=>Fj i (1+k)) t:=⟨_,rfl⟩;have hzb:0≤zk∧zk≤10000000:=by
           have h:=sumN_bd (f:=fun i=>Fj i (1+k)) t (fun q hq=>hjb.out q (by omega) k hk);omega
          obtain⟨zb1,zb2⟩:=hzb;have z0:wc.cell? ⟨ab,k,none⟩=some (.int .i64 zk):=(by rw[hzk_];have h:=HAc.out.cell hk;rw[if_neg (by omega)] at h;exact h);obtain⟨v0,e0⟩:=Option.isSome_iff_exists.1 (HAc.out.all.there (show k<7*1 by omega));have g0:=HAc.out.all.frozen k;have w1:IntKind.i64.wrap (zk+fk)=zk+fk:=IntWalk.i64_in _ (by omega);have hw2:IntKind.i64.wrap ((k:Int)+1)=(k:Int)+1:=IntWalk.i64_in _ (by omega);obtain⟨wd2,hwd_⟩:∃y,y=wc.setCell ⟨ab,k,none⟩ (.int .i64 (zk+fk)):=⟨_,rfl⟩;have HAy:=Lib.hid (show AX w5 A6 A7 n c6 c7 tb lb T ab (fun q=>sumN (fun i=>Fj i (1+q)) (if q<k+1 then t+1 else t)) wd2 by
           rw[hwd_];refine(HAc.out.put hk (zk+fk)).congr fun q hq=>?_;by_cases e:q=k
           ·subst e;rw[if_pos rfl,if_pos (by omega),hzk_,hfk_,hfj.out];rfl
           ·rw[if_neg e];by_cases e2:q<k
            ·rw[if_pos e2,if_pos (by omega)]
            ·rw[if_neg e2,if_neg (by omega)])
          have hwd:=Lib.hid hwd_;clear hfk_ hzk_ hwd_ m1 m2 zb1 zb2 HAc
          go_upto_region 31 with (fail)
          rw[←hwd.out];clear hwd hix z0 e0 g0 w1 d1 d2;go_wp2;go_roundw
          case rel=>exact⟨_,rfl,k+1,by omega,by go_num,HAy⟩
          case measure=>simp[intOf];omega
         ·obtain rfl:k=7:=(by omega);have hw1:IntKind.i64.wrap ((t:Int)+1)=(t:Int)+1:=IntWalk.i64_in _ (by omega);have HAy:=Lib.hid (HAc.out.congr (Z':=fun q=>sumN (fun i=>Fj i (1+q)) (t+1)) (fun q hq=>by rw[if_pos hq]));rw[show ((7:Nat):Int)=7 from rfl];clear HAc;go_wp2;go_roundw
          case rel=>exact⟨_,rfl,t+1,by omega,by go_num,HAy⟩
          case measure=>simp[intOf];omega
       ·obtain rfl:n=t:=(by omega);have hti:¬(n:Int)<(n:Int):=(by omega);have hwh:=hTj.out.whole hFw.out (fun q hq ht=>⟨(hVFh.out.in_ q 6).1,base_nowhere ws ht (by rw[hlh.out];exact hq)⟩);obtain⟨S,hS_⟩:∃S:Nat→Int,S=fun q=>sumN (fun i=>Fj i (1+q)) n:=⟨_,rfl⟩;have hSb:∀q,q<7→0≤S q∧S q≤10000000:=fun q hq=>by
         have h:=sumN_bd (f:=fun i=>Fj i (1+q)) n (fun i hi=>hjb.out i hi q hq);rw[hS_];show 0≤sumN _ _∧sumN _ _≤_;omega
        have hwS:S 1=S 2+S 3+S 4+S 5:=(by rw[hS_];exact hwh);have HAS:=Lib.hid (show AX w5 A6 A7 n c6 c7 tb lb T ab S wb by rw[hS_];exact HAb.out);have y1:=HAS.out.cell (k:=1) (by omega);have y2:=HAS.out.cell (k:=2) (by omega);have y3:=HAS.out.cell (k:=3) (by omega);have y4:=HAS.out.cell (k:=4) (by omega);have y5:=HAS.out.cell (k:=5) (by omega);have b1:=hSb 1 (by omega);have b2:=hSb 2 (by omega);have b3:=hSb 3 (by omega);have b4:=hSb 4 (by omega);have b5:=hSb 5 (by omega);obtain⟨s1,hs1⟩:∃x,x=S 1:=⟨_,rfl⟩;obtain⟨s2,hs2⟩:∃x,x=S 2:=⟨_,rfl⟩;obtain⟨s3,hs3⟩:∃x,x=S 3:=⟨_,rfl⟩;obtain⟨s4,hs4⟩:∃x,x=S 4:=⟨_,rfl⟩;obtain⟨s5,hs5⟩:∃x,x=S 5:=⟨_,rfl⟩;rw[←hs1] at y1 b1 hwS;rw[←hs2] at y2 b2 hwS;rw[←hs3] at y3 b3 hwS;rw[←hs4] at y4 b4 hwS;rw[←hs5] at y5 b5 hwS;have w1:IntKind.i64.wrap (s2+s3)=s2+s3:=IntWalk.i64_in _ (by omega);have w2:IntKind.i64.wrap (s2+s3+s4)=s2+s3+s4:=IntWalk.i64_in _ (by omega);have w3:IntKind.i64.wrap (s2+s3+s4+s5)=s2+s3+s4+s5:=IntWalk.i64_in _ (by omega);have d1:(s1==s2+s3+s4+s5)=true:=(by simpa using hwS);have hw4:IntKind.i64.wrap ((j:Int)+1)=(j:Int)+1:=IntWalk.i64_in _ (by omega);have HWb:=Lib.hid HAb.out.toWX;clear hwh hS_ hSb hwS HAS b1 b2 b3 b4 b5 hs1 hs2 hs3 hs4 hs5 HAb;go_wp2;go_roundw
        case rel=>exact⟨_,rfl,j+1,by omega,by go_num,HWb⟩
        case measure=>simp[intOf];omega
     ·obtain rfl:j=2:=(by omega);rw[show ((2:Nat):Int)=2 from rfl];clear hTwo;have hTq:=Lib.hid (fun q (h1:1≤q) (h5:q≤5)=>(by
       obtain⟨f1,f2,f3⟩:=hAf.out q h1 h5;have f3:=f3 F hTh.out;have e:T q=allS ps ws q:=(by rw[hTo.out];unfold toldF;rw[if_pos ⟨h1,by omega⟩]);rw[e]
       exact⟨f1,f3.1,f3.2,f2⟩:0≤(T q).1∧(T q).1≤sumN (fun i=>F i (1+q)) n∧sumN (fun i=>F i (1+q)) n≤(T q).2∧(T q).2≤10000000))
      (go_wp2_with fail);go_loopw [21,22,23] (fun v u s wr=>∃wl,wl=wr∧∃k:Nat,2≤k∧k≤6∧v = .int .i64 (sumN (fun q=>(T (q+2)).1) (k - 2))∧u = .int .i64 (sumN (fun q=>(T (q+2)).2) (k - 2))∧s = .int .i64 k∧Hid (WX w5 A6 A7 n c6 c7 tb lb T wl)) (fun _ _ s _=>6 - (intOf s).toNat)
      case atStart=>exact⟨_,rfl,2,by omega,by omega,rfl,rfl,rfl,HWa⟩
      case round=>
       clear HWa;obtain⟨wb,rfl,k,hk2,hk6,rfl,rfl,rfl,HWb⟩:=hrel;obtain⟨lo,hlo_⟩:∃x,x=sumN (fun q=>(T (q+2)).1) (k - 2):=⟨_,rfl⟩;obtain⟨hi,hhi_⟩:∃x,x=sumN (fun q=>(T (q+2)).2) (k - 2):=⟨_,rfl⟩;rw[←hlo_,←hhi_];by_cases hk:k≤5
       ·have hki:(k:Int)≤5:=(by omega);have hk0:(0:Int)≤(k:Int):=(by omega);have hk77:(k:Int)<6:=(by omega);obtain⟨y0,y1⟩:=HWb.out.cell (k:=k) (by omega);have hb2:∀m,m≤4→0≤sumN (fun q=>(T (q+2)).1) m∧sumN (fun q=>(T (q+2)).1) m≤10000000*(m:Int)∧0≤sumN (fun q=>(T (q+2)).2) m∧sumN (fun q=>(T (q+2)).2) m≤10000000*(m:Int):=by
         intro m
         induction m with
         |zero=>intro _;simp[sumN]
         |succ m ih=>intro hm;have a:=ih (by omega);have b:=hTq.out (m+2) (by omega) (by omega);unfold sumN;omega
        have hb3:=hb2 (k - 2) (by omega);have hb4:=hTq.out k (by omega) hk;rw[←hlo_,←hhi_] at hb3;obtain⟨a0,ha0⟩:∃x,x=(T k).1:=⟨_,rfl⟩;obtain⟨a1,ha1⟩:∃x,x=(T k).2:=⟨_,rfl⟩;rw[←ha0] at y0 hb4;rw[←ha1] at y1 hb4;have w1:IntKind.i64.wrap (lo+a0)=lo+a0:=IntWalk.i64_in _ (by omega);have w2:IntKind.i64.wrap (hi+a1)=hi+a1:=IntWalk.i64_in _ (by omega);have hw3:IntKind.i64.wrap ((k:Int)+1)=(k:Int)+1:=IntWalk.i64_in _ (by omega);have n1_:Hid (lo+a0=sumN (fun q=>(T (q+2)).1) (k+1 - 2)):=by
         show _=_;rw[show k+1 - 2=(k - 2)+1 by omega,hlo_,ha0];show _=sumN _ (k - 2)+(T (k - 2+2)).1;rw[show k - 2+2=k by omega]
        have n2_:Hid (hi+a1=sumN (fun q=>(T (q+2)).2) (k+1 - 2)):=by
         show _=_;rw[show k+1 - 2=(k - 2)+1 by omega,hhi_,ha1];show _=sumN _ (k - 2)+(T (k - 2+2)).2;rw[show k - 2+2=k by omega]
        clear hb2 hb3 hb4 ha0 ha1 hlo_ hhi_;(go_wp2_with fail);(go_quiet (fail));rename_i nq;have HWd:=Lib.hid (HWb.out.under (below_drewN (Below.refl wb.heap.size wb) nq));clear HWb y0 y1 w1 w2;generalize wb.drewN nq=wd at *;go_wp2;go_roundw
        case rel=>exact⟨_,rfl,k+1,by omega,by omega,by rw[n1_.out],by rw[n2_.out],by go_num,HWd⟩
        case measure=>simp[intOf];omega
       ·obtain rfl:k=6:=(by omega);have hwh:=hTh.out.whole hFw.out (fun q hq ht=>⟨(hVFh.out.in_ q 6).1,base_nowhere ws ht (by rw[hlh.out];exact hq)⟩);have t1:=hTq.out 1 (by omega) (by omega);have t2:=hTq.out 2 (by omega) (by omega);have t3:=hTq.out 3 (by omega) (by omega);have t4:=hTq.out 4 (by omega) (by omega);have t5:=hTq.out 5 (by omega) (by omega);simp only[Nat.reduceAdd] at t1 t2 t3 t4 t5;have el:lo=0+(T 2).1+(T 3).1+(T 4).1+(T 5).1:=hlo_;have eh:hi=0+(T 2).2+(T 3).2+(T 4).2+(T 5).2:=hhi_;obtain⟨y0,y1⟩:=HWb.out.cell (k:=1) (by omega);have y0:wb.cell? ⟨tb,2,none⟩=some (.int .i64 (T 1).1):=y0;have y1:wb.cell? ⟨tb,3,none⟩=some (.int .i64 (T 1).2):=y1;have d1:decide (lo≤(T 1).2)=true:=(by simp;omega);have d2:decide (hi≥(T 1).1)=true:=(by simp;omega);clear hwh t1 t2 t3 t4 t5 el eh hlo_ hhi_;rw[show ((6:Nat):Int)=6 from rfl];go_wp2;go_ret;exact⟨rfl,below_via (HT5.out.bel) HT5.out.bel.size HWb.out.bel⟩
end Go.Proofs.YtfplipbkjglmhaaDoor

namespace Go.Proofs.YtfplipbkjglmhaaDoor.pressWhole
open Go.ChangeShapes Go.WideShapes Go.ChangeAt Go.RowKit Go.Joins
set_option linter.unusedVariables false
theorem laidOut:laidOutB Tryd.prog=true:=by kernel_rfl
/-- A list of choices is opened. -/
def u32c (x:{ x:Nat // x≤4294967295 }):List Value:=[.int .u32 (x.1:Int)]
theorem cU32:Tryd.prog.cellsOf 79=1:=by kernel_rfl
section
variable {H:Type} {enc:TypeId×Value→H} {w:World} {base:Nat} {spare:Nat→Bool} {held:Bool}
theorem dec_u32(n:Nat)(cs:List Value)(y:DataW H×List MemPlace)(hl:cs.length=1)(h:DataW.trod enc Tryd.prog w base spare held n 79 cs=some y):∃x:{ x:Nat // x≤4294967295 },cs=u32c x:=by
 match cs,hl with
 |[v0],_=>
  obtain⟨z,e,_,hw⟩:=DataW.trod_int Tryd.underlying79 h;simp only[List.cons.injEq,and_true] at e;simp only[Lit.wf,Bool.and_eq_true,decide_eq_true_eq,show IntKind.u32.min=0 by decide,show IntKind.u32.max=4294967295 by decide] at hw;refine⟨⟨z.toNat,by omega⟩,?_⟩;rw[e];unfold u32c;rw[show ((z.toNat:Nat):Int)=z by omega]
end
theorem u32_reads{w:World}{B n:Nat}{A:Option Addr}{l:List { x:Nat // x≤4294967295 }}(h:Reads w B 1 A n (l.flatMap u32c)):Reads w B 1 A n (usV (l.map (·.1)))∧∀x∈l.map (·.1),x≤4294967295:=by
 have e:l.flatMap u32c=usV (l.map (·.1)):=by
  unfold usV;clear h
  induction l with
  |nil=>rfl
  |cons y r ih=>rw[List.flatMap_cons,ih];rfl
 rw[←e];exact⟨h,fun x hx=>by obtain⟨y,-,rfl⟩:=List.mem_map.1 hx;exact y.2⟩
set_option maxRecDepth 100000 in
theorem lifted(os:Os)(started:os.Started)(H:Type)(enc:TypeId×Value→H) :
  ReturnsInHanded {} Tryd.checked os 3 .any (fun w args=>(Rows.pressWholeSpec.pre enc Tryd.prog Tryd.f3 [] false w args∧laidMetH Tryd.prog laidList w)∧sizedMet enc Tryd.prog Tryd.f3 (OpenSpec.ofChange Rows.pressWholeSpec) false w args)
   (Rows.pressWholeSpec.post enc Tryd.prog Tryd.f3 false true false false):=by
 refine returnsInHanded_of_change_and (C:=Tryd.checked) (X:=fun w _=>laidMetH Tryd.prog laidList w) (fun _ _ _ hh h=>h.of_heap hh) own started (by kernel_rfl) Tryd.func3
  (ChangeSpec.witness_shaped (enc:=enc) (C:=Tryd.checked) (os:=os) (X:=fun w _=>laidMetH Tryd.prog laidList w) false (World.doorLaid Tryd.prog 25 os) #[.agg #[.slice none 0 0,.slice none 0 0],.slice none 0 0] 8 rfl (World.shaped_of_RefB (by kernel_rfl) (by kernel_rfl)) (by kernel_rfl) (by kernel_rfl) (by kernel_rfl) (door_met os _)) ?_
 intro W base args ds gs before hval0 hW _ _ hL _;have hval:∀(j:Nat) t v,Tryd.f3.params[j]? = some t→args[j]? = some v→Value.okWide Tryd.prog W .any base t v:=hval0;have hW':=hW;have hblk:∀x∈before,x.block<W.heap.size:=fun x hx=>hW.lt x hx;obtain⟨p,q,hA0,hV,rfl,hfz,hnd⟩:=hW;have hA:DataW.TrodAll enc Tryd.prog W 0 (fun _=>true) true Tryd.f3.params.toList args.toList ds p:=hA0;have hA':=hA;have hP:=Tryd.params3;rw[Tryd.params3] at hA hval hA';obtain⟨v0,vs0,d0,ds0,p0,q0,hargs,rfl,rfl,h0,r0⟩:=trodAll_cons hA;obtain⟨v1,vs1,d1,ds1,p1,q1,rfl,rfl,rfl,h1,r1⟩:=trodAll_cons r0;obtain⟨rfl,rfl,rfl⟩:=trodAll_nil r1;obtain rfl:args = #[v0,v1]:=by cases args;simp_all
 obtain⟨rfl,rfl⟩:=trodVars_none hV;simp only[List.append_nil] at hW' hblk;obtain⟨c00,c01,y00,y01,m0,rfl,-,-,g00,g01⟩:=open_agg2 Tryd.underlying25 (by kernel_rfl) (by kernel_rfl) (hval 0 25 v0 rfl rfl) h0;obtain⟨A,n,c,ps,rfl,hnc,hcm0,-,hRp⟩:=open_recs (f:=pgc) (fun _=>rfl) (by omega) Tryd.underlying22 cPg (fun k cs y hl h=>dec_pg k cs y hl h) g00;obtain⟨A',n',c',ws,rfl,hnc',hcm',hnil,hRw⟩:=open_recs (f:=wgc) (fun _=>rfl) (by omega) Tryd.underlying23 cWg (fun k cs y hl h=>dec_wg k cs y hl h) g01;obtain⟨f1,hf1⟩:=h1;obtain⟨a1_,n1_,c1_,rfl⟩:=okWide_slice Tryd.underlying26 (hval 1 26 v1 rfl rfl);obtain⟨A1,n1,c1,l1,e1,hnc1,hcm1,-,hR1⟩:=open_recs (m:=1) (f:=u32c) (fun _=>rfl) (by omega) Tryd.underlying26 cU32 (fun k cs y hl h=>dec_u32 k cs y hl h) (by simpa [Value.cells] using hf1);rw[e1] at hA' hW' ⊢;obtain⟨hRu1,hub1⟩:=u32_reads hR1;clear hA0 hval0;refine(law_whole A A' n c n' c' ps ws A1 n1 c1 (l1.map (·.1)) W (by omega) hub1 (by omega) (by omega) hRp hRw hRu1 (laid_of hL)).mono fun e W' ⟨he,hb⟩=>?_;subst he;refine⟨_,rfl,post_below (ds:=[_,_]) (gs:=[]) (pa:=p0++(p1++([]))) (pv:=[]) (by simpa using hW') (fun _ _ _=>(trodAll_cons_mk (shut_bool Tryd.underlying4 _) trodAll_mk0)) (fun sp hsp=>?_) (fun _ _=>rfl) (by simp) hb (ok_one (by kernel_rfl) rfl (okWide_bool_mk Tryd.underlying4 _))⟩;rw[hP];refine trodAll_stays laidOut ?_ hA' (fun x hx=>hb.same (hblk x (by simpa using hx))) (fun x hx=>hsp x (by simpa using hx))
 intro t ht;have hall:([25,26].all fun u=>Tryd.prog.readableRec u && decide (u<Tryd.prog.types.size))=true:=by kernel_rfl
 have:=List.all_eq_true.1 hall t (by simpa using ht);simpa using this
theorem over:Rows.PressWholeSaid:=
 OpenClaim.holds_of_wide 3 Tryd.f3 rfl rfl rfl rfl rfl rfl rfl ⟨rfl,rfl,rfl,rfl,rfl⟩ rfl rfl rfl rfl rfl (by kernel_rfl) Tryd.func3 (by kernel_rfl)
  (of_decide_eq_true (by kernel_rfl)) (by unfold Func.isWrapper;first|(rw[if_pos (by decide +kernel)];kernel_rfl)|(rw[if_neg (by decide +kernel)];exact⟨rfl,rfl⟩))
  (fun os started H enc _=>lifted os started H enc)
/-- The tied card. -/
theorem proved:Rows.PressWholeCardSaid:=
 Claim7.holds_tied_plain_at .later [] [.funcs] true (true, "3cbcdd9f0d995b805788fb1a66c61468378cabb8fb1e0a1aebf8d521baf47642") false
  over (fun _ h=>by cases h) (by kernel_rfl) (fun _ h=>by cases h) pressWhole_row_tie rfl ⟨rfl,rfl⟩ (by kernel_rfl) rfl
  (fun f fn hf hfn=>by
   obtain rfl:f=3:=Option.some.inj ((show Tryd.prog.funcNamed "oilcake/oilcakelaw02.PressWhole" = some 3 by kernel_rfl).symm.trans hf) |>.symm
   obtain rfl:fn=Tryd.f3:=(Option.some.inj (Tryd.func3.symm.trans hfn)).symm;exact⟨by kernel_rfl,fun j t ht=>by
    rw[Tryd.params3] at ht;have hm:t∈[25,26]:=(by simpa using Array.mem_of_getElem? ht);have hall:([25,26].all fun u=>!Tryd.prog.wantsStandIn u)=true:=by kernel_rfl
    exact(show Tryd.prog.wantsStandIn t=false by simpa using List.all_eq_true.1 hall t hm)⟩)
  (by kernel_rfl)
#print axioms proved
end Go.Proofs.YtfplipbkjglmhaaDoor.pressWhole
