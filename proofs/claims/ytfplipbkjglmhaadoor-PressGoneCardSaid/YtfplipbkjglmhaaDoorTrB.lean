/-
 What given answers if nothing is missing is a truth, just if there is one; the first truth is one.
-/
import Derived.Test.YtfplipbkjglmhaaDoorGiv
import Derived.Test.YtfplipbkjglmhaaDoorYld
import Derived.Test.YtfplipbkjglmhaaDoorSumB
import Derived.Test.YtfplipbkjglmhaaDoorSmW
import Derived.Test.YtfplipbkjglmhaaDoorPv
import Derived.Test.YtfplipbkjglmhaaDoorPAll
import Derived.Test.YtfplipbkjglmhaaDoorRAsk
import Derived.Test.YtfplipbkjglmhaaDoorRdy
import Derived.Test.YtfplipbkjglmhaaDoorFal
namespace Go.Proofs.YtfplipbkjglmhaaDoor
set_option linter.unusedVariables false
set_option linter.unusedSimpArgs false
/-- Weights that are a truth. -/
structure TruF (t:Nat→Option Nat) (R:Nat→Nat→Sp) (n:Nat) (F:WF):Prop where
 in_:∀i,i<n→∀k,1≤k→k≤6→(R i k).1≤F i (1+k)∧F i (1+k)≤(R i k).2
 bal:∀i,i<n→inW t F i i+F i 2 - F i 3 - F i 4 - F i 5 - F i 6=F i 7
section
variable {t:Nat→Option Nat} {R:Nat→Nat→Sp} {n:Nat} {F:WF}
theorem OI.tru{ids:Nat→Int}(h:OI t R (upP t R) ids (fun _=>0) n F 0):TruF t R n F:=by
 refine⟨fun i hi k k1 k6=>?_,fun i hi=>?_⟩
 ·obtain⟨-,-,c,d,-⟩:=h.done i (Nat.zero_le _) hi;by_cases e:k=6
  ·subst e;have u:(R i 6).1≤(upP t R i).1∧(upP t R i).2≤(R i 6).2:=(by rw[upP_eq];unfold recS both;simp only;omega);have e7:F i (1+6)=F i 7:=rfl;omega
  ·exact c k k1 (by omega)
 ·obtain⟨-,-,-,-,f⟩:=h.done i (Nat.zero_le _) hi;omega
theorem in_feed{U:Nat→Sp}(i:Nat):∀m,(∀j,j<m→t j=some i→(U j).1≤F j 7∧F j 7≤(U j).2)→(feed t U i m).1≤inW t F i m∧inW t F i m≤(feed t U i m).2
 |0,_=>by simp[feed,inW]
 |m+1,h=>by
  have ih:=in_feed i m (fun j hj=>h j (by omega));unfold feed inW;by_cases ht:t m=some i
  ·have:=h m (by omega) ht;rw[if_pos ht,if_pos ht];unfold plus;simp only;omega
  ·rw[if_neg ht,if_neg ht];exact ih
theorem TruF.rest(h:TruF t R n F){i:Nat}(hi:i<n):(restS R i).1≤F i 3+F i 4+F i 5+F i 6∧F i 3+F i 4+F i 5+F i 6≤(restS R i).2:=by
 have h2:=h.in_ i hi 2 (by omega) (by omega);have h3:=h.in_ i hi 3 (by omega) (by omega);have h4:=h.in_ i hi 4 (by omega) (by omega);have h5:=h.in_ i hi 5 (by omega) (by omega);simp only[Nat.reduceAdd] at h2 h3 h4 h5;unfold restS plus;simp only;omega
theorem TruF.up(h:TruF t R n F):∀i,i<n→(upP t R i).1≤F i 7∧F i 7≤(upP t R i).2:=by
 intro i
 induction i using Nat.strongRecOn with
 |_ i ih=>
  intro hi;have hf:=in_feed (F:=F) (t:=t) (U:=upP t R) i i (fun j hj _=>ih j hj (by omega));have hr:=h.rest hi;have h1:=h.in_ i hi 1 (by omega) (by omega);have h6:=h.in_ i hi 6 (by omega) (by omega);have hb:=h.bal i hi;simp only[Nat.reduceAdd] at h1 h6;rw[upP_eq];unfold recS both minus plus;simp only;omega
theorem TruF.holds(h:TruF t R n F):Holds n R (upP t R):=fun i hi=>⟨fun k k1 k6=>by have:=h.in_ i hi k k1 k6;unfold Ne;omega,by have:=h.up i hi;unfold Ne;omega⟩
theorem TruF.wth(h:TruF t R n F){i k:Nat}{lo hi':Int}(h1:lo≤F i (1+k))(h2:F i (1+k)≤hi'):TruF t (wth R i k lo hi') n F:=by
 refine⟨fun a ha b b1 b6=>?_,h.bal⟩;have:=h.in_ a ha b b1 b6;unfold Go.Proofs.YtfplipbkjglmhaaDoor.wth;split
 ·rename_i e;obtain⟨rfl,rfl⟩:=e;simp only;omega
 ·exact this
/-- Each weight lies within what is told. -/
theorem TruF.span(h:TruF t R n F)(hF:Fwd n t){most:Int}(hI:InR n R most){i k:Nat}(hi:i<n)(h1:1≤k)(h6:k≤6):(spanP t R n i k).1≤F i (1+k)∧F i (1+k)≤(spanP t R n i k).2:=by
 have hw:=h.in_ i hi k h1 h6;have h0:=hI i hi k;refine⟨(span_lo hF h.holds hI hi h1 h6 _).1 (h.wth (by omega) (Int.le_refl _)).holds,(span_hi hF h.holds hI hi h1 h6 _).1 (h.wth (Int.le_refl _) (by omega)).holds⟩
theorem TruF.down(h:TruF t R n F)(hF:Fwd n t){most:Int}(hI:InR n R most){i:Nat}(hi:i<n):(downP t R n i).1≤F i 7∧F i 7≤(downP t R n i).2:=by
 have:=h.span hF hI hi (k:=6) (by omega) (by omega);unfold spanP at this;rw[if_pos rfl] at this;unfold both at this;simp only[Nat.reduceAdd] at this;omega
theorem TruF.into(h:TruF t R n F){i:Nat}(hi:i<n):(intoP t R i).1≤inW t F i i+F i 2∧inW t F i i+F i 2≤(intoP t R i).2:=by
 have hf:=in_feed (F:=F) (t:=t) (U:=upP t R) i i (fun j hj _=>h.up j (by omega));have h1:=h.in_ i hi 1 (by omega) (by omega);simp only[Nat.reduceAdd] at h1;unfold intoP plus;simp only;omega
/-- So does what goes in. -/
theorem TruF.inside(h:TruF t R n F)(hF:Fwd n t){most:Int}(hI:InR n R most){i:Nat}(hi:i<n):(insideP t R n i).1≤inW t F i i+F i 2∧inW t F i i+F i 2≤(insideP t R n i).2:=by
 have h1:=h.down hF hI hi;have h2:=h.into hi;have h3:=h.rest hi;have h4:=h.bal i hi;unfold insideP both plus;simp only;omega
/-- So does all that goes in but the oil. -/
theorem TruF.others(h:TruF t R n F)(hF:Fwd n t){most:Int}(hI:InR n R most){i:Nat}(hi:i<n):(othersP t R n i).1≤inW t F i i+F i 2 - F i 3∧inW t F i i+F i 2 - F i 3≤(othersP t R n i).2:=by
 have h1:=h.down hF hI hi;have h2:=h.into hi;have h4:=h.bal i hi;have g2:=h.in_ i hi 2 (by omega) (by omega);have g3:=h.in_ i hi 3 (by omega) (by omega);have g4:=h.in_ i hi 4 (by omega) (by omega);have g5:=h.in_ i hi 5 (by omega) (by omega);simp only[Nat.reduceAdd] at g2 g3 g4 g5;unfold othersP both minus minus1 restS plus;simp only;omega
theorem TruF.lay(h:TruF t R n F){i k:Nat}(he:(spanP t R n i k).1=F i (1+k)):TruF t (lay n t R i k) n F:=by
 refine⟨fun a ha b b1 b6=>?_,h.bal⟩;have:=h.in_ a ha b b1 b6;unfold Go.Proofs.YtfplipbkjglmhaaDoor.lay;split
 ·rename_i e;obtain⟨rfl,rfl⟩:=e;simp only;omega
 ·exact this
theorem TruF.layK(h:TruF t R n F){i:Nat}:∀k,k≤6→(∀b,b<k→(spanP t (layK n t R i b) n i (b+1)).1=F i (2+b))→TruF t (layK n t R i k) n F
 |0,_,_=>h
 |k+1,hk,ha=>(h.layK k (by omega) fun b hb=>ha b (by omega)).lay (by rw[ha k (by omega)];congr 1;omega)
theorem TruF.layI(h:TruF t R n F):∀i,i≤n→(∀a b,a<i→b<6→valF n t R a b=F a (2+b))→TruF t (layI n t R i) n F
 |0,_,_=>h
 |i+1,hi,ha=>(h.layI i (by omega) fun a b hx hb=>ha a b (by omega) hb).layK 6 (by omega) fun b hb=>ha i b (by omega) hb
/-- The first truth is not behind another one. -/
theorem TruF.first(h:TruF t R n F)(hF:Fwd n t)(hS:FSt n t R){i k:Nat}(hi:i<n)(hk:k<6)(ha:∀a b,b<6→(a<i∨a=i∧b<k)→valF n t R a b=F a (2+b)):valF n t R i k≤F i (2+k):=by
 have h1:=(h.layI i (by omega) fun a b hx hb=>ha a b hb (.inl hx)).layK (i:=i) k (by omega) fun b hb=>ha i b (by omega) (.inr ⟨rfl,hb⟩);have h2:=((hS.layI hF i (by omega)).layK hF hi k (by omega));have h3:=h1.span hF (most:=1000000) (fun a _ b=>by have:=h2.hI a b;omega) hi (k:=k+1) (by omega) (by omega);rw[show 1+(k+1)=2+k by omega] at h3;exact h3.1
end
/-- A sum over the places below one. -/
def sumN (f:Nat→Int):Nat→Int
 |0=>0
 |k+1=>sumN f k+f k
theorem sumN_congr{f g:Nat→Int}:∀n,(∀j,j<n→f j=g j)→sumN f n=sumN g n
 |0,_=>rfl
 |n+1,h=>by unfold sumN;rw[sumN_congr n (fun j hj=>h j (by omega)),h n (by omega)]
theorem sumN_le{f g:Nat→Int}:∀n,(∀j,j<n→f j≤g j)→sumN f n≤sumN g n
 |0,_=>Int.le_refl _
 |n+1,h=>by have:=sumN_le n (fun j hj=>h j (by omega));have:=h n (by omega);unfold sumN;omega
theorem sumN_add(f g:Nat→Int):∀n,sumN (fun i=>f i+g i) n=sumN f n+sumN g n
 |0=>rfl
 |n+1=>by unfold sumN;rw[sumN_add f g n];omega
theorem sumN_mul(c:Int)(f:Nat→Int):∀n,sumN (fun i=>c*f i) n=c*sumN f n
 |0=>by simp[sumN]
 |n+1=>by unfold sumN;rw[sumN_mul c f n,Int.mul_add]
theorem sumN_zero:∀n,sumN (fun _=>0) n=0
 |0=>rfl
 |n+1=>by unfold sumN;rw[sumN_zero n];rfl
theorem sumN_one{c:Int}{q:Nat}:∀n,q<n→sumN (fun i=>if i=q then c else 0) n=c
 |0,h=>by omega
 |n+1,h=>by
  unfold sumN;by_cases e:q=n
  ·subst e;rw[if_pos rfl,sumN_congr (g:=fun _=>0) q (fun j hj=>by rw[if_neg (by omega)]),sumN_zero];omega
  ·rw[if_neg (by omega),sumN_one n (by omega)];omega
theorem cnt_ge{s:Sp}{x e:Int}(h1:s.1≤x)(h2:x≤s.2):x*e≤cnt s e:=by
 unfold cnt;rcases Int.le_total 0 e with h|h
 ·have:=Int.mul_le_mul_of_nonneg_right h2 h;omega
 ·have:=Int.mul_le_mul_of_nonpos_right h1 h;omega
section
variable {t:Nat→Option Nat} {R:Nat→Nat→Sp} {n:Nat} {F:WF} {kind:Nat}
theorem inW_far(hF:Fwd n t)(k:Nat):∀m,k≤m→m≤n→inW t F k m=inW t F k k
 |0,h,_=>by
  obtain rfl:k=0:=(by omega);rfl
 |m+1,h,hm=>by
  by_cases hk:k=m+1
  ·subst hk;rfl
  ·have ih:=inW_far hF k m (by omega) (by omega);rw[←ih]
   conv=>lhs;unfold inW
   rw[if_neg (fun h=>by have:=(hF m k (by omega) h).1;omega)]
theorem to_swap(hF:Fwd n t)(y:Nat→Int):∀m,m≤n→sumN (fun j=>yTo t y j*F j 7) m=sumN (fun i=>y i*inW t F i m) n
 |0,_=>by simp only[sumN,inW,Int.mul_zero];rw[sumN_zero]
 |m+1,hm=>by
  have ih:=to_swap hF y m (by omega);show sumN (fun j=>yTo t y j*F j 7) m+yTo t y m*F m 7=_;rw[ih];cases ht:t m with
  |none=>
   have e:yTo t y m=0:=(by unfold yTo;rw[ht]);rw[e,Int.zero_mul,Int.add_zero];refine sumN_congr n fun j _=>?_;show _=y j*(if t m=some j then inW t F j m+F m 7 else inW t F j m);rw[ht,if_neg (by simp)]
  |some q=>
   have hq:=(hF m q (by omega) ht).2;have e:yTo t y m=y q:=(by unfold yTo;rw[ht]);rw[e];have e2:sumN (fun i=>y i*inW t F i (m+1)) n=sumN (fun i=>y i*inW t F i m+(if i=q then y q*F m 7 else 0)) n:=by
    refine sumN_congr n fun j _=>?_;show y j*(if t m=some j then inW t F j m+F m 7 else inW t F j m)=_;rw[ht];by_cases hj:j=q
    ·subst hj;rw[if_pos rfl,if_pos rfl,Int.mul_add]
    ·rw[if_neg (by intro h;exact hj (Option.some.inj h).symm),if_neg hj];omega
   rw[e2,sumN_add,sumN_one n hq]
theorem row_ge{one:Int}{y:Nat→Int}(h:TruF t R n F){i:Nat}(hi:i<n)(h1:1≤kind)(h5:kind≤5) :
  y i*(F i 2 - F i 3 - F i 4 - F i 5 - F i 6 - F i 7)+yTo t y i*F i 7+one*F i (1+kind)≤rowS t R kind one y i 6:=by
 have g:∀k,1≤k→k≤6→F i (1+k)*eachP kind one (y i) (yTo t y i) k≤cnt (R i k) (eachP kind one (y i) (yTo t y i) k):=fun k k1 k6=>cnt_ge (h.in_ i hi k k1 k6).1 (h.in_ i hi k k1 k6).2;have g1:=g 1 (by omega) (by omega);have g2:=g 2 (by omega) (by omega);have g3:=g 3 (by omega) (by omega);have g4:=g 4 (by omega) (by omega);have g5:=g 5 (by omega) (by omega);have g6:=g 6 (by omega) (by omega);simp only[Nat.reduceAdd] at g1 g2 g3 g4 g5 g6;have e:rowS t R kind one y i 6=0+cnt (R i 1) (eachP kind one (y i) (yTo t y i) 1)+cnt (R i 2) (eachP kind one (y i) (yTo t y i) 2)+cnt (R i 3) (eachP kind one (y i) (yTo t y i) 3)+cnt (R i 4) (eachP kind one (y i) (yTo t y i) 4)+cnt (R i 5) (eachP kind one (y i) (yTo t y i) 5)+cnt (R i 6) (eachP kind one (y i) (yTo t y i) 6):=rfl;rw[e];refine Int.le_trans (Int.le_of_eq ?_) (Int.add_le_add (Int.add_le_add (Int.add_le_add (Int.add_le_add (Int.add_le_add (Int.add_le_add (Int.le_refl 0) g1) g2) g3) g4) g5) g6);unfold eachP;rcases (by omega:kind=1∨kind=2∨kind=3∨kind=4∨kind=5) with rfl|rfl|rfl|rfl|rfl<;>simp only[Nat.reduceAdd,Nat.reduceEqDiff,reduceIte]<;>simp only[Int.mul_add,Int.mul_sub,Int.mul_neg,Int.mul_zero,Int.add_zero,Int.mul_comm (F i _),Int.add_mul,Int.sub_mul,Int.neg_mul]<;>omega
theorem pri_rows{one:Int}{y:Nat→Int}:∀m,priS t R kind one y m=sumN (fun i=>rowS t R kind one y i 6) m
 |0=>rfl
 |m+1=>by unfold priS sumN;rw[pri_rows m]
/-- No truth has more of a kind than prices prove. -/
theorem TruF.pri(h:TruF t R n F)(hF:Fwd n t)(one:Int)(y:Nat→Int)(h1:1≤kind)(h5:kind≤5):one*sumN (fun i=>F i (1+kind)) n≤priS t R kind one y n:=by
 have e1:=to_swap (F:=F) hF y n (Nat.le_refl _);have e2:sumN (fun i=>y i*(F i 2 - F i 3 - F i 4 - F i 5 - F i 6 - F i 7)+yTo t y i*F i 7+one*F i (1+kind)) n=one*sumN (fun i=>F i (1+kind)) n:=by
  rw[sumN_add,sumN_add,e1,sumN_mul,←sumN_add];have:sumN (fun i=>y i*(F i 2 - F i 3 - F i 4 - F i 5 - F i 6 - F i 7)+y i*inW t F i n) n=sumN (fun _=>0) n:=by
   refine sumN_congr n fun i hi=>?_;rw[inW_far hF i n (by omega) (Nat.le_refl _),←Int.mul_add];have:=h.bal i hi;rw[show F i 2 - F i 3 - F i 4 - F i 5 - F i 6 - F i 7+inW t F i i=0 by omega,Int.mul_zero]
  rw[this,sumN_zero];omega
 rw[←e2,pri_rows];exact sumN_le n fun i hi=>row_ge h hi h1 h5
/-- All of a kind lies within what is told. -/
theorem TruF.all(h:TruF t R n F)(hF:Fwd n t)(h1:1≤kind)(h5:kind≤5):-(grt t R kind (-1) n)≤sumN (fun i=>F i (1+kind)) n∧sumN (fun i=>F i (1+kind)) n≤grt t R kind 1 n:=by
 obtain⟨y,-,hy⟩:=grt_at (kind:=kind) (sgn:=1) hF (.inl rfl) h5 h.holds;obtain⟨z,-,hz⟩:=grt_at (kind:=kind) (sgn:=-1) hF (.inr rfl) h5 h.holds;have a:=h.pri hF 1 y h1 h5;have b:=h.pri hF (-1) z h1 h5;omega
end
end Go.Proofs.YtfplipbkjglmhaaDoor

namespace Go.Proofs.YtfplipbkjglmhaaDoor
open Go.RowKit
set_option linter.unusedVariables false
set_option linter.unusedSimpArgs false
/-- Weights by place read as a list. -/
abbrev wdl (F:WF) (n:Nat):List (Nat→Int):=(List.range n).map F
theorem wdl_at{F:WF}{n i:Nat}(h:i<n):(wdl F n)[i]? = some (F i):=by unfold wdl;rw[List.getElem?_map,List.getElem?_range h];rfl
theorem Reads.wl{w:World}{B n k:Nat}{A:Option Addr}{F:WF}(h:Reads w B 8 A n (wds (wdl F n)))(hk:k<n):∃b o,A=some ⟨b,o,none⟩∧b<B∧∀j,j<8→w.cell? ⟨b,o+k*8+j,none⟩=some (.int .i64 (F k j)):=by
 obtain⟨b,o,f,e,hb,hx,hc⟩:=h.wd hk;rw[wdl_at hk] at hx;cases hx;exact⟨b,o,e,hb,hc⟩
theorem inW_bd{t:Nat→Option Nat}{F:WF}{n i:Nat}(hb:∀k,k<n→0≤F k 7∧F k 7≤1000000):∀m,m≤n→0≤inW t F i m∧inW t F i m≤1000000*(m:Int)
 |0,_=>by simp[inW]
 |m+1,h=>by
  have ih:=inW_bd (i:=i) (t:=t) hb m (by omega);have:=hb m (by omega);unfold inW;split<;>omega
set_option maxRecDepth 100000 in
set_option maxHeartbeats 4000000 in
theorem into_any(A A':Option Addr)(n c n' c':Nat)(ps:List PR)(ws:List WE)(Al:Option Addr)(cl:Nat)(F:WF)(i:Nat)(w:World)(hnm:n≤maxLen)(hv:validP ps ws=true)(hin:i<n)(hb:∀k,k<n→0≤F k 7∧F k 7≤1000000)(hb2:0≤F i 2∧F i 2≤1000000)
  (hR:Reads w w.heap.size 4 A n (pgs ps)) (hL:Reads w w.heap.size 8 Al n (wds (wdl F n))) :
  Calls Tryd.prog 29 #[.agg #[.slice A n c,.slice A' n' c'],.slice Al n cl,.int .i64 i] w fun e w'=>e = .returned (.int .i64 (inW (toT ps) F i i+F i 2))∧Below w.heap.size w w':=by
 have hl:ps.length=n:=hR.pg_len;have hVF_:=valid_facts hv;have hn10:n≤10:=by have:=hVF_.n10;omega
 have HB0:=Lib.hid ((Below.refl w.heap.size w).alloc (Nat.le_refl _) (.cells #[.slice A n c,.slice A' n' c'] 25));have HRd:=Lib.hid (fun z (hz:Below w.heap.size w z)=>(hR.below hz).more hz.size);have HLd:=Lib.hid (fun z (hz:Below w.heap.size w z)=>(hL.below hz).more hz.size);have hO0:=heap_alloc_new w (.cells #[.slice A n c,.slice A' n' c'] 25);have hlh:=Lib.hid hl;have hVF:=Lib.hid hVF_;have hbh:=Lib.hid hb;have hi0:(0:Int)≤(i:Int):=by omega
 have hi1:(i:Int)<(n:Int):=by omega
 obtain⟨wb,hwb_⟩:∃wb,wb=w.alloc (.cells #[.slice A n c,.slice A' n' c'] 25):=⟨_,rfl⟩;rw[←hwb_] at HB0 hO0;obtain⟨bq,oq,hAq,hbq,hcq⟩:=(HLd.out _ HB0.out).wl hin;obtain⟨f2,hf2_⟩:∃x,x=F i 2:=⟨_,rfl⟩;have y2:wb.cell? ⟨bq,oq+i*8+2,none⟩=some (.int .i64 f2):=by rw[hf2_];exact hcq 2 (by omega)
 rw[←hf2_] at hb2;have hf2:=Lib.hid hf2_;have HOp:=Lib.hid (fun z (hz:Below wb.heap.size wb z)=>keepO hz hO0);rw[hwb_] at y2;have hwb:=Lib.hid hwb_;have hbql:bq<w.heap.size+1:=by have:=hwb_ ▸ hbq;simpa using this
 subst hAq;clear hR hL hv hVF_ hl hb hwb_ hcq hf2_ hO0 hbq
 go_enter Tryd.func29,Tryd.ntmps29
 go_wp2_with fail
 rw[←hwb.out];clear hwb y2;have HB0b:=HB0;have HPb:Hid (Below wb.heap.size wb wb):=Lib.hid (Below.refl _ _);go_loopw [7,16] (fun v u wr=>∃wl,wl=wr∧∃k:Nat,k≤i∧v = .int .i64 (inW (toT ps) F i k+f2)∧u = .int .i64 k∧Hid (Below w.heap.size w wl)∧Hid (Below wb.heap.size wb wl)) (fun _ u _=>i - (intOf u).toNat)
 case atStart=>exact⟨_,rfl,0,Nat.zero_le _,by simp[inW],rfl,HB0b,HPb⟩
 case round=>
  clear HB0b HPb;obtain⟨wq,rfl,k,hk_,rfl,rfl,HBq,HPq⟩:=hrel;obtain⟨p0,p1,-,-⟩:=two_facts (HOp.out _ HPq.out);obtain⟨acc,hacc_⟩:∃x,x=inW (toT ps) F i k+f2:=⟨_,rfl⟩;have hacb:0≤acc∧acc≤11000000:=(by have:=inW_bd (t:=toT ps) (i:=i) hbh.out k (by omega);omega);rw[←hacc_];have hacc:=Lib.hid hacc_;clear hacc_;by_cases hki:k<i
  ·have hkii:(k:Int)<(i:Int):=(by omega);have hk0:(0:Int)≤(k:Int):=(by omega);have hk1:(k:Int)<(n:Int):=(by omega);obtain⟨bp,op,I,D,P,T,hAe,hbp,hx,y0,y1,y2,y3⟩:=(HRd.out _ HBq.out).pg (show k<n by omega);obtain⟨bp2,op2,I2,D2,P2,T2,hAe2,hbp2,hx2,x0,-,-,-⟩:=(HRd.out _ HBq.out).pg hin;rw[hAe] at hAe2;simp only[Option.some.injEq,Addr.mk.injEq,and_true] at hAe2;obtain⟨rfl,rfl⟩:=hAe2;have hto:=to_at hVF.out (show i<ps.length by rw[hlh.out];exact hin) hx;rw[show idQ ps i=I2 by unfold idQ;rw[hx2]] at hto;obtain⟨bu,ou,hAu,hbu,hcu⟩:=(HLd.out _ HBq.out).wl (show k<n by omega);cases hAu;obtain⟨f7,hf7_⟩:∃x,x=F k 7:=⟨_,rfl⟩;have u7:wq.cell? ⟨bq,oq+k*8+7,none⟩=some (.int .i64 f7):=(by rw[hf7_];exact hcu 7 (by omega));have hb7:=hbh.out k (by omega);rw[←hf7_] at hb7;have hf7:=Lib.hid hf7_;have hU7:=Lib.hid u7;subst hAe;clear hx hx2 hcu hf7_ u7;cases hc:decide (toT ps k=some i) with
   |false=>
    rw[hc] at hto;have hst:Hid (inW (toT ps) F i (k+1)=inW (toT ps) F i k):=(by show (if _ then _ else _)=_;rw[if_neg (by simpa using hc)]);clear hc;(go_wp2_with fail);(go_quiet (fail));rename_i nq;have HBd:=Lib.hid (below_drewN HBq.out nq);have HPd:=Lib.hid (below_drewN HPq.out nq);clear hto;go_wp2;go_roundw
    case rel=>exact⟨_,rfl,k+1,by omega,by rw[hst.out,←hacc.out],by go_num,HBd,HPd⟩
    case measure=>simp[intOf];omega
   |true=>
    rw[hc] at hto;have hst:Hid (inW (toT ps) F i (k+1)=inW (toT ps) F i k+F k 7):=(by show (if _ then _ else _)=_;rw[if_pos (by simpa using hc)]);have w1:IntKind.i64.wrap (acc+f7)=acc+f7:=IntWalk.i64_in _ (by omega);clear hc;(go_wp2_with fail);(go_quiet (fail));rename_i nq;have hbd:=below_drewN (Below.refl wq.heap.size wq) nq;have HBd:=Lib.hid (below_drewN HBq.out nq);have HPd:=Lib.hid (below_drewN HPq.out nq);have u7:(wq.drewN nq).cell? ⟨bq,oq+k*8+7,none⟩=some (.int .i64 f7):=(hbd.cell (by simp only;omega)).trans hU7.out;clear hbd hto y0 y1 y2 y3 x0 p0 p1;generalize wq.drewN nq=wd at *;go_wp2;go_roundw
    case rel=>exact⟨_,rfl,k+1,by omega,by rw[hst.out,←hf7.out,hacc.out];congr 1;omega,by go_num,HBd,HPd⟩
    case measure=>simp[intOf];omega
  ·obtain rfl:i=k:=(by omega);have hkii:¬(i:Int)<(i:Int):=(by omega);have hres:=Lib.hid (show acc=inW (toT ps) F i i+F i 2 by rw[hacc.out,hf2.out]);clear p0 p1 hacb;go_wp2;go_ret;exact⟨by rw[hres.out];rfl,HBq.out⟩
end Go.Proofs.YtfplipbkjglmhaaDoor

namespace Go.Proofs.YtfplipbkjglmhaaDoor
open Go.RowKit
set_option linter.unusedVariables false
set_option linter.unusedSimpArgs false
section
variable {t:Nat→Option Nat} {R:Nat→Nat→Sp} {n:Nat} {F:WF}
theorem gok_0:gok t R (fun _=>0) n↔Holds n R (upP t R):=by
 unfold gok Holds;refine⟨fun h i hi=>?_,fun h i hi=>?_⟩
 ·obtain⟨h1,h2⟩:=h i hi;rw[givU_up] at h1;refine⟨fun k k1 k6=>?_,h1⟩;by_cases e:k=6
  ·subst e;rw[upP_eq] at h1;unfold recS both Ne at h1;simp only at h1;unfold Ne;omega
  ·exact h2 k k1 (by omega)
 ·obtain⟨h1,h2⟩:=h i hi;rw[givU_up];exact⟨h2,fun k k1 k5=>h1 k k1 (by omega)⟩
theorem lack_nil(ids:Nat→Int):(fun i=>lackS [] (ids i))=fun _=>0:=rfl
theorem GivR.zero{ids:Nat→Int}{e:Ending}{w':World}(h:GivR t R ids (fun _=>0) n e w') :
  (¬Holds n R (upP t R)∧e = .returned (.tuple #[.slice none 0 0,.bool false]))∨(Holds n R (upP t R)∧∃A c F,e = .returned (.tuple #[.slice A n c,.bool true])∧Reads w' w'.heap.size 8 A n (wds (wdl F n))∧TruF t R n F∧∀i,i<n→F i 0=ids i∧F i 1=0):=by
 rcases h with ⟨h1,h2⟩|⟨h1,A,c,F,h2,h3,h4⟩
 ·exact .inl ⟨fun h=>h1 (gok_0.2 h),h2⟩
 ·have e:givU t R (fun _=>0)=upP t R:=funext (givU_up t R);rw[e] at h4;exact .inr ⟨gok_0.1 h1,A,c,F,h2,h3,h4.tru,fun i hi=>by have:=h4.done i (Nat.zero_le _) hi;exact⟨this.1,this.2.1⟩⟩
theorem atF_wdl{i:Nat}(h:i<n):atF (wdl F n) i=F i:=by unfold atF;rw[wdl_at h]
theorem inF2_wdl{i:Nat}:∀m,m≤n→inF2 t (wdl F n) i m=inW t F i m
 |0,_=>rfl
 |m+1,h=>by unfold inF2 inW;rw[inF2_wdl m (by omega),atF_wdl (by omega)]
/-- Rows that are just one weight each. -/
def ptR (F:WF):Nat→Nat→Sp:=fun i k=>(F i (1+k),F i (1+k))
theorem pt_bal(hH:Holds n (ptR F) (upP t (ptR F))):∀i,i<n→upP t (ptR F) i=(F i 7,F i 7)∧inW t F i i+F i 2 - F i 3 - F i 4 - F i 5 - F i 6=F i 7:=by
 intro i
 induction i using Nat.strongRecOn with
 |_ i ih=>
  intro hi;have hf:∀m,m≤i→feed t (upP t (ptR F)) i m=(inW t F i m,inW t F i m):=by
   intro m
   induction m with
   |zero=>intro _;rfl
   |succ m ihm=>
    intro hm;unfold feed inW;rw[ihm (by omega),(ih m (by omega) (by omega)).1];split<;>rfl
  have hu:=(hH i hi).2;rw[upP_eq] at hu ⊢;unfold recS at hu ⊢;rw[hf i (Nat.le_refl _)] at hu ⊢;unfold ptR restS both minus plus Ne at *;simp only[Nat.reduceAdd,Prod.mk.injEq] at *;omega
theorem lay_other{i k a b:Nat}(h:¬(a=i∧b=k)):lay n t R i k a b=R a b:=by unfold lay;rw[if_neg h]
theorem lay_self{i k:Nat}:lay n t R i k i k=((spanP t R n i k).1,(spanP t R n i k).1):=by unfold lay;rw[if_pos ⟨rfl,rfl⟩]
theorem layK_other{i a b:Nat}:∀k,(a≠i∨k<b∨b=0)→layK n t R i k a b=R a b
 |0,_=>rfl
 |k+1,h=>by
  show lay n t (layK n t R i k) i (k+1) a b=_;rw[lay_other (by omega),layK_other k (by omega)]
theorem layK_at{i b:Nat}:∀k,b<k→layK n t R i k i (b+1)=((spanP t (layK n t R i b) n i (b+1)).1,(spanP t (layK n t R i b) n i (b+1)).1)
 |0,h=>by omega
 |k+1,h=>by
  show lay n t (layK n t R i k) i (k+1) i (b+1)=_;by_cases e:b=k
  ·subst e;exact lay_self
  ·rw[lay_other (by omega),layK_at k (by omega)]
theorem layI_other{a b:Nat}:∀i,i≤a→layI n t R i a b=R a b
 |0,_=>rfl
 |i+1,h=>by
  show layK n t (layI n t R i) i 6 a b=_;rw[layK_other 6 (by omega),layI_other i (by omega)]
theorem layI_at{a b:Nat}(hb:b<6):∀i,a<i→layI n t R i a (b+1)=(valF n t R a b,valF n t R a b)
 |0,h=>by omega
 |i+1,h=>by
  show layK n t (layI n t R i) i 6 a (b+1)=_;by_cases e:a=i
  ·subst e;exact layK_at 6 hb
  ·rw[layK_other 6 (by omega),layI_at hb i (by omega)]
/-- The first truth is one. -/
theorem first_tru(hF:Fwd n t)(hS:FSt n t R)(hf:∀i,i<n→∀k,k<6→F i (2+k)=valF n t R i k):TruF t R n F:=by
 have hL:=(hS.layI hF n (Nat.le_refl _)).hH;have hpt:∀i,i<n→∀k,1≤k→k≤6→layI n t R n i k=ptR F i k:=fun i hi k k1 k6=>by
  obtain⟨b,rfl⟩:∃b,k=b+1:=⟨k - 1,by omega⟩;rw[layI_at (by omega) n hi];unfold ptR;rw[show 1+(b+1)=2+b by omega,hf i hi b (by omega)]
 have hup:∀i,i<n→upP t (layI n t R n) i=upP t (ptR F) i:=by
  intro i
  induction i using Nat.strongRecOn with
  |_ i ih=>
   intro hi;rw[upP_eq,upP_eq];unfold recS restS;rw[feed_congr i i (fun j hj _=>ih j hj (by omega)),hpt i hi 1 (by omega) (by omega),hpt i hi 2 (by omega) (by omega),hpt i hi 3 (by omega) (by omega),hpt i hi 4 (by omega) (by omega),hpt i hi 5 (by omega) (by omega),hpt i hi 6 (by omega) (by omega)]
 have hP:Holds n (ptR F) (upP t (ptR F)):=fun i hi=>⟨fun k k1 k6=>by rw[←hpt i hi k k1 k6];exact(hL i hi).1 k k1 k6,by rw[←hup i hi];exact(hL i hi).2⟩
 refine⟨fun i hi k k1 k6=>?_,fun i hi=>(pt_bal hP i hi).2⟩;obtain⟨b,rfl⟩:∃b,k=b+1:=⟨k - 1,by omega⟩;have hKs:=((hS.layI hF i (by omega)).layK hF hi b (by omega));have hs:(layK n t (layI n t R i) i b i (b+1)).1≤(spanP t (layK n t (layI n t R i) i b) n i (b+1)).1∧(spanP t (layK n t (layI n t R i) i b) n i (b+1)).2≤(layK n t (layI n t R i) i b i (b+1)).2:=span_sub;have hin:=span_in hF hKs.hH (most:=1000000) (fun a _ b=>by have:=hKs.hI a b;omega) hi (k:=b+1) (by omega) (by omega);rw[layK_other b (by omega),layI_other i (Nat.le_refl _)] at hs;rw[show 1+(b+1)=2+b by omega,hf i hi b (by omega)];unfold valF;omega
end
section
variable {ps:List PR} {ws:List WE} {n:Nat} {F:WF}
/-- Valid says so. -/
theorem val_wdl(hv:validP ps ws=true)(hl:ps.length=n)(hT:TruF (toT ps) (rowsT ps ws) n F)(h0:∀i,i<n→F i 0=idQ ps i∧F i 1=0):valB ps ws (wdl F n)=true:=by
 unfold valB;rw[hv,tru_yes,Bool.and_self];subst hl;refine⟨by simp[wdl],fun i hi=>⟨⟨?_,?_,fun k k1 k7=>?_⟩,?_⟩⟩
 ·rw[atF_wdl hi];exact(h0 i hi).1
 ·rw[atF_wdl hi];exact(h0 i hi).2
 ·unfold okF;rw[atF_wdl hi];exact hT.in_ i hi k k1 (by omega)
 ·unfold balF;have hb:=hT.bal i hi;have e:outF (wdl F ps.length) i 5=0+F i 3+F i 4+F i 5+F i 6+F i 7:=by
   simp only[outF,atF_wdl hi,Nat.reduceAdd]
  rw[atF_wdl hi,inF2_wdl i (by omega),e];omega
theorem check_ok0(hv:validP ps ws=true):checkS ps ws=0:=by unfold checkS;rw[if_pos hv]
theorem askE_t{id kind:Int}(hv:validP ps ws=true)(hi:0≤idxP ps id)(hk:1≤kind∧kind≤6):askE ps ws id kind=if hasT ps ws then 0 else 8:=by
 unfold askE;rw[if_pos hv,if_neg (by omega),if_pos (by simp[rng];omega)]
theorem inE_t(hVF:ValidF ps ws)(hv:validP ps ws=true)(hl:ps.length=n)(ht:hasT ps ws=true){i:Nat}(hi:i<n):inE ps ws (idQ ps i)=insideP (toT ps) (rowsT ps ws) n i∧askE ps ws (idQ ps i) 1=0:=by
 subst hl;have hx:=idx_idQ hVF hi;have he:askE ps ws (idQ ps i) 1=0:=by rw[askE_t hv (by omega) ⟨by omega,by omega⟩,ht];rfl
 refine⟨?_,he⟩;unfold inE;rw[if_pos he,hx];rfl
theorem spanE_t(hVF:ValidF ps ws)(hv:validP ps ws=true)(hl:ps.length=n)(ht:hasT ps ws=true){i k:Nat}(hi:i<n)(h1:1≤k)(h6:k≤6):spanE ps ws (idQ ps i) k=spanP (toT ps) (rowsT ps ws) n i k∧askE ps ws (idQ ps i) k=0:=by
 subst hl;have hx:=idx_idQ hVF hi;have he:askE ps ws (idQ ps i) k=0:=by rw[askE_t hv (by omega) ⟨by omega,by omega⟩,ht];rfl
 refine⟨?_,he⟩;unfold spanE;rw[if_pos he,hx];rfl
theorem allE_t{k:Int}(hv:validP ps ws=true)(ht:hasT ps ws=true)(hk:1≤k∧k≤5):allE ps ws k=0:=by
 unfold allE;rw[if_pos hv,if_pos (by simp[rng];omega),if_pos ht]
/-- The first truth by place. -/
def firF (ps:List PR) (ws:List WE) (n:Nat):WF:=fun i=>wF n (toT ps) (rowsT ps ws) (idO ps i) i 6
theorem firF_at{i k:Nat}(hk:k<6):firF ps ws n i (2+k)=valF n (toT ps) (rowsT ps ws) i k:=by
 unfold firF wF;rw[if_neg (by omega),if_pos (by omega),show 2+k - 2=k by omega]
theorem firF_0{i:Nat}:firF ps ws n i 0=idQ ps i∧firF ps ws n i 1=0:=⟨by unfold firF wF;rw[if_pos rfl];rfl,by unfold firF wF;rw[if_neg (by omega),if_neg (by omega)]⟩
theorem firS_wdl(hv:validP ps ws=true)(hl:ps.length=n)(ht:hasT ps ws=true):firS ps ws=wdl (firF ps ws n) n∧firE ps ws=0:=by
 subst hl;unfold firS firE;rw[if_pos hv,if_pos ht,if_pos hv,if_pos ht];exact⟨rfl,rfl⟩
theorem firS_no(hv:validP ps ws=true)(ht:hasT ps ws=false):firS ps ws = []∧firE ps ws=8:=by
 unfold firS firE;rw[if_pos hv,if_pos hv,ht];exact⟨rfl,rfl⟩
theorem fir_tru(hVF:ValidF ps ws)(hl:ps.length=n)(ht:hasT ps ws=true):TruF (toT ps) (rowsT ps ws) n (firF ps ws n):=by
 subst hl;exact first_tru hVF.fwd (FSt.start hVF (has_Holds hVF ht)) fun i hi k hk=>firF_at hk
/-- Parings that go nowhere are none. -/
theorem base_nowhere{i:Nat}:∀ws:List WE,toT ps i=none→i<ps.length→(rowsT ps ws i 6).2≤0:=by
 intro ws ht hi;unfold rowsT;have key:∀(ws:List WE) (R:Nat→Nat→Sp),(R i 6).2≤0→(ws.foldl (fun R x=>note1 ps x R) R i 6).2≤0:=by
  intro ws
  induction ws with
  |nil=>intro R h;exact h
  |cons x r ih=>
   intro R h;rw[List.foldl_cons];refine ih _ ?_;unfold note1;split
   ·unfold both;simp only;omega
   ·exact h
 refine key ws _ ?_;unfold base;have e:=List.getElem?_eq_getElem hi;unfold toT at ht;rw[e] at ht ⊢;simp only at ht ⊢;have h0:(ps[i]).2.2.2=0:=by
  by_cases h:(ps[i]).2.2.2=0
  ·exact h
  ·rw[if_neg h] at ht;cases ht
 rw[if_pos ⟨trivial,by simpa using h0⟩];exact Int.le_refl _
theorem hasT_iff(hVF:ValidF ps ws)(hl:ps.length=n):hasT ps ws=true↔Holds n (rowsT ps ws) (upP (toT ps) (rowsT ps ws)):=by
 subst hl;exact has_iff hVF
theorem sumN_bd{f:Nat→Int}:∀m,(∀j,j<m→0≤f j∧f j≤1000000)→0≤sumN f m∧sumN f m≤1000000*(m:Int)
 |0,_=>by simp[sumN]
 |m+1,h=>by have:=sumN_bd m (fun j hj=>h j (by omega));have:=h m (by omega);unfold sumN;omega
/-- What is told of all of a kind. -/
theorem allS_facts(hVF:ValidF ps ws)(hv:validP ps ws=true)(hl:ps.length=n)(ht:hasT ps ws=true){k:Nat}(h1:1≤k)(h5:k≤5) :
  0≤(allS ps ws k).1∧(allS ps ws k).2≤10000000∧∀F,TruF (toT ps) (rowsT ps ws) n F→(allS ps ws k).1≤sumN (fun i=>F i (1+k)) n∧sumN (fun i=>F i (1+k)) n≤(allS ps ws k).2:=by
 subst hl;have hn10:=hVF.n10;have he:=allE_t (k:=(k:Int)) hv ht ⟨by omega,by omega⟩;have hs:allS ps ws k=(-(grt (toT ps) (rowsT ps ws) k (-1) ps.length),grt (toT ps) (rowsT ps ws) k 1 ps.length):=by unfold allS;rw[if_pos he];rfl
 have hH:=has_Holds hVF ht;have hz:∀sg,Val ps.length sg (fun _=>0):=fun sg i _=>.inl rfl;have a:=grt_le (kind:=k) (sgn:=1) hVF.fwd (.inl rfl) h5 hH (hz _);have b:=grt_le (kind:=k) (sgn:=-1) hVF.fwd (.inr rfl) h5 hH (hz _);have hy:∀i,yTo (toT ps) (fun _=>0) i=0:=fun i=>by unfold yTo;split<;>rfl
 have row:∀(one:Int) (i:Nat),rowS (toT ps) (rowsT ps ws) k one (fun _=>0) i 6=cnt (rowsT ps ws i k) one:=by
  intro one i;have e:rowS (toT ps) (rowsT ps ws) k one (fun _=>0) i 6=0+cnt (rowsT ps ws i 1) (eachP k one 0 (yTo (toT ps) (fun _=>0) i) 1)+cnt (rowsT ps ws i 2) (eachP k one 0 (yTo (toT ps) (fun _=>0) i) 2)+cnt (rowsT ps ws i 3) (eachP k one 0 (yTo (toT ps) (fun _=>0) i) 3)+cnt (rowsT ps ws i 4) (eachP k one 0 (yTo (toT ps) (fun _=>0) i) 4)+cnt (rowsT ps ws i 5) (eachP k one 0 (yTo (toT ps) (fun _=>0) i) 5)+cnt (rowsT ps ws i 6) (eachP k one 0 (yTo (toT ps) (fun _=>0) i) 6):=rfl;rw[e,hy];have c0:∀s:Sp,cnt s 0=0:=fun s=>(by unfold cnt;simp);unfold eachP;rcases (by omega:k=1∨k=2∨k=3∨k=4∨k=5) with rfl|rfl|rfl|rfl|rfl<;>simp[c0]
 rw[pri_rows] at a b;have hA:sumN (fun i=>rowS (toT ps) (rowsT ps ws) k 1 (fun _=>0) i 6) ps.length≤sumN (fun _=>1000000) ps.length:=sumN_le _ fun i hi=>by
  rw[row];have:=hVF.in_ i k;unfold cnt;omega
 have hB:sumN (fun i=>rowS (toT ps) (rowsT ps ws) k (-1) (fun _=>0) i 6) ps.length≤sumN (fun _=>0) ps.length:=sumN_le _ fun i hi=>by
  rw[row];have:=hVF.in_ i k;unfold cnt;omega
 have hc:∀m,sumN (fun _=>1000000) m=1000000*(m:Int):=fun m=>by
  induction m with
  |zero=>rfl
  |succ m ih=>unfold sumN;rw[ih];omega
 rw[hc] at hA;rw[sumN_zero] at hB;rw[hs];refine⟨by simp only;omega,by simp only;omega,fun F hT=>hT.all hVF.fwd h1 h5⟩
end
/-- What stands behind the copy of the press, a truth, and the first one. -/
structure TX (w:World) (A A':Option Addr) (n c n' c':Nat) (ps:List PR) (ws:List WE) (A6 A7:Option Addr) (F G:WF) (z:World):Prop extends PX w A A' n c n' c' ps ws z where
 rF:Reads z z.heap.size 8 A6 n (wds (wdl F n))
 rG:Reads z z.heap.size 8 A7 n (wds (wdl G n))
theorem TX.under{w z y:World}{A A' A6 A7:Option Addr}{n c n' c':Nat}{ps:List PR}{ws:List WE}{F G:WF}(h:TX w A A' n c n' c' ps ws A6 A7 F G z)(hb:Below z.heap.size z y):TX w A A' n c n' c' ps ws A6 A7 F G y:=
 ⟨h.toPX.below hb,(h.rF.below hb).more hb.size,(h.rG.below hb).more hb.size⟩
end Go.Proofs.YtfplipbkjglmhaaDoor
