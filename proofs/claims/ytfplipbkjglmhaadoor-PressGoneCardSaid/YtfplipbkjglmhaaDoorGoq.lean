/-
 PressGone, the tied card: for every press and choices the law returns true, and its arguments read as before. The package's table of checks is laid as the program's text lays it (the given ties).
-/
import Derived.Test.YtfplipbkjglmhaaDoorTrB
import Derived.Test.YtfplipbkjglmhaaDoorGonD
import Derived.Test.YtfplipbkjglmhaaDoorRAsk
import Derived.Test.YtfplipbkjglmhaaDoorAliv
import Derived.Test.YtfplipbkjglmhaaDoorAsk
import Derived.Test.YtfplipbkjglmhaaDoorPGon
import Derived.Test.YtfplipbkjglmhaaDoorPLaid
import Derived.Test.YtfplipbkjglmhaaDoorCards
import Derived.Test.YtfplipbkjglmhaaDoorTie
import Derived.SevenTiedAt
namespace Go.Proofs.YtfplipbkjglmhaaDoor
open Go.RowKit
set_option linter.unusedVariables false
set_option linter.unusedSimpArgs false
theorem wS(k:Nat)(h:k≤99):IntKind.i64.wrap ((k:Int)+1)=(k:Int)+1:=IntWalk.i64_in _ (by omega)
def WidG (R' R:Nat→Nat→Sp):Prop:=∀i k,(R' i k).1≤(R i k).1∧(R i k).2≤(R' i k).2
theorem sumM_cgr{m m':Nat→Int}:∀n,(∀j,j<n→m j=m' j)→sumM m n=sumM m' n
 |0,_=>rfl
 |n+1,h=>by unfold sumM;rw[sumM_cgr n (fun j hj=>h j (by omega)),h n (by omega)]
theorem listM_lng(ids:Nat→Int)(m:Nat→Int):∀n,(listM ids m n).length≤n
 |0=>Nat.le_refl _
 |n+1=>by
  have:=listM_lng ids m n;unfold listM;split
  ·simp only[List.length_append,List.length_singleton];omega
  ·omega
theorem mis_bnd{c o:Sp}{B:Int}(hc:-B≤c.1∧c.1≤B∧-B≤c.2∧c.2≤B)(ho:0≤o.1∧o.2≤1000000∧o.1≤1000000∧0≤o.2):-(B+1000000)≤misP c o∧misP c o≤B+1000000:=by
 unfold misP;omega
theorem clB_yesG{R:Nat→Nat→Sp}{n i k:Nat}(hi:i<n)(h1:1≤k)(h6:k≤6)(h:(R i k).2<(R i k).1):clB R n=true:=by
 cases hc:clB R n with
 |true=>rfl
 |false=>have:=clB_no hc i hi k h1 h6;unfold Ne at this;omega
section
variable {t:Nat→Option Nat} {R' R:Nat→Nat→Sp} {n:Nat}
def goB (o:Option Nat) (m:Nat):Bool:=match o with|some k=>decide (m≤k)|none=>false
def offD (U' U:Sp):Int:=max 0 (max (U'.1 - U.1) (U.2 - U'.2))
def offP (t:Nat→Option Nat) (U' U:Nat→Sp) (m:Nat):Nat→Int
 |0=>0
 |j+1=>if goB (t j) m=true then offP t U' U m j+offD (U' j) (U j) else offP t U' U m j
theorem offD_0(a b:Sp):0≤offD a b:=by unfold offD;omega
theorem offP_0(U' U:Nat→Sp)(m:Nat):∀j,0≤offP t U' U m j
 |0=>Int.le_refl _
 |j+1=>by
  have:=offP_0 U' U m j;have:=offD_0 (U' j) (U j);unfold offP;split<;>omega
def offS (t:Nat→Option Nat) (U' U:Nat→Sp) (k:Nat):Nat→Int
 |0=>0
 |j+1=>if t j=some k then offS t U' U k j+offD (U' j) (U j) else offS t U' U k j
theorem offS_0(U' U:Nat→Sp)(m:Nat):∀j,0≤offS t U' U m j
 |0=>Int.le_refl _
 |j+1=>by
  have:=offS_0 U' U m j;have:=offD_0 (U' j) (U j);unfold offS;split<;>omega
theorem off_split(U' U:Nat→Sp)(m:Nat):∀j,offP t U' U m j=offP t U' U (m+1) j+offS t U' U m j
 |0=>rfl
 |j+1=>by
  have ih:=off_split U' U m j;unfold offP offS;cases ht:t j with
  |none=>simpa [goB] using ih
  |some k=>
   by_cases e:k=m
   ·subst e;rw[if_pos (show goB (some k) k=true by simp[goB]),if_neg (show ¬goB (some k) (k+1)=true by simp[goB]),if_pos rfl];omega
   ·rw[if_neg (show ¬some k=some m by simpa using e)];by_cases g:m≤k
    ·rw[if_pos (show goB (some k) m=true by simpa [goB] using g),if_pos (show goB (some k) (m+1)=true by simp[goB];omega)];omega
    ·rw[if_neg (show ¬goB (some k) m=true by simpa [goB] using g),if_neg (show ¬goB (some k) (m+1)=true by simp[goB];omega)];omega
theorem feed_off'(U' U:Nat→Sp)(k:Nat):∀m,(feed t U' k m).1 - (feed t U k m).1≤offS t U' U k m∧(feed t U k m).2 - (feed t U' k m).2≤offS t U' U k m
 |0=>by simp[feed,offS]
 |m+1=>by
  obtain⟨h1,h2⟩:=feed_off' U' U k m;unfold feed offS;split
  ·unfold offD plus;simp only;omega
  ·exact⟨h1,h2⟩
theorem par_cases{c o:Sp}(hc:Ne c)(ho:Ne o):(c.2<o.1∧misP c o=c.2 - o.1∧parP c o=(o.1,o.1))∨(o.2<c.1∧misP c o=c.1 - o.2∧parP c o=(o.2,o.2))∨(o.1≤c.2∧c.1≤o.2∧misP c o=0∧parP c o=(max c.1 o.1,min c.2 o.2)):=by
 unfold Ne at *;rcases (by omega:c.2<o.1∨o.2<c.1∨(o.1≤c.2∧c.1≤o.2)) with a|a|⟨a,b⟩
 ·have e:misP c o=c.2 - o.1:=(by unfold misP;omega);refine .inl ⟨a,e,?_⟩;unfold parP;rw[e,if_neg (by omega),if_pos (by omega)]
 ·have e:misP c o=c.1 - o.2:=(by unfold misP;omega);refine .inr (.inl ⟨a,e,?_⟩);unfold parP;rw[e,if_pos (by omega)]
 ·have e:misP c o=0:=(by unfold misP;omega);refine .inr (.inr ⟨a,b,e,?_⟩);unfold parP;rw[e,if_neg (by omega),if_neg (by omega)];simp[both]
theorem mis_step{c c' o o':Sp}{D:Int}(hc:Ne c)(hc':Ne c')(ho:Ne o)(ho':Ne o')(hD:0≤D)(h1:c'.1 - c.1≤D)(h2:c.2 - c'.2≤D)(g1:o'.1≤o.1)(g2:o.2≤o'.2) :
  max (misP c' o') (-(misP c' o'))+offD (parP c' o') (parP c o)≤max (misP c o) (-(misP c o))+D:=by
 have a:=par_cases hc ho;have b:=par_cases hc' ho';unfold Ne at *;unfold offD;rcases a with ⟨a1,a2,a3⟩|⟨a1,a2,a3⟩|⟨a0,a1,a2,a3⟩<;>rcases b with ⟨b1,b2,b3⟩|⟨b1,b2,b3⟩|⟨b0,b1,b2,b3⟩<;>rw[a2,a3,b2,b3]<;>simp only<;>omega
theorem gone_wid(hw:WidG R' R)(hF:Fwd n t)(hr:∀i,i<n→∀k,1≤k→k≤6→Ne (R i k))(hr':∀i,i<n→∀k,1≤k→k≤6→Ne (R' i k)) :
  ∀m,m≤n→sumM (misU t R') m+offP t (parU t R') (parU t R) m m≤sumM (misU t R) m
 |0,_=>by simp[sumM,offP]
 |m+1,hm=>by
  have ih:=gone_wid hw hF hr hr' m (by omega);have hU:∀j,j<n→Ne (parU t R j):=fun j hj=>(gone_law hr j hj).2.2.1
  have hU':∀j,j<n→Ne (parU t R' j):=fun j hj=>(gone_law hr' j hj).2.2.1
  have hc:Ne (canS t R (parU t R) m):=can_ne (fun j hj=>hU j (by omega)) (hr m (by omega));have hc':Ne (canS t R' (parU t R') m):=can_ne (fun j hj=>hU' j (by omega)) (hr' m (by omega));rw[off_split] at ih;obtain⟨f1,f2⟩:=feed_off' (t:=t) (parU t R') (parU t R) m m;have h0:=offS_0 (t:=t) (parU t R') (parU t R) m m;have g:∀k,(R' m k).1≤(R m k).1∧(R m k).2≤(R' m k).2:=hw m
  have hst:=mis_step hc hc' (hr m (by omega) 6 (by omega) (by omega)) (hr' m (by omega) 6 (by omega) (by omega)) h0
   (by have a1:=g 1;have a2:=g 2;have a3:=g 3;have a4:=g 4;have a5:=g 5;simp only[canS,minus,plus,restS];omega)
   (by have a1:=g 1;have a2:=g 2;have a3:=g 3;have a4:=g 4;have a5:=g 5;simp only[canS,minus,plus,restS];omega) (g 6).1 (g 6).2
  rw[←parU_eq,←parU_eq] at hst;have e1:sumM (misU t R') (m+1)=sumM (misU t R') m+max (misU t R' m) (-(misU t R' m)):=rfl;have e2:sumM (misU t R) (m+1)=sumM (misU t R) m+max (misU t R m) (-(misU t R m)):=rfl;have e3:offP t (parU t R') (parU t R) (m+1) (m+1)≤offP t (parU t R') (parU t R) (m+1) m+offD (parU t R' m) (parU t R m):=by
   have:=offD_0 (parU t R' m) (parU t R m);rw[show offP t (parU t R') (parU t R) (m+1) (m+1)=if goB (t m) (m+1)=true then offP t (parU t R') (parU t R) (m+1) m+offD (parU t R' m) (parU t R m) else offP t (parU t R') (parU t R) (m+1) m from rfl];split<;>omega
  rw[e1,e2];unfold misU at *;omega
end
set_option maxRecDepth 100000 in
set_option maxHeartbeats 4000000 in
theorem clash_any(A A':Option Addr)(n c n' c':Nat)(ps:List PR)(ws:List WE)(w:World)(hnm:n≤maxLen)(hnm':n'≤maxLen)(hR:Reads w w.heap.size 4 A n (pgs ps))(hW:Reads w w.heap.size 5 A' n' (wgs ws))(hv:validP ps ws=true) :
  Calls Tryd.prog 26 #[.agg #[.slice A n c,.slice A' n' c']] w fun e w'=>e = .returned (.bool (clB (rowsT ps ws) n))∧Below w.heap.size w w':=by
 have hl:ps.length=n:=hR.pg_len;have hn:n≤10:=by have:=(valid_facts hv).n10;omega
 have HRd:=Lib.hid (fun z (hz:Below w.heap.size w z)=>(hR.below hz).more hz.size);have HWd:=Lib.hid (fun z (hz:Below w.heap.size w z)=>(hW.below hz).more hz.size);have hO0:=heap_alloc_new w (.cells #[.slice A n c,.slice A' n' c'] 25);have HB0:=Lib.hid ((Below.refl w.heap.size w).alloc (Nat.le_refl _) (.cells #[.slice A n c,.slice A' n' c'] 25));have HOp:=Lib.hid (fun z (hz:Below (w.alloc (.cells #[.slice A n c,.slice A' n' c'] 25)).heap.size (w.alloc (.cells #[.slice A n c,.slice A' n' c'] 25)) z)=>keepO hz hO0);have hvh:=Lib.hid hv;clear hR hW hO0 hl hv
 go_enter Tryd.func26,Tryd.ntmps26
 go_wp2_with fail
 generalize hwb:(w.alloc (.cells #[.slice A n c,.slice A' n' c'] 25))=wb at *;clear hwb;go_loopw [3] (fun v wr=>∃wl,wl=wr∧∃i:Nat,i≤n∧v = .int .i64 i∧Hid (Below wb.heap.size wb wl)∧Hid (∀j,j<i→∀k,1≤k→k≤6→Ne (rowsT ps ws j k))) (fun v _=>n - (intOf v).toNat)
 case atStart=>exact⟨_,rfl,0,Nat.zero_le _,rfl,Lib.hid (Below.refl _ _),Lib.hid (fun j h=>absurd h (by omega))⟩
 case round=>
  obtain⟨wq,rfl,i,hi,rfl,HBb,hno⟩:=hrel;obtain⟨p0,p1,-,-⟩:=two_facts (HOp.out _ HBb.out);by_cases hin:i<n
  ·have hii:(i:Int)<(n:Int):=(by omega);(go_wp2_with fail);go_loopw [4] (fun v wr=>∃wl,wl=wr∧∃k:Nat,1≤k∧k≤7∧v = .int .i64 k∧Hid (Below wb.heap.size wb wl)∧Hid (∀q,1≤q→q<k→Ne (rowsT ps ws i q))) (fun v _=>7 - (intOf v).toNat)
   case atStart=>exact⟨_,rfl,1,by omega,by omega,rfl,HBb,Lib.hid (fun q h1 h2=>absurd h2 (by omega))⟩
   case round=>
    clear p0 p1;obtain⟨wj,rfl,k,hk1,hk7,rfl,HBj,hnk⟩:=hrel;have HBr:=Lib.hid (below_via HB0.out HB0.out.size HBj.out);obtain⟨p0,p1,-,-⟩:=two_facts (HOp.out _ HBj.out);by_cases hk6:k≤6
    ·have hkk:(k:Int)≤6:=(by omega);have hNo:=Lib.hid (Noted_any A A' n c n' c' ps ws i k wj (HRd.out _ HBr.out) (HWd.out _ HBr.out) hvh.out hin (by omega));have hnx:=Lib.hid (fun(h:¬(rowsT ps ws i k).2<(rowsT ps ws i k).1) q (h1:1≤q) (hq:q<k+1)=>(show Ne (rowsT ps ws i q) by
      by_cases e:q=k
      ·subst e;unfold Ne;omega
      ·exact hnk.out q h1 (by omega)))
     have hye:=Lib.hid (fun(h:(rowsT ps ws i k).2<(rowsT ps ws i k).1)=>clB_yesG (R:=rowsT ps ws) hin hk1 hk6 h);(go_wp2_with fail);refine hNo.out.mono ?_;rintro e z1 ⟨rfl,hb⟩;have HB1:=Lib.hid (below_via HBj.out HBj.out.size hb);clear hb hNo p0 p1;generalize rowsT ps ws i k=s at *;have HB2:=Lib.hid (HB1.out.alloc HB1.out.size (.cells #[.int .i64 s.1,.int .i64 s.2] 36));by_cases hs:s.2<s.1
     ·have hres:=Lib.hid (hye.out hs);have HB3:=Lib.hid (below_via HB0.out HB0.out.size HB2.out);clear hnx hye;go_wp2;go_ret;exact⟨by rw[hres.out];rfl,HB3.out⟩
     ·have hnn:=Lib.hid (hnx.out (by omega));have hsd:decide (s.2<s.1)=false:=decide_eq_false hs;clear hnx hye hs;go_wp2;go_roundw
      case rel=>exact⟨_,rfl,k+1,by omega,by omega,by go_num,HB2,hnn⟩
      case measure=>simp[intOf];omega
    ·obtain rfl:k=7:=(by omega);rw[show ((7:Nat):Int)=7 from rfl];have hnn:=Lib.hid (fun j (hj:j<i+1) q (h1:1≤q) (h6:q≤6)=>(show Ne (rowsT ps ws j q) by
      by_cases e:j=i
      ·subst e;exact hnk.out q h1 (by omega)
      ·exact hno.out j (by omega) q h1 h6))
     clear p0 p1;go_wp2;go_roundw
     case rel=>exact⟨_,rfl,i+1,by omega,by go_num,HBj,hnn⟩
     case measure=>simp[intOf];omega
  ·obtain rfl:i=n:=(by omega);have hii:¬(i:Int)<(i:Int):=(by omega);have hres:=Lib.hid (clB_of hno.out);have HBr:=Lib.hid (below_via HB0.out HB0.out.size HBb.out);go_wp2;go_ret;exact⟨by rw[hres.out];rfl,HBr.out⟩
theorem sumM_bd{f:Nat→Int}{B:Int}:∀{m:Nat},(∀j,j<m→-B≤f j∧f j≤B)→0≤sumM f m∧sumM f m≤B*(m:Int)
 |0,_=>by simp[sumM]
 |m+1,h=>by
  have ih:=sumM_bd (f:=f) (B:=B) (m:=m) (fun j hj=>h j (by omega));have hm:=h m (by omega);have e:B*((m+1:Nat):Int)=B*(m:Int)+B:=(by rw[Int.natCast_add,Int.mul_add];simp);rw[e];unfold sumM;omega
section
variable {t:Nat→Option Nat} {R:Nat→Nat→Sp} {n:Nat} {F:WF}
def misF (t:Nat→Option Nat) (F:WF) (i:Nat):Int:=inW t F i i+F i 2 - F i 3 - F i 4 - F i 5 - F i 6 - F i 7
def ptQ (R:Nat→Nat→Sp) (n:Nat) (F:WF):Nat→Nat→Sp:=fun i k=>if i<n∧1≤k∧k≤6 then(F i (1+k),F i (1+k)) else R i k
theorem ptQ_at{i k:Nat}(h:i<n)(h1:1≤k)(h6:k≤6):ptQ R n F i k=(F i (1+k),F i (1+k)):=by unfold ptQ;rw[if_pos ⟨h,h1,h6⟩]
theorem parQ:∀i,i<n→parU t (ptQ R n F) i=(F i 7,F i 7)∧misU t (ptQ R n F) i=misF t F i:=by
 intro i
 induction i using Nat.strongRecOn with
 |_ i ih=>
  intro hi;have hf:∀m,m≤i→feed t (parU t (ptQ R n F)) i m=(inW t F i m,inW t F i m):=by
   intro m
   induction m with
   |zero=>intro _;rfl
   |succ m ihm=>
    intro hm;unfold feed inW;rw[ihm (by omega),(ih m (by omega) (by omega)).1];split<;>rfl
  have hc:canS t (ptQ R n F) (parU t (ptQ R n F)) i=(inW t F i i+F i 2 - F i 3 - F i 4 - F i 5 - F i 6,inW t F i i+F i 2 - F i 3 - F i 4 - F i 5 - F i 6):=by
   unfold canS restS;rw[hf i (Nat.le_refl _),ptQ_at hi (by omega) (by omega),ptQ_at hi (by omega) (by omega),ptQ_at hi (by omega) (by omega),ptQ_at hi (by omega) (by omega),ptQ_at hi (by omega) (by omega)];unfold minus plus;simp only[Nat.reduceAdd,Prod.mk.injEq];omega
  have hm:misU t (ptQ R n F) i=misF t F i:=by
   unfold misU misF;rw[hc,ptQ_at hi (by omega) (by omega)];unfold misP;simp only[Nat.reduceAdd];omega
  refine⟨?_,hm⟩;rw[parU_eq,hc,ptQ_at hi (by omega) (by omega)];unfold parP misP both;simp only[Nat.reduceAdd];split
  ·rfl
  ·split
   ·rfl
   ·simp only[Prod.mk.injEq];omega
theorem gone_least(hF:Fwd n t)(hr:∀i,i<n→∀k,1≤k→k≤6→Ne (R i k))(hin:∀i,i<n→∀k,1≤k→k≤6→(R i k).1≤F i (1+k)∧F i (1+k)≤(R i k).2):sumM (misU t R) n≤sumM (misF t F) n:=by
 have hw:WidG R (ptQ R n F):=fun i k=>by
  unfold ptQ;split
  ·rename_i h;exact hin i h.1 k h.2.1 h.2.2
  ·omega
 have hr2:∀i,i<n→∀k,1≤k→k≤6→Ne (ptQ R n F i k):=fun i hi k k1 k6=>by rw[ptQ_at hi k1 k6];exact Int.le_refl _
 have h:=gone_wid hw hF hr2 hr n (Nat.le_refl _);have h0:=offP_0 (t:=t) (parU t R) (parU t (ptQ R n F)) n n;rw[sumM_cgr (m':=misF t F) n (fun j hj=>(parQ j hj).2)] at h;omega
theorem feed_mil{U:Nat→Sp}(i:Nat):∀m,(∀j,j<m→0≤(U j).1∧(U j).1≤1000000∧0≤(U j).2∧(U j).2≤1000000)→0≤(feed t U i m).1∧(feed t U i m).1≤1000000*(m:Int)∧0≤(feed t U i m).2∧(feed t U i m).2≤1000000*(m:Int)
 |0,_=>by simp[feed]
 |m+1,h=>by
  have ih:=feed_mil i m (fun j hj=>h j (by omega));have:=h m (by omega);unfold feed;split
  ·unfold plus;simp only;omega
  ·omega
theorem misU_bd(hn:n≤10)(hr:∀i,i<n→∀k,1≤k→k≤6→Ne (R i k))(hI:∀i k,0≤(R i k).1∧(R i k).1≤1000000∧0≤(R i k).2∧(R i k).2≤1000000){i:Nat}(hi:i<n):-20000000≤misU t R i∧misU t R i≤20000000:=by
 have hp:∀j,j<i→0≤(parU t R j).1∧(parU t R j).1≤1000000∧0≤(parU t R j).2∧(parU t R j).2≤1000000:=fun j hj=>by
  obtain⟨-,-,h3,h4,h5⟩:=(gone_law hr j (by omega):parV t R j=parU t R j∧misV t R j=misU t R j∧Ne (parU t R j)∧(R j 6).1≤(parU t R j).1∧(parU t R j).2≤(R j 6).2);have:=hI j 6;unfold Ne at h3;omega
 have hf:=feed_mil (t:=t) i i hp;have h1:=hI i 1;have h2:=hI i 2;have h3:=hI i 3;have h4:=hI i 4;have h5:=hI i 5;have h6:=hI i 6;have hb:=mis_bnd (c:=canS t R (parU t R) i) (o:=R i 6) (B:=15000000) (by unfold canS minus restS plus;simp only;omega) (by omega);unfold misU;omega
theorem lack_list{ids m:Nat→Int}(hinj:∀a b,a<b→b<n→ids a<ids b):∀k,k≤n→∀i,i<n→lackS (listM ids m k) (ids i)=if i<k then m i else 0
 |0,_,i,_=>by rw[if_neg (by omega)];rfl
 |k+1,hk,i,hi=>by
  have ih:=lack_list (m:=m) hinj k (by omega) i hi;unfold listM;by_cases e:m k=0
  ·rw[if_neg (by simpa using e),ih];by_cases h:i<k
   ·rw[if_pos h,if_pos (by omega)]
   ·by_cases h2:i=k
    ·subst h2;rw[if_neg (by omega),if_pos (by omega),e]
    ·rw[if_neg h,if_neg (by omega)]
  ·rw[if_pos (by simpa using e),lackS_snoc];simp only;by_cases h2:i=k
   ·subst h2;rw[if_pos rfl,if_pos (by omega)]
   ·have hne:ids i≠ids k:=by
     rcases (by omega:i<k∨k<i) with h|h
     ·have:=hinj i k h (by omega);omega
     ·have:=hinj k i h hi;omega
    rw[if_neg hne,ih];by_cases h:i<k
    ·rw[if_pos h,if_pos (by omega)]
    ·rw[if_neg h,if_neg (by omega)]
theorem gone_gok{M:Nat→Int}(hr:∀i,i<n→∀k,1≤k→k≤6→Ne (R i k))(hM:∀i,i<n→M i=misU t R i):gok t R M n:=by
 have key:∀i,i<n→givU t R M i=parU t R i:=by
  intro i
  induction i using Nat.strongRecOn with
  |_ i ih=>
   intro hi;have hc:canS t R (givU t R M) i=canS t R (parU t R) i:=by
    unfold canS;rw[feed_congr i i (fun j hj _=>ih j hj (by omega))]
   rw[givU_eq,hc,hM i hi,parU_eq];have hcn:Ne (canS t R (parU t R) i):=can_ne (fun j hj=>(gone_law hr j (by omega)).2.2.1) (hr i hi);have ho:=hr i hi 6 (by omega) (by omega);unfold misU;obtain⟨c,hc'⟩:∃c,c=canS t R (parU t R) i:=⟨_,rfl⟩;obtain⟨o,ho'⟩:∃o,o=R i 6:=⟨_,rfl⟩;rw[←hc'] at hcn ⊢;rw[←ho'] at ho ⊢;rcases par_cases hcn ho with ⟨a,b,e⟩|⟨a,b,e⟩|⟨a,a',b,e⟩<;>rw[b,e]<;>unfold Ne both at *<;>simp only[Prod.mk.injEq]<;>omega
 intro i hi;rw[key i hi];exact⟨(gone_law hr i hi).2.2.1,fun k k1 k5=>hr i hi k k1 (by omega)⟩
theorem sumM_zero{m:Nat→Int}:∀k,sumM m k=0→∀i,i<k→m i=0
 |0,_,i,h=>by omega
 |k+1,h,i,hi=>by
  have h0:∀k,0≤sumM m k:=fun k=>by
   induction k with
   |zero=>exact Int.le_refl _
   |succ k ih=>unfold sumM;omega
  have:=h0 k;unfold sumM at h;by_cases e:i=k
  ·subst e;omega
  ·exact sumM_zero k (by omega) i (by omega)
theorem gone_holds(hr:∀i,i<n→∀k,1≤k→k≤6→Ne (R i k)):Holds n R (upP t R)↔sumM (misU t R) n=0:=by
 constructor
 ·intro hH;have key:∀i,i<n→parU t R i=upP t R i∧misU t R i=0:=by
   intro i
   induction i using Nat.strongRecOn with
   |_ i ih=>
    intro hi;have hc:canS t R (parU t R) i=canS t R (upP t R) i:=by
     unfold canS;rw[feed_congr i i (fun j hj _=>(ih j hj (by omega)).1)]
    have hu:upP t R i=both (canS t R (upP t R) i) (R i 6):=upP_eq t R i;have hne:=(hH i hi).2;rw[hu] at hne;have hm:misU t R i=0:=by
     unfold misU;rw[hc];unfold Ne both at hne;simp only at hne;unfold misP;omega
    refine⟨?_,hm⟩;rw[parU_eq,hc,hu];unfold misU at hm;rw[hc] at hm;unfold parP;rw[hm,if_neg (by omega),if_neg (by omega)];simp[both]
  have:sumM (misU t R) n=sumM (fun _=>0) n:=sumM_cgr n fun j hj=>(key j hj).2
  rw[this];have z:∀k,sumM (fun _=>0) k=0:=fun k=>by
   induction k with
   |zero=>rfl
   |succ k ih=>unfold sumM;rw[ih];rfl
  exact z n
 ·intro h0;have hz:=sumM_zero n h0;have key:∀i,i<n→parU t R i=upP t R i:=by
   intro i
   induction i using Nat.strongRecOn with
   |_ i ih=>
    intro hi;have hc:canS t R (parU t R) i=canS t R (upP t R) i:=by
     unfold canS;rw[feed_congr i i (fun j hj _=>ih j hj (by omega))]
    have hm:=hz i hi;unfold misU at hm;rw[hc] at hm;rw[parU_eq,hc,upP_eq];unfold parP;rw[hm,if_neg (by omega),if_neg (by omega)];unfold recS canS both;simp only[Int.sub_zero]
  intro i hi;exact⟨hr i hi,by rw[←key i hi];exact(gone_law hr i hi).2.2.1⟩
end
structure GoF (ps:List PR) (ws:List WE) (n:Nat):Prop where
 er:gonE ps ws=0
 holds:hasT ps ws=decide (gonS ps ws=0)
 nn:0≤gonS ps ws
 len:(gonL ps ws).length≤n
 bd:∀x∈gonL ps ws,-20000000≤x.2∧x.2≤20000000
 gok_:gok (toT ps) (rowsT ps ws) (fun i=>lackS (gonL ps ws) (idQ ps i)) n
 ne:∀i,i<n→∀k,1≤k→k≤6→Ne (rowsT ps ws i k)
 sum:gonS ps ws=sumM (misU (toT ps) (rowsT ps ws)) n
 list:gonL ps ws=listM (idQ ps) (misU (toT ps) (rowsT ps ws)) n
theorem listM_mem{ids m:Nat→Int}:∀k,∀x∈listM ids m k,∃i,i<k∧x=(ids i,m i)∧m i≠0
 |0,x,h=>by simp[listM] at h
 |k+1,x,h=>by
  unfold listM at h;split at h
  ·rename_i hm;rw[List.mem_append,List.mem_singleton] at h;rcases h with h|rfl
   ·obtain⟨i,hi,e⟩:=listM_mem k x h;exact⟨i,by omega,e⟩
   ·exact⟨k,by omega,rfl,hm⟩
  ·obtain⟨i,hi,e⟩:=listM_mem k x h;exact⟨i,by omega,e⟩
theorem gone_facts{ps:List PR}{ws:List WE}{n:Nat}(hVF:ValidF ps ws)(hv:validP ps ws=true)(hl:ps.length=n)(hc:clB (rowsT ps ws) n=false):GoF ps ws n:=by
 subst hl;have hr:=clB_no hc;have hE:gonE ps ws=0:=by unfold gonE;rw[if_pos hv,hc];rfl
 have hS:gonS ps ws=sumM (misU (toT ps) (rowsT ps ws)) ps.length:=by unfold gonS;rw[if_pos hE]
 have hL:gonL ps ws=listM (idQ ps) (misU (toT ps) (rowsT ps ws)) ps.length:=by unfold gonL;rw[if_pos hE]
 have hb:=fun i (hi:i<ps.length)=>misU_bd (t:=toT ps) hVF.n10 hr (fun i k=>hVF.in_ i k) hi;refine⟨hE,?_,?_,?_,fun x hx=>?_,?_,hr,hS,hL⟩
 ·rw[Bool.eq_iff_iff,has_iff hVF,decide_eq_true_iff,hS];exact gone_holds hr
 ·rw[hS];exact(sumM_bd (B:=20000000) fun j hj=>hb j hj).1
 ·rw[hL];exact listM_lng _ _ _
 ·rw[hL] at hx;obtain⟨i,hi,rfl,-⟩:=listM_mem _ x hx;exact hb i hi
 ·refine gone_gok hr fun i hi=>?_;rw[hL,lack_list (fun a b h1 h2=>idQ_inc hVF b h1 h2) ps.length (Nat.le_refl _) i hi,if_pos hi]
theorem listM_step{ids m:Nat→Int}{n:Nat}(hinj:∀a b,a<b→b<n→ids a<ids b):∀k,k≤n→∀(q:Nat) (x:Int×Int),(listM ids m k)[q]? = some x→
  (∃i,i<k∧x=(ids i,m i)∧m i≠0)∧(∀y,0<q→(listM ids m k)[q - 1]? = some y→y.1<x.1)
 |0,_,q,x,h=>by simp[listM] at h
 |k+1,hk,q,x,h=>by
  have hsub:∀z∈listM ids m k,z.1<ids k:=fun z hz=>by
   obtain⟨i,hi,rfl,-⟩:=listM_mem k z hz;exact hinj i k hi (by omega)
  refine⟨listM_mem (k+1) x (List.mem_of_getElem? h),fun y hq hy=>?_⟩;unfold listM at h hy;split at h
  ·rename_i hm;rw[if_pos hm] at hy;rcases Nat.lt_or_ge q (listM ids m k).length with hlt|hge
   ·rw[List.getElem?_append_left hlt] at h;rw[List.getElem?_append_left (by omega)] at hy;exact(listM_step hinj k (by omega) q x h).2 y hq hy
   ·rw[List.getElem?_append_right hge] at h;have hx:x=(ids k,m k):=by
     have:=List.mem_of_getElem? h;simpa using this
    have hq0:q=(listM ids m k).length:=by
     have:=(List.getElem?_eq_some_iff.1 h).1;simp at this;omega
    rw[List.getElem?_append_left (by omega)] at hy;rw[hx];exact hsub y (List.mem_of_getElem? hy)
  ·rename_i hm;rw[if_neg hm] at hy;exact(listM_step hinj k (by omega) q x h).2 y hq hy
def sumL (l:List (Int×Int)):Int:=l.foldl (fun s x=>s+max x.2 (-x.2)) 0
theorem sumL_snoc(l:List (Int×Int))(x:Int×Int):sumL (l ++ [x])=sumL l+max x.2 (-x.2):=by unfold sumL;rw[List.foldl_append];rfl
theorem sumL_bd{l:List (Int×Int)}(h:∀x∈l,-20000000≤x.2∧x.2≤20000000):∀q,q≤l.length→0≤sumL (l.take q)∧sumL (l.take q)≤20000000*(q:Int)
 |0,_=>by simp[sumL]
 |q+1,hq=>by
  have ih:=sumL_bd h q (by omega);have hx:=List.getElem?_eq_getElem (show q<l.length by omega);have hb:=h _ (List.getElem_mem (show q<l.length by omega));rw[List.take_add_one,hx,Option.toList_some,sumL_snoc];omega
theorem sumL_list{ids m:Nat→Int}:∀k,sumL (listM ids m k)=sumM m k
 |0=>rfl
 |k+1=>by
  have ih:=sumL_list (ids:=ids) (m:=m) k;unfold listM sumM;by_cases e:m k=0
  ·rw[if_neg (by simpa using e),ih];omega
  ·rw[if_pos (by simpa using e),sumL_snoc,ih]
end Go.Proofs.YtfplipbkjglmhaaDoor

namespace Go.Proofs.YtfplipbkjglmhaaDoor
open Go.RowKit
set_option linter.unusedVariables false
set_option linter.unusedSimpArgs false
structure LX (w5:World) (n gk:Nat) (F:WF) (z:World):Prop where
 bel:Below w5.heap.size w5 z
 row:RowOf z gk 43 8 n wdc n F
 gl:w5.heap.size≤gk
theorem LX.under{w5 z y:World}{n gk:Nat}{F:WF}(h:LX w5 n gk F z)(hb:Below z.heap.size z y):LX w5 n gk F y:=⟨below_via h.bel h.bel.size hb,h.row.of_block (hb.block gk h.row.lt),h.gl⟩
theorem LX.lay{w5 z:World}{n gk:Nat}{F:WF}(h:LX w5 n gk F z){p j:Nat}(hj:j<8)(v:Int):LX w5 n gk (updF F p j v) (z.setCell ⟨gk,p*8+j,none⟩ (.int .i64 v)):=by
 have h1:=h.gl;refine⟨h.bel.setCell (p:=⟨gk,p*8+j,none⟩) (by simp only;omega) _,?_,h.gl⟩;refine(h.row.put1 wdc_len hj (.int .i64 v) (fun q=>if q=j then v else F p q) (wdc_set (F p) hj v)).congr (Nat.le_refl _) fun k _=>?_
 funext q
 unfold updF;by_cases e:k=p
 ·subst e;rw[if_pos rfl];simp
 ·rw[if_neg e,if_neg (fun h=>e h.1)]
theorem gone_no{ps:List PR}{ws:List WE}{n:Nat}(hVF:ValidF ps ws)(hv:validP ps ws=true)(hl:ps.length=n)(hc:clB (rowsT ps ws) n=true):gonE ps ws=8∧hasT ps ws=false:=by
 subst hl;refine⟨by unfold gonE;rw[if_pos hv,if_pos hc],?_⟩;cases h:hasT ps ws with
 |false=>rfl
 |true=>
  have hH:=has_Holds hVF h;rw[clB_of (fun i hi k k1 k6=>(hH i hi).1 k k1 k6)] at hc;cases hc
set_option maxRecDepth 100000 in
set_option maxHeartbeats 16000000 in
theorem law_gone(A A':Option Addr)(n c n' c':Nat)(ps:List PR)(ws:List WE)(Ab:Option Addr)(nb cb:Nat)(xs:List Nat)(Ad:Option Addr)(nd cd:Nat)(ys:List Nat)(w:World)(hnb:nb≤maxLen)(hxs:∀x∈xs,x≤4294967295)(hnd:nd≤maxLen)(hys:∀x∈ys,x≤4294967295)(hnm:n≤maxLen)(hnm':n'≤maxLen)
  (hR:Reads w w.heap.size 4 A n (pgs ps)) (hW:Reads w w.heap.size 5 A' n' (wgs ws)) (hX:Reads w w.heap.size 1 Ab nb (usV xs)) (hY:Reads w w.heap.size 1 Ad nd (usV ys)) (hL:Laid w) :
  Calls Tryd.prog 5 #[.agg #[.slice A n c,.slice A' n' c'],.slice Ab nb cb,.slice Ad nd cd] w fun e w'=>e = .returned (.bool true)∧Below w.heap.size w w':=by
 have HYd:=Lib.hid (fun z (hz:Below w.heap.size w z)=>(hY.below hz).more hz.size);clear hY;have hl:ps.length=n:=hR.pg_len;have hl':ws.length=n':=hW.wg_len;have HX0:=Lib.hid (PX.start (c:=c) (c':=c') hR hW hL);have HAl:=Lib.hid (fun z (K:PX w A A' n c n' c' ps ws z)=>alive_any z K.laid);have HRy:=Lib.hid (fun z (K:PX w A A' n c n' c' ps ws z)=>ready_any A A' n c n' c' ps ws z hnm hnm' K.rp K.rw_);have HXd:=Lib.hid (fun z (hz:Below w.heap.size w z)=>(hX.below hz).more hz.size);clear hX;clear hR hW hL;obtain⟨g,hg_⟩:∃g,g=(!(decide (20<n) || decide (50<n')) && validP ps ws):=⟨_,rfl⟩;rw[←hg_] at HRy;have hg:=Lib.hid hg_;clear hg_
 go_enter Tryd.func5,Tryd.ntmps5
 go_wp2_with fail
 refine(HAl.out _ HX0.out).mono ?_;rintro e z1 ⟨rfl,hb⟩;have HX1:=Lib.hid (HX0.out.below hb);clear hb HX0;obtain⟨p0,p1⟩:=HX1.out.cells;go_wp2_with fail
 clear p0 p1;refine(HRy.out _ HX1.out).mono ?_;rintro e z2 ⟨rfl,hb⟩;have HX2:=Lib.hid (HX1.out.below hb);clear hb HX1;cases g with
 |false=>
  go_wp2;go_ret;exact⟨rfl,HX2.out.bel⟩
 |true=>
 have hv:validP ps ws=true:=by have h:=hg.out;simp at h;exact h.2.symm ▸ rfl
 have hVF:=valid_facts hv;have hn10:n≤10:=by have:=hVF.n10;omega
 have hn30:n'≤30:=by have:=hVF.m30;omega
 clear hg HRy HAl;have hVFh:=Lib.hid hVF;have hvh:=Lib.hid hv;have hlh:=Lib.hid hl;have hGo:=Lib.hid (fun z (K:PX w A A' n c n' c' ps ws z)=>pGone_any A A' n c n' c' ps ws z hnm K.rp K.rw_ K.laid);have hHo:=Lib.hid (fun z (K:PX w A A' n c n' c' ps ws z)=>pHolds_any A A' n c n' c' ps ws z K.rp K.rw_ K.laid);have hCl:=Lib.hid (fun z (K:PX w A A' n c n' c' ps ws z)=>clash_any A A' n c n' c' ps ws z hnm hnm' K.rp K.rw_ hv);rw[check_ok0 hv,hv] at hHo;cases hc:clB (rowsT ps ws) n with
 |true=>
  obtain⟨f1,f2⟩:=gone_no hVF hv hl hc;rw[f1] at hGo;rw[f2] at hHo;rw[hc] at hCl;clear hVF hv hl hc f1 f2;obtain⟨p0,p1⟩:=HX2.out.cells;(go_wp2_with fail);clear p0 p1;refine(hGo.out _ HX2.out).mono ?_;rintro e z3 ⟨⟨A1,m,c1,rfl,hm10,hq⟩,hb⟩;have HX3:=Lib.hid (HX2.out.below hb);clear hb HX2 hq;obtain⟨p0,p1⟩:=HX3.out.cells;(go_wp2_with fail);clear p0 p1;refine(hHo.out _ HX3.out).mono ?_;rintro e z4 ⟨rfl,hb⟩;have HX4:=Lib.hid (HX3.out.below hb);clear hb HX3;obtain⟨p0,p1⟩:=HX4.out.cells;(go_wp2_with fail);clear p0 p1;refine(hCl.out _ HX4.out).mono ?_;rintro e z5 ⟨rfl,hb⟩;have HX5:=Lib.hid (HX4.out.below hb);clear hb HX4;go_wp2;go_ret;exact⟨rfl,HX5.out.bel⟩
 |false=>
  have hG:=gone_facts hVF hv hl hc;rw[hG.er] at hGo;rw[hG.holds] at hHo;rw[hc] at hCl;obtain⟨S,hS_⟩:∃S,S=gonS ps ws:=⟨_,rfl⟩;obtain⟨l,hl_⟩:∃l,l=gonL ps ws:=⟨_,rfl⟩;have hSn:=hG.nn;have hGh:=Lib.hid hG;rw[←hS_,←hl_] at hGo;rw[←hS_] at hHo hSn;obtain⟨bz,hbz⟩:∃b,(S==0)=b:=⟨_,rfl⟩;rw[show decide (S=0)=bz from hbz] at hHo;have hS:=Lib.hid hS_;have hLl:=Lib.hid hl_;have hbb:(bz != bz)=false:=(by simp);clear hVF hv hl hc hG hS_ hl_;obtain⟨p0,p1⟩:=HX2.out.cells;(go_wp2_with fail);clear p0 p1;refine(hGo.out _ HX2.out).mono ?_;rintro e z3 ⟨⟨A1,m,c1,rfl,hm10,hq⟩,hb⟩;have HX3:=Lib.hid (HX2.out.below hb);have HM3:=Lib.hid hq;have hml_:l.length=m:=hq.rec_len (f:=spc) (m:=2) (fun _=>rfl) (by omega);have hmn:m≤n:=(by rw[←hml_,hLl.out];exact hGh.out.len);have hml:=Lib.hid hml_;clear hb HX2 hq hml_ hGo;obtain⟨p0,p1⟩:=HX3.out.cells;(go_wp2_with fail);clear p0 p1;refine(hHo.out _ HX3.out).mono ?_;rintro e z4 ⟨rfl,hb⟩;have HX4:=Lib.hid (HX3.out.below hb);have HM4:=Lib.hid ((HM3.out.below hb).more hb.size);clear hb HX3 HM3 hHo;obtain⟨p0,p1⟩:=HX4.out.cells;(go_wp2_with fail);clear p0 p1;refine(hCl.out _ HX4.out).mono ?_;rintro e z5 ⟨rfl,hb⟩;have HX5:=Lib.hid (HX4.out.below hb);have HM5:=Lib.hid ((HM4.out.below hb).more hb.size);clear hb HX4 HM4 hCl;obtain⟨p0,p1⟩:=HX5.out.cells;have d1:decide (S<0)=false:=(by simp;omega);have hmnh:=Lib.hid hmn;have d2:decide ((m:Int) > (n:Int))=false:=(by simp;omega);have d2b:decide (n<m)=false:=(by simp;omega);clear hmn;(go_wp2_with fail);clear p0 p1 d1 d2 d2b hbb hbz
  have hmn:=hmnh.out
  -- the list of what is told
  have hinj:Hid (∀a b,a<b→b<n→idQ ps a<idQ ps b):=Lib.hid (fun a b h1 h2=>idQ_inc hVFh.out b h1 (by rw[hlh.out];exact h2));have hl0:=Lib.hid (fun x (h:l[0]? = some x)=>(by
   have h1:x∈l:=List.mem_of_getElem? h;rw[hLl.out,hGh.out.list] at h1;obtain⟨i,hi,rfl,-⟩:=listM_mem _ x h1;have hi':i<ps.length:=(by rw[hlh.out];exact hi);have:=(hVFh.out.id1 i _ (List.getElem?_eq_getElem hi')).1;show (0:Int)<idQ ps i;unfold idQ;rw[List.getElem?_eq_getElem hi'];simp only
   omega:(0:Int)<x.1))
  go_loopw [13,14,91] (fun v u s wr=>∃wl,wl=wr∧∃(q:Nat) (last:Int),q≤m∧v = .int .i64 (sumL (l.take q))∧u = .int .i64 last∧s = .int .i64 q∧Hid (∀x,l[q]? = some x→last<x.1)∧Hid (PX w A A' n c n' c' ps ws wl)∧Hid (Reads wl wl.heap.size 2 A1 m (mss l))) (fun _ _ s _=>m - (intOf s).toNat)
  case atStart=>exact⟨_,rfl,0,0,Nat.zero_le _,rfl,rfl,rfl,hl0,HX5,HM5⟩
  case round=>
   clear hl0 HX5 HM5;obtain⟨wq,rfl,q,last,hq_,rfl,rfl,rfl,hla,HXq,HMq⟩:=hrel;obtain⟨sl,hsl_⟩:∃x,x=sumL (l.take q):=⟨_,rfl⟩;rw[←hsl_];have hsl:=Lib.hid hsl_;clear hsl_;by_cases hqm:q<m
   ·have hqi:(q:Int)<(m:Int):=(by omega);have hq0:(0:Int)≤(q:Int):=(by omega);obtain⟨b,o,p,hAe,hblt,hx,hc⟩:=Reads.rec_at (f:=spc) (m:=2) (fun _=>rfl) (by omega) HMq.out hqm;obtain⟨⟨i,hin,hpe,hm0⟩,-⟩:=listM_step hinj.out n (Nat.le_refl _) q p (by rw[←hGh.out.list,←hLl.out];exact hx);have hbo:=hGh.out.bd p (by rw[←hLl.out];exact List.mem_of_getElem? hx);have hlt:=hla.out p hx;have hnx:=Lib.hid (fun y (hy:l[q+1]? = some y)=>((listM_step hinj.out n (Nat.le_refl _) (q+1) y (by rw[←hGh.out.list,←hLl.out];exact hy)).2 p (by omega) (by rw[←hGh.out.list,←hLl.out];exact hx):p.1<y.1));have hst:=Lib.hid (show sumL (l.take (q+1))=sumL (l.take q)+max p.2 (-p.2) by rw[List.take_add_one,hx,Option.toList_some,sumL_snoc]);have hslb:0≤sl∧sl≤20000000*(q:Int):=(by rw[hsl.out];exact sumL_bd (fun x hx=>hGh.out.bd x (by rw[←hLl.out];exact hx)) q (by rw[hml.out];omega));have hix:idxP ps p.1=i:=(by rw[hpe];exact idx_idQ hVFh.out (by rw[hlh.out];exact hin));have hm0':p.2≠0:=(by rw[hpe];exact hm0);obtain⟨I,O⟩:=p;simp only at hbo hlt hix hm0' hnx hst;subst hAe;have y0:wq.cell? ⟨b,o+q*2,none⟩=some (.int .i64 I):=(by have h:=hc 0 _ rfl;simpa [Nat.add_assoc] using h);have y1:wq.cell? ⟨b,o+q*2+1,none⟩=some (.int .i64 O):=(by have h:=hc 1 _ rfl;simpa [Nat.add_assoc] using h);obtain⟨wk,hw1_⟩:∃y,y=wq.alloc (.cells #[.int .i64 I,.int .i64 O] 62):=⟨_,rfl⟩;obtain⟨xb,hb1_⟩:∃q,q=wq.heap.size:=⟨_,rfl⟩;have hB1:Below wq.heap.size wq wk:=(by rw[hw1_];exact(Below.refl _ _).alloc (Nat.le_refl _) _);have hO1:wk.heap[xb]? = some (.cells #[.int .i64 I,.int .i64 O] 62 (0,0)):=by rw[hw1_,hb1_];exact heap_alloc_new _ _
    have hw1:=Lib.hid hw1_;have hb1:=Lib.hid hb1_;clear hw1_ hb1_;have HXk:=Lib.hid (HXq.out.below hB1);have HMk:=Lib.hid ((HMq.out.below hB1).more hB1.size);have hOk:=Lib.hid hO1;clear hx hc hpe hm0 hla hB1 hO1 HXq HMq
    go_upto_region 14 with (fail)
    rw[←hw1.out,←hb1.out];clear hw1 hb1;clear y0 y1;obtain⟨x0,x1,-,-⟩:=two_facts hOk.out;obtain⟨p0,p1⟩:=HXk.out.cells;obtain⟨g1,g2⟩:=hbo;have d1:(O==0)=false:=(by simpa using hm0');have d2:decide (O < -20000000)=false:=(by simp;omega);have d3:decide (O > 20000000)=false:=(by simp;omega);have d4:decide (I≤last)=false:=(by simp;omega);have hix:=Lib.hid hix;clear hm0';(go_wp2_with fail);clear p0 p1 x0 x1 d1 d2 d3 d4;refine(Pressing_any A A' n c n' c' ps I wk hnm HXk.out.rp).mono ?_;rintro e w1 ⟨rfl,hb⟩;rw[hix.out];have HX1:=Lib.hid (HXk.out.below hb);have HM1:=Lib.hid ((HMk.out.below hb).more hb.size);have hO1:=Lib.hid (keepO hb hOk.out);obtain⟨x0,x1,-,-⟩:=two_facts hO1.out;have d5:decide ((i:Int)<0)=false:=(by simp);obtain⟨mx,hmx_⟩:∃x,x=max O (-O):=⟨_,rfl⟩;have hmx:(if O < -O then -O else O)=mx:=(by rw[hmx_];exact mx_if _ _);have w0:IntKind.i64.wrap (-O) = -O:=IntWalk.i64_in _ (by omega);have w2:IntKind.i64.wrap (sl+mx)=sl+mx:=IntWalk.i64_in _ (by omega);have hw3:=wS q (by omega);have hmxh:=Lib.hid hmx_;clear hb HXk HMk hOk hmx_ hslb g1 g2 hlt;go_wp2;go_roundw
    case rel=>exact⟨_,rfl,q+1,I,by omega,by rw[hst.out,←hsl.out,←hmxh.out],rfl,by go_num,hnx,HX1,HM1⟩
    case measure=>simp[intOf];omega
   ·obtain rfl:m=q:=(by omega);have hqi:¬(m:Int)<(m:Int):=(by omega);have hsS:Hid (sl=S):=by
     show _=_;rw[hsl.out,List.take_of_length_le (by rw[hml.out];omega),hLl.out,hGh.out.list,sumL_list,hS.out,hGh.out.sum]
    obtain rfl:=hsS.out;have hGv:=given_any A A' n c n' c' ps ws A1 Ab m c1 nb cb l xs wq hnm hvh.out hm10 hnb (fun x hx=>hGh.out.bd x (by rw[←hLl.out];exact hx)) (fun x hx=>by
     rw[hLl.out,hGh.out.list] at hx;obtain⟨i,hi,rfl,-⟩:=listM_mem _ x hx;have hi':i<ps.length:=(by rw[hlh.out];exact hi);have:=hVFh.out.id1 i _ (List.getElem?_eq_getElem hi');have e:idQ ps i=(ps[i]'hi').1:=by unfold idQ;rw[List.getElem?_eq_getElem hi']
     exact WalkArith.wf_i64 (by simp only;rw[e];omega)) hxs HXq.out.rp HXq.out.rw_ HMq.out (HXd.out _ HXq.out.bel)
    rw[hLl.out] at hGv;have hGv:=Lib.hid hGv;have hgk:=Lib.hid hGh.out.gok_;have hne:=Lib.hid hGh.out.ne;have hSum:=Lib.hid (hS.out.trans hGh.out.sum);clear hla hsS hGh hLl hS HMq hml hsl;obtain⟨p0,p1⟩:=HXq.out.cells;(go_wp2_with fail);clear p0 p1;refine(hGv.out).mono ?_;rintro e w5 ⟨hg,hb⟩;rcases hg with ⟨hno,-⟩|⟨-,A6,c6,F6,rfl,-,-⟩
    ·exact absurd hgk.out hno
    have HX5:=Lib.hid (HXq.out.below hb);have hbb:(sl != sl)=false:=(by simp);clear hb hGv HXq hgk;have hmk:=make_wds n hn10;obtain⟨w6,hw2_⟩:∃y,y=w5.alloc (.cells (madeCells #[.int .i64 0,.int .i64 0,.int .i64 0,.int .i64 0,.int .i64 0,.int .i64 0,.int .i64 0,.int .i64 0] (n*8)) 43):=⟨_,rfl⟩;obtain⟨gk,hb2_⟩:∃q,q=w5.heap.size:=⟨_,rfl⟩;have hB2:Below w5.heap.size w5 w6:=(by rw[hw2_];exact(Below.refl _ _).alloc (Nat.le_refl _) _);have hO2:w6.heap[gk]? = some (.cells (madeCells #[.int .i64 0,.int .i64 0,.int .i64 0,.int .i64 0,.int .i64 0,.int .i64 0,.int .i64 0,.int .i64 0] (n*8)) 43 (0,0)):=(by rw[hw2_,hb2_];exact heap_alloc_new _ _);have hw2:=Lib.hid hw2_;have hb2:=Lib.hid hb2_;clear hw2_ hb2_;have HL6:=Lib.hid (show LX w5 n gk (fun _ _=>0) w6 from⟨hB2,by rw[hw2.out,hb2.out];exact made_wds w5 n,by rw[hb2.out];exact Nat.le_refl _⟩);obtain⟨p0,p1⟩:=HX5.out.cells;obtain⟨p2,p3⟩:=(HX5.out.below hB2).cells;rw[hw2.out] at p2 p3;clear hB2 hO2;(go_wp2_with fail);rw[←hw2.out,←hb2.out];clear hw2 hb2;clear p0 p1 p2 p3 hmk hbb;have hin0:=Lib.hid (fun a (h:a<0)=>absurd h (by omega):∀a,a<0→∀k,1≤k→k≤6→(rowsT ps ws a k).1≤(fun _ _=>(0:Int):WF) a (1+k)∧(fun _ _=>(0:Int):WF) a (1+k)≤(rowsT ps ws a k).2);go_loopw [153] (fun u wr=>∃wl,wl=wr∧∃(i:Nat) (F:WF),i≤n∧u = .int .i64 i∧Hid (LX w5 n gk F wl)∧Hid (∀a,a<i→∀k,1≤k→k≤6→(rowsT ps ws a k).1≤F a (1+k)∧F a (1+k)≤(rowsT ps ws a k).2)) (fun u _=>n - (intOf u).toNat)
    case atStart=>exact⟨_,rfl,0,_,Nat.zero_le _,rfl,HL6,hin0⟩
    case round=>
     clear HL6 hin0;obtain⟨wa,rfl,i,F,hi_,rfl,HLa,hIn⟩:=hrel;have HXa:=Lib.hid (HX5.out.below HLa.out.bel);obtain⟨p0,p1⟩:=HXa.out.cells;by_cases hin:i<n
     ·have hii:(i:Int)<(n:Int):=(by omega);have hi0:(0:Int)≤(i:Int):=(by omega);obtain⟨bp,op,I,D,P,T,hAe,hbp,hx,y0,y1,y2,y3⟩:=HXa.out.rp.pg hin;subst hAe;obtain⟨wb,hw3_⟩:∃y,y=wa.alloc (.cells #[.int .i64 I,.int .i64 D,.int .i64 P,.int .i64 T] 51):=⟨_,rfl⟩;obtain⟨xb,hb3_⟩:∃q,q=wa.heap.size:=⟨_,rfl⟩;have hB3:Below wa.heap.size wa wb:=(by rw[hw3_];exact(Below.refl _ _).alloc (Nat.le_refl _) _);have hO3:wb.heap[xb]? = some (.cells #[.int .i64 I,.int .i64 D,.int .i64 P,.int .i64 T] 51 (0,0)):=(by rw[hw3_,hb3_];exact heap_alloc_new _ _);have hw3:=Lib.hid hw3_;have hb3:=Lib.hid hb3_;clear hw3_ hb3_;have HLb:=Lib.hid (HLa.out.under hB3);have hXb:=Lib.hid hO3;have hgkx:gk<xb:=(by rw[hb3.out];exact HLa.out.row.lt);clear hx hB3 hO3 HLa
      go_upto_region 26 with (fail)
      rw[←hw3.out,←hb3.out];clear hw3 hb3;clear p0 p1 y0 y1 y2 y3;obtain⟨x0,x1,x2,x3⟩:=facts4 hXb.out;obtain⟨v0,e0⟩:=Option.isSome_iff_exists.1 (HLb.out.row.there (show i*8<n*8 by omega));have f0:=HLb.out.row.frozen (i*8);obtain⟨wc,hwc_⟩:∃y,y=wb.setCell ⟨gk,i*8,none⟩ (.int .i64 I):=⟨_,rfl⟩;have HLc:=Lib.hid (show LX w5 n gk (updF F i 0 I) wc by rw[hwc_];exact HLb.out.lay (by omega) I);have hwc:=Lib.hid hwc_;clear hwc_ HLb hXb
      go_upto_region 27 with (fail)
      rw[←hwc.out];clear hwc x0 x1 x2 x3 e0 f0;have hIn1:=Lib.hid (fun a b (h:a<i∨a=i∧b<1) (b1:1≤b) (b6:b≤6)=>(by
       rw[updF_ne _ _ (by omega)]
       exact hIn.out a (by omega) b b1 b6:(rowsT ps ws a b).1≤updF F i 0 I a (1+b)∧updF F i 0 I a (1+b)≤(rowsT ps ws a b).2))
      (go_wp2_with fail);go_loopw [22] (fun u wr=>∃wl,wl=wr∧∃(k:Nat) (G:WF),1≤k∧k≤7∧u = .int .i64 k∧Hid (LX w5 n gk G wl)∧Hid (∀a b,(a<i∨a=i∧b<k)→1≤b→b≤6→(rowsT ps ws a b).1≤G a (1+b)∧G a (1+b)≤(rowsT ps ws a b).2)) (fun u _=>7 - (intOf u).toNat)
      case atStart=>exact⟨_,rfl,1,_,by omega,by omega,rfl,HLc,hIn1⟩
      case round=>
       clear HLc hIn1 hIn;obtain⟨wd,rfl,k,G,hk1,hk7,rfl,HLd,hIn⟩:=hrel;have HXd:=Lib.hid (HX5.out.below HLd.out.bel);obtain⟨p0,p1⟩:=HXd.out.cells;by_cases hk:k≤6
       ·have hki:(k:Int)≤6:=(by omega);have hk0:(0:Int)≤(k:Int):=(by omega);have hk77:(k:Int)<7:=(by omega);(go_wp2_with fail);clear p0 p1;refine(Noted_any (some ⟨bp,op,none⟩) A' n c n' c' ps ws i k wd HXd.out.rp HXd.out.rw_ hvh.out hin (by omega)).mono ?_;rintro e w1 ⟨rfl,hb⟩;have hsn:=hne.out i hin k hk1 hk;have hsb:=hVFh.out.in_ i k;obtain⟨s,hs_⟩:∃s,s=rowsT ps ws i k:=⟨_,rfl⟩;rw[←hs_] at hsn hsb ⊢;unfold Ne at hsn;obtain⟨sb1,sb2,sb3,sb4⟩:=hsb;have hs:=Lib.hid hs_;clear hs_;obtain⟨w2,hw4_⟩:∃y,y=w1.alloc (.cells #[.int .i64 s.1,.int .i64 s.2] 36):=⟨_,rfl⟩;obtain⟨sb,hb4_⟩:∃q,q=w1.heap.size:=⟨_,rfl⟩;have hB4:Below w1.heap.size w1 w2:=(by rw[hw4_];exact(Below.refl _ _).alloc (Nat.le_refl _) _);have hO4:w2.heap[sb]? = some (.cells #[.int .i64 s.1,.int .i64 s.2] 36 (0,0)):=(by rw[hw4_,hb4_];exact heap_alloc_new _ _);have hw4:=Lib.hid hw4_;have hb4:=Lib.hid hb4_;clear hw4_ hb4_;have HLe:=Lib.hid ((HLd.out.under hb).under hB4);have hSe:=Lib.hid hO4;have hgks:gk<sb:=(by rw[hb4.out];have:=HLd.out.row.lt;have:=hb.size;omega);clear hb hB4 hO4 HLd HXd
        go_upto_region 31 with (fail)
        rw[←hw4.out,←hb4.out];clear hw4 hb4;have w6:IntKind.i64.wrap (6*(i:Int))=6*(i:Int):=IntWalk.i64_in _ (by omega);have w7:IntKind.i64.wrap (6*(i:Int)+(k:Int))=6*(i:Int)+(k:Int):=IntWalk.i64_in _ (by omega);(go_wp2_with fail);obtain⟨J,hJ⟩:∃J:Nat,(J:Int)=6*(i:Int)+(k:Int):=⟨6*i+k,by omega⟩;rw[←hJ];have hJb:J≤1000:=(by omega);refine(choose_any Ad nd cd ys J w2 hnd (by omega) hys (HYd.out _ (below_via HX5.out.bel HX5.out.bel.size HLe.out.bel))).mono ?_;rintro e w2' ⟨rfl,hw2',hcle⟩;subst hw2';obtain⟨cN,hcN⟩:∃x,x=chS ys J:=⟨_,rfl⟩;rw[←hcN] at hcle ⊢;clear hcN w6 w7 hJ hJb;obtain⟨r,hr⟩:∃r,((cN:Int)/2).tmod (s.2 - s.1+1)=r:=⟨_,rfl⟩;have hrb:0≤r∧r≤s.2 - s.1:=by
         rw[←hr,Int.tmod_eq_emod_of_nonneg (by omega)];have h1:=Int.emod_nonneg ((cN:Int)/2) (show s.2 - s.1+1≠0 by omega);have h2:=Int.emod_lt_of_pos ((cN:Int)/2) (show 0<s.2 - s.1+1 by omega);omega
        obtain⟨r1,r2⟩:=hrb;have w0_:IntKind.i64.wrap ((cN:Int)/2)=(cN:Int)/2:=IntWalk.i64_in _ (by omega);have w1_:IntKind.i64.wrap (s.2 - s.1)=s.2 - s.1:=IntWalk.i64_in _ (by omega);have w2_:IntKind.i64.wrap (s.2 - s.1+1)=s.2 - s.1+1:=IntWalk.i64_in _ (by omega);have w3_:IntKind.i64.wrap (s.1+r)=s.1+r:=IntWalk.i64_in _ (by omega);have gz:¬s.2 - s.1+1=0:=(by omega);have gz':(s.2 - s.1+1==0)=false:=(by simpa using gz);obtain⟨s0,s1,-,-⟩:=two_facts hSe.out;go_wp2_with fail
        go_still_tail 18,(by kernel_rfl)
        change wpList _ _ _ _ _ w2'.drew;have HLf:=Lib.hid (HLe.out.under (Below.refl _ _).drew);have hSf:=Lib.hid (keepO (Below.refl w2'.heap.size w2').drew hSe.out);clear s0 s1 HLe hSe hr w0_ w1_ w2_ w3_ gz gz';generalize w2'.drew=w3 at *;obtain⟨v0,e0⟩:=Option.isSome_iff_exists.1 (HLf.out.row.there (show i*8+1+k<n*8 by omega));have f0:=HLf.out.row.frozen (i*8+1+k);obtain⟨z,hz_⟩:∃y,y=w3.setCell ⟨gk,i*8+1+k,none⟩ (.int .i64 (s.1+r)):=⟨_,rfl⟩;have HLg:=Lib.hid (show LX w5 n gk (updF G i (1+k) (s.1+r)) z by
         rw[hz_];have h:=HLf.out.lay (p:=i) (j:=1+k) (by omega) (s.1+r);rw[←Nat.add_assoc] at h
         exact h)
        have hSg:=Lib.hid (show z.heap[sb]? = some (.cells #[.int .i64 s.1,.int .i64 s.2] 36 (0,0)) by rw[hz_,Below.heap_setCell w3 ⟨gk,i*8+1+k,none⟩ _ sb (by simp only;omega)];exact hSf.out);have hz:=Lib.hid hz_;have hv1:=Lib.hid (show s.1≤s.1+r∧s.1+r≤s.2 by omega);clear hz_ HLf hSf
        go_upto_if 198 with (fail)
        rw[←hz.out];clear hz e0 f0;obtain⟨own,hown⟩:∃x,x=s.1+r:=⟨_,rfl⟩;rw[←hown] at HLg hv1;clear hown r1 r2;by_cases hpar:(cN:Int)%2=0
        ·have hp:((cN:Int)%2==0)=true:=(by simpa using hpar);obtain⟨r,hr⟩:∃r,(cN:Int)%1000=r:=⟨_,rfl⟩;have hr2:(cN:Int).tmod 1000=r:=(by rw[Int.tmod_eq_emod_of_nonneg (by omega)];exact hr);have hrb:0≤r∧r≤999:=(by omega);have w3_:IntKind.i64.wrap (s.1+r)=s.1+r:=IntWalk.i64_in _ (by omega);obtain⟨mn,hmn_⟩:∃x,x=min s.2 (s.1+r):=⟨_,rfl⟩;have hmn2:(if s.1+r<s.2 then s.1+r else s.2)=mn:=(by rw[hmn_];exact mn_if _ _);have hmb:=Lib.hid (show s.1≤mn∧mn≤s.2 by omega);obtain⟨s0,s1,-,-⟩:=two_facts hSg.out;clear hpar hmn_ hrb;go_wp2_with fail
         go_still_tail 14,(by kernel_rfl)
         change wpList _ _ _ _ _ z.drew;have HLh:=Lib.hid (HLg.out.under (Below.refl _ _).drew);clear s0 s1 HLg hSg w3_ hmn2 hp hr hr2 hv1;generalize z.drew=w4 at *;obtain⟨v0,e0⟩:=Option.isSome_iff_exists.1 (HLh.out.row.there (show i*8+1+k<n*8 by omega));have f0:=HLh.out.row.frozen (i*8+1+k);have HLi:=Lib.hid (show LX w5 n gk (updF (updF G i (1+k) own) i (1+k) mn) (w4.setCell ⟨gk,i*8+1+k,none⟩ (.int .i64 mn)) by
          have h:=HLh.out.lay (p:=i) (j:=1+k) (by omega) mn;rw[←Nat.add_assoc] at h
          exact h)
         have hInX:=Lib.hid (fun a b (h:a<i∨a=i∧b<k) (b1:1≤b) (b6:b≤6)=>(by
          rw[updF_ne _ _ (by omega)]
          exact hIn.out a b h b1 b6:(rowsT ps ws a b).1≤updF G i (1+k) own a (1+b)∧updF G i (1+k) own a (1+b)≤(rowsT ps ws a b).2))
         clear HLh hIn;have hIn2:=Lib.hid (fun a b (h:a<i∨a=i∧b<k+1) (b1:1≤b) (b6:b≤6)=>(by
          by_cases e:a=i∧b=k
          ·obtain⟨rfl,rfl⟩:=e;rw[updF_at,←hs.out];exact hmb.out
          ·rw[updF_ne _ _ (by omega)]
           exact hInX.out a b (by omega) b1 b6:(rowsT ps ws a b).1≤updF (updF G i (1+k) own) i (1+k) mn a (1+b)∧updF (updF G i (1+k) own) i (1+k) mn a (1+b)≤(rowsT ps ws a b).2))
         have hw1:=wS k (by omega);clear hInX hmb;go_wp2;go_roundw
         case rel=>exact⟨_,rfl,k+1,_,by omega,by omega,by go_num,HLi,hIn2⟩
         case measure=>simp[intOf];omega
        ·have hp:((cN:Int)%2==0)=false:=(by simpa using hpar);have hInX:=hIn;clear hpar hIn hSg;have hIn2:=Lib.hid (fun a b (h:a<i∨a=i∧b<k+1) (b1:1≤b) (b6:b≤6)=>(by
          by_cases e:a=i∧b=k
          ·obtain⟨rfl,rfl⟩:=e;rw[updF_at,←hs.out];exact hv1.out
          ·rw[updF_ne _ _ (by omega)]
           exact hInX.out a b (by omega) b1 b6:(rowsT ps ws a b).1≤updF (G) i (1+k) own a (1+b)∧updF (G) i (1+k) own a (1+b)≤(rowsT ps ws a b).2))
         have hw1:=wS k (by omega);clear hInX hv1;go_wp2;go_roundw
         case rel=>exact⟨_,rfl,k+1,_,by omega,by omega,by go_num,HLg,hIn2⟩
         case measure=>simp[intOf];omega
       ·obtain rfl:k=7:=(by omega);rw[show ((7:Nat):Int)=7 from rfl];have hw1:=wS i (by omega);have hIn2:=Lib.hid (fun a (h:a<i+1) b (b1:1≤b) (b6:b≤6)=>(hIn.out a b (by omega) b1 b6:(rowsT ps ws a b).1≤G a (1+b)∧G a (1+b)≤(rowsT ps ws a b).2));clear hIn p0 p1;go_wp2;go_roundw
        case rel=>exact⟨_,rfl,i+1,G,by omega,by go_num,HLd,hIn2⟩
        case measure=>simp[intOf];omega
     ·obtain rfl:n=i:=(by omega);have hii:¬(n:Int)<(n:Int):=(by omega);have hFb:=Lib.hid (fun i (hi:i<n) k (k1:1≤k) (k6:k≤6)=>(by have a:=hIn.out i hi k k1 k6;have b:=hVFh.out.in_ i k;omega:0≤F i (1+k)∧F i (1+k)≤1000000));have hFw:Hid (Fwd n (toT ps)):=(by have h:=hVFh.out.fwd;rw[hlh.out] at h;exact Lib.hid h);have hleast:=Lib.hid (gone_least hFw.out hne.out hIn.out);have hmb:=Lib.hid (fun j (hj:j<n)=>(by
       have a:=inW_bd (t:=toT ps) (i:=j) (F:=F) (fun k hk=>hFb.out k hk 6 (by omega) (by omega)) j (by omega);have b1:=hFb.out j hj 1 (by omega) (by omega);have b2:=hFb.out j hj 2 (by omega) (by omega);have b3:=hFb.out j hj 3 (by omega) (by omega);have b4:=hFb.out j hj 4 (by omega) (by omega);have b5:=hFb.out j hj 5 (by omega) (by omega);have b6:=hFb.out j hj 6 (by omega) (by omega);simp only[Nat.reduceAdd] at b1 b2 b3 b4 b5 b6;unfold misF
       omega:-20000000≤misF (toT ps) F j∧misF (toT ps) F j≤20000000))
      clear hIn p0 p1;(go_wp2_with fail);go_loopw [25,216] (fun v u wr=>∃wl,wl=wr∧∃j:Nat,j≤n∧v = .int .i64 (sumM (misF (toT ps) F) j)∧u = .int .i64 j∧Hid (LX w5 n gk F wl)) (fun _ u _=>n - (intOf u).toNat)
      case atStart=>exact⟨_,rfl,0,by omega,rfl,rfl,HLa⟩
      case round=>
       clear HLa HXa;obtain⟨wb,rfl,j,hj_,rfl,rfl,HLb⟩:=hrel;obtain⟨sm,hsm_⟩:∃x,x=sumM (misF (toT ps) F) j:=⟨_,rfl⟩;have hsb:0≤sm∧sm≤20000000*(j:Int):=(by rw[hsm_];exact sumM_bd (B:=20000000) fun q hq=>hmb.out q (by omega));rw[←hsm_];have hsm:=Lib.hid hsm_;clear hsm_;by_cases hjn:j<n
       ·have hji:(j:Int)<(n:Int):=(by omega);have hj0:(0:Int)≤(j:Int):=(by omega);have hcr:=fun q u (hu:(wdc (F j))[q]? = some u)=>HLb.out.row.cell wdc_len (Nat.le_refl _) (k:=j) (t:=q) hjn hu;obtain⟨fj,hfj_⟩:∃f,f=F j:=⟨_,rfl⟩;rw[←hfj_] at hcr;have c0_:wb.cell? ⟨gk,j*8,none⟩=some (.int .i64 (fj 0)):=hcr 0 _ rfl;have c1_:wb.cell? ⟨gk,j*8+1,none⟩=some (.int .i64 (fj 1)):=hcr 1 _ rfl;have c2_:wb.cell? ⟨gk,j*8+2,none⟩=some (.int .i64 (fj 2)):=hcr 2 _ rfl;have c3_:wb.cell? ⟨gk,j*8+3,none⟩=some (.int .i64 (fj 3)):=hcr 3 _ rfl;have c4_:wb.cell? ⟨gk,j*8+4,none⟩=some (.int .i64 (fj 4)):=hcr 4 _ rfl;have c5_:wb.cell? ⟨gk,j*8+5,none⟩=some (.int .i64 (fj 5)):=hcr 5 _ rfl;have c6_:wb.cell? ⟨gk,j*8+6,none⟩=some (.int .i64 (fj 6)):=hcr 6 _ rfl;have c7_:wb.cell? ⟨gk,j*8+7,none⟩=some (.int .i64 (fj 7)):=hcr 7 _ rfl;have hfj:=Lib.hid hfj_;clear hfj_ hcr;obtain⟨wd,hw6_⟩:∃y,y=wb.alloc (.cells #[.int .i64 (fj 0),.int .i64 (fj 1),.int .i64 (fj 2),.int .i64 (fj 3),.int .i64 (fj 4),.int .i64 (fj 5),.int .i64 (fj 6),.int .i64 (fj 7)] 43):=⟨_,rfl⟩;obtain⟨xb,hb6_⟩:∃q,q=wb.heap.size:=⟨_,rfl⟩;have hB6:Below wb.heap.size wb wd:=(by rw[hw6_];exact(Below.refl _ _).alloc (Nat.le_refl _) _);have hO6:wd.heap[xb]? = some (.cells #[.int .i64 (fj 0),.int .i64 (fj 1),.int .i64 (fj 2),.int .i64 (fj 3),.int .i64 (fj 4),.int .i64 (fj 5),.int .i64 (fj 6),.int .i64 (fj 7)] 43 (0,0)):=(by rw[hw6_,hb6_];exact heap_alloc_new _ _);have hw6:=Lib.hid hw6_;have hb6:=Lib.hid hb6_;clear hw6_ hb6_
        have HLd:=Lib.hid (HLb.out.under hB6);have hXd:=Lib.hid hO6;clear hB6 hO6 HLb
        go_upto_region 40 with (fail)
        rw[←hw6.out,←hb6.out];clear hw6 hb6;clear c0_ c1_ c2_ c3_ c4_ c5_ c6_ c7_;have HXd:=Lib.hid (HX5.out.below HLd.out.bel);obtain⟨p0,p1⟩:=HXd.out.cells;(go_wp2_with fail);clear p0 p1;refine(into_any A A' n c n' c' ps ws (some ⟨gk,0,none⟩) n F j wd hnm hvh.out hjn (fun k hk=>hFb.out k hk 6 (by omega) (by omega)) (hFb.out j hjn 1 (by omega) (by omega)) HXd.out.rp (HLd.out.row.lst wdc_len hnm)).mono ?_;rintro e we ⟨rfl,hb⟩;have HLe:=Lib.hid (HLd.out.under hb);have hXe:=Lib.hid (keepO hb hXd.out);clear hb HLd hXd HXd;obtain⟨din,hdin_⟩:∃x,x=inW (toT ps) F j j+F j 2:=⟨_,rfl⟩;have hdb:0≤din∧din≤20000000:=by
         have a:=inW_bd (t:=toT ps) (i:=j) (F:=F) (fun k hk=>hFb.out k hk 6 (by omega) (by omega)) j (by omega);have b:=hFb.out j hjn 1 (by omega) (by omega);simp only[Nat.reduceAdd] at b;omega
        rw[←hdin_];have hdin:=Lib.hid hdin_;have hfb:=Lib.hid (fun k (k1:1≤k) (k6:k≤6)=>(by rw[hfj.out];exact hFb.out j hjn k k1 k6:0≤fj (1+k)∧fj (1+k)≤1000000));have hss:=Lib.hid (fun m (hm:m≤5)=>(sumN_bd (f:=fun q=>fj (1+(q+2))) m (fun q hq=>hfb.out (q+2) (by omega) (by omega)):0≤sumN (fun q=>fj (1+(q+2))) m∧sumN (fun q=>fj (1+(q+2))) m≤1000000*(m:Int)));clear hdin_;(go_wp2_with fail);go_loopw [28,29] (fun v u wr=>∃wl,wl=wr∧∃k:Nat,2≤k∧k≤7∧v = .int .i64 (din - sumN (fun q=>fj (1+(q+2))) (k - 2))∧u = .int .i64 k∧Hid (LX w5 n gk F wl)∧Hid (wl.heap[xb]? = some (.cells #[.int .i64 (fj 0),.int .i64 (fj 1),.int .i64 (fj 2),.int .i64 (fj 3),.int .i64 (fj 4),.int .i64 (fj 5),.int .i64 (fj 6),.int .i64 (fj 7)] 43 (0,0)))) (fun _ u _=>7 - (intOf u).toNat)
        case atStart=>exact⟨_,rfl,2,by omega,by omega,by simp[sumN],rfl,HLe,hXe⟩
        case round=>
         clear HLe hXe;obtain⟨wf,rfl,k,hk2,hk7,rfl,rfl,HLf,hXf⟩:=hrel;have hs1:=hss.out (k - 2) (by omega);by_cases hk:k≤6
         ·have hki:(k:Int)≤6:=(by omega);have hk0:(0:Int)≤(k:Int):=(by omega);have hk77:(k:Int)<7:=(by omega);obtain⟨fk,hfk_⟩:∃x,x=fj (1+k):=⟨_,rfl⟩;have xk:wf.cell? ⟨xb,1+k,none⟩=some (.int .i64 fk):=by
           obtain⟨q0,q1,q2,q3,q4,q5,q6,q7⟩:=facts8 hXf.out;rw[hfk_];obtain rfl|rfl|rfl|rfl|rfl:k=2∨k=3∨k=4∨k=5∨k=6:=by omega
           ·exact q3
           ·exact q4
           ·exact q5
           ·exact q6
           ·exact q7
          have hfkb:=hfb.out k (by omega) hk;rw[←hfk_] at hfkb;obtain⟨sd,hsd_⟩:∃x,x=din - sumN (fun q=>fj (1+(q+2))) (k - 2):=⟨_,rfl⟩;rw[←hsd_];have w1_:IntKind.i64.wrap (sd - fk)=sd - fk:=IntWalk.i64_in _ (by omega);have hw2_:=wS k (by omega);have hnx:Hid (sd - fk=din - sumN (fun q=>fj (1+(q+2))) (k+1 - 2)):=by
           show _=_;rw[hsd_,hfk_,show k+1 - 2=(k - 2)+1 by omega];show _=din - (sumN (fun q=>fj (1+(q+2))) (k - 2)+fj (1+(k - 2+2)));rw[show k - 2+2=k by omega];omega
          clear hsd_ hfk_ hfkb hs1;go_wp2;go_roundw
          case rel=>exact⟨_,rfl,k+1,by omega,by omega,by rw[hnx.out],by go_num,HLf,hXf⟩
          case measure=>simp[intOf];omega
         ·obtain rfl:k=7:=(by omega);have hdm:Hid (din - sumN (fun q=>fj (1+(q+2))) (7 - 2)=misF (toT ps) F j):=by
           show _=_;have e:sumN (fun q=>fj (1+(q+2))) 5=0+fj 3+fj 4+fj 5+fj 6+fj 7:=rfl;rw[show 7 - 2=5 from rfl,e,hdin.out,hfj.out];unfold misF;omega
          rw[hdm.out];have hmb1:=hmb.out j hjn;obtain⟨d,hd_⟩:∃x,x=misF (toT ps) F j:=⟨_,rfl⟩;rw[←hd_] at hmb1 ⊢;obtain⟨mx,hmx_⟩:∃x,x=max d (-d):=⟨_,rfl⟩;have hmx:(if d < -d then -d else d)=mx:=(by rw[hmx_];exact mx_if _ _);have w0_:IntKind.i64.wrap (-d) = -d:=IntWalk.i64_in _ (by omega);have w1_:IntKind.i64.wrap (sm+mx)=sm+mx:=IntWalk.i64_in _ (by omega);have hw2_:=wS j (by omega);have hnx:Hid (sm+mx=sumM (misF (toT ps) F) (j+1)):=by
           show _=_;rw[hsm.out,hmx_,hd_];rfl
          rw[show ((7:Nat):Int)=7 from rfl];clear hd_ hmx_ hmb1 hs1 hdm;go_wp2;go_roundw
          case rel=>exact⟨_,rfl,j+1,by omega,by rw[hnx.out],by go_num,HLf⟩
          case measure=>simp[intOf];omega
       ·obtain rfl:n=j:=(by omega);have hji:¬(n:Int)<(n:Int):=(by omega);have hge:sl≤sm:=(by rw[hSum.out,hsm.out];exact hleast.out);have d1:decide (sm≥sl)=true:=(by simpa using hge);clear hge;go_wp2;go_ret;exact⟨rfl,below_via HX5.out.bel HX5.out.bel.size HLb.out.bel⟩
end Go.Proofs.YtfplipbkjglmhaaDoor

namespace Go.Proofs.YtfplipbkjglmhaaDoor.pressGone
open Go.ChangeShapes Go.WideShapes Go.ChangeAt Go.RowKit Go.Joins
set_option linter.unusedVariables false
theorem laidOut:laidOutB Tryd.prog=true:=by kernel_rfl
/-- A list of choices is opened. -/
def u32c (x:{ x:Nat // x≤4294967295 }):List Value:=[.int .u32 (x.1:Int)]
theorem cU32:Tryd.prog.cellsOf 79=1:=by kernel_rfl
section
variable {H:Type} {enc:TypeId×Value→H} {w:World} {base:Nat} {spare:Nat→Bool} {held:Bool}
theorem dec_u32(n:Nat)(cs:List Value)(y:DataW H×List MemPlace)(hl:cs.length=1)(h:DataW.trod enc Tryd.prog w base spare held n 79 cs=some y):∃x:{ x:Nat // x≤4294967295 },cs=u32c x:=by
 match cs,hl with
 |[v0],_=>
  obtain⟨z,e,_,hw⟩:=DataW.trod_int Tryd.underlying79 h;simp only[List.cons.injEq,and_true] at e;simp only[Lit.wf,Bool.and_eq_true,decide_eq_true_eq,show IntKind.u32.min=0 by decide,show IntKind.u32.max=4294967295 by decide] at hw;refine⟨⟨z.toNat,by omega⟩,?_⟩;rw[e];unfold u32c;rw[show ((z.toNat:Nat):Int)=z by omega]
end
theorem u32_reads{w:World}{B n:Nat}{A:Option Addr}{l:List { x:Nat // x≤4294967295 }}(h:Reads w B 1 A n (l.flatMap u32c)):Reads w B 1 A n (usV (l.map (·.1)))∧∀x∈l.map (·.1),x≤4294967295:=by
 have e:l.flatMap u32c=usV (l.map (·.1)):=by
  unfold usV;clear h
  induction l with
  |nil=>rfl
  |cons y r ih=>rw[List.flatMap_cons,ih];rfl
 rw[←e];exact⟨h,fun x hx=>by obtain⟨y,-,rfl⟩:=List.mem_map.1 hx;exact y.2⟩
set_option maxRecDepth 100000 in
theorem lifted(os:Os)(started:os.Started)(H:Type)(enc:TypeId×Value→H) :
  ReturnsInHanded {} Tryd.checked os 5 .any (fun w args=>(Rows.pressGoneSpec.pre enc Tryd.prog Tryd.f5 [] false w args∧laidMetH Tryd.prog laidList w)∧sizedMet enc Tryd.prog Tryd.f5 (OpenSpec.ofChange Rows.pressGoneSpec) false w args)
   (Rows.pressGoneSpec.post enc Tryd.prog Tryd.f5 false true false false):=by
 refine returnsInHanded_of_change_and (C:=Tryd.checked) (X:=fun w _=>laidMetH Tryd.prog laidList w) (fun _ _ _ hh h=>h.of_heap hh) own started (by kernel_rfl) Tryd.func5
  (ChangeSpec.witness_shaped (enc:=enc) (C:=Tryd.checked) (os:=os) (X:=fun w _=>laidMetH Tryd.prog laidList w) false (World.doorLaid Tryd.prog 25 os) #[.agg #[.slice none 0 0,.slice none 0 0],.slice none 0 0,.slice none 0 0] 8 rfl (World.shaped_of_RefB (by kernel_rfl) (by kernel_rfl)) (by kernel_rfl) (by kernel_rfl) (by kernel_rfl) (door_met os _)) ?_
 intro W base args ds gs before hval0 hW _ _ hL _;have hval:∀(j:Nat) t v,Tryd.f5.params[j]? = some t→args[j]? = some v→Value.okWide Tryd.prog W .any base t v:=hval0;have hW':=hW;have hblk:∀x∈before,x.block<W.heap.size:=fun x hx=>hW.lt x hx;obtain⟨p,q,hA0,hV,rfl,hfz,hnd⟩:=hW;have hA:DataW.TrodAll enc Tryd.prog W 0 (fun _=>true) true Tryd.f5.params.toList args.toList ds p:=hA0;have hA':=hA;have hP:=Tryd.params5;rw[Tryd.params5] at hA hval hA';obtain⟨v0,vs0,d0,ds0,p0,q0,hargs,rfl,rfl,h0,r0⟩:=trodAll_cons hA;obtain⟨v1,vs1,d1,ds1,p1,q1,rfl,rfl,rfl,h1,r1⟩:=trodAll_cons r0;obtain⟨v2,vs2,d2,ds2,p2,q2,rfl,rfl,rfl,h2,r2⟩:=trodAll_cons r1;obtain⟨rfl,rfl,rfl⟩:=trodAll_nil r2;obtain rfl:args = #[v0,v1,v2]:=by cases args;simp_all
 obtain⟨rfl,rfl⟩:=trodVars_none hV;simp only[List.append_nil] at hW' hblk;obtain⟨c00,c01,y00,y01,m0,rfl,-,-,g00,g01⟩:=open_agg2 Tryd.underlying25 (by kernel_rfl) (by kernel_rfl) (hval 0 25 v0 rfl rfl) h0;obtain⟨A,n,c,ps,rfl,hnc,hcm0,-,hRp⟩:=open_recs (f:=pgc) (fun _=>rfl) (by omega) Tryd.underlying22 cPg (fun k cs y hl h=>dec_pg k cs y hl h) g00;obtain⟨A',n',c',ws,rfl,hnc',hcm',hnil,hRw⟩:=open_recs (f:=wgc) (fun _=>rfl) (by omega) Tryd.underlying23 cWg (fun k cs y hl h=>dec_wg k cs y hl h) g01;obtain⟨f1,hf1⟩:=h1;obtain⟨a1_,n1_,c1_,rfl⟩:=okWide_slice Tryd.underlying26 (hval 1 26 v1 rfl rfl);obtain⟨A1,n1,c1,l1,e1,hnc1,hcm1,-,hR1⟩:=open_recs (m:=1) (f:=u32c) (fun _=>rfl) (by omega) Tryd.underlying26 cU32 (fun k cs y hl h=>dec_u32 k cs y hl h) (by simpa [Value.cells] using hf1);rw[e1] at hA' hW' ⊢;obtain⟨hRu1,hub1⟩:=u32_reads hR1;obtain⟨f2,hf2⟩:=h2;obtain⟨a2_,n2_,c2_,rfl⟩:=okWide_slice Tryd.underlying26 (hval 2 26 v2 rfl rfl);obtain⟨A2,n2,c2,l2,e2,hnc2,hcm2,-,hR2⟩:=open_recs (m:=1) (f:=u32c) (fun _=>rfl) (by omega) Tryd.underlying26 cU32 (fun k cs y hl h=>dec_u32 k cs y hl h) (by simpa [Value.cells] using hf2);rw[e2] at hA' hW' ⊢;obtain⟨hRu2,hub2⟩:=u32_reads hR2;clear hA0 hval0;refine(law_gone A A' n c n' c' ps ws A1 n1 c1 (l1.map (·.1)) A2 n2 c2 (l2.map (·.1)) W (by omega) hub1 (by omega) hub2 (by omega) (by omega) hRp hRw hRu1 hRu2 (laid_of hL)).mono fun e W' ⟨he,hb⟩=>?_
 subst he;refine⟨_,rfl,post_below (ds:=[_,_,_]) (gs:=[]) (pa:=p0++(p1++(p2++([])))) (pv:=[]) (by simpa using hW') (fun _ _ _=>(trodAll_cons_mk (shut_bool Tryd.underlying4 _) trodAll_mk0)) (fun sp hsp=>?_) (fun _ _=>rfl) (by simp) hb (ok_one (by kernel_rfl) rfl (okWide_bool_mk Tryd.underlying4 _))⟩;rw[hP];refine trodAll_stays laidOut ?_ hA' (fun x hx=>hb.same (hblk x (by simpa using hx))) (fun x hx=>hsp x (by simpa using hx));intro t ht;have hall:([25,26,26].all fun u=>Tryd.prog.readableRec u && decide (u<Tryd.prog.types.size))=true:=by kernel_rfl
 have:=List.all_eq_true.1 hall t (by simpa using ht);simpa using this
theorem over:Rows.PressGoneSaid:=
 OpenClaim.holds_of_wide 5 Tryd.f5 rfl rfl rfl rfl rfl rfl rfl ⟨rfl,rfl,rfl,rfl,rfl⟩ rfl rfl rfl rfl rfl (by kernel_rfl) Tryd.func5 (by kernel_rfl)
  (of_decide_eq_true (by kernel_rfl)) (by unfold Func.isWrapper;first|(rw[if_pos (by decide +kernel)];kernel_rfl)|(rw[if_neg (by decide +kernel)];exact⟨rfl,rfl⟩))
  (fun os started H enc _=>lifted os started H enc)
/-- The tied card. -/
theorem proved:Rows.PressGoneCardSaid:=
 Claim7.holds_tied_plain_at .later [] [.funcs] true (true, "3cbcdd9f0d995b805788fb1a66c61468378cabb8fb1e0a1aebf8d521baf47642") false
  over (fun _ h=>by cases h) (by kernel_rfl) (fun _ h=>by cases h) pressGone_row_tie rfl ⟨rfl,rfl⟩ (by kernel_rfl) rfl
  (fun f fn hf hfn=>by
   obtain rfl:f=5:=Option.some.inj ((show Tryd.prog.funcNamed "oilcake/oilcakelaw02.PressGone" = some 5 by kernel_rfl).symm.trans hf) |>.symm
   obtain rfl:fn=Tryd.f5:=(Option.some.inj (Tryd.func5.symm.trans hfn)).symm;exact⟨by kernel_rfl,fun j t ht=>by
    rw[Tryd.params5] at ht;have hm:t∈[25,26,26]:=(by simpa using Array.mem_of_getElem? ht);have hall:([25,26,26].all fun u=>!Tryd.prog.wantsStandIn u)=true:=by kernel_rfl
    exact(show Tryd.prog.wantsStandIn t=false by simpa using List.all_eq_true.1 hall t hm)⟩)
  (by kernel_rfl)
#print axioms proved
end Go.Proofs.YtfplipbkjglmhaaDoor.pressGone
