/-
 PressYield, the tied card: for every press, choices, pressing and part the law returns true, and its arguments read as before. The package's table of checks is laid as the program's text lays it (the given ties).
-/
import Derived.Test.YtfplipbkjglmhaaDoorTrB
import Derived.Test.YtfplipbkjglmhaaDoorPLs
import Derived.Test.YtfplipbkjglmhaaDoorTk
import Derived.Test.YtfplipbkjglmhaaDoorAliv
import Derived.Test.YtfplipbkjglmhaaDoorAsk
import Derived.Test.YtfplipbkjglmhaaDoorPLaid
import Derived.Test.YtfplipbkjglmhaaDoorCards
import Derived.Test.YtfplipbkjglmhaaDoorTie
import Derived.SevenTiedAt
namespace Go.Proofs.YtfplipbkjglmhaaDoor
open Go.RowKit
set_option linter.unusedVariables false
set_option linter.unusedSimpArgs false
theorem redu_facts{x y:Int}(h0:0≤x)(h1:x≤y)(h2:1≤y):∃g,1≤g∧x=g*(redu x y).1∧y=g*(redu x y).2∧0≤(redu x y).1∧(redu x y).1≤(redu x y).2∧1≤(redu x y).2∧(redu x y).2≤y:=by
 have hg:1≤((Int.gcd x y:Nat):Int):=by
  have:Int.gcd x y≠0:=fun h=>(by rw[Int.gcd_eq_zero_iff] at h;omega);omega
 obtain⟨g,hge⟩:∃g,g=((Int.gcd x y:Nat):Int):=⟨_,rfl⟩;have d1:x=g*(redu x y).1:=by unfold redu;rw[hge];exact(Int.mul_ediv_cancel' (Int.gcd_dvd_left x y)).symm
 have d2:y=g*(redu x y).2:=by unfold redu;rw[hge];exact(Int.mul_ediv_cancel' (Int.gcd_dvd_right x y)).symm
 rw[←hge] at hg;obtain⟨a,ha⟩:∃a,a=(redu x y).1:=⟨_,rfl⟩;obtain⟨b,hb⟩:∃b,b=(redu x y).2:=⟨_,rfl⟩;rw[←ha] at d1;rw[←hb] at d2;rw[←ha,←hb];have p1:0≤a:=by
  rcases Int.lt_or_le a 0 with h|h
  ·have:=Int.mul_neg_of_pos_of_neg (show (0:Int)<g by omega) h;omega
  ·exact h
 have p2:a≤b:=by
  rcases Int.lt_or_le b a with h|h
  ·have:=Int.mul_lt_mul_of_pos_left h (show (0:Int)<g by omega);omega
  ·exact h
 have p3:1≤b:=by
  rcases Int.lt_or_le b 1 with h|h
  ·have:=Int.mul_le_mul_of_nonneg_left (show b≤0 by omega) (show (0:Int)≤g by omega);rw[Int.mul_zero] at this;omega
  ·exact h
 have p4:b≤y:=by
  have:=Int.mul_le_mul_of_nonneg_right hg (show (0:Int)≤b by omega);rw[Int.one_mul] at this;omega
 exact⟨g,hg,d1,d2,p1,p2,p3,p4⟩
theorem scale_le{g a b c d:Int}(hg:1≤g)(h:a*(g*b)≤c*(g*d)):a*b≤c*d:=by
 have e1:a*(g*b)=g*(a*b):=by rw[←Int.mul_assoc,Int.mul_comm a g,Int.mul_assoc]
 have e2:c*(g*d)=g*(c*d):=by rw[←Int.mul_assoc,Int.mul_comm c g,Int.mul_assoc]
 rw[e1,e2] at h;exact Int.le_of_mul_le_mul_left h (by omega)
/-- What is told of a yield. -/
structure YieF (ps:List PR) (ws:List WE) (id oil inn:Int):Prop where
 ask:yldE ps ws id=0∨yldE ps ws id=6
 some_:1≤inn→yldE ps ws id=0∧inn*(yldA ps ws id).1≤oil*(yldA ps ws id).2∧oil*(yldB ps ws id).2≤inn*(yldB ps ws id).1
 den:yldE ps ws id=0→(1≤(yldA ps ws id).2∧0≤(yldA ps ws id).1∧(yldA ps ws id).1≤(yldA ps ws id).2∧(yldA ps ws id).2≤20000000)∧(1≤(yldB ps ws id).2∧0≤(yldB ps ws id).1∧(yldB ps ws id).1≤(yldB ps ws id).2∧(yldB ps ws id).2≤20000000)
 les:∀N D,0≤N→N≤D→1≤D→D≤1000→lesE ps ws id N D=0∧(lesK ps ws id N D=0∨lesK ps ws id N D=1∨lesK ps ws id N D=2)∧(lesK ps ws id N D=2→oil*D<inn*N)∧(lesK ps ws id N D=0→¬oil*D<inn*N)
 lo:yldE ps ws id=0→(yldA ps ws id).2≤1000→lesE ps ws id (yldA ps ws id).1 (yldA ps ws id).2=0∧lesK ps ws id (yldA ps ws id).1 (yldA ps ws id).2=0
 hi:yldE ps ws id=0→(yldB ps ws id).2≤1000→lesE ps ws id (yldB ps ws id).1 (yldB ps ws id).2=0∧lesK ps ws id (yldB ps ws id).1 (yldB ps ws id).2≠2
theorem okC_pt{o r a:Sp}{x y:Int}:okC o r a (x,y)=true↔(o.1≤x∧x≤o.2)∧(a.1≤y∧y≤a.2)∧(r.1≤y - x∧y - x≤r.2):=okC_iff
theorem q1_ok{o r a:Sp}(h:Meets o r a):okC o r a (o1 o r a,n1 o r a)=true:=by
 obtain⟨a1,a2,a3,a4,a5⟩:=h;rw[okC_iff];unfold o1 n1;simp only;omega
theorem q2_ok{o r a:Sp}(h:Meets o r a):okC o r a (o2 o r a,n2 o r a)=true:=by
 obtain⟨a1,a2,a3,a4,a5⟩:=h;rw[okC_iff];unfold o2 n2;simp only;omega
theorem yie_facts{ps:List PR}{ws:List WE}{n i:Nat}{F:WF}(hVF:ValidF ps ws)(hv:validP ps ws=true)(hl:ps.length=n)(ht:hasT ps ws=true)(hT:TruF (toT ps) (rowsT ps ws) n F)(hi:i<n) :
  YieF ps ws (idQ ps i) (F i 3) (inW (toT ps) F i i+F i 2):=by
 subst hl;have hx:=idx_idQ hVF hi;have hIR:=rows_InR hVF ps.length;have hask:askE ps ws (idQ ps i) 2=0:=by rw[askE_t hv (by omega) ⟨by omega,by omega⟩,ht];rfl
 obtain⟨e1,e2,e3⟩:=yld_ok hask hx;have hb:=oia_bounds hVF ht hi;have s1:=hT.span hVF.fwd hIR hi (k:=2) (by omega) (by omega);have s2:=hT.others hVF.fwd hIR hi;have s3:=hT.inside hVF.fwd hIR hi;rw[←spanSp_P] at s1;rw[←othSp_P] at s2;rw[←inSp_P'] at s3;obtain⟨o,ho_⟩:∃o,o=spanSp ps ws i 2:=⟨_,rfl⟩;obtain⟨r,hr_⟩:∃r,r=othSp ps ws i:=⟨_,rfl⟩;obtain⟨a0,ha_⟩:∃a,a=inSp ps ws i:=⟨_,rfl⟩;obtain⟨oil,hoil⟩:∃x,x=F i 3:=⟨_,rfl⟩;obtain⟨inn,hinn⟩:∃x,x=inW (toT ps) F i i+F i 2:=⟨_,rfl⟩;have hl5:∀N D,0≤N→N≤D→1≤D→D≤1000→lesE ps ws (idQ ps i) N D=0:=fun N D h0 h1 h2 h3=>by
  unfold lesE;rw[if_pos hv,if_neg (by omega),if_pos (by simp[rng];omega),if_pos ht]
 have hlk:∀N D,lesE ps ws (idQ ps i) N D=0→lesK ps ws (idQ ps i) N D=lesV (o1 o r a0*D - n1 o r a0*N) (o2 o r a0*D - n2 o r a0*N):=fun N D h=>by
  unfold lesK;rw[if_pos h,hx,ho_,hr_,ha_];rfl
 rw[show F i (1+2)=F i 3 from rfl,←ho_,←hoil] at s1;rw[←hr_,←hinn,←hoil] at s2;rw[←ha_,←hinn] at s3;rw[←ho_,←hr_,←ha_] at hb e2 e3;rw[←ha_] at e1;rw[←hoil,←hinn];clear ho_ hr_ ha_ hoil hinn;obtain⟨b1,b2,b3,b4,b5,b6,b7,b8,b9,b10,b11⟩:=hb;obtain⟨s1,s1'⟩:=s1;obtain⟨s2,s2'⟩:=s2;obtain⟨s3,s3'⟩:=s3;have hM0:Meets o r a0:=⟨b2,b5,b8,by omega,by omega⟩;obtain⟨a,ha⟩:∃a,a=both a0 (1,20000000):=⟨_,rfl⟩;have a1:a.1=max a0.1 1:=by rw[ha];rfl
 have a2:a.2=a0.2:=by rw[ha];unfold both;simp only;omega
 have hpt:okC o r a0 (oil,inn)=true:=okC_pt.2 ⟨⟨s1,s1'⟩,⟨s3,s3'⟩,⟨by omega,by omega⟩⟩;have hnone:noneB a=decide (a.2<a.1):=by
  unfold noneB;rfl
 -- the corners of what is told
 have hq1:=okC_pt.1 (q1_ok hM0);have hq2:=okC_pt.1 (q2_ok hM0);have les:∀N D,0≤N→N≤D→1≤D→D≤1000→lesE ps ws (idQ ps i) N D=0∧(lesK ps ws (idQ ps i) N D=0∨lesK ps ws (idQ ps i) N D=1∨lesK ps ws (idQ ps i) N D=2)∧(lesK ps ws (idQ ps i) N D=2→oil*D<inn*N)∧(lesK ps ws (idQ ps i) N D=0→¬oil*D<inn*N):=by
  intro N D h0 h1 h2 h3;have hE:=hl5 N D h0 h1 h2 h3;have p1:=p1_least hM0 hpt h0 h1;have p2:=p2_most hM0 hpt h0 h1;simp only at p1 p2;rw[hlk N D hE];refine⟨hE,?_,?_,?_⟩
  ·unfold lesV;split
   ·exact .inr (.inr rfl)
   ·split
    ·exact .inl rfl
    ·exact .inr (.inl rfl)
  ·unfold lesV;split
   ·intro _;omega
   ·split<;>intro h<;>omega
  ·unfold lesV;split
   ·intro h;omega
   ·split
    ·intro _;omega
    ·intro h;omega
 by_cases hne:a.2<a.1
 ·obtain⟨y1,y2,y3⟩:=y_none (o:=o) (r:=r) ha (by rw[hnone];simpa using hne);refine⟨.inr (by rw[e1,y1]),fun h=>by omega,fun h=>by rw[e1,y1] at h;omega,les,fun h=>by rw[e1,y1] at h;omega,fun h=>by rw[e1,y1] at h;omega⟩
 ·obtain⟨y1,y2,y3⟩:=y_some (o:=o) (r:=r) ha (by rw[hnone];simpa using hne);have hM:Meets o r a:=⟨b2,b5,by omega,by omega,by omega⟩;have hc1:=q1_ok hM;have hc2:=q2_ok hM;obtain⟨c1,c2,c3⟩:=okC_pt.1 hc1;obtain⟨d1,d2,d3⟩:=okC_pt.1 hc2;have p1:=fun {x:Sp} (hx:okC o r a x=true)=>p1_least hM hx (D:=n1 o r a) (N:=o1 o r a) (by omega) (by omega);have p2:=fun {x:Sp} (hx:okC o r a x=true)=>p2_most hM hx (D:=n2 o r a) (N:=o2 o r a) (by omega) (by omega);obtain⟨g,hg,g1,g2,g3,g4,g5,g6⟩:=redu_facts (x:=o1 o r a) (y:=n1 o r a) (by omega) (by omega) (by omega);obtain⟨k,hk,k1,k2,k3,k4,k5,k6⟩:=redu_facts (x:=o2 o r a) (y:=n2 o r a) (by omega) (by omega) (by omega);rw[←y2,←e2] at g1 g2 g3 g4 g5 g6;rw[←y3,←e3] at k1 k2 k3 k4 k5 k6;obtain⟨A,hA⟩:∃A,A=yldA ps ws (idQ ps i):=⟨_,rfl⟩;obtain⟨B,hB⟩:∃B,B=yldB ps ws (idQ ps i):=⟨_,rfl⟩;rw[←hA] at g1 g2 g3 g4 g5 g6;rw[←hB] at k1 k2 k3 k4 k5 k6;have he:yldE ps ws (idQ ps i)=0:=(by rw[e1,y1]);have zA:∀x y:Int,okC o r a (x,y)=true→y*A.1≤x*A.2:=fun x y hxy=>by
   have h:=p1 hxy;simp only at h;refine scale_le (g:=g) hg ?_;rw[←g1,←g2];have e:o1 o r a*n1 o r a - n1 o r a*o1 o r a=0:=(by rw[Int.mul_comm];omega);omega
  have zB:∀x y:Int,okC o r a (x,y)=true→x*B.2≤y*B.1:=fun x y hxy=>by
   have h:=p2 hxy;simp only at h;refine scale_le (g:=k) hk ?_;rw[←k1,←k2];have e:o2 o r a*n2 o r a - n2 o r a*o2 o r a=0:=(by rw[Int.mul_comm];omega);omega
  refine⟨.inl he,fun h=>?_,fun _=>(by rw[←hA,←hB];exact⟨⟨g5,g3,g4,by omega⟩,⟨k5,k3,k4,by omega⟩⟩),les,fun _ h=>?_,fun _ h=>?_⟩
  ·have hp:okC o r a (oil,inn)=true:=okC_pt.2 ⟨⟨s1,s1'⟩,⟨by omega,by omega⟩,⟨by omega,by omega⟩⟩;rw[←hA,←hB];exact⟨he,zA _ _ hp,zB _ _ hp⟩
  ·rw[←hA] at h ⊢;have hE:=hl5 A.1 A.2 g3 g4 g5 h;refine⟨hE,?_⟩;rw[hlk _ _ hE];have h12:=p2_most hM0 (q1_ok hM0) g3 g4;simp only at h12;have hp1:0≤o1 o r a0*A.2 - n1 o r a0*A.1:=by
    by_cases h1:1≤n1 o r a0
    ·have:=zA _ _ (okC_pt.2 ⟨hq1.1,⟨by omega,by omega⟩,hq1.2.2⟩);omega
    ·have e0:n1 o r a0=0:=(by omega);have e9:o1 o r a0=0:=(by omega);rw[e0,e9];omega
   unfold lesV;rw[if_neg (by omega),if_pos hp1]
  ·rw[←hB] at h ⊢;have hE:=hl5 B.1 B.2 k3 k4 k5 h;refine⟨hE,?_⟩;rw[hlk _ _ hE];have hin:okC o r a0 (o2 o r a,n2 o r a)=true:=okC_pt.2 ⟨d1,⟨by omega,by omega⟩,d3⟩;have hm:=p2_most hM0 hin k3 k4;simp only at hm;have h0:o2 o r a*B.2 - n2 o r a*B.1=0:=by
    have e:o2 o r a*B.2=n2 o r a*B.1:=by
     rw[k1]
     conv=>rhs;rw[k2]
     rw[Int.mul_assoc,Int.mul_assoc,Int.mul_comm B.1 B.2]
    omega
   unfold lesV;rw[if_neg (by omega)];split<;>omega
end Go.Proofs.YtfplipbkjglmhaaDoor

namespace Go.Proofs.YtfplipbkjglmhaaDoor
open Go.RowKit
set_option linter.unusedVariables false
set_option linter.unusedSimpArgs false
/-- What stands behind the copy of the press, and a truth. -/
structure YX (w:World) (A A':Option Addr) (n c n' c':Nat) (ps:List PR) (ws:List WE) (A6:Option Addr) (F:WF) (z:World):Prop extends PX w A A' n c n' c' ps ws z where
 rF:Reads z z.heap.size 8 A6 n (wds (wdl F n))
theorem YX.under{w z y:World}{A A' A6:Option Addr}{n c n' c':Nat}{ps:List PR}{ws:List WE}{F:WF}(h:YX w A A' n c n' c' ps ws A6 F z)(hb:Below z.heap.size z y):YX w A A' n c n' c' ps ws A6 F y:=
 ⟨h.toPX.below hb,(h.rF.below hb).more hb.size⟩
theorem set_first(w:World)(b:Nat)(t:TypeId)(u c0 c1:Value)(h:w.heap[b]? = some (.cells #[c0,c1] t (0,0))):(w.setCell ⟨b,0,none⟩ u).heap[b]? = some (.cells #[u,c1] t (0,0)):=by
 simp[World.setCell,Array.getElem?_modify,h]
theorem mul_in{x y X Y:Int}(h1:0≤x)(h2:x≤X)(h3:0≤y)(h4:y≤Y):0≤x*y∧x*y≤X*Y:=⟨Int.mul_nonneg h1 h3,Int.mul_le_mul h2 h4 h3 (by omega)⟩
set_option maxRecDepth 100000 in
set_option maxHeartbeats 16000000 in
theorem law_yield(A A':Option Addr)(n c n' c':Nat)(ps:List PR)(ws:List WE)(Ab:Option Addr)(nb cb:Nat)(xs:List Nat)(wh:Nat)(nu:Nat)(dn:Nat)(w:World)(hnb:nb≤maxLen)(hxs:∀x∈xs,x≤4294967295)(hwh:wh≤255)(hnu:nu≤65535)(hdn:dn≤65535)(hnm:n≤maxLen)(hnm':n'≤maxLen)
  (hR:Reads w w.heap.size 4 A n (pgs ps)) (hW:Reads w w.heap.size 5 A' n' (wgs ws)) (hX:Reads w w.heap.size 1 Ab nb (usV xs)) (hL:Laid w) :
  Calls Tryd.prog 6 #[.agg #[.slice A n c,.slice A' n' c'],.slice Ab nb cb,.int .u8 wh,.int .u16 nu,.int .u16 dn] w fun e w'=>e = .returned (.bool true)∧Below w.heap.size w w':=by
 have hl:ps.length=n:=hR.pg_len;have hl':ws.length=n':=hW.wg_len;have HX0:=Lib.hid (PX.start (c:=c) (c':=c') hR hW hL);have HAl:=Lib.hid (fun z (K:PX w A A' n c n' c' ps ws z)=>alive_any z K.laid);have HRy:=Lib.hid (fun z (K:PX w A A' n c n' c' ps ws z)=>ready_any A A' n c n' c' ps ws z hnm hnm' K.rp K.rw_);have HXd:=Lib.hid (fun z (hz:Below w.heap.size w z)=>(hX.below hz).more hz.size);clear hX;clear hR hW hL;obtain⟨g,hg_⟩:∃g,g=(!(decide (20<n) || decide (50<n')) && validP ps ws):=⟨_,rfl⟩;rw[←hg_] at HRy;have hg:=Lib.hid hg_;clear hg_;have hwh0:(0:Int)≤(wh:Int):=by omega
 have hwh1:(wh:Int)≤255:=by omega
 have hnu0:(0:Int)≤(nu:Int):=by omega
 have hnu1:(nu:Int)≤65535:=by omega
 have hdn0:(0:Int)≤(dn:Int):=by omega
 have hdn1:(dn:Int)≤65535:=by omega
 go_enter Tryd.func6,Tryd.ntmps6
 go_wp2_with fail
 refine(HAl.out _ HX0.out).mono ?_;rintro e z1 ⟨rfl,hb⟩;have HX1:=Lib.hid (HX0.out.below hb);clear hb HX0;obtain⟨p0,p1⟩:=HX1.out.cells;go_wp2_with fail
 clear p0 p1;refine(HRy.out _ HX1.out).mono ?_;rintro e z2 ⟨rfl,hb⟩;have HX2:=Lib.hid (HX1.out.below hb);clear hb HX1;cases g with
 |false=>
  go_wp2;go_ret;exact⟨rfl,HX2.out.bel⟩
 |true=>
 have hv:validP ps ws=true:=by have h:=hg.out;simp at h;exact h.2.symm ▸ rfl
 have hVF:=valid_facts hv;have hn10:n≤10:=by have:=hVF.n10;omega
 have hn30:n'≤30:=by have:=hVF.m30;omega
 clear hg HRy HAl;have hGv:=Lib.hid (fun z (K:PX w A A' n c n' c' ps ws z)=>given_any A A' n c n' c' ps ws none Ab 0 0 nb cb [] xs z hnm hv (by omega) hnb (fun x hx=>by simp at hx) (fun x hx=>by simp at hx) hxs K.rp K.rw_ ⟨by simp[mss],fun h=>absurd h (by omega)⟩ (HXd.out z K.bel));have hVFh:=Lib.hid hVF;have hvh:=Lib.hid hv;have hlh:=Lib.hid hl;obtain⟨p0,p1⟩:=HX2.out.cells;by_cases hn0:n=0
 ·have hz:((n:Int)==0)=true:=(by simp[hn0]);clear hGv;go_wp2;go_ret;exact⟨rfl,HX2.out.bel⟩
 have hz:((n:Int)==0)=false:=by simpa using hn0
 go_wp2_with fail
 clear p0 p1;refine(hGv.out _ HX2.out).mono ?_;rintro e z3 ⟨hg,hb⟩;rw[lack_nil] at hg;have HX3:=Lib.hid (HX2.out.below hb);rcases hg.zero with ⟨hnh,rfl⟩|⟨hh,A6,c6,F,rfl,hR6,hT,h0⟩
 ·clear hb hg hnh HX2 hGv;go_wp2;go_ret;exact⟨rfl,HX3.out.bel⟩
 ·have ht:hasT ps ws=true:=(hasT_iff hVF hl).2 hh;have HY3:=Lib.hid (show YX w A A' n c n' c' ps ws A6 F z3 from⟨HX3.out,hR6⟩);have hTh:=Lib.hid hT;have hFb:=Lib.hid (fun i (hi:i<n) k (k1:1≤k) (k6:k≤6)=>(by have a:=hTh.out.in_ i hi k k1 k6;have b:=hVFh.out.in_ i k;omega:0≤F i (1+k)∧F i (1+k)≤1000000));obtain⟨i,hi_⟩:∃i,i=wh%n:=⟨_,rfl⟩;have hin:i<n:=(by rw[hi_];exact Nat.mod_lt _ (by omega));have hrem:(wh:Int).tmod (n:Int)=(i:Int):=(by rw[hi_];exact Int.ofNat_tmod wh n);have hi0:(0:Int)≤(i:Int):=(by omega);have hi1:(i:Int)<(n:Int):=(by omega);have hYF:=yie_facts hVF hv hl ht hT hin;obtain⟨bp,op,I,D,P,T,hAe,hbp,hx,y0,y1,y2,y3⟩:=HX3.out.rp.pg hin;have hI_:idQ ps i=I:=(by unfold idQ;rw[hx]);rw[hI_] at hYF;have hYi:=Lib.hid (fun z (K:PX w A A' n c n' c' ps ws z)=>pYield_any A A' n c n' c' ps ws I z hnm K.rp K.rw_ K.laid);have hLe:=Lib.hid (fun N D z (K:PX w A A' n c n' c' ps ws z)=>pLess_any A A' n c n' c' ps ws I N D z hnm K.rp K.rw_ K.laid);obtain⟨b6,o6,hA6,hb6,hc6⟩:=hR6.wl hin;obtain⟨oil,hoil_⟩:∃x,x=F i 3:=⟨_,rfl⟩;have f3:z3.cell? ⟨b6,o6+i*8+3,none⟩=some (.int .i64 oil):=(by rw[hoil_];exact hc6 3 (by omega));obtain⟨p0,p1⟩:=HX3.out.cells;have hoil:=Lib.hid hoil_;have hbw:w.heap.size<z3.heap.size:=(Array.getElem?_eq_some_iff.1 HX3.out.b0).1;subst hAe hA6;clear hb hg hh HX2 hGv hVF hv hl ht hR6 hT h0 hi_ hc6 hoil_ hx hI_
  go_upto_region 9 with (fail)
  clear y0 y1 y2 y3 hrem;have HQw:=Lib.hid (fun w' (hz:Hid (Kp z3.heap.size [] z3 w'))=>(⟨(hz.out.cell (by simp only;omega) (by simp;try omega)).trans p0,(hz.out.cell (by simp only;omega) (by simp;try omega)).trans p1,(hz.out.cell (by simp only;omega) (by simp;try omega)).trans f3⟩:w'.cell? ⟨w.heap.size,0,none⟩=some (.slice (some ⟨bp,op,none⟩) n c)∧w'.cell? ⟨w.heap.size,1,none⟩=some (.slice A' n' c')∧w'.cell? ⟨b6,o6+i*8+3,none⟩=some (.int .i64 oil)));obtain⟨S,hSd⟩:∃S:World→Prop,S=fun w'=>(w'.cell? ⟨w.heap.size,0,none⟩=some (.slice (some ⟨bp,op,none⟩) n c)∧w'.cell? ⟨w.heap.size,1,none⟩=some (.slice A' n' c')∧w'.cell? ⟨b6,o6+i*8+3,none⟩=some (.int .i64 oil))∧Hid (Kp z3.heap.size [] z3 w'):=⟨_,rfl⟩
  have HS:=Lib.hid (fun w' (hz:Hid (Kp z3.heap.size [] z3 w'))=>(by rw[hSd];exact⟨HQw.out w' hz,hz⟩:S w'));clear HQw p0 p1 f3 HX3;refine wp_region_held_drew (S:=S) (by kernel_rfl) ?_ (fun hHeld=>?_)
  ·exact HS.out _ (Lib.hid (Kp.refl _ _ _).drew)
  have hKyd:Hid (Kp z3.heap.size [] z3 z3.drew):=Lib.hid (Kp.refl _ _ _).drew;have hSyd:z3.heap.size≤z3.drew.heap.size:=Nat.le_refl _;generalize z3.drew=yd at *;refine tY (v:=?_) 0 65 ?_ ?_;rotate_left
  ·intro w hSw;rw[hSd] at hSw;obtain⟨⟨q0,q1,q2⟩,-⟩:=hSw;go_simp;(try with_reducible rfl)
  (try simp only[N0]);refine tY (v:=?_) 1 66 ?_ ?_;rotate_left
  ·intro w hSw;rw[hSd] at hSw;obtain⟨⟨q0,q1,q2⟩,-⟩:=hSw;go_simp;(try with_reducible rfl)
  (try simp only[N0]);refine tY (v:=?_) 2 67 ?_ ?_;rotate_left
  ·intro w hSw;rw[hSd] at hSw;obtain⟨⟨q0,q1,q2⟩,-⟩:=hSw;go_simp;(try with_reducible rfl)
  (try simp only[N0]);refine tY (v:=?_) 4 69 ?_ ?_;rotate_left
  ·intro w hSw;rw[hSd] at hSw;obtain⟨⟨q0,q1,q2⟩,-⟩:=hSw;go_simp;(try with_reducible rfl)
  (try simp only[N0]);refine tY (v:=?_) 5 70 ?_ ?_;rotate_left
  ·intro w hSw;rw[hSd] at hSw;obtain⟨⟨q0,q1,q2⟩,-⟩:=hSw;go_simp;(try with_reducible rfl)
  (try simp only[N0]);refine tY (v:=?_) 6 71 ?_ ?_;rotate_left
  ·intro w hSw;rw[hSd] at hSw;obtain⟨⟨q0,q1,q2⟩,-⟩:=hSw;go_simp;(try with_reducible rfl)
  (try simp only[N0]);refine tY (v:=?_) 7 72 ?_ ?_;rotate_left
  ·intro w hSw;rw[hSd] at hSw;obtain⟨⟨q0,q1,q2⟩,-⟩:=hSw;go_simp;(try with_reducible rfl)
  (try simp only[N0]);refine tY (v:=?_) 8 73 ?_ ?_;rotate_left
  ·intro w hSw;rw[hSd] at hSw;obtain⟨⟨q0,q1,q2⟩,-⟩:=hSw;go_simp;(try with_reducible rfl)
  (try simp only[N0]);refine tY (v:=?_) 9 74 ?_ ?_;rotate_left
  ·intro w hSw;rw[hSd] at hSw;obtain⟨⟨q0,q1,q2⟩,-⟩:=hSw;go_simp;(try with_reducible rfl)
  (try simp only[N0]);refine wpAnyH_ready (rs:=[3]) (by kernel_rfl) (by simp) ?_;refine AllReadyH.cons (o:=_) rfl (fun Kq hK=>?_) AllReadyH.nil;go_simp;have HYd:=HY3.out.under (hKyd.out.below (B':=z3.heap.size) (Nat.le_refl _) (by simp));refine(into_any (some ⟨bp,op,none⟩) A' n c n' c' ps ws (some ⟨b6,o6,none⟩) c6 F i yd hnm hvh.out hin (fun k hk=>hFb.out k hk 6 (by omega) (by omega)) (hFb.out i hin 1 (by omega) (by omega)) HYd.rp HYd.rF).mono ?_;rintro e zc ⟨rfl,hb⟩;have hKzc:=Lib.hid (hKyd.out.call hSyd hb);have hSzc:=Nat.le_trans hSyd hb.size;clear hb HYd;(try go_simp);refine hK.out _ _ ?_ (fun hHeld=>?_)
  ·exact HS.out _ hKzc
  clear hK Kq;(try simp only[N0]);refine tY (v:=?_) 10 16 ?_ ?_;rotate_left
  ·intro w hSw;rw[hSd] at hSw;obtain⟨⟨q0,q1,q2⟩,-⟩:=hSw;go_simp;(try with_reducible rfl)
  (try simp only[N0]);refine tY (v:=?_) 11 17 ?_ ?_;rotate_left
  ·intro w hSw;rw[hSd] at hSw;obtain⟨⟨q0,q1,q2⟩,-⟩:=hSw;go_simp;(try with_reducible rfl)
  (try simp only[N0]);refine wpAnyH_done (by kernel_rfl) ?_ _;clear HS hSd;have HY4:=Lib.hid (HY3.out.under (hKzc.out.below (B':=z3.heap.size) (Nat.le_refl _) (by simp)));clear HY3;obtain⟨inn,hinn_⟩:∃x,x=inW (toT ps) F i i+F i 2:=⟨_,rfl⟩;rw[←hinn_] at hYF ⊢;rw[←hoil.out] at hYF;have hinb:0≤inn∧inn≤20000000:=by
   have a:=inW_bd (t:=toT ps) (i:=i) (F:=F) (fun k hk=>hFb.out k hk 6 (by omega) (by omega)) i (by omega);have b:=hFb.out i hin 1 (by omega) (by omega);simp only[Nat.reduceAdd] at b;omega
  have hob:=hFb.out i hin 2 (by omega) (by omega);rw[show F i (1+2)=F i 3 from rfl,←hoil.out] at hob;obtain⟨ib1,ib2⟩:=hinb;obtain⟨ob1,ob2⟩:=hob;have hYF:=Lib.hid hYF;clear hinn_ hoil;obtain⟨p0,p1⟩:=HY4.out.cells;(go_wp2_with fail);clear p0 p1;refine(hYi.out _ HY4.out.toPX).mono ?_;rintro e z5 ⟨rfl,hb⟩;obtain⟨ask,some_,den,les,lo_,hi_⟩:=hYF.out;obtain⟨er,her_⟩:∃x,x=yldE ps ws I:=⟨_,rfl⟩;obtain⟨⟨a1,a2⟩,hA_⟩:∃x,x=yldA ps ws I:=⟨_,rfl⟩;obtain⟨⟨c1,c2⟩,hB_⟩:∃x,x=yldB ps ws I:=⟨_,rfl⟩;rw[←her_] at ask some_ den lo_ hi_ ⊢;rw[←hA_] at some_ den lo_ ⊢;rw[←hB_] at some_ den hi_ ⊢;clear her_ hA_ hB_ hYF hYi;simp only at some_ den lo_ hi_;have hask:=Lib.hid ask;have hsome:=Lib.hid some_;have hden:=Lib.hid den;have hles:=Lib.hid les;have hlo:=Lib.hid lo_;have hhi:=Lib.hid hi_;clear ask some_ den les lo_ hi_;obtain⟨z6,hz6_⟩:∃y,y=(z5.alloc (.cells #[.int .i64 a1,.int .i64 a2] 68)).alloc (.cells #[.int .i64 c1,.int .i64 c2] 68):=⟨_,rfl⟩;obtain⟨ab,hab_⟩:∃q,q=z5.heap.size:=⟨_,rfl⟩;have hb6':Below z5.heap.size z5 z6:=(by rw[hz6_];exact((Below.refl _ _).alloc (Nat.le_refl _) _).alloc (by simp) _);have hOa:z6.heap[ab]? = some (.cells #[.int .i64 a1,.int .i64 a2] 68 (0,0)):=(by rw[hz6_,hab_,heap_lt_alloc' _ _ _ (by simp)];exact heap_alloc_new _ _);have hOb:z6.heap[ab+1]? = some (.cells #[.int .i64 c1,.int .i64 c2] 68 (0,0)):=by rw[hz6_,hab_];have:=heap_alloc_new (z5.alloc (.cells #[.int .i64 a1,.int .i64 a2] 68)) (.cells #[.int .i64 c1,.int .i64 c2] 68);simpa using this
  have HY6:=Lib.hid ((HY4.out.under hb).under hb6');have hOah:=Lib.hid hOa;have hObh:=Lib.hid hOb;have hz6:=Lib.hid hz6_;have hab:=Lib.hid hab_;clear hb hb6' hz6_ hab_ hOa hOb HY4
  go_upto_if 83 with (fail)
  rw[←hz6.out,←hab.out];clear hz6 hab;obtain⟨u0,u1,-,-⟩:=two_facts hOah.out;obtain⟨v0,v1,-,-⟩:=two_facts hObh.out
  go_cut [] from 82 to 157 (fun wx=>∃wl,wl=wx∧Hid (wl=z6))
  case first=>
   by_cases hp:0<inn
   ·obtain⟨h1,h2,h3⟩:=hsome.out (by omega);obtain⟨⟨g1,g2,g3,g4⟩,⟨k1,k2,k3,k4⟩⟩:=hden.out h1;have d0:(er != 0)=false:=(by simp[h1]);have dp:decide (inn > 0)=true:=(by simpa using hp);have d1:decide (a2<1)=false:=(by simp;omega);have d2:decide (a1<0)=false:=(by simp;omega);have d3:decide (a1 > a2)=false:=(by simp;omega);have d4:decide (c2<1)=false:=(by simp;omega);have d5:decide (c1<0)=false:=(by simp;omega);have d6:decide (c1 > c2)=false:=(by simp;omega);have d7:decide (a2 > 20000000)=false:=(by simp;omega);have d8:decide (c2 > 20000000)=false:=(by simp;omega);have m1:=mul_in ob1 ob2 (show 0≤a2 by omega) g4;have m2:=mul_in ib1 ib2 (show 0≤a1 by omega) (show a1≤20000000 by omega);have m3:=mul_in ob1 ob2 (show 0≤c2 by omega) k4;have m4:=mul_in ib1 ib2 (show 0≤c1 by omega) (show c1≤20000000 by omega);have w1:IntKind.i64.wrap (oil*a2)=oil*a2:=IntWalk.i64_in _ (by omega);have w2:IntKind.i64.wrap (inn*a1)=inn*a1:=IntWalk.i64_in _ (by omega);have w3:IntKind.i64.wrap (oil*c2)=oil*c2:=IntWalk.i64_in _ (by omega);have w4:IntKind.i64.wrap (inn*c1)=inn*c1:=IntWalk.i64_in _ (by omega);have d9:decide (oil*a2<inn*a1)=false:=(by simp;omega);have d10:decide (oil*c2 > inn*c1)=false:=(by simp;omega);clear h1 h2 h3 g1 g2 g3 g4 k1 k2 k3 k4 m1 m2 m3 m4 ib1 ib2 ob1 ob2;go_wp2;go_meet;exact⟨_,rfl,Lib.hid rfl⟩
   ·have dp:decide (inn > 0)=false:=(by simp;omega);rcases hask.out with h1|h1
    ·have d0:(er != 0)=false:=(by simp[h1]);clear h1;go_wp2;go_meet;exact⟨_,rfl,Lib.hid rfl⟩
    ·have d0:(er != 0)=true:=(by simp[h1]);have d1:(er != 6)=false:=(by simp[h1]);clear h1;go_wp2;go_meet;exact⟨_,rfl,Lib.hid rfl⟩
  case rest=>
   obtain⟨wl,rfl,hwl⟩:=‹∃wl,wl=_∧_›;obtain rfl:=hwl.out;clear hwl u0 u1 v0 v1;obtain⟨D,hD⟩:∃D:Int,1+(dn:Int)%1000=D:=⟨_,rfl⟩;obtain⟨N,hN⟩:∃N:Int,(nu:Int)%(D+1)=N:=⟨_,rfl⟩;have hDb:1≤D∧D≤1000:=(by omega);have hNb:0≤N∧N≤D:=by
    have h1:=Int.emod_nonneg (nu:Int) (show D+1≠0 by omega);have h2:=Int.emod_lt_of_pos (nu:Int) (show 0<D+1 by omega);omega
   obtain⟨Db1,Db2⟩:=hDb;obtain⟨Nb1,Nb2⟩:=hNb;have wD1:IntKind.i64.wrap D=D:=IntWalk.i64_in _ (by omega);have wD2:IntKind.i64.wrap (D+1)=D+1:=IntWalk.i64_in _ (by omega);obtain⟨z7,hz7_⟩:∃y,y=wl.alloc (.cells #[.int .i64 0,.int .i64 D] 68):=⟨_,rfl⟩;obtain⟨qb,hqb_⟩:∃q,q=wl.heap.size:=⟨_,rfl⟩;have hB7:Below wl.heap.size wl z7:=(by rw[hz7_];exact(Below.refl _ _).alloc (Nat.le_refl _) _);have hO7:z7.heap[qb]? = some (.cells #[.int .i64 0,.int .i64 D] 68 (0,0)):=(by rw[hz7_,hqb_];exact heap_alloc_new _ _);have hz7:=Lib.hid hz7_;have hqb:=Lib.hid hqb_;have hqbl:wl.heap.size≤qb:=(by omega);clear hz7_ hqb_
   go_upto_region 17 with (fail)
   rw[←hz7.out,←hqb.out];clear hz7 hqb;obtain⟨s0,s1,t0,t1⟩:=two_facts hO7;obtain⟨z8,hz8_⟩:∃y,y=z7.setCell ⟨qb,0,none⟩ (.int .i64 N):=⟨_,rfl⟩;have hB8:Below wl.heap.size wl z8:=(by rw[hz8_];exact hB7.setCell (p:=⟨qb,0,none⟩) hqbl _);have hO8:z8.heap[qb]? = some (.cells #[.int .i64 N,.int .i64 D] 68 (0,0)):=(by rw[hz8_];exact set_first z7 qb _ _ _ _ hO7);have HY8:=Lib.hid (HY6.out.under hB8);have hOa8:=Lib.hid (keepO hB8 hOah.out);have hOb8:=Lib.hid (keepO hB8 hObh.out);have hO8h:=Lib.hid hO8;have hz8:=Lib.hid hz8_;clear hz8_ hB8 hB7 HY6 hOah hObh
   go_upto_region 18 with (fail)
   rw[←hz8.out];clear hz8 s0 s1 t0 t1 hO7 hO8 hD hN wD1 wD2;obtain⟨hE,hK,hK2,hK0⟩:=hles.out N D Nb1 Nb2 Db1 Db2;have hLq:=hLe.out N D;obtain⟨K,hK_⟩:∃x,x=lesK ps ws I N D:=⟨_,rfl⟩;rw[hE,←hK_] at hLq;rw[←hK_] at hK hK2 hK0;have hLq:=Lib.hid hLq;have hKh:=Lib.hid hK;have hK2h:=Lib.hid hK2;have hK0h:=Lib.hid hK0;clear hK_ hE hK hK2 hK0;obtain⟨p0,p1⟩:=HY8.out.cells;obtain⟨s0,s1,-,-⟩:=two_facts hO8h.out;(go_wp2_with fail);clear p0 p1 s0 s1;refine(hLq.out _ HY8.out.toPX).mono ?_;rintro e z9 ⟨rfl,hb⟩;have HY9:=Lib.hid (HY8.out.under hb);have hOa9:=Lib.hid (keepO hb hOa8.out);have hOb9:=Lib.hid (keepO hb hOb8.out);have hO9:=keepO hb hO8h.out;obtain⟨s0,s1,-,-⟩:=two_facts hO9;have m1:=mul_in ob1 ob2 (show 0≤D by omega) Db2;have m2:=mul_in ib1 ib2 Nb1 (show N≤1000 by omega);have w1:IntKind.i64.wrap (oil*D)=oil*D:=IntWalk.i64_in _ (by omega);have w2:IntKind.i64.wrap (inn*N)=inn*N:=IntWalk.i64_in _ (by omega);clear hb hOa8 hOb8 hO9 HY8 hO8h hLq m1 m2
   go_upto_region 20 with (fail)
   go_cut [22,24,206] from 185 to 205 (fun _ _ s206 wx=>∃wl,wl=wx∧s206 = .bool false∧Hid (wl=z9))
   case first=>
    rcases hKh.out with h|h|h
    ·have hn:=hK0h.out h;have dl:decide (oil*D<inn*N)=false:=(by simpa using hn);subst h;clear hn;go_wp2;go_meet;exact⟨_,rfl,rfl,Lib.hid rfl⟩
    ·subst h;go_wp2
     all_goals (go_meet;exact⟨_,rfl,rfl,Lib.hid rfl⟩)
    ·have hn:=hK2h.out h;have dl:decide (oil*D<inn*N)=true:=(by simpa using hn);subst h;clear hn;go_wp2;go_meet;exact⟨_,rfl,rfl,Lib.hid rfl⟩
   case rest=>
    obtain⟨wl9,rfl,rfl,hwl⟩:=‹∃wl,wl=_∧_›;obtain rfl:=hwl.out;clear hwl w1 w2 s0 s1 hKh hK0h hK2h;obtain⟨u0,u1,-,-⟩:=two_facts hOa9.out;obtain⟨v0,v1,-,-⟩:=two_facts hOb9.out;by_cases h0:er=0
    ·by_cases hA:a2≤1000
     ·by_cases hB:c2≤1000
      ·obtain⟨eA,kA⟩:=hlo.out h0 hA;obtain⟨eB,kB⟩:=hhi.out h0 hB;have hL1:=hLe.out a1 a2;have hL2:=hLe.out c1 c2;rw[eA,kA] at hL1;rw[eB] at hL2;obtain⟨KB,hKB_⟩:∃x,x=lesK ps ws I c1 c2:=⟨_,rfl⟩;rw[←hKB_] at hL2 kB;have hL1:=Lib.hid hL1;have hL2:=Lib.hid hL2;have d0:(er==0)=true:=(by simpa using h0);have d1:decide (a2≤1000)=true:=(by simpa using hA);have d2:decide (c2≤1000)=true:=(by simpa using hB);have d3:(KB==2)=false:=(by simpa using kB);obtain⟨p0,p1⟩:=HY9.out.cells;clear eA kA eB hKB_ h0 hA hB kB;(go_wp2_with fail);clear p0 p1 u0 u1 v0 v1 d0 d1 d2;refine(hL1.out _ HY9.out.toPX).mono ?_;rintro e y1 ⟨rfl,hb⟩;have HYa:=Lib.hid (HY9.out.under hb);obtain⟨v0,v1,-,-⟩:=two_facts (keepO hb hOb9.out);obtain⟨p0,p1⟩:=HYa.out.cells;clear hb;(go_wp2_with fail);clear p0 p1 v0 v1;refine(hL2.out _ HYa.out.toPX).mono ?_;rintro e y2 ⟨rfl,hb⟩;have HYb:=Lib.hid (HYa.out.under hb);clear hb;go_wp2;go_ret;exact⟨rfl,HYb.out.bel⟩
      ·have d0:(er==0)=true:=(by simpa using h0);have d1:decide (a2≤1000)=true:=(by simpa using hA);have d2:decide (c2≤1000)=false:=(by simpa using hB);clear h0 hA hB;go_wp2;go_ret;exact⟨rfl,HY9.out.bel⟩
     ·have d0:(er==0)=true:=(by simpa using h0);have d1:decide (a2≤1000)=false:=(by simpa using hA);clear h0 hA;go_wp2;go_ret;exact⟨rfl,HY9.out.bel⟩
    ·have d0:(er==0)=false:=(by simpa using h0);clear h0;go_wp2;go_ret;exact⟨rfl,HY9.out.bel⟩
end Go.Proofs.YtfplipbkjglmhaaDoor

namespace Go.Proofs.YtfplipbkjglmhaaDoor.pressYield
open Go.ChangeShapes Go.WideShapes Go.ChangeAt Go.RowKit Go.Joins
set_option linter.unusedVariables false
theorem laidOut:laidOutB Tryd.prog=true:=by kernel_rfl
/-- A list of choices is opened. -/
def u32c (x:{ x:Nat // x≤4294967295 }):List Value:=[.int .u32 (x.1:Int)]
theorem cU32:Tryd.prog.cellsOf 79=1:=by kernel_rfl
section
variable {H:Type} {enc:TypeId×Value→H} {w:World} {base:Nat} {spare:Nat→Bool} {held:Bool}
theorem dec_u32(n:Nat)(cs:List Value)(y:DataW H×List MemPlace)(hl:cs.length=1)(h:DataW.trod enc Tryd.prog w base spare held n 79 cs=some y):∃x:{ x:Nat // x≤4294967295 },cs=u32c x:=by
 match cs,hl with
 |[v0],_=>
  obtain⟨z,e,_,hw⟩:=DataW.trod_int Tryd.underlying79 h;simp only[List.cons.injEq,and_true] at e;simp only[Lit.wf,Bool.and_eq_true,decide_eq_true_eq,show IntKind.u32.min=0 by decide,show IntKind.u32.max=4294967295 by decide] at hw;refine⟨⟨z.toNat,by omega⟩,?_⟩;rw[e];unfold u32c;rw[show ((z.toNat:Nat):Int)=z by omega]
end
theorem u32_reads{w:World}{B n:Nat}{A:Option Addr}{l:List { x:Nat // x≤4294967295 }}(h:Reads w B 1 A n (l.flatMap u32c)):Reads w B 1 A n (usV (l.map (·.1)))∧∀x∈l.map (·.1),x≤4294967295:=by
 have e:l.flatMap u32c=usV (l.map (·.1)):=by
  unfold usV;clear h
  induction l with
  |nil=>rfl
  |cons y r ih=>rw[List.flatMap_cons,ih];rfl
 rw[←e];exact⟨h,fun x hx=>by obtain⟨y,-,rfl⟩:=List.mem_map.1 hx;exact y.2⟩
set_option maxRecDepth 100000 in
theorem lifted(os:Os)(started:os.Started)(H:Type)(enc:TypeId×Value→H) :
  ReturnsInHanded {} Tryd.checked os 6 .any (fun w args=>(Rows.pressYieldSpec.pre enc Tryd.prog Tryd.f6 [] false w args∧laidMetH Tryd.prog laidList w)∧sizedMet enc Tryd.prog Tryd.f6 (OpenSpec.ofChange Rows.pressYieldSpec) false w args)
   (Rows.pressYieldSpec.post enc Tryd.prog Tryd.f6 false true false false):=by
 refine returnsInHanded_of_change_and (C:=Tryd.checked) (X:=fun w _=>laidMetH Tryd.prog laidList w) (fun _ _ _ hh h=>h.of_heap hh) own started (by kernel_rfl) Tryd.func6
  (ChangeSpec.witness_shaped (enc:=enc) (C:=Tryd.checked) (os:=os) (X:=fun w _=>laidMetH Tryd.prog laidList w) false (World.doorLaid Tryd.prog 25 os) #[.agg #[.slice none 0 0,.slice none 0 0],.slice none 0 0,.int .u8 0,.int .u16 0,.int .u16 0] 8 rfl (World.shaped_of_RefB (by kernel_rfl) (by kernel_rfl)) (by kernel_rfl) (by kernel_rfl) (by kernel_rfl) (door_met os _)) ?_
 intro W base args ds gs before hval0 hW _ _ hL _;have hval:∀(j:Nat) t v,Tryd.f6.params[j]? = some t→args[j]? = some v→Value.okWide Tryd.prog W .any base t v:=hval0;have hW':=hW;have hblk:∀x∈before,x.block<W.heap.size:=fun x hx=>hW.lt x hx;obtain⟨p,q,hA0,hV,rfl,hfz,hnd⟩:=hW;have hA:DataW.TrodAll enc Tryd.prog W 0 (fun _=>true) true Tryd.f6.params.toList args.toList ds p:=hA0;have hA':=hA;have hP:=Tryd.params6;rw[Tryd.params6] at hA hval hA';obtain⟨v0,vs0,d0,ds0,p0,q0,hargs,rfl,rfl,h0,r0⟩:=trodAll_cons hA;obtain⟨v1,vs1,d1,ds1,p1,q1,rfl,rfl,rfl,h1,r1⟩:=trodAll_cons r0;obtain⟨v2,vs2,d2,ds2,p2,q2,rfl,rfl,rfl,h2,r2⟩:=trodAll_cons r1;obtain⟨v3,vs3,d3,ds3,p3,q3,rfl,rfl,rfl,h3,r3⟩:=trodAll_cons r2;obtain⟨v4,vs4,d4,ds4,p4,q4,rfl,rfl,rfl,h4,r4⟩:=trodAll_cons r3;obtain⟨rfl,rfl,rfl⟩:=trodAll_nil r4;obtain rfl:args = #[v0,v1,v2,v3,v4]:=by cases args;simp_all
 obtain⟨rfl,rfl⟩:=trodVars_none hV;simp only[List.append_nil] at hW' hblk;obtain⟨c00,c01,y00,y01,m0,rfl,-,-,g00,g01⟩:=open_agg2 Tryd.underlying25 (by kernel_rfl) (by kernel_rfl) (hval 0 25 v0 rfl rfl) h0;obtain⟨A,n,c,ps,rfl,hnc,hcm0,-,hRp⟩:=open_recs (f:=pgc) (fun _=>rfl) (by omega) Tryd.underlying22 cPg (fun k cs y hl h=>dec_pg k cs y hl h) g00;obtain⟨A',n',c',ws,rfl,hnc',hcm',hnil,hRw⟩:=open_recs (f:=wgc) (fun _=>rfl) (by omega) Tryd.underlying23 cWg (fun k cs y hl h=>dec_wg k cs y hl h) g01;obtain⟨f1,hf1⟩:=h1;obtain⟨a1_,n1_,c1_,rfl⟩:=okWide_slice Tryd.underlying26 (hval 1 26 v1 rfl rfl);obtain⟨A1,n1,c1,l1,e1,hnc1,hcm1,-,hR1⟩:=open_recs (m:=1) (f:=u32c) (fun _=>rfl) (by omega) Tryd.underlying26 cU32 (fun k cs y hl h=>dec_u32 k cs y hl h) (by simpa [Value.cells] using hf1);rw[e1] at hA' hW' ⊢;obtain⟨hRu1,hub1⟩:=u32_reads hR1;obtain⟨x2_,rfl,rfl,rfl,hw2⟩:=open_int Tryd.underlying5 (hval 2 5 v2 rfl rfl) h2;obtain⟨x2,rfl,hx2⟩:∃m:Nat,x2_=m∧m≤255:=by
  have h:=hw2;simp only[Lit.wf,Bool.and_eq_true,decide_eq_true_eq,show IntKind.u8.min=0 by decide,show IntKind.u8.max=255 by decide] at h;exact⟨x2_.toNat,by omega,by omega⟩
 obtain⟨x3_,rfl,rfl,rfl,hw3⟩:=open_int Tryd.underlying45 (hval 3 45 v3 rfl rfl) h3;obtain⟨x3,rfl,hx3⟩:∃m:Nat,x3_=m∧m≤65535:=by
  have h:=hw3;simp only[Lit.wf,Bool.and_eq_true,decide_eq_true_eq,show IntKind.u16.min=0 by decide,show IntKind.u16.max=65535 by decide] at h;exact⟨x3_.toNat,by omega,by omega⟩
 obtain⟨x4_,rfl,rfl,rfl,hw4⟩:=open_int Tryd.underlying45 (hval 4 45 v4 rfl rfl) h4;obtain⟨x4,rfl,hx4⟩:∃m:Nat,x4_=m∧m≤65535:=by
  have h:=hw4;simp only[Lit.wf,Bool.and_eq_true,decide_eq_true_eq,show IntKind.u16.min=0 by decide,show IntKind.u16.max=65535 by decide] at h;exact⟨x4_.toNat,by omega,by omega⟩
 clear hA0 hval0;refine(law_yield A A' n c n' c' ps ws A1 n1 c1 (l1.map (·.1)) x2 x3 x4 W (by omega) hub1 hx2 hx3 hx4 (by omega) (by omega) hRp hRw hRu1 (laid_of hL)).mono fun e W' ⟨he,hb⟩=>?_;subst he;refine⟨_,rfl,post_below (ds:=[_,_,_,_,_]) (gs:=[]) (pa:=p0++(p1++([]++([]++([]++([])))))) (pv:=[]) (by simpa using hW') (fun _ _ _=>(trodAll_cons_mk (shut_bool Tryd.underlying4 _) trodAll_mk0)) (fun sp hsp=>?_) (fun _ _=>rfl) (by simp) hb (ok_one (by kernel_rfl) rfl (okWide_bool_mk Tryd.underlying4 _))⟩;rw[hP];refine trodAll_stays laidOut ?_ hA' (fun x hx=>hb.same (hblk x (by simpa using hx))) (fun x hx=>hsp x (by simpa using hx));intro t ht;have hall:([25,26,5,45,45].all fun u=>Tryd.prog.readableRec u && decide (u<Tryd.prog.types.size))=true:=by kernel_rfl
 have:=List.all_eq_true.1 hall t (by simpa using ht);simpa using this
theorem over:Rows.PressYieldSaid:=
 OpenClaim.holds_of_wide 6 Tryd.f6 rfl rfl rfl rfl rfl rfl rfl ⟨rfl,rfl,rfl,rfl,rfl⟩ rfl rfl rfl rfl rfl (by kernel_rfl) Tryd.func6 (by kernel_rfl)
  (of_decide_eq_true (by kernel_rfl)) (by unfold Func.isWrapper;first|(rw[if_pos (by decide +kernel)];kernel_rfl)|(rw[if_neg (by decide +kernel)];exact⟨rfl,rfl⟩))
  (fun os started H enc _=>lifted os started H enc)
/-- The tied card. -/
theorem proved:Rows.PressYieldCardSaid:=
 Claim7.holds_tied_plain_at .later [] [.funcs] true (true, "3cbcdd9f0d995b805788fb1a66c61468378cabb8fb1e0a1aebf8d521baf47642") false
  over (fun _ h=>by cases h) (by kernel_rfl) (fun _ h=>by cases h) pressYield_row_tie rfl ⟨rfl,rfl⟩ (by kernel_rfl) rfl
  (fun f fn hf hfn=>by
   obtain rfl:f=6:=Option.some.inj ((show Tryd.prog.funcNamed "oilcake/oilcakelaw02.PressYield" = some 6 by kernel_rfl).symm.trans hf) |>.symm
   obtain rfl:fn=Tryd.f6:=(Option.some.inj (Tryd.func6.symm.trans hfn)).symm;exact⟨by kernel_rfl,fun j t ht=>by
    rw[Tryd.params6] at ht;have hm:t∈[25,26,5,45,45]:=(by simpa using Array.mem_of_getElem? ht);have hall:([25,26,5,45,45].all fun u=>!Tryd.prog.wantsStandIn u)=true:=by kernel_rfl
    exact(show Tryd.prog.wantsStandIn t=false by simpa using List.all_eq_true.1 hall t hm)⟩)
  (by kernel_rfl)
#print axioms proved
end Go.Proofs.YtfplipbkjglmhaaDoor.pressYield
