/-
 PressTruth, the tied card: for every press and choices the law returns true, and its arguments read as before. The package's table of checks is laid as the program's text lays it (the given ties).
-/
import Derived.Test.YtfplipbkjglmhaaDoorTrB
import Derived.Test.YtfplipbkjglmhaaDoorAliv
import Derived.Test.YtfplipbkjglmhaaDoorAsk
import Derived.Test.YtfplipbkjglmhaaDoorFir
import Derived.Test.YtfplipbkjglmhaaDoorPAll
import Derived.Test.YtfplipbkjglmhaaDoorPLaid
import Derived.Test.YtfplipbkjglmhaaDoorCards
import Derived.Test.YtfplipbkjglmhaaDoorTie
import Derived.SevenTiedAt
namespace Go.Proofs.YtfplipbkjglmhaaDoor
open Go.RowKit
set_option linter.unusedVariables false
set_option linter.unusedSimpArgs false
set_option maxRecDepth 100000 in
set_option maxHeartbeats 16000000 in
theorem law_truth(A A':Option Addr)(n c n' c':Nat)(ps:List PR)(ws:List WE)(Ab:Option Addr)(nb cb:Nat)(xs:List Nat)(w:World)(hnb:nb≤maxLen)(hxs:∀x∈xs,x≤4294967295)(hnm:n≤maxLen)(hnm':n'≤maxLen)
  (hR:Reads w w.heap.size 4 A n (pgs ps)) (hW:Reads w w.heap.size 5 A' n' (wgs ws)) (hX:Reads w w.heap.size 1 Ab nb (usV xs)) (hL:Laid w) :
  Calls Tryd.prog 10 #[.agg #[.slice A n c,.slice A' n' c'],.slice Ab nb cb] w fun e w'=>e = .returned (.bool true)∧Below w.heap.size w w':=by
 have hl:ps.length=n:=hR.pg_len;have hl':ws.length=n':=hW.wg_len;have HX0:=Lib.hid (PX.start (c:=c) (c':=c') hR hW hL);have HAl:=Lib.hid (fun z (K:PX w A A' n c n' c' ps ws z)=>alive_any z K.laid);have HRy:=Lib.hid (fun z (K:PX w A A' n c n' c' ps ws z)=>ready_any A A' n c n' c' ps ws z hnm hnm' K.rp K.rw_);have HXd:=Lib.hid (fun z (hz:Below w.heap.size w z)=>(hX.below hz).more hz.size);clear hX;clear hR hW hL;obtain⟨g,hg_⟩:∃g,g=(!(decide (20<n) || decide (50<n')) && validP ps ws):=⟨_,rfl⟩;rw[←hg_] at HRy;have hg:=Lib.hid hg_;clear hg_
 go_enter Tryd.func10,Tryd.ntmps10
 go_wp2_with fail
 refine(HAl.out _ HX0.out).mono ?_;rintro e z1 ⟨rfl,hb⟩;have HX1:=Lib.hid (HX0.out.below hb);clear hb HX0;obtain⟨p0,p1⟩:=HX1.out.cells;go_wp2_with fail
 clear p0 p1;refine(HRy.out _ HX1.out).mono ?_;rintro e z2 ⟨rfl,hb⟩;have HX2:=Lib.hid (HX1.out.below hb);clear hb HX1;cases g with
 |false=>
  go_wp2;go_ret;exact⟨rfl,HX2.out.bel⟩
 |true=>
 have hv:validP ps ws=true:=by have h:=hg.out;simp at h;exact h.2.symm ▸ rfl
 have hVF:=valid_facts hv;have hn10:n≤10:=by have:=hVF.n10;omega
 have hn30:n'≤30:=by have:=hVF.m30;omega
 clear hg HRy HAl;have hGv:=Lib.hid (fun z (K:PX w A A' n c n' c' ps ws z)=>given_any A A' n c n' c' ps ws none Ab 0 0 nb cb [] xs z hnm hv (by omega) hnb (fun x hx=>by simp at hx) (fun x hx=>by simp at hx) hxs K.rp K.rw_ ⟨by simp[mss],fun h=>absurd h (by omega)⟩ (HXd.out z K.bel));have hHo:=Lib.hid (fun z (K:PX w A A' n c n' c' ps ws z)=>pHolds_any A A' n c n' c' ps ws z K.rp K.rw_ K.laid);have hFi:=Lib.hid (fun z (K:PX w A A' n c n' c' ps ws z)=>pFirst_any A A' n c n' c' ps ws z hnm K.rp K.rw_ K.laid);rw[check_ok0 hv,hv] at hHo;have hVFh:=Lib.hid hVF;have hvh:=Lib.hid hv;have hlh:=Lib.hid hl;obtain⟨p0,p1⟩:=HX2.out.cells;go_wp2_with fail
 clear p0 p1;refine(hGv.out _ HX2.out).mono ?_;rintro e z3 ⟨hg,hb⟩;rw[lack_nil] at hg;have HX3:=Lib.hid (HX2.out.below hb);rcases hg.zero with ⟨hnh,rfl⟩|⟨hh,A6,c6,F,rfl,hR6,hT,h0⟩
 ·have ht:hasT ps ws=false:=by
   cases h:hasT ps ws with
   |false=>rfl
   |true=>exact absurd ((hasT_iff hVF hl).1 h) hnh
  obtain⟨fs,fe⟩:=firS_no hv ht;rw[ht] at hHo;rw[fs,fe] at hFi;clear hb hg hnh HX2 hGv hVF hv hl ht fs fe;obtain⟨p0,p1⟩:=HX3.out.cells;(go_wp2_with fail);clear p0 p1;refine(hHo.out _ HX3.out).mono ?_;rintro e z4 ⟨rfl,hb⟩;have HX4:=Lib.hid (HX3.out.below hb);clear hb HX3;obtain⟨p0,p1⟩:=HX4.out.cells;(go_wp2_with fail);clear p0 p1;refine(hFi.out _ HX4.out).mono ?_;rintro e z5 ⟨⟨A7,m7,c7,rfl,how⟩,hb⟩;have HX5:=Lib.hid (HX4.out.below hb);obtain rfl:m7=0:=(by have h:=how.1;simp[wds] at h;omega);clear how hb HX4;go_wp2;go_ret;exact⟨rfl,HX5.out.bel⟩
 ·have ht:hasT ps ws=true:=(hasT_iff hVF hl).2 hh;obtain⟨fs,fe⟩:=firS_wdl hv hl ht;rw[ht] at hHo;rw[fs,fe] at hFi;have hVa:=val_wdl hv hl hT h0;have hVl:=Lib.hid (fun A6 c6 z (K:PX w A A' n c n' c' ps ws z) (hF:Reads z z.heap.size 8 A6 n (wds (wdl F n)))=>pValid_any A A' A6 n c n' c' n c6 ps ws (wdl F n) z K.rp K.rw_ hF (by omega) K.laid);rw[hVa,check_ok0 hv] at hVl;have HR3:=Lib.hid hR6;have hTh:=Lib.hid hT;have h0h:=Lib.hid h0;have hth:=Lib.hid ht;obtain⟨G,hG_⟩:∃G,G=firF ps ws n:=⟨_,rfl⟩;rw[←hG_] at hFi;have hG:=Lib.hid hG_;have hFb:=Lib.hid (fun i (hi:i<n) k (k1:1≤k) (k6:k≤6)=>(by have a:=hTh.out.in_ i hi k k1 k6;have b:=hVFh.out.in_ i k;omega:0≤F i (1+k)∧F i (1+k)≤1000000));have hFw:Hid (Fwd n (toT ps)):=(by have h:=hVF.fwd;rw[hl] at h;exact Lib.hid h);have hIR:=Lib.hid (rows_InR hVF n);clear hb hg hh HX2 hGv hVF hv hl ht fs fe hVa hR6 hT h0 hG_;obtain⟨p0,p1⟩:=HX3.out.cells;(go_wp2_with fail);clear p0 p1;refine(hHo.out _ HX3.out).mono ?_;rintro e z4 ⟨rfl,hb⟩;have HX4:=Lib.hid (HX3.out.below hb);have HR4:=Lib.hid ((HR3.out.below hb).more hb.size);clear hb HX3 HR3;obtain⟨p0,p1⟩:=HX4.out.cells;(go_wp2_with fail);clear p0 p1;refine(hFi.out _ HX4.out).mono ?_;rintro e z5 ⟨⟨A7,m7,c7,rfl,how⟩,hb⟩;have hrd:=Reads.of_own how;obtain rfl:n=m7:=(by have h:=wds_len hrd;simpa [wdl] using h);have HT5:=Lib.hid (show TX w A A' n c n' c' ps ws A6 A7 F G z5 from⟨HX4.out.below hb,(HR4.out.below hb).more hb.size,hrd.more (Nat.le_refl _)⟩);clear how hb HX4 HR4 hrd hHo hFi;obtain⟨p0,p1⟩:=HT5.out.cells
  (go_wp2_with fail);clear p0 p1;refine(hVl.out A6 c6 _ HT5.out.toPX HT5.out.rF).mono ?_;rintro e z6 ⟨rfl,hb⟩;have HT6:=Lib.hid (HT5.out.under hb);clear hb HT5 hVl;have hIn:=Lib.hid (fun i (hi:i<n) z (K:PX w A A' n c n' c' ps ws z)=>pIn_any A A' n c n' c' ps ws (idQ ps i) z hnm K.rp K.rw_ K.laid);have hSp:=Lib.hid (fun i (hi:i<n) (k:Nat) z (K:PX w A A' n c n' c' ps ws z)=>pSpan_any A A' n c n' c' ps ws (idQ ps i) k z hnm K.rp K.rw_ K.laid);have hAl:=Lib.hid (fun(k:Nat) z (K:PX w A A' n c n' c' ps ws z)=>pAll_any A A' n c n' c' ps ws k z hnm K.rp K.rw_ K.laid);obtain⟨p0,p1⟩:=HT6.out.cells;(go_wp2_with fail);clear p0 p1;have hQ0:=Lib.hid (fun _ a b (h:a<0) (_:b<6)=>absurd h (by omega):true=true→∀a b,a<0→b<6→valF n (toT ps) (rowsT ps ws) a b=F a (2+b));go_loopw [14,100] (fun v u wr=>∃wl,wl=wr∧∃(i:Nat) (bf:Bool),i≤n∧v = .bool bf∧u = .int .i64 i∧Hid (TX w A A' n c n' c' ps ws A6 A7 F G wl)∧Hid (bf=true→∀a b,a<i→b<6→valF n (toT ps) (rowsT ps ws) a b=F a (2+b))) (fun _ u _=>n - (intOf u).toNat)
  case atStart=>exact⟨_,rfl,0,true,Nat.zero_le _,rfl,rfl,HT6,hQ0⟩
  case round=>
   clear HT6 hQ0;obtain⟨wq,rfl,i,bf,hi_,rfl,rfl,HTq,hQ⟩:=hrel;obtain⟨p0,p1⟩:=HTq.out.cells;by_cases hin:i<n
   ·have hii:(i:Int)<(n:Int):=(by omega);have hi0:(0:Int)≤(i:Int):=(by omega);obtain⟨bp,op,I,D,P,T,hAe,hbp,hx,y0,y1,y2,y3⟩:=HTq.out.rp.pg hin;have hI_:idQ ps i=I:=(by unfold idQ;rw[hx]);have hI:=Lib.hid hI_;obtain⟨e1,e2⟩:=inE_t hVFh.out hvh.out hlh.out hth.out hin;have hInI:=hIn.out i hin;rw[e1,e2,hI_] at hInI;have hSpI:=Lib.hid (hSp.out i hin);rw[hI_] at hSpI;obtain⟨s,hs_⟩:∃s,s=insideP (toT ps) (rowsT ps ws) n i:=⟨_,rfl⟩;rw[←hs_] at hInI;have hs:=Lib.hid hs_;have hInI:=Lib.hid hInI;clear hs_ hI_ e1 e2;obtain⟨wk,hw1_⟩:∃y,y=wq.alloc (.cells #[.int .i64 I,.int .i64 D,.int .i64 P,.int .i64 T] 51):=⟨_,rfl⟩;obtain⟨xb,hb1_⟩:∃q,q=wq.heap.size:=⟨_,rfl⟩;have hB1:Below wq.heap.size wq wk:=(by rw[hw1_];exact(Below.refl _ _).alloc (Nat.le_refl _) _);have hO1:wk.heap[xb]? = some (.cells #[.int .i64 I,.int .i64 D,.int .i64 P,.int .i64 T] 51 (0,0)):=(by rw[hw1_,hb1_];exact heap_alloc_new _ _);have hw1:=Lib.hid hw1_;have hb1:=Lib.hid hb1_;clear hw1_ hb1_;have HTk:=Lib.hid (HTq.out.under hB1);have hXk:=Lib.hid hO1;subst hAe
    go_upto_region 18 with (fail)
    rw[←hw1.out,←hb1.out];clear hw1 hb1;clear y0 y1 y2 y3 p0 p1 hB1 hO1 HTq hx;obtain⟨p0,p1⟩:=HTk.out.cells;obtain⟨x0,x1,x2,x3⟩:=facts4 hXk.out;(go_wp2_with fail);clear p0 p1 x0 x1 x2 x3;refine(hInI.out _ HTk.out.toPX).mono ?_;rintro e w1 ⟨rfl,hb⟩;obtain⟨w2,hw2_⟩:∃y,y=w1.alloc (.cells #[.int .i64 s.1,.int .i64 s.2] 36):=⟨_,rfl⟩;obtain⟨sb,hb2_⟩:∃q,q=w1.heap.size:=⟨_,rfl⟩;have hB2:Below w1.heap.size w1 w2:=(by rw[hw2_];exact(Below.refl _ _).alloc (Nat.le_refl _) _);have hO2:w2.heap[sb]? = some (.cells #[.int .i64 s.1,.int .i64 s.2] 36 (0,0)):=(by rw[hw2_,hb2_];exact heap_alloc_new _ _);have hw2:=Lib.hid hw2_;have hb2:=Lib.hid hb2_;clear hw2_ hb2_;have HT2:=Lib.hid ((HTk.out.under hb).under hB2);have hX2:=Lib.hid (keepO hB2 (keepO hb hXk.out));have hS2:=Lib.hid hO2
    go_upto_region 19 with (fail)
    rw[←hw2.out,←hb2.out];clear hw2 hb2;clear hb hB2 hO2 HTk hXk hInI;obtain⟨p0,p1⟩:=HT2.out.cells;(go_wp2_with fail);clear p0 p1;refine(into_any (some ⟨bp,op,none⟩) A' n c n' c' ps ws A6 c6 F i w2 hnm hvh.out hin (fun k hk=>hFb.out k hk 6 (by omega) (by omega)) (hFb.out i hin 1 (by omega) (by omega)) HT2.out.rp HT2.out.rF).mono ?_;rintro e w3 ⟨rfl,hb⟩;have HT3:=Lib.hid (HT2.out.under hb);have hX3:=Lib.hid (keepO hb hX2.out);have hS3:=Lib.hid (keepO hb hS2.out);have hside:=hTh.out.inside hFw.out hIR.out hin;rw[←hs.out] at hside;obtain⟨iv,hiv⟩:∃x,x=inW (toT ps) F i i+F i 2:=⟨_,rfl⟩;rw[←hiv] at hside ⊢;obtain⟨m1,m2⟩:=hside;have d1:decide (iv<s.1)=false:=(by simp;omega);have d2:decide (iv > s.2)=false:=(by simp;omega);obtain⟨bg,og,hA7,hbg,hcg⟩:=HT3.out.rG.wl hin;have g0:w3.cell? ⟨bg,og+i*8,none⟩=some (.int .i64 I):=(by have h:=hcg 0 (by omega);rw[hG.out,firF_0.1,hI.out] at h;exact h);obtain⟨s0,s1,-,-⟩:=two_facts hS3.out;obtain⟨x0,x1,x2,x3⟩:=facts4 hX3.out;subst hA7;clear hb HT2 hX2 hS2 hcg hiv m1 m2;(go_wp2_with fail);(go_quiet (fail));rename_i nq;have hbd:=below_drewN (Below.refl w3.heap.size w3) nq;have HT4:=Lib.hid (HT3.out.under hbd);have hX4:=Lib.hid (keepO hbd hX3.out);clear hbd d1 d2 g0 s0 s1 x0 x1 x2 x3 HT3 hX3 hS3 hbg;generalize w3.drewN nq=w4 at *;(go_wp2_with fail);have hQ1:=Lib.hid (fun hb a b (h6:b<6) (h:a<i∨a=i∧b+1<1)=>hQ.out hb a b (by omega) h6:bf=true→∀a b,b<6→(a<i∨a=i∧b+1<1)→valF n (toT ps) (rowsT ps ws) a b=F a (2+b));go_loopw [14,20] (fun v u wr=>∃wl,wl=wr∧∃(k:Nat) (bq:Bool),1≤k∧k≤7∧v = .bool bq∧u = .int .i64 k∧Hid (TX w (some ⟨bp,op,none⟩) A' n c n' c' ps ws A6 (some ⟨bg,og,none⟩) F G wl)∧Hid (wl.heap[xb]? = some (.cells #[.int .i64 I,.int .i64 D,.int .i64 P,.int .i64 T] 51 (0,0)))∧Hid (bq=true→∀a b,b<6→(a<i∨a=i∧b+1<k)→valF n (toT ps) (rowsT ps ws) a b=F a (2+b))) (fun _ u _=>7 - (intOf u).toNat)
    case atStart=>exact⟨_,rfl,1,bf,by omega,by omega,rfl,rfl,HT4,hX4,hQ1⟩
    case round=>
     clear HT4 hX4 hQ1 hQ;obtain⟨wa,rfl,k,bq,hk1,hk7,rfl,rfl,HTa,hXa,hQ⟩:=hrel;obtain⟨p0,p1⟩:=HTa.out.cells;by_cases hk:k≤6
     ·have hki:(k:Int)≤6:=(by omega);have hk0:(0:Int)≤(k:Int):=(by omega);have hk77:(k:Int)<7:=(by omega);obtain⟨e1,e2⟩:=spanE_t hVFh.out hvh.out hlh.out hth.out hin hk1 hk;rw[hI.out] at e1 e2;have hSk:=hSpI.out k;rw[e1,e2] at hSk;obtain⟨s',hs_⟩:∃s',s'=spanP (toT ps) (rowsT ps ws) n i k:=⟨_,rfl⟩;rw[←hs_] at hSk;have hs':=Lib.hid hs_;have hSk:=Lib.hid hSk;clear hs_ e1 e2;obtain⟨x0,x1,x2,x3⟩:=facts4 hXa.out;(go_wp2_with fail);clear p0 p1 x0 x1 x2 x3;refine(hSk.out _ HTa.out.toPX).mono ?_;rintro e w5 ⟨rfl,hb⟩;obtain⟨w6,hw3_⟩:∃y,y=w5.alloc (.cells #[.int .i64 s'.1,.int .i64 s'.2] 36):=⟨_,rfl⟩;obtain⟨sb2,hb3_⟩:∃q,q=w5.heap.size:=⟨_,rfl⟩;have hB3:Below w5.heap.size w5 w6:=(by rw[hw3_];exact(Below.refl _ _).alloc (Nat.le_refl _) _);have hO3:w6.heap[sb2]? = some (.cells #[.int .i64 s'.1,.int .i64 s'.2] 36 (0,0)):=(by rw[hw3_,hb3_];exact heap_alloc_new _ _);have hw3:=Lib.hid hw3_;have hb3:=Lib.hid hb3_;clear hw3_ hb3_;have HT6:=Lib.hid ((HTa.out.under hb).under hB3);have hX6:=Lib.hid (keepO hB3 (keepO hb hXa.out));have hS6:=Lib.hid hO3
      go_upto_region 26 with (fail)
      rw[←hw3.out,←hb3.out];clear hw3 hb3;clear hb hB3 hO3 HTa hXa hSk;have hsp:=hTh.out.span hFw.out hIR.out hin hk1 hk;rw[←hs'.out] at hsp;obtain⟨b6,o6,hA6,hb6,hc6⟩:=HT6.out.rF.wl hin;obtain⟨own,hown⟩:∃x,x=F i (1+k):=⟨_,rfl⟩;have f0:w6.cell? ⟨b6,o6+i*8+1+k,none⟩=some (.int .i64 own):=(by have h:=hc6 (1+k) (by omega);rw[←Nat.add_assoc,←hown] at h;exact h);rw[←hown] at hsp;obtain⟨m1,m2⟩:=hsp;have d1:decide (own<s'.1)=false:=(by simp;omega);have d2:decide (own > s'.2)=false:=(by simp;omega);obtain⟨bg',og',hA7,hbg,hcg⟩:=HT6.out.rG.wl hin;cases hA7;obtain⟨gk,hgk⟩:∃x,x=G i (1+k):=⟨_,rfl⟩;have g0:w6.cell? ⟨bg,og+i*8+1+k,none⟩=some (.int .i64 gk):=(by have h:=hcg (1+k) (by omega);rw[←Nat.add_assoc,←hgk] at h;exact h);have hgv:gk=valF n (toT ps) (rowsT ps ws) i (k - 1):=by
       have h:=firF_at (ps:=ps) (ws:=ws) (n:=n) (i:=i) (k:=k - 1) (by omega);rw[←hG.out,show 2+(k - 1)=1+k by omega,←hgk] at h;exact h
      obtain⟨s0,s1,-,-⟩:=two_facts hS6.out;subst hA6;have hw1:IntKind.i64.wrap ((k:Int)+1)=(k:Int)+1:=IntWalk.i64_in _ (by omega);have hownh:=Lib.hid hown;have hgvh:=Lib.hid hgv;clear hc6 hcg m1 m2 hb6 hown hgk hgv hbg;cases bq with
      |false=>
       have hQ2:=Lib.hid (fun h=>absurd h (by simp):false=true→∀a b,b<6→(a<i∨a=i∧b+1<k+1)→valF n (toT ps) (rowsT ps ws) a b=F a (2+b));clear hQ;go_wp2;go_roundw
       case rel=>exact⟨_,rfl,k+1,false,by omega,by omega,rfl,by go_num,HT6,hX6,hQ2⟩
       case measure=>simp[intOf];omega
      |true=>
       have hle:gk≤own:=by
        have h:=hTh.out.first (i:=i) (k:=k - 1) hFw.out (by have h:=FSt.start hVFh.out (has_Holds hVFh.out hth.out);rw[hlh.out] at h;exact h) hin (by omega) (fun a b h6 h=>hQ.out rfl a b h6 (by omega))
        rw[←hgvh.out,show 2+(k - 1)=1+k by omega,←hownh.out] at h;exact h
       have d3:decide (gk > own)=false:=(by simp;omega);have hQ2:=Lib.hid (fun he a b h6 h=>by
        by_cases hab:a<i∨a=i∧b+1<k
        ·exact hQ.out rfl a b h6 hab
        ·have h1:a=i:=(by omega);have h2:b=k - 1:=(by omega);subst h1 h2;rw[←hgvh.out,show 2+(k - 1)=1+k by omega,←hownh.out]
         simpa using he:(gk==own)=true→∀a b,b<6→(a<i∨a=i∧b+1<k+1)→valF n (toT ps) (rowsT ps ws) a b=F a (2+b))
       clear hQ hle;go_wp2;go_roundw
       case rel=>exact⟨_,rfl,k+1,(gk==own),by omega,by omega,rfl,by go_num,HT6,hX6,hQ2⟩
       case measure=>simp[intOf];omega
     ·obtain rfl:k=7:=(by omega);have hQ2:=Lib.hid (fun he a b (h:a<i+1) h6=>hQ.out he a b h6 (by omega):bq=true→∀a b,a<i+1→b<6→valF n (toT ps) (rowsT ps ws) a b=F a (2+b));have hw1:IntKind.i64.wrap ((i:Int)+1)=(i:Int)+1:=IntWalk.i64_in _ (by omega);clear hQ;rw[show ((7:Nat):Int)=7 from rfl];go_wp2;go_roundw
      case rel=>exact⟨_,rfl,i+1,bq,by omega,rfl,by go_num,HTa,hQ2⟩
      case measure=>simp[intOf];omega
   ·obtain rfl:n=i:=(by omega);have hii:¬(n:Int)<(n:Int):=(by omega);clear hQ hIn hSp p0 p1;(go_wp2_with fail);go_loopw [24] (fun u wr=>∃wl,wl=wr∧∃k:Nat,1≤k∧k≤6∧u = .int .i64 k∧Hid (TX w A A' n c n' c' ps ws A6 A7 F G wl)) (fun u _=>6 - (intOf u).toNat)
    case atStart=>exact⟨_,rfl,1,by omega,by omega,rfl,HTq⟩
    case round=>
     clear HTq;obtain⟨wa,rfl,k,hk1,hk6,rfl,HTa⟩:=hrel;by_cases hk:k≤5
     ·have hki:(k:Int)≤5:=(by omega);have hk0:(0:Int)≤(k:Int):=(by omega);have hk77:(k:Int)<7:=(by omega);(go_wp2_with fail);go_loopw [25,206] (fun v u wr=>∃wl,wl=wr∧∃j:Nat,j≤n∧v = .int .i64 (sumN (fun i=>F i (1+k)) j)∧u = .int .i64 j∧Hid (TX w A A' n c n' c' ps ws A6 A7 F G wl)) (fun _ u _=>n - (intOf u).toNat)
      case atStart=>exact⟨_,rfl,0,by omega,rfl,rfl,HTa⟩
      case round=>
       clear HTa;obtain⟨wb,rfl,j,hj_,rfl,rfl,HTb⟩:=hrel;obtain⟨sm,hsm_⟩:∃x,x=sumN (fun i=>F i (1+k)) j:=⟨_,rfl⟩;have hsb:0≤sm∧sm≤10000000:=by
        have h:=sumN_bd (f:=fun i=>F i (1+k)) j (fun q hq=>hFb.out q (by omega) k hk1 (by omega));omega
       rw[←hsm_];have hsm:=Lib.hid hsm_;clear hsm_;by_cases hjn:j<n
       ·have hji:(j:Int)<(n:Int):=(by omega);have hj0:(0:Int)≤(j:Int):=(by omega);obtain⟨b6,o6,hA6,hb6,hc6⟩:=HTb.out.rF.wl hjn;subst hA6;obtain⟨fj,hfj_⟩:∃f,f=F j:=⟨_,rfl⟩;rw[←hfj_] at hc6;have c0:wb.cell? ⟨b6,o6+j*8,none⟩=some (.int .i64 (fj 0)):=hc6 0 (by omega);have c1:wb.cell? ⟨b6,o6+j*8+1,none⟩=some (.int .i64 (fj 1)):=hc6 1 (by omega);have c2:wb.cell? ⟨b6,o6+j*8+2,none⟩=some (.int .i64 (fj 2)):=hc6 2 (by omega);have c3:wb.cell? ⟨b6,o6+j*8+3,none⟩=some (.int .i64 (fj 3)):=hc6 3 (by omega);have c4:wb.cell? ⟨b6,o6+j*8+4,none⟩=some (.int .i64 (fj 4)):=hc6 4 (by omega);have c5:wb.cell? ⟨b6,o6+j*8+5,none⟩=some (.int .i64 (fj 5)):=hc6 5 (by omega);have c6':wb.cell? ⟨b6,o6+j*8+6,none⟩=some (.int .i64 (fj 6)):=hc6 6 (by omega);have c7':wb.cell? ⟨b6,o6+j*8+7,none⟩=some (.int .i64 (fj 7)):=hc6 7 (by omega);have hbj:=hFb.out j hjn k hk1 (by omega);rw[←hfj_] at hbj;have hfj:=Lib.hid hfj_;clear hfj_ hc6;obtain⟨wd,hw4_⟩:∃y,y=wb.alloc (.cells #[.int .i64 (fj 0),.int .i64 (fj 1),.int .i64 (fj 2),.int .i64 (fj 3),.int .i64 (fj 4),.int .i64 (fj 5),.int .i64 (fj 6),.int .i64 (fj 7)] 43):=⟨_,rfl⟩;obtain⟨xb,hb4_⟩:∃q,q=wb.heap.size:=⟨_,rfl⟩;have hB4:Below wb.heap.size wb wd:=(by rw[hw4_];exact(Below.refl _ _).alloc (Nat.le_refl _) _);have hO4:wd.heap[xb]? = some (.cells #[.int .i64 (fj 0),.int .i64 (fj 1),.int .i64 (fj 2),.int .i64 (fj 3),.int .i64 (fj 4),.int .i64 (fj 5),.int .i64 (fj 6),.int .i64 (fj 7)] 43 (0,0)):=by rw[hw4_,hb4_];exact heap_alloc_new _ _
        have hw4:=Lib.hid hw4_;have hb4:=Lib.hid hb4_;clear hw4_ hb4_;have HTd:=Lib.hid (HTb.out.under hB4);have hXd:=Lib.hid hO4
        go_upto_region 38 with (fail)
        rw[←hw4.out,←hb4.out];clear hw4 hb4;clear c0 c1 c2 c3 c4 c5 c6' c7' hB4 hO4 HTb hb6;obtain⟨fk,hfk_⟩:∃x,x=fj (1+k):=⟨_,rfl⟩;have xk:wd.cell? ⟨xb,1+k,none⟩=some (.int .i64 fk):=by
         obtain⟨q0,q1,q2,q3,q4,q5,q6,q7⟩:=facts8 hXd.out;rw[hfk_];obtain rfl|rfl|rfl|rfl|rfl:k=1∨k=2∨k=3∨k=4∨k=5:=by omega
         ·exact q2
         ·exact q3
         ·exact q4
         ·exact q5
         ·exact q6
        rw[←hfk_] at hbj;have hfk:=Lib.hid hfk_;have w1:IntKind.i64.wrap (sm+fk)=sm+fk:=IntWalk.i64_in _ (by omega);have hw2:IntKind.i64.wrap ((j:Int)+1)=(j:Int)+1:=IntWalk.i64_in _ (by omega);clear hfk_;go_wp2;go_roundw
        case rel=>exact⟨_,rfl,j+1,by omega,by rw[hsm.out,hfk.out,hfj.out];rfl,by go_num,HTd⟩
        case measure=>simp[intOf];omega
       ·obtain rfl:n=j:=(by omega);have hji:¬(n:Int)<(n:Int):=(by omega);have hres:=(allS_facts hVFh.out hvh.out hlh.out hth.out hk1 hk).2.2 F hTh.out;rw[←hsm.out] at hres;have heA:=allE_t (k:=(k:Int)) hvh.out hth.out ⟨by omega,by omega⟩;have hAk:=hAl.out k;obtain⟨s,hs_⟩:∃s,s=allS ps ws k:=⟨_,rfl⟩;rw[heA,←hs_] at hAk;rw[←hs_] at hres;have hAk:=Lib.hid hAk;obtain⟨m1,m2⟩:=hres;clear hs_ heA;obtain⟨p0,p1⟩:=HTb.out.cells;(go_wp2_with fail);clear p0 p1;refine(hAk.out _ HTb.out.toPX).mono ?_;rintro e wc ⟨rfl,hb⟩;obtain⟨wd,hw5_⟩:∃y,y=wc.alloc (.cells #[.int .i64 s.1,.int .i64 s.2] 36):=⟨_,rfl⟩;obtain⟨sb,hb5_⟩:∃q,q=wc.heap.size:=⟨_,rfl⟩;have hB5:Below wc.heap.size wc wd:=(by rw[hw5_];exact(Below.refl _ _).alloc (Nat.le_refl _) _);have hO5:wd.heap[sb]? = some (.cells #[.int .i64 s.1,.int .i64 s.2] 36 (0,0)):=(by rw[hw5_,hb5_];exact heap_alloc_new _ _);have hw5:=Lib.hid hw5_;have hb5:=Lib.hid hb5_;clear hw5_ hb5_;have HTd:=Lib.hid ((HTb.out.under hb).under hB5);have hSd:=Lib.hid hO5
        go_upto_region 41 with (fail)
        rw[←hw5.out,←hb5.out];clear hw5 hb5;clear hb hB5 hO5 HTb hAk;have d1:decide (sm<s.1)=false:=(by simp;omega);have d2:decide (sm > s.2)=false:=(by simp;omega);obtain⟨s0,s1,-,-⟩:=two_facts hSd.out;have hw1:IntKind.i64.wrap ((k:Int)+1)=(k:Int)+1:=IntWalk.i64_in _ (by omega);clear m1 m2;go_wp2;go_roundw
        case rel=>exact⟨_,rfl,k+1,by omega,by omega,by go_num,HTd⟩
        case measure=>simp[intOf];omega
     ·obtain rfl:k=6:=(by omega);rw[show ((6:Nat):Int)=6 from rfl];go_wp2;go_ret;exact⟨rfl,HTa.out.bel⟩
end Go.Proofs.YtfplipbkjglmhaaDoor

namespace Go.Proofs.YtfplipbkjglmhaaDoor.pressTruth
open Go.ChangeShapes Go.WideShapes Go.ChangeAt Go.RowKit Go.Joins
set_option linter.unusedVariables false
theorem laidOut:laidOutB Tryd.prog=true:=by kernel_rfl
/-- A list of choices is opened. -/
def u32c (x:{ x:Nat // x≤4294967295 }):List Value:=[.int .u32 (x.1:Int)]
theorem cU32:Tryd.prog.cellsOf 79=1:=by kernel_rfl
section
variable {H:Type} {enc:TypeId×Value→H} {w:World} {base:Nat} {spare:Nat→Bool} {held:Bool}
theorem dec_u32(n:Nat)(cs:List Value)(y:DataW H×List MemPlace)(hl:cs.length=1)(h:DataW.trod enc Tryd.prog w base spare held n 79 cs=some y):∃x:{ x:Nat // x≤4294967295 },cs=u32c x:=by
 match cs,hl with
 |[v0],_=>
  obtain⟨z,e,_,hw⟩:=DataW.trod_int Tryd.underlying79 h;simp only[List.cons.injEq,and_true] at e;simp only[Lit.wf,Bool.and_eq_true,decide_eq_true_eq,show IntKind.u32.min=0 by decide,show IntKind.u32.max=4294967295 by decide] at hw;refine⟨⟨z.toNat,by omega⟩,?_⟩;rw[e];unfold u32c;rw[show ((z.toNat:Nat):Int)=z by omega]
end
theorem u32_reads{w:World}{B n:Nat}{A:Option Addr}{l:List { x:Nat // x≤4294967295 }}(h:Reads w B 1 A n (l.flatMap u32c)):Reads w B 1 A n (usV (l.map (·.1)))∧∀x∈l.map (·.1),x≤4294967295:=by
 have e:l.flatMap u32c=usV (l.map (·.1)):=by
  unfold usV;clear h
  induction l with
  |nil=>rfl
  |cons y r ih=>rw[List.flatMap_cons,ih];rfl
 rw[←e];exact⟨h,fun x hx=>by obtain⟨y,-,rfl⟩:=List.mem_map.1 hx;exact y.2⟩
set_option maxRecDepth 100000 in
theorem lifted(os:Os)(started:os.Started)(H:Type)(enc:TypeId×Value→H) :
  ReturnsInHanded {} Tryd.checked os 10 .any (fun w args=>(Rows.pressTruthSpec.pre enc Tryd.prog Tryd.f10 [] false w args∧laidMetH Tryd.prog laidList w)∧sizedMet enc Tryd.prog Tryd.f10 (OpenSpec.ofChange Rows.pressTruthSpec) false w args)
   (Rows.pressTruthSpec.post enc Tryd.prog Tryd.f10 false true false false):=by
 refine returnsInHanded_of_change_and (C:=Tryd.checked) (X:=fun w _=>laidMetH Tryd.prog laidList w) (fun _ _ _ hh h=>h.of_heap hh) own started (by kernel_rfl) Tryd.func10
  (ChangeSpec.witness_shaped (enc:=enc) (C:=Tryd.checked) (os:=os) (X:=fun w _=>laidMetH Tryd.prog laidList w) false (World.doorLaid Tryd.prog 25 os) #[.agg #[.slice none 0 0,.slice none 0 0],.slice none 0 0] 8 rfl (World.shaped_of_RefB (by kernel_rfl) (by kernel_rfl)) (by kernel_rfl) (by kernel_rfl) (by kernel_rfl) (door_met os _)) ?_
 intro W base args ds gs before hval0 hW _ _ hL _;have hval:∀(j:Nat) t v,Tryd.f10.params[j]? = some t→args[j]? = some v→Value.okWide Tryd.prog W .any base t v:=hval0;have hW':=hW;have hblk:∀x∈before,x.block<W.heap.size:=fun x hx=>hW.lt x hx;obtain⟨p,q,hA0,hV,rfl,hfz,hnd⟩:=hW;have hA:DataW.TrodAll enc Tryd.prog W 0 (fun _=>true) true Tryd.f10.params.toList args.toList ds p:=hA0;have hA':=hA;have hP:=Tryd.params10;rw[Tryd.params10] at hA hval hA';obtain⟨v0,vs0,d0,ds0,p0,q0,hargs,rfl,rfl,h0,r0⟩:=trodAll_cons hA;obtain⟨v1,vs1,d1,ds1,p1,q1,rfl,rfl,rfl,h1,r1⟩:=trodAll_cons r0;obtain⟨rfl,rfl,rfl⟩:=trodAll_nil r1;obtain rfl:args = #[v0,v1]:=by cases args;simp_all
 obtain⟨rfl,rfl⟩:=trodVars_none hV;simp only[List.append_nil] at hW' hblk;obtain⟨c00,c01,y00,y01,m0,rfl,-,-,g00,g01⟩:=open_agg2 Tryd.underlying25 (by kernel_rfl) (by kernel_rfl) (hval 0 25 v0 rfl rfl) h0;obtain⟨A,n,c,ps,rfl,hnc,hcm0,-,hRp⟩:=open_recs (f:=pgc) (fun _=>rfl) (by omega) Tryd.underlying22 cPg (fun k cs y hl h=>dec_pg k cs y hl h) g00;obtain⟨A',n',c',ws,rfl,hnc',hcm',hnil,hRw⟩:=open_recs (f:=wgc) (fun _=>rfl) (by omega) Tryd.underlying23 cWg (fun k cs y hl h=>dec_wg k cs y hl h) g01;obtain⟨f1,hf1⟩:=h1;obtain⟨a1_,n1_,c1_,rfl⟩:=okWide_slice Tryd.underlying26 (hval 1 26 v1 rfl rfl);obtain⟨A1,n1,c1,l1,e1,hnc1,hcm1,-,hR1⟩:=open_recs (m:=1) (f:=u32c) (fun _=>rfl) (by omega) Tryd.underlying26 cU32 (fun k cs y hl h=>dec_u32 k cs y hl h) (by simpa [Value.cells] using hf1);rw[e1] at hA' hW' ⊢;obtain⟨hRu1,hub1⟩:=u32_reads hR1;clear hA0 hval0;refine(law_truth A A' n c n' c' ps ws A1 n1 c1 (l1.map (·.1)) W (by omega) hub1 (by omega) (by omega) hRp hRw hRu1 (laid_of hL)).mono fun e W' ⟨he,hb⟩=>?_;subst he;refine⟨_,rfl,post_below (ds:=[_,_]) (gs:=[]) (pa:=p0++(p1++([]))) (pv:=[]) (by simpa using hW') (fun _ _ _=>(trodAll_cons_mk (shut_bool Tryd.underlying4 _) trodAll_mk0)) (fun sp hsp=>?_) (fun _ _=>rfl) (by simp) hb (ok_one (by kernel_rfl) rfl (okWide_bool_mk Tryd.underlying4 _))⟩;rw[hP];refine trodAll_stays laidOut ?_ hA' (fun x hx=>hb.same (hblk x (by simpa using hx))) (fun x hx=>hsp x (by simpa using hx))
 intro t ht;have hall:([25,26].all fun u=>Tryd.prog.readableRec u && decide (u<Tryd.prog.types.size))=true:=by kernel_rfl
 have:=List.all_eq_true.1 hall t (by simpa using ht);simpa using this
theorem over:Rows.PressTruthSaid:=
 OpenClaim.holds_of_wide 10 Tryd.f10 rfl rfl rfl rfl rfl rfl rfl ⟨rfl,rfl,rfl,rfl,rfl⟩ rfl rfl rfl rfl rfl (by kernel_rfl) Tryd.func10 (by kernel_rfl)
  (of_decide_eq_true (by kernel_rfl)) (by unfold Func.isWrapper;first|(rw[if_pos (by decide +kernel)];kernel_rfl)|(rw[if_neg (by decide +kernel)];exact⟨rfl,rfl⟩))
  (fun os started H enc _=>lifted os started H enc)
/-- The tied card. -/
theorem proved:Rows.PressTruthCardSaid:=
 Claim7.holds_tied_plain_at .later [] [.funcs] true (true, "3cbcdd9f0d995b805788fb1a66c61468378cabb8fb1e0a1aebf8d521baf47642") false
  over (fun _ h=>by cases h) (by kernel_rfl) (fun _ h=>by cases h) pressTruth_row_tie rfl ⟨rfl,rfl⟩ (by kernel_rfl) rfl
  (fun f fn hf hfn=>by
   obtain rfl:f=10:=Option.some.inj ((show Tryd.prog.funcNamed "oilcake/oilcakelaw02.PressTruth" = some 10 by kernel_rfl).symm.trans hf) |>.symm
   obtain rfl:fn=Tryd.f10:=(Option.some.inj (Tryd.func10.symm.trans hfn)).symm;exact⟨by kernel_rfl,fun j t ht=>by
    rw[Tryd.params10] at ht;have hm:t∈[25,26]:=(by simpa using Array.mem_of_getElem? ht);have hall:([25,26].all fun u=>!Tryd.prog.wantsStandIn u)=true:=by kernel_rfl
    exact(show Tryd.prog.wantsStandIn t=false by simpa using List.all_eq_true.1 hall t hm)⟩)
  (by kernel_rfl)
#print axioms proved
end Go.Proofs.YtfplipbkjglmhaaDoor.pressTruth
