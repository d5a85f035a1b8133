/-
 The walk of PressRests: the law returns true, whatever the input.
-/
import Derived.Test.YtfplipbkjglmhaaDoorRsL
import Derived.Test.YtfplipbkjglmhaaDoorRWo
import Derived.Test.YtfplipbkjglmhaaDoorRdy
import Derived.Test.YtfplipbkjglmhaaDoorAliv
namespace Go.Proofs.YtfplipbkjglmhaaDoor
open Go.RowKit
set_option linter.unusedVariables false
set_option linter.unusedSimpArgs false
set_option maxRecDepth 100000 in
set_option maxHeartbeats 8000000 in
theorem law_rests(A A':Option Addr)(n c n' c':Nat)(ps:List PR)(ws:List WE)(wh:Nat)(kd:Nat)(nt:Nat)(w:World)(hwh:wh≤255)(hkd:kd≤255)(hnt:nt≤255)(hnm:n≤maxLen)(hnm':n'≤maxLen)
  (hR:Reads w w.heap.size 4 A n (pgs ps)) (hW:Reads w w.heap.size 5 A' n' (wgs ws)) (hL:Laid w) :
  Calls Tryd.prog 9 #[.agg #[.slice A n c,.slice A' n' c'],.int .u8 wh,.int .u8 kd,.int .u8 nt] w fun e w'=>e = .returned (.bool true)∧Below w.heap.size w w':=by
 have hl:ps.length=n:=hR.pg_len;have hl':ws.length=n':=hW.wg_len;have HX0:=Lib.hid (PX.start (c:=c) (c':=c') hR hW hL);have HAl:=Lib.hid (fun z (K:PX w A A' n c n' c' ps ws z)=>alive_any z K.laid);have HRy:=Lib.hid (fun z (K:PX w A A' n c n' c' ps ws z)=>ready_any A A' n c n' c' ps ws z hnm hnm' K.rp K.rw_);have HKk:∃K:Nat,(K:Int)=1+(kd:Int)%6∧1≤K∧K≤6:=⟨1+kd%6,by omega,by omega,by omega⟩;obtain⟨K,hKe,hK1,hK6⟩:=HKk;have HC1:=Lib.hid (fun id z (X:PX w A A' n c n' c' ps ws z)=>pRests_any A A' n c n' c' ps ws id K z hnm X.rp X.rw_ X.laid);have HC2:=Lib.hid (fun id z (X:PX w A A' n c n' c' ps ws z)=>pSpan_any A A' n c n' c' ps ws id K z hnm X.rp X.rw_ X.laid);clear hR hW hL;obtain⟨g,hg_⟩:∃g,g=(!(decide (20<n) || decide (50<n')) && validP ps ws):=⟨_,rfl⟩;rw[←hg_] at HRy;have hg:=Lib.hid hg_;clear hg_;have hwh0:(0:Int)≤(wh:Int):=by omega
 have hwh1:(wh:Int)≤255:=by omega
 have hkd0:(0:Int)≤(kd:Int):=by omega
 have hkd1:(kd:Int)≤255:=by omega
 have hnt0:(0:Int)≤(nt:Int):=by omega
 have hnt1:(nt:Int)≤255:=by omega
 go_enter Tryd.func9,Tryd.ntmps9
 go_wp2_with fail
 refine(HAl.out _ HX0.out).mono ?_;rintro e z1 ⟨rfl,hb⟩;have HX1:=Lib.hid (HX0.out.below hb);clear hb HX0;obtain⟨p0,p1⟩:=HX1.out.cells;go_wp2_with fail
 clear p0 p1;refine(HRy.out _ HX1.out).mono ?_;rintro e z2 ⟨rfl,hb⟩;have HX2:=Lib.hid (HX1.out.below hb);clear hb HX1;cases g with
 |false=>
  go_wp2;go_ret;exact⟨rfl,HX2.out.bel⟩
 |true=>
 have hv:validP ps ws=true:=by have h:=hg.out;simp at h;exact h.2.symm ▸ rfl
 have hVF:=valid_facts hv;have hn10:n≤10:=by have:=hVF.n10;omega
 have hn30:n'≤30:=by have:=hVF.m30;omega
 clear hg HRy HAl;obtain⟨p0,p1⟩:=HX2.out.cells;by_cases hn0':n'=0
 ·have hz:((n':Int)==0)=true:=(by simp[hn0']);go_wp2;go_ret;exact⟨rfl,HX2.out.bel⟩
 have hz:((n':Int)==0)=false:=by simpa using hn0'
 have hn0:0<n:=by
  obtain⟨x,hx⟩:∃x,ws[0]? = some x:=⟨_,List.getElem?_eq_getElem (by omega)⟩;have h1:=(hVF.w_ 0 x hx).1;have h2:=idxP_bound ps x.2.1;omega
 obtain⟨i,hi_⟩:∃i,i=wh%n:=⟨_,rfl⟩;have hin:i<n:=by rw[hi_];exact Nat.mod_lt _ hn0
 have hrem:(wh:Int).tmod (n:Int)=(i:Int):=by rw[hi_];exact Int.ofNat_tmod wh n
 have hnz:((n:Int)==0)=false:=by simp;omega
 have hi0:(0:Int)≤(i:Int):=by omega
 have hi1:(i:Int)<(n:Int):=by omega
 obtain⟨bp,op,I,D,P,T,hAe,hbp,hx,y0,y1,y2,y3⟩:=HX2.out.rp.pg hin;have hI:Hid (idQ ps i=I):=by show _=_;unfold idQ;rw[hx]
 have hih:=Lib.hid hi_;subst hAe;clear hi_;go_wp2_with fail
 go_quiet (fail)
 clear p0 p1 y0 y1 y2 y3;rename_i nq;have HXq:=Lib.hid (HX2.out.below (below_drewN (Below.refl _ _) nq));generalize z2.drewN nq=zq at *;clear HX2 hrem hnz hi0 hi1 hz hx;rw[←hKe];have hKh:=Lib.hid hKe;clear hKe;obtain⟨p0,p1⟩:=HXq.out.cells;go_wp2_with fail
 clear p0 p1;have hidx:idxP ps I=i:=by rw[←hI.out];exact idx_idQ hVF (by omega)
 have hAE:=Lib.hid (askE_two (kind:=K) hv (by rw[hidx];omega:0≤idxP ps I) (by omega));refine(HC1.out I _ HXq.out).mono ?_;rintro e z3 ⟨⟨Al,m,cl,rfl,hm30,hq⟩,hb⟩;have HX3:=Lib.hid (HXq.out.below hb);have HQ3:=Lib.hid hq;clear hb hq HXq;obtain⟨sA,hsA_⟩:∃sA,sA=spanE ps ws I K:=⟨_,rfl⟩;obtain⟨l,hl_⟩:∃l,l=rstL ps ws I K:=⟨_,rfl⟩;obtain⟨eA,heA_⟩:∃eA,eA=askE ps ws I K:=⟨_,rfl⟩;have HC2':=Lib.hid (HC2.out I);rw[←heA_];rw[←hl_] at HQ3;rw[←heA_,←hsA_] at HC2';have hsA:=Lib.hid hsA_;have hlL:=Lib.hid hl_;have heA:=Lib.hid heA_;clear hsA_ hl_ heA_ HC1 HC2;obtain⟨p0,p1⟩:=HX3.out.cells;go_wp2_with fail
 clear p0 p1;refine(HC2'.out _ HX3.out).mono ?_;rintro e z4 ⟨rfl,hb⟩;have HX4:=Lib.hid (HX3.out.below hb);replace HQ3:=Lib.hid ((HQ3.out.below hb).more hb.size);obtain⟨y4,hy4_⟩:∃y4,y4=z4.alloc (.cells #[.int .i64 sA.1,.int .i64 sA.2] 36):=⟨_,rfl⟩;have hb2:Below z4.heap.size z4 y4:=by rw[hy4_];exact(Below.refl _ _).alloc (Nat.le_refl _) _
 have HX5:=Lib.hid (HX4.out.below hb2);replace HQ3:=Lib.hid ((HQ3.out.below hb2).more hb2.size);have XS_:y4.heap[z4.heap.size]? = some (.cells #[.int .i64 sA.1,.int .i64 sA.2] 36 (0,0)):=by rw[hy4_];exact heap_alloc_new _ _
 obtain⟨sb,hsb_⟩:∃sb,sb=z4.heap.size:=⟨_,rfl⟩;rw[←hsb_] at XS_;have XS:=Lib.hid XS_;have hy4:=Lib.hid hy4_;have hsb:=Lib.hid hsb_;clear hb hb2 hy4_ HX3 HX4 XS_ hsb_ HC2';cases ht:hasT ps ws with
 |false=>
  obtain rfl:eA=8:=(by rw[heA.out,hAE.out,ht];rfl);clear heA hAE;go_wp2;go_ret;rw[←hy4.out];exact⟨rfl,HX5.out.bel⟩
 |true=>
 obtain rfl:eA=0:=by rw[heA.out,hAE.out,ht];rfl
 have hA0:=heA.out.symm;obtain⟨k,hk_⟩:∃k,k=nt%n':=⟨_,rfl⟩;have hkn:k<n':=by rw[hk_];exact Nat.mod_lt _ (by omega)
 have hrem:(nt:Int).tmod (n':Int)=(k:Int):=by rw[hk_];exact Int.ofNat_tmod nt n'
 have hnz:((n':Int)==0)=false:=by simp;omega
 have hk0:(0:Int)≤(k:Int):=by omega
 have hk1:(k:Int)<(n':Int):=by omega
 obtain⟨bq,oq,N,Q,Kd,Lo,Hi,hAe,hbq,hx,y0,y1,y2,y3,y4c⟩:=HX5.out.rw_.wg hkn;have hwx:Hid (ws[k]? = some (N,Q,Kd,Lo,Hi)):=hx;subst hAe;clear hx hk_;obtain⟨p0,p1⟩:=HX5.out.cells;rw[hy4.out] at p0 p1 y0 y1 y2 y3 y4c;have hAEh:=Lib.hid hA0;clear hA0 ht;go_wp2_with fail
 go_quiet (fail)
 clear p0 p1 y0 y1 y2 y3 y4c;rw[←hy4.out,←hsb.out];clear hy4 hsb hrem hnz hk0 hk1;have hbd:=below_drewN (Below.refl y4.heap.size y4) nq;have HX6:=Lib.hid (HX5.out.below hbd);replace HQ3:=Lib.hid ((HQ3.out.below hbd).more hbd.size);replace XS:=Lib.hid (keepO hbd XS.out);clear hbd HX5;generalize y4.drewN nq=z6 at *;obtain⟨z7,hz7_⟩:∃z7,z7=z6.alloc (.cells #[.int .i64 N] 3):=⟨_,rfl⟩;have hb:Below z6.heap.size z6 z7:=by rw[hz7_];exact(Below.refl _ _).alloc (Nat.le_refl _) _
 have HX7:=Lib.hid (HX6.out.below hb);replace HQ3:=Lib.hid ((HQ3.out.below hb).more hb.size);replace XS:=Lib.hid (keepO hb XS.out);have hRN:=Lib.hid (show Reads z7 z7.heap.size 1 (some ⟨z6.heap.size,0,none⟩) 1 (ints [N]) by rw[hz7_];exact rd_one (t:=3) (heap_alloc_new _ _));have hz7:=Lib.hid hz7_;obtain⟨p0,p1⟩:=HX6.out.cells;clear hb hz7_ HX6;go_wp2_with fail
 clear p0 p1;rw[←hz7.out];clear hz7;have hN:=hVF.w_ k _ hwx.out;have hN9:1≤N∧N≤9999:=num_bd hv (List.mem_of_getElem? hwx.out);have hst:strikeS ps ws [N]=((ps,lessW ws [N]),0):=strike_one hv (List.mem_of_getElem? hwx.out);refine(strike_any _ _ n c n' c' ps ws _ 1 1 [N] z7 hnm hnm' (by omega) (fun x hx=>by simp at hx;subst hx;exact WalkArith.wf_i64 (by omega)) HX7.out.rp HX7.out.rw_ hRN.out HX7.out.laid).mono ?_;rw[hst];rintro e z8 ⟨⟨A1,n1,c1,A2,n2,c2,rfl,ho1,ho2⟩,hb⟩;have HX8:=Lib.hid (HX7.out.below hb);replace HQ3:=Lib.hid ((HQ3.out.below hb).more hb.size);replace XS:=Lib.hid (keepO hb XS.out);have HR1:=Lib.hid (Reads.of_own ho1);have HR2:=Lib.hid (Reads.of_own ho2);obtain rfl:n=n1:=by have h:ps.length=n1:=HR1.out.pg_len;omega
 have hn2:n2≤n':=by have h:(lessW ws [N]).length=n2:=HR2.out.wg_len;have h2:=lessW_len ws [N];omega
 clear hb ho1 ho2 hRN HX7 hst hN hN9;obtain⟨z9,hz9_⟩:∃z9,z9=z8.alloc (.cells #[.slice A1 n c1,.slice A2 n2 c2] 25):=⟨_,rfl⟩;have hb:Below z8.heap.size z8 z9:=by rw[hz9_];exact(Below.refl _ _).alloc (Nat.le_refl _) _
 have HX9:=Lib.hid (HX8.out.below hb);replace HQ3:=Lib.hid ((HQ3.out.below hb).more hb.size);replace XS:=Lib.hid (keepO hb XS.out);replace HR1:=Lib.hid ((HR1.out.below hb).more hb.size);replace HR2:=Lib.hid ((HR2.out.below hb).more hb.size);have hyb:=heap_alloc_new z8 (.cells #[.slice A1 n c1,.slice A2 n2 c2] 25);rw[←hz9_] at hyb;have hz9:=Lib.hid hz9_;obtain⟨yb,hyb_⟩:∃yb,yb=z8.heap.size:=⟨_,rfl⟩;rw[←hyb_] at hyb;have hybe:=Lib.hid hyb_;obtain⟨q0,q1,-,-⟩:=two_facts hyb;rw[hz9.out,hybe.out] at q0 q1;clear hb hz9_ hyb_ HX8 hyb;go_wp2_with fail
 clear q0 q1;rw[←hz9.out];clear hz9 hybe;have hAB:=Lib.hid (askE_less [N] hAEh.out);refine(pSpan_any A1 A2 n c1 n2 c2 ps (lessW ws [N]) I K z9 hnm HR1.out HR2.out HX9.out.laid).mono ?_;rw[hAB.out];rintro e z10 ⟨rfl,hb⟩;have HB:=Lib.hid (HX9.out.below hb).bel;replace HQ3:=Lib.hid ((HQ3.out.below hb).more hb.size);replace XS:=Lib.hid (keepO hb XS.out);clear hb HX9 HR1 HR2;have hKN:(K:Int).toNat=K:=by omega
 have hiN:(idxP ps I).toNat=i:=by rw[hidx];omega
 have hsA':sA=spanSp ps ws i K:=by rw[hsA.out];unfold spanE;rw[if_pos hAEh.out,hKN,hiN]
 have hsB':spanE ps (lessW ws [N]) I K=spanSp ps (lessW ws [N]) i K:=by unfold spanE;rw[if_pos hAB.out,hKN,hiN]
 have hl':l=rstS ps ws ws i K:=by rw[hlL.out];unfold rstL;rw[if_pos hAEh.out,hKN,hiN]
 have hwid:=spanSp_less ps ws [N] i K ⟨hK1,hK6⟩;rw[hsB'];obtain⟨sB,hsB⟩:∃sB,sB=spanSp ps (lessW ws [N]) i K:=⟨_,rfl⟩;rw[←hsA',←hsB] at hwid;rw[←hsB];have hmem:N∈l↔sB≠sA:=by rw[hl',hsB,hsA'];exact rst_mem (List.mem_of_getElem? hwx.out)
 have hrise:=rst_rise hv i K;rw[←hl'] at hrise;clear hsA hlL hAEh hAB hsB hsA' hsB' hl' hwx hv hVF hAE heA hI hih hidx hKN hiN;obtain⟨z11,hz11_⟩:∃z11,z11=z10.alloc (.cells #[.int .i64 sB.1,.int .i64 sB.2] 36):=⟨_,rfl⟩;have hb:Below z10.heap.size z10 z11:=by rw[hz11_];exact(Below.refl _ _).alloc (Nat.le_refl _) _
 have hb0:=(Array.getElem?_eq_some_iff.1 XS.out).1;replace HB:=Lib.hid (below_via HB.out HB.out.size hb);replace HQ3:=Lib.hid ((HQ3.out.below hb).more hb.size);replace XS:=Lib.hid (keepO hb XS.out);have hyc:=heap_alloc_new z10 (.cells #[.int .i64 sB.1,.int .i64 sB.2] 36);rw[←hz11_] at hyc;have hz11:=Lib.hid hz11_;obtain⟨yc,hyc_⟩:∃yc,yc=z10.heap.size:=⟨_,rfl⟩;rw[←hyc_] at hyc;have hyce:=Lib.hid hyc_;have YS:=Lib.hid hyc;obtain⟨q0,q1,-,-⟩:=two_facts hyc;obtain⟨m0,m1,-,-⟩:=two_facts XS.out;rw[hz11.out] at q0 q1 m0 m1;rw[hyce.out] at q0 q1;have d1:decide (sB.1 > sA.1)=false:=by simp;omega
 have d2:decide (sB.2<sA.2)=false:=by simp;omega
 clear hb hz11_ hyc_ hyc hb0;go_wp2_with fail
 clear q0 q1 m0 m1;rw[←hz11.out,←hyce.out];clear hz11 hyce d1 d2;have hlen:l.length=m:=by simpa using HQ3.out.len
 have hm64:(m:Int)≤30:=by omega
 have hlenh:=Lib.hid hlen;have hmemh:=Lib.hid hmem;have hriseh:=Lib.hid hrise;have gEq:Tryd.prog.eqGuardType Tryd.prog.depth 36=false:=by kernel_rfl
 clear hlen hmem hrise hwid;go_loopw [21,132] (fun v u wr=>∃wl,wl=wr∧wl=z11∧∃t:Nat,t≤m∧v = .bool (decide (N∈l.take t))∧u = .int .i64 t) (fun _ u _=>m - (intOf u).toNat)
 case atStart=>exact⟨_,rfl,rfl,0,Nat.zero_le _,by simp,rfl⟩
 case round=>
  obtain⟨wq,rfl,hwq,t,ht,rfl,rfl⟩:=hrel;subst hwq;by_cases htm:t<m
  ·have hti:(t:Int)<(m:Int):=(by omega);have ht0:(0:Int)≤(t:Int):=(by omega);obtain⟨b,o,hAl,hblt,hcell⟩:=HQ3.out.int htm;obtain⟨x,hx_⟩:∃x,x=l[t]?.getD 0:=⟨_,rfl⟩;rw[←hx_] at hcell;have hx:l[t]? = some x:=(by rw[hx_,List.getElem?_eq_getElem (by rw[hlenh.out];exact htm)];rfl);have hnext:decide (N∈l.take (t+1))=(decide (N∈l.take t) || (x==N)):=by
    rw[List.take_add_one,hx,Bool.eq_iff_iff];simp;exact or_congr Iff.rfl eq_comm
   have hnexth:=Lib.hid hnext;subst hAl;have hpr:Hid (∀t',t=t'+1→∃x',wq.cell? ⟨b,o+t',none⟩=some (.int .i64 x')∧x'<x):=by
    intro t' e;subst e;obtain⟨b2,o2,hA2,hblt2,hcell2⟩:=HQ3.out.int (show t'<m by omega);injection hA2 with hA3;injection hA3 with hb2 ho2;subst hb2 ho2;refine⟨_,hcell2,?_⟩;have h:=List.pairwise_iff_getElem.1 hriseh.out t' (t'+1) (by rw[hlenh.out];omega) (by rw[hlenh.out];omega) (by omega);rw[(List.getElem?_eq_some_iff.1 hx).2] at h;rw[List.getElem?_eq_getElem (by rw[hlenh.out];omega)];exact h
   clear hnext hx hx_;generalize decide (N∈l.take t)=fl at *;have hend:∀t'',t''=t+1→(∃wl,wl=wq∧wl=wq∧∃t1:Nat,t1≤m∧Value.bool (fl || (x==N)) = .bool (decide (N∈l.take t1))∧Value.int .i64 ((t'':Nat):Int) = .int .i64 (t1:Int)):=by
    rintro t'' rfl;exact⟨_,rfl,rfl,t+1,by omega,by rw[hnexth.out],rfl⟩
   have hendh:=Lib.hid hend;clear hend;cases t with
   |zero=>
    rw[Nat.add_zero] at hcell;rw[show ((0:Nat):Int)=0 from rfl];cases fl<;>(cases hxN:(x==N)<;>(rw[hxN] at hendh;go_wp2;go_roundw;(case rel=>exact hendh.out _ rfl);(case measure=>simp[intOf];omega)))
   |succ t'=>
    obtain⟨x',hc',hlt⟩:=hpr.out t' rfl;have hge:decide (x≤x')=false:=(by simp;omega);have hlt0:(0:Int)<(t':Int)+1:=(by omega);cases fl<;>(cases hxN:(x==N)<;>(rw[hxN] at hendh;go_wp2;go_roundw;(case rel=>exact hendh.out _ rfl);(case measure=>simp[intOf];omega)))
  ·obtain rfl:m=t:=(by omega);have hti:¬(m:Int)<(m:Int):=(by omega);have hfl:decide (N∈l.take m) = !(sB==sA):=by
    rw[List.take_of_length_le (by rw[hlenh.out];omega),Bool.eq_iff_iff];simp[hmemh.out]
   obtain⟨q0,q1,-,-⟩:=two_facts YS.out;obtain⟨m0,m1,-,-⟩:=two_facts XS.out;rw[hfl];clear hfl;go_wp2
   all_goals go_ret
   all_goals refine⟨ret_bool ?_,HB.out⟩
   ·simp[Prod.ext_iff];omega
   ·simp[Prod.ext_iff];omega
   ·simp[Prod.ext_iff];omega
end Go.Proofs.YtfplipbkjglmhaaDoor
