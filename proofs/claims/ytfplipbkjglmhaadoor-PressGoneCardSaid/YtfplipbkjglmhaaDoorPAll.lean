/-
 The walk of what all of a kind can be: the program's.
-/
import Derived.Test.YtfplipbkjglmhaaDoorCut
import Derived.Test.YtfplipbkjglmhaaDoorRAsk
import Derived.Test.YtfplipbkjglmhaaDoorLead
import Derived.Test.YtfplipbkjglmhaaDoorPGrt
import Derived.Test.YtfplipbkjglmhaaDoorAsk
namespace Go.Proofs.YtfplipbkjglmhaaDoor
open Go.RowKit
set_option linter.unusedVariables false
set_option linter.unusedSimpArgs false
theorem hasHolds{ps:List PR}{ws:List WE}(h:ValidF ps ws)(ht:hasT ps ws=true):Holds ps.length (rowsT ps ws) (upP (toT ps) (rowsT ps ws)):=by
 unfold hasT at ht;rw[holdsB_P,holdsP_iff (fun i hi=>by have:=rows_zero h i ws.length;rw[List.take_length] at this;rw[this];simp[Ne])] at ht;exact ht
/-- The error of a press, and of a kind that is asked of all. -/
def allE (ps:List PR) (ws:List WE) (k:Int):Int:=if validP ps ws then if rng 1 5 k then if hasT ps ws then 0 else 8 else 2 else 20
theorem allE_ok{ps:List PR}{ws:List WE}{k:Int}(h:allE ps ws k=0):validP ps ws=true∧1≤k∧k≤5∧hasT ps ws=true:=by
 unfold allE at h;cases hv:validP ps ws with
 |false=>rw[hv] at h;simp at h
 |true=>
  rw[hv,if_pos rfl] at h;cases hk:rng 1 5 k with
  |false=>rw[hk] at h;simp at h
  |true=>
   rw[hk,if_pos rfl] at h;cases ht:hasT ps ws with
   |false=>rw[ht] at h;simp at h
   |true=>exact⟨rfl,(rng_iff hk).1,(rng_iff hk).2,rfl⟩
/-- What all of a kind can be. -/
def allS (ps:List PR) (ws:List WE) (k:Int):Sp:=if allE ps ws k=0 then(-(grt (toT ps) (rowsT ps ws) k.toNat (-1) ps.length),grt (toT ps) (rowsT ps ws) k.toNat 1 ps.length) else(0,0)
/-- The copy of the argument, and the first result. -/
structure PA (w:World) (A A':Option Addr) (n c n' c':Nat) (z:World):Prop where
 b0:z.heap[w.heap.size]? = some (.cells #[.slice A n c,.slice A' n' c'] 25 (0,0))
 b1:z.heap[w.heap.size+1]? = some (.cells #[.int .i64 0,.int .i64 0] 36 (0,0))
 bel:Below w.heap.size w z
section
variable {w z y:World} {A A':Option Addr} {n c n' c':Nat}
theorem PA.size(h:PA w A A' n c n' c' z):w.heap.size+2≤z.heap.size:=(Array.getElem?_eq_some_iff.1 h.b1).1
theorem PA.below(h:PA w A A' n c n' c' z)(hb:Below z.heap.size z y):PA w A A' n c n' c' y:=
 ⟨keepO hb h.b0,keepO hb h.b1,below_via h.bel (by have:=h.size;omega) hb⟩
theorem PA.cells(h:PA w A A' n c n' c' z):z.cell? ⟨w.heap.size,0,none⟩=some (.slice A n c)∧z.cell? ⟨w.heap.size,1,none⟩=some (.slice A' n' c'):=by
 obtain⟨a,b,-,-⟩:=two_facts h.b0;exact⟨a,b⟩
theorem PA.start(w:World)(A A':Option Addr)(n c n' c':Nat):PA w A A' n c n' c' ((w.alloc (.cells #[.slice A n c,.slice A' n' c'] 25)).alloc (.cells #[.int .i64 0,.int .i64 0] 36)):=by
 have h1:=heap_alloc_new (w.alloc (.cells #[.slice A n c,.slice A' n' c'] 25)) (.cells #[.int .i64 0,.int .i64 0] 36);simp only[World.size_alloc] at h1;refine⟨?_,h1,((Below.refl _ _).alloc (Nat.le_refl _) _).alloc (by simp) _⟩;rw[heap_lt_alloc' _ _ _ (by simp)];exact heap_alloc_new w _
end
theorem rows_In1{ps:List PR}{ws:List WE}(h:ValidF ps ws)(i:Nat):In1 (rowsT ps ws i):=fun k _=>by
 have:=h.inr ws.length i k;rw[List.take_length] at this;exact this
end Go.Proofs.YtfplipbkjglmhaaDoor

namespace Go.Proofs.YtfplipbkjglmhaaDoor
open Go.RowKit
set_option linter.unusedVariables false
set_option linter.unusedSimpArgs false
/-- What is returned: a press at work, or an error. -/
def AllR (w:World) (ps:List PR) (ws:List WE) (k:Int) (n:Nat) (e:Ending) (w':World):Prop:=
 Below w.heap.size w w'∧(allE ps ws k≠0→e = .returned (.tuple #[.pointer none,.int .i64 (allE ps ws k)]))∧
 (allE ps ws k=0→∃mb At Ar Au Ai ct cr cu ci,e = .returned (.tuple #[.pointer (some ⟨mb,0,none⟩),.int .i64 0])∧
  MR w' mb n (toT ps) (rowsT ps ws) (upP (toT ps) (rowsT ps ws)) (intoP (toT ps) (rowsT ps ws)) At Ar Au Ai ct cr cu ci)
theorem AllR.bad{w w':World}{ps:List PR}{ws:List WE}{k:Int}{n:Nat}{er:Int}(h:allE ps ws k=er)(h0:er≠0)(hb:Below w.heap.size w w'):AllR w ps ws k n (.returned (.tuple #[.pointer none,.int .i64 er])) w':=
 ⟨hb,fun _=>by rw[h],fun h1=>absurd (h.symm.trans h1) h0⟩
set_option maxRecDepth 100000 in
set_option maxHeartbeats 2000000 in
theorem askedAll_any(A A':Option Addr)(n c n' c':Nat)(ps:List PR)(ws:List WE)(k:Int)(w:World)(hnm:n≤maxLen)(hR:Reads w w.heap.size 4 A n (pgs ps))(hW:Reads w w.heap.size 5 A' n' (wgs ws))(hL:Laid w) :
  Calls Tryd.prog 62 #[.agg #[.slice A n c,.slice A' n' c'],.int .i64 k] w fun e w'=>AllR w ps ws k n e w':=by
 have hl:=hR.pg_len;have HP0:=Lib.hid (PX.start (c:=c) (c':=c') hR hW hL);have HCk:=Lib.hid (fun z (hz:PX w A A' n c n' c' ps ws z)=>Check_any A A' n c n' c' ps ws z hz.rp hz.rw_ hz.laid);have HSt:=Lib.hid (fun z (hz:PX w A A' n c n' c' ps ws z) hv=>started_any A A' n c n' c' ps ws z hz.rp hz.rw_ hv);clear hR hW hL
 go_enter Tryd.func62,Tryd.ntmps62
 go_wp2_with fail
 refine(HCk.out _ HP0.out).mono ?_;rintro e z2 ⟨rfl,hb1⟩;have HP2:=Lib.hid (HP0.out.below hb1);clear hb1;cases hv:validP ps ws
 ·have hs:Hid (allE ps ws k=20):=(by show _=_;unfold allE;rw[hv];rfl);rw[show checkS ps ws=20 by unfold checkS;rw[hv];rfl];clear hv hl;go_wp2;exact bodyPost_ret (v:=.tuple #[.pointer none,.int .i64 20]) (by simp[results,Tryd.results62,go_sem]) rfl (AllR.bad hs.out (by decide) HP2.out.bel)
 ·rw[show checkS ps ws=0 by unfold checkS;rw[hv];rfl];have hn:n≤10:=by
   have h:=(valid_facts hv).n10;omega
  have hvh:=Lib.hid hv;have HA:Hid (allE ps ws k=if rng 1 5 k then if hasT ps ws then 0 else 8 else 2):=(by show _=_;unfold allE;rw[hv,if_pos rfl]);clear hv;obtain⟨z3,hz3⟩:∃z3,z3=z2.alloc (.cells #[.int .i64 k] 3):=⟨_,rfl⟩;have hb3:Below z2.heap.size z2 z3:=(by rw[hz3];exact(Below.refl _ _).alloc (Nat.le_refl _) _);have HIn:=Lib.hid (in_any 1 5 (some ⟨z2.heap.size,0,none⟩) 1 1 [k] z3 (by unfold maxLen;omega) (rd_one (by rw[hz3];exact heap_alloc_new z2 _)));have HP3:=Lib.hid (HP2.out.below hb3);have hr:Hid (inB 1 5 [k]=rng 1 5 k):=(by show _=_;simp[inB,rng]);have hz3h:=Lib.hid hz3;clear hb3 hz3;(go_wp2_with fail);rw[←hz3h.out];clear hz3h;refine HIn.out.mono ?_;rintro e z4 ⟨rfl,hb4⟩;rw[hr.out];have HP4:=Lib.hid (HP3.out.below hb4);clear hb4;cases hk:rng 1 5 k
  ·have hs:Hid (allE ps ws k=2):=(by show _=_;rw[HA.out,hk];rfl);clear hk;go_wp2;exact bodyPost_ret (v:=.tuple #[.pointer none,.int .i64 2]) (by simp[results,Tryd.results62,go_sem]) rfl (AllR.bad hs.out (by decide) HP4.out.bel)
  ·have HA2:Hid (allE ps ws k=if hasT ps ws then 0 else 8):=(by show _=_;rw[HA.out,hk,if_pos rfl]);clear hk HA;obtain⟨p0,p1⟩:=HP4.out.cells;(go_wp2_with fail);refine(HSt.out _ HP4.out hvh.out).mono ?_;rintro e z5 ⟨rfl,hb5,At,Ar,Au,ct,cr,cu,gI,hMO⟩;have HP5:=Lib.hid (HP4.out.below hb5);have HM:=Lib.hid hMO.mr;clear hb5 hMO p0 p1;generalize z4.heap.size+1=mb at *;(go_wp2_with fail);refine(holds_any mb n _ _ _ _ _ _ _ _ _ _ _ _ hn z5 HM.out).mono ?_;rintro e z6 ⟨rfl,hb6⟩;have HM6:=Lib.hid (HM.out.below hb6);have HP6:=Lib.hid (HP5.out.below hb6);clear hb6;have hh:holdsB (rowsT ps ws) (upP (toT ps) (rowsT ps ws)) n=hasT ps ws:=(by unfold hasT;rw[hl]);rw[hh];clear hh hl;cases ht:hasT ps ws
   ·have hs:Hid (allE ps ws k=8):=(by show _=_;rw[HA2.out,ht];rfl);clear ht;go_wp2;exact bodyPost_ret (v:=.tuple #[.pointer none,.int .i64 8]) (by simp[results,Tryd.results62,go_sem]) rfl (AllR.bad hs.out (by decide) HP6.out.bel)
   ·have hs:Hid (allE ps ws k=0):=(by show _=_;rw[HA2.out,ht];rfl);clear ht;go_wp2;refine bodyPost_ret (v:=.tuple #[.pointer (some ⟨mb,0,none⟩),.int .i64 0]) (by simp[results,Tryd.results62,go_sem]) rfl ⟨HP6.out.bel,fun h=>absurd hs.out h,fun _=>⟨mb,_,_,_,_,_,_,_,_,rfl,HM6.out⟩⟩
set_option maxRecDepth 100000 in
set_option maxHeartbeats 4000000 in
theorem pAll_any(A A':Option Addr)(n c n' c':Nat)(ps:List PR)(ws:List WE)(k:Int)(w:World)(hnm:n≤maxLen)(hR:Reads w w.heap.size 4 A n (pgs ps))(hW:Reads w w.heap.size 5 A' n' (wgs ws))(hL:Laid w) :
  Calls Tryd.prog 18 #[.agg #[.slice A n c,.slice A' n' c'],.int .i64 k] w fun e w'=>e = .returned (.tuple #[.agg #[.int .i64 (allS ps ws k).1,.int .i64 (allS ps ws k).2],.int .i64 (allE ps ws k)])∧Below w.heap.size w w':=by
 have hl:ps.length=n:=hR.pg_len;have HA:=Lib.hid (fun z (hz:Below w.heap.size w z)=>askedAll_any A A' n c n' c' ps ws k z hnm ((hR.below hz).more hz.size) ((hW.below hz).more hz.size) (hL.below hz hL.2.2.2));have hP0:=Lib.hid (PA.start w A A' n c n' c');clear hR hW hL
 go_enter Tryd.func18,Tryd.ntmps18
 go_wp2_with fail
 refine(HA.out _ hP0.out.bel).mono ?_;rintro e wq ⟨hb1,hbad,hok⟩;have HP:=Lib.hid (hP0.out.below hb1);clear hb1 hP0;by_cases h0:allE ps ws k=0
 ·obtain⟨mb,At,Ar,Au,Ai,ct,cr,cu,ci,rfl,hM⟩:=hok h0;obtain⟨hv,hk1,hk5,ht⟩:=allE_ok h0;obtain⟨K,rfl⟩:∃K:Nat,k=K:=⟨k.toNat,by omega⟩;have hVF:=valid_facts hv;have hn:n≤10:=(by have h:=hVF.n10;omega);have hFw:=hVF.fwd;have hHo:=hasHolds hVF ht;rw[hl] at hFw hHo;have hIn:∀i,i<n→In1 (rowsT ps ws i):=fun i _=>rows_In1 hVF i;have hK5:1≤K∧K≤5:=(by omega);have HG:=Lib.hid (fun sgn (hg:sgn=1∨sgn = -1) z (hz:MR z mb n (toT ps) (rowsT ps ws) (upP (toT ps) (rowsT ps ws)) (intoP (toT ps) (rowsT ps ws)) At Ar Au Ai ct cr cu ci)=>greatest_any mb n (toT ps) (rowsT ps ws) _ _ At Ar Au Ai ct cr cu ci hn hFw hHo hIn K hK5 sgn hg z hz);have hBd:=fun sgn (hg:sgn=1∨sgn = -1)=>tot_big (kind:=K) (sgn:=sgn) hn hg hHo hIn n (Nat.le_refl _);have hb1:=hBd 1 (.inl rfl);have hb2:=hBd (-1) (.inr rfl);change -_≤grt (toT ps) (rowsT ps ws) K 1 n∧grt (toT ps) (rowsT ps ws) K 1 n≤_ at hb1;change -_≤grt (toT ps) (rowsT ps ws) K (-1) n∧grt (toT ps) (rowsT ps ws) K (-1) n≤_ at hb2;have hsp:Hid (allS ps ws (K:Int)=(-(grt (toT ps) (rowsT ps ws) K (-1) n),grt (toT ps) (rowsT ps ws) K 1 n)):=by
   show _=_;unfold allS;rw[if_pos h0,Int.toNat_natCast,hl]
  have hask:=Lib.hid h0;have HM:=Lib.hid hM;clear hv ht h0 hl hVF hFw hHo hIn hBd hM hok hbad;have HG1:=Lib.hid (HG.out 1 (.inl rfl));have HG2:=Lib.hid (HG.out (-1) (.inr rfl));generalize grt (toT ps) (rowsT ps ws) K 1 n=HV at *;generalize grt (toT ps) (rowsT ps ws) K (-1) n=LV at *;obtain⟨d1,d1'⟩:=hb1;obtain⟨d2,d2'⟩:=hb2;clear HG HA;(go_wp2_with fail);refine(HG2.out wq HM.out).mono ?_;rintro e z1 ⟨rfl,hb⟩;have HP1:=Lib.hid (HP.out.below hb);have HM1:=Lib.hid (HM.out.below hb);clear hb HP HM HG2;(go_wp2_with fail);refine(HG1.out z1 HM1.out).mono ?_;rintro e z2 ⟨rfl,hb⟩;have HP2:=Lib.hid (HP1.out.below hb);clear hb HP1 HM1 HG1;obtain⟨g0,g1,f0,f1⟩:=two_facts HP2.out.b1;have hE:=Lib.hid (set_back HP2.out.b1 (.int .i64 (-LV)) (.int .i64 HV));have hBl:=Lib.hid (below_two HP2.out.bel (b:=w.heap.size+1) (by omega) (.int .i64 (-LV)) (.int .i64 HV));clear HP2;go_wp2;obtain⟨e0,e1⟩:=hE.out;exact bodyPost_ret (v:=.tuple #[.agg #[.int .i64 (-LV),.int .i64 HV],.int .i64 0]) (by simp[results,Tryd.results18,go_sem,e0,e1]) rfl ⟨by rw[hsp.out,hask.out],hBl.out⟩
 ·obtain rfl:=hbad h0;have hS:Hid (allS ps ws k=(0,0)):=(by show _=_;unfold allS;rw[if_neg h0]);obtain⟨er,her⟩:∃er,er=allE ps ws k:=⟨_,rfl⟩;rw[←her] at h0 ⊢;have h0b:(er==0)=false:=(by simpa using h0);have h0n:(er != 0)=true:=(by simpa using h0);have herh:=Lib.hid her;obtain⟨g0,g1,f0,f1⟩:=two_facts HP.out.b1;have hE:=Lib.hid (set_back HP.out.b1 (.int .i64 0) (.int .i64 0));have hBl:=Lib.hid (below_two HP.out.bel (b:=w.heap.size+1) (by omega) (.int .i64 0) (.int .i64 0));clear HP hl her hok hbad HA;go_wp2;obtain⟨e0,e1⟩:=hE.out;exact bodyPost_ret (v:=.tuple #[.agg #[.int .i64 0,.int .i64 0],.int .i64 er]) (by simp[results,Tryd.results18,go_sem,e0,e1]) rfl ⟨by rw[hS.out,herh.out],hBl.out⟩
end Go.Proofs.YtfplipbkjglmhaaDoor
