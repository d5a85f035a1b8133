/-
 The walk of what asks a press: whether there is a truth, what a weight can be, what can go in.
-/
import Derived.Test.YtfplipbkjglmhaaDoorStart
import Derived.Test.YtfplipbkjglmhaaDoorHold
namespace Go.Proofs.YtfplipbkjglmhaaDoor
open Go.RowKit
set_option linter.unusedVariables false
set_option linter.unusedSimpArgs false
abbrev RT (ps:List PR) (ws:List WE):Nat→Nat→Sp:=rowsT ps ws
abbrev UT (ps:List PR) (ws:List WE):Nat→Sp:=upP (toT ps) (rowsT ps ws)
abbrev IT (ps:List PR) (ws:List WE):Nat→Sp:=intoP (toT ps) (rowsT ps ws)
def hasT (ps:List PR) (ws:List WE):Bool:=holdsB (rowsT ps ws) (upP (toT ps) (rowsT ps ws)) ps.length
def askE (ps:List PR) (ws:List WE) (id kind:Int):Int:=
 if validP ps ws then if idxP ps id<0 then 6 else if rng 1 6 kind then if hasT ps ws then 0 else 8 else 2 else 20
/-- What stands behind the copy of the argument. -/
structure PX (w:World) (A A':Option Addr) (n c n' c':Nat) (ps:List PR) (ws:List WE) (z:World):Prop where
 b0:z.heap[w.heap.size]? = some (.cells #[.slice A n c,.slice A' n' c'] 25 (0,0))
 bel:Below w.heap.size w z
 rp:Reads z z.heap.size 4 A n (pgs ps)
 rw_:Reads z z.heap.size 5 A' n' (wgs ws)
 laid:Laid z
section
variable {w z y:World} {A A':Option Addr} {n c n' c':Nat} {ps:List PR} {ws:List WE}
theorem PX.below(h:PX w A A' n c n' c' ps ws z)(hb:Below z.heap.size z y):PX w A A' n c n' c' ps ws y:=by
 have hs2:=hb.size;have h0:=(Array.getElem?_eq_some_iff.1 h.b0).1;exact⟨keepO hb h.b0,below_via h.bel (by omega) hb,(h.rp.below hb).more hs2,(h.rw_.below hb).more hs2,h.laid.below hb h.laid.2.2.2⟩
theorem PX.start(hR:Reads w w.heap.size 4 A n (pgs ps))(hW:Reads w w.heap.size 5 A' n' (wgs ws))(hL:Laid w):PX w A A' n c n' c' ps ws (w.alloc (.cells #[.slice A n c,.slice A' n' c'] 25)):=by
 have hb:Below w.heap.size w (w.alloc (.cells #[.slice A n c,.slice A' n' c'] 25)):=(Below.refl _ _).alloc (Nat.le_refl _) _;exact⟨heap_alloc_new w _,hb,(hR.below hb).more hb.size,(hW.below hb).more hb.size,hL.below hb hL.2.2.2⟩
theorem PX.cells(h:PX w A A' n c n' c' ps ws z):z.cell? ⟨w.heap.size,0,none⟩=some (.slice A n c)∧z.cell? ⟨w.heap.size,1,none⟩=some (.slice A' n' c'):=by
 obtain⟨a,b,-,-⟩:=two_facts h.b0;exact⟨a,b⟩
end
/-- What is returned: a press at work, or an error. -/
def AskR (w:World) (ps:List PR) (ws:List WE) (id kind:Int) (n:Nat) (e:Ending) (w':World):Prop:=
 Below w.heap.size w w'∧(askE ps ws id kind≠0→e = .returned (.tuple #[.pointer none,.int .i64 0,.int .i64 (askE ps ws id kind)]))∧
 (askE ps ws id kind=0→∃mb At Ar Au Ai ct cr cu ci,e = .returned (.tuple #[.pointer (some ⟨mb,0,none⟩),.int .i64 (idxP ps id),.int .i64 0])∧
  MR w' mb n (toT ps) (rowsT ps ws) (upP (toT ps) (rowsT ps ws)) (intoP (toT ps) (rowsT ps ws)) At Ar Au Ai ct cr cu ci)
theorem AskR.bad{w w':World}{ps:List PR}{ws:List WE}{id kind:Int}{n:Nat}{er:Int}(h:askE ps ws id kind=er)(h0:er≠0)(hb:Below w.heap.size w w'):AskR w ps ws id kind n (.returned (.tuple #[.pointer none,.int .i64 0,.int .i64 er])) w':=
 ⟨hb,fun _=>by rw[h],fun h1=>absurd (h.symm.trans h1) h0⟩
set_option maxRecDepth 100000 in
set_option maxHeartbeats 2000000 in
theorem asked_any(A A':Option Addr)(n c n' c':Nat)(ps:List PR)(ws:List WE)(id kind:Int)(w:World)(hnm:n≤maxLen)(hR:Reads w w.heap.size 4 A n (pgs ps))(hW:Reads w w.heap.size 5 A' n' (wgs ws))(hL:Laid w) :
  Calls Tryd.prog 78 #[.agg #[.slice A n c,.slice A' n' c'],.int .i64 id,.int .i64 kind] w fun e w'=>AskR w ps ws id kind n e w':=by
 have hl:=hR.pg_len;have HP0:=Lib.hid (PX.start (c:=c) (c':=c') hR hW hL);have HCk:=Lib.hid (fun z (hz:PX w A A' n c n' c' ps ws z)=>Check_any A A' n c n' c' ps ws z hz.rp hz.rw_ hz.laid);have HIx:=Lib.hid (fun z (hz:PX w A A' n c n' c' ps ws z)=>index_any A A' n c n' c' ps id z hnm hz.rp);have HSt:=Lib.hid (fun z (hz:PX w A A' n c n' c' ps ws z) hv=>started_any A A' n c n' c' ps ws z hz.rp hz.rw_ hv);clear hR hW hL
 go_enter Tryd.func78,Tryd.ntmps78
 go_wp2_with fail
 refine(HCk.out _ HP0.out).mono ?_;rintro e z1 ⟨rfl,hb1⟩;have HP1:=Lib.hid (HP0.out.below hb1);clear hb1;cases hv:validP ps ws
 ·have hs:Hid (askE ps ws id kind=20):=(by show _=_;unfold askE;rw[hv];rfl);rw[show checkS ps ws=20 by unfold checkS;rw[hv];rfl];clear hv hl;go_wp2;exact bodyPost_ret (v:=.tuple #[.pointer none,.int .i64 0,.int .i64 20]) (by simp[results,Tryd.results78,go_sem]) rfl (AskR.bad hs.out (by decide) HP1.out.bel)
 ·rw[show checkS ps ws=0 by unfold checkS;rw[hv];rfl];have hn:n≤10:=by
   have h:=(valid_facts hv).n10;omega
  have hvh:=Lib.hid hv;obtain⟨p0,p1⟩:=HP1.out.cells;have HA:Hid (askE ps ws id kind=if idxP ps id<0 then 6 else if rng 1 6 kind then if hasT ps ws then 0 else 8 else 2):=(by show _=_;unfold askE;rw[hv,if_pos rfl]);clear hv;(go_wp2_with fail);refine(HIx.out _ HP1.out).mono ?_;rintro e z2 ⟨rfl,hb2⟩;have HP2:=Lib.hid (HP1.out.below hb2);clear hb2 p0 p1;have hj0:=(idxP_bound ps id).1;have hj1:=(idxP_bound ps id).2;by_cases hj:idxP ps id<0
  ·have hs:Hid (askE ps ws id kind=6):=(by show _=_;rw[HA.out,if_pos hj]);generalize idxP ps id=jx at *;clear hl hj0 hj1;go_wp2;exact bodyPost_ret (v:=.tuple #[.pointer none,.int .i64 0,.int .i64 6]) (by simp[results,Tryd.results78,go_sem]) rfl (AskR.bad hs.out (by decide) HP2.out.bel)
  ·rw[if_neg hj] at HA;obtain⟨z3,hz3⟩:∃z3,z3=z2.alloc (.cells #[.int .i64 kind] 3):=⟨_,rfl⟩;have hb3:Below z2.heap.size z2 z3:=(by rw[hz3];exact(Below.refl _ _).alloc (Nat.le_refl _) _);have HIn:=Lib.hid (in_any 1 6 (some ⟨z2.heap.size,0,none⟩) 1 1 [kind] z3 (by unfold maxLen;omega) (rd_one (by rw[hz3];exact heap_alloc_new z2 _)));have HP3:=Lib.hid (HP2.out.below hb3);have hr:Hid (inB 1 6 [kind]=rng 1 6 kind):=(by show _=_;simp[inB,rng]);obtain⟨jx,hjx⟩:∃jx,jx=idxP ps id:=⟨_,rfl⟩;rw[←hjx] at hj hj0 hj1 ⊢;have hjh:=Lib.hid hjx;clear hjx hb3;(go_wp2_with fail);rw[←hz3];clear hz3;refine HIn.out.mono ?_;rintro e z4 ⟨rfl,hb4⟩;rw[hr.out];have HP4:=Lib.hid (HP3.out.below hb4);clear hb4;cases hk:rng 1 6 kind
   ·have hs:Hid (askE ps ws id kind=2):=(by show _=_;rw[HA.out,hk];rfl);clear hk;go_wp2;exact bodyPost_ret (v:=.tuple #[.pointer none,.int .i64 0,.int .i64 2]) (by simp[results,Tryd.results78,go_sem]) rfl (AskR.bad hs.out (by decide) HP4.out.bel)
   ·have HA2:Hid (askE ps ws id kind=if hasT ps ws then 0 else 8):=(by show _=_;rw[HA.out,hk,if_pos rfl]);clear hk HA;obtain⟨p0,p1⟩:=HP4.out.cells;(go_wp2_with fail);refine(HSt.out _ HP4.out hvh.out).mono ?_;rintro e z5 ⟨rfl,hb5,At,Ar,Au,ct,cr,cu,gI,hMO⟩;have HP5:=Lib.hid (HP4.out.below hb5);have HM:=Lib.hid hMO.mr;clear hb5 hMO p0 p1;generalize z4.heap.size+1=mb at *;(go_wp2_with fail);refine(holds_any mb n _ _ _ _ _ _ _ _ _ _ _ _ hn z5 HM.out).mono ?_;rintro e z6 ⟨rfl,hb6⟩;have HM6:=Lib.hid (HM.out.below hb6);have HP6:=Lib.hid (HP5.out.below hb6);clear hb6;have hh:holdsB (rowsT ps ws) (upP (toT ps) (rowsT ps ws)) n=hasT ps ws:=(by unfold hasT;rw[hl]);rw[hh];clear hh hl hj0 hj1 hj;cases ht:hasT ps ws
    ·have hs:Hid (askE ps ws id kind=8):=(by show _=_;rw[HA2.out,ht];rfl);clear ht;go_wp2;exact bodyPost_ret (v:=.tuple #[.pointer none,.int .i64 0,.int .i64 8]) (by simp[results,Tryd.results78,go_sem]) rfl (AskR.bad hs.out (by decide) HP6.out.bel)
    ·have hs:Hid (askE ps ws id kind=0):=(by show _=_;rw[HA2.out,ht];rfl);clear ht;go_wp2;refine bodyPost_ret (v:=.tuple #[.pointer (some ⟨mb,0,none⟩),.int .i64 jx,.int .i64 0]) (by simp[results,Tryd.results78,go_sem]) rfl ⟨HP6.out.bel,fun h=>absurd hs.out h,fun _=>⟨mb,_,_,_,_,_,_,_,_,by rw[hjh.out],HM6.out⟩⟩
set_option maxRecDepth 100000 in
set_option maxHeartbeats 2000000 in
theorem pHolds_any(A A':Option Addr)(n c n' c':Nat)(ps:List PR)(ws:List WE)(w:World)(hR:Reads w w.heap.size 4 A n (pgs ps))(hW:Reads w w.heap.size 5 A' n' (wgs ws))(hL:Laid w) :
  Calls Tryd.prog 25 #[.agg #[.slice A n c,.slice A' n' c']] w fun e w'=>e = .returned (.tuple #[.bool (validP ps ws && hasT ps ws),.int .i64 (checkS ps ws)])∧Below w.heap.size w w':=by
 have hl:=hR.pg_len;have HP0:=Lib.hid (PX.start (c:=c) (c':=c') hR hW hL);have HCk:=Lib.hid (fun z (hz:PX w A A' n c n' c' ps ws z)=>Check_any A A' n c n' c' ps ws z hz.rp hz.rw_ hz.laid);have HSt:=Lib.hid (fun z (hz:PX w A A' n c n' c' ps ws z) hv=>started_any A A' n c n' c' ps ws z hz.rp hz.rw_ hv);have hmf:∀(fn:Fn) (first cap:Array Value) (w:World),(Instr.makeFunc fn first cap).run Tryd.prog w = .ok (.func fn first cap) w:=fun _ _ _ _=>rfl;clear hR hW hL
 go_enter Tryd.func25,Tryd.ntmps25
 go_wp2_with fail
 refine(HCk.out _ HP0.out).mono ?_;rintro e z1 ⟨rfl,hb1⟩;have HP1:=Lib.hid (HP0.out.below hb1);clear hb1;cases hv:validP ps ws
 ·have hc:Hid (checkS ps ws=20):=(by show _=_;unfold checkS;rw[hv];rfl);have hv:=Lib.hid hv;rw[hc.out];clear hl;go_wp2;exact bodyPost_ret (v:=.tuple #[.bool false,.int .i64 20]) (by simp[results,Tryd.results25,go_sem]) rfl ⟨by rw[hv.out,hc.out];rfl,HP1.out.bel⟩
 ·have hc:Hid (checkS ps ws=0):=(by show _=_;unfold checkS;rw[hv];rfl);rw[hc.out];have hn:n≤10:=by
   have h:=(valid_facts hv).n10;omega
  have hvh:=Lib.hid hv;obtain⟨p0,p1⟩:=HP1.out.cells;clear hv;(go_wp2_with fail);refine(HSt.out _ HP1.out hvh.out).mono ?_;rintro e z5 ⟨rfl,hb5,At,Ar,Au,ct,cr,cu,gI,hMO⟩;have HP5:=Lib.hid (HP1.out.below hb5);have HM:=Lib.hid hMO.mr;clear hb5 hMO p0 p1;generalize z1.heap.size+1=mb at *;(go_wp2_with fail);refine(holds_any mb n _ _ _ _ _ _ _ _ _ _ _ _ hn z5 HM.out).mono ?_;rintro e z6 ⟨rfl,hb6⟩;have HP6:=Lib.hid (HP5.out.below hb6);have hh:holdsB (rowsT ps ws) (upP (toT ps) (rowsT ps ws)) n=hasT ps ws:=(by unfold hasT;rw[hl]);rw[hh];have hbb:=Lib.hid (show (validP ps ws && hasT ps ws)=hasT ps ws by rw[hvh.out];rfl);clear hh hl hb6;go_wp2;exact bodyPost_ret (v:=.tuple #[.bool (hasT ps ws),.int .i64 0]) (by simp[results,Tryd.results25,go_sem]) rfl ⟨by rw[hbb.out,hc.out],HP6.out.bel⟩
/-- With a result's cells. -/
structure PY (w:World) (A A':Option Addr) (n c n' c':Nat) (ps:List PR) (ws:List WE) (z:World):Prop extends PX w A A' n c n' c' ps ws z where
 b1:z.heap[w.heap.size+1]? = some (.cells #[.int .i64 0,.int .i64 0] 36 (0,0))
section
variable {w z y:World} {A A':Option Addr} {n c n' c':Nat} {ps:List PR} {ws:List WE}
theorem PY.below(h:PY w A A' n c n' c' ps ws z)(hb:Below z.heap.size z y):PY w A A' n c n' c' ps ws y:=⟨h.toPX.below hb,keepO hb h.b1⟩
theorem PY.start(hR:Reads w w.heap.size 4 A n (pgs ps))(hW:Reads w w.heap.size 5 A' n' (wgs ws))(hL:Laid w):PY w A A' n c n' c' ps ws ((w.alloc (.cells #[.slice A n c,.slice A' n' c'] 25)).alloc (.cells #[.int .i64 0,.int .i64 0] 36)):=by
 refine⟨(PX.start hR hW hL).below ((Below.refl _ _).alloc (Nat.le_refl _) _),?_⟩;have:=heap_alloc_new (w.alloc (.cells #[.slice A n c,.slice A' n' c'] 25)) (.cells #[.int .i64 0,.int .i64 0] 36);simpa using this
end
def spanSp (ps:List PR) (ws:List WE) (i k:Nat):Sp:=spanS (toT ps) (RT ps ws) (UT ps ws) (IT ps ws) ps.length i k
def inSp (ps:List PR) (ws:List WE) (i:Nat):Sp:=inS (toT ps) (RT ps ws) (UT ps ws) (IT ps ws) ps.length i
def spanE (ps:List PR) (ws:List WE) (id kind:Int):Sp:=if askE ps ws id kind=0 then spanSp ps ws (idxP ps id).toNat kind.toNat else(0,0)
def inE (ps:List PR) (ws:List WE) (id:Int):Sp:=if askE ps ws id 1=0 then inSp ps ws (idxP ps id).toNat else(0,0)
theorem askE_ok{ps:List PR}{ws:List WE}{id kind:Int}(h:askE ps ws id kind=0):validP ps ws=true∧0≤idxP ps id∧1≤kind∧kind≤6∧hasT ps ws=true:=by
 unfold askE at h;split at h
 ·rename_i hv;split at h
  ·omega
  ·rename_i hi;split at h
   ·rename_i hk;split at h
    ·rename_i ht;have:=rng_iff hk;exact⟨hv,by omega,this.1,this.2,ht⟩
    ·omega
   ·omega
 ·omega
set_option maxRecDepth 100000 in
set_option maxHeartbeats 2000000 in
theorem pSpan_any(A A':Option Addr)(n c n' c':Nat)(ps:List PR)(ws:List WE)(id kind:Int)(w:World)(hnm:n≤maxLen)(hR:Reads w w.heap.size 4 A n (pgs ps))(hW:Reads w w.heap.size 5 A' n' (wgs ws))(hL:Laid w) :
  Calls Tryd.prog 39 #[.agg #[.slice A n c,.slice A' n' c'],.int .i64 id,.int .i64 kind] w fun e w'=>e = .returned (.tuple #[.agg #[.int .i64 (spanE ps ws id kind).1,.int .i64 (spanE ps ws id kind).2],.int .i64 (askE ps ws id kind)])∧Below w.heap.size w w':=by
 have hl:=hR.pg_len;have HP0:=Lib.hid (PY.start (c:=c) (c':=c') hR hW hL);have HA:=Lib.hid (fun z (hz:PY w A A' n c n' c' ps ws z)=>asked_any A A' n c n' c' ps ws id kind z hnm hz.rp hz.rw_ hz.laid);clear hR hW hL
 go_enter Tryd.func39,Tryd.ntmps39
 go_wp2_with fail
 refine(HA.out _ HP0.out).mono ?_;rintro e z1 ⟨hb1,hbad,hok⟩;have HP1:=Lib.hid (HP0.out.below hb1);clear hb1;by_cases h0:askE ps ws id kind=0
 ·obtain⟨mb,At,Ar,Au,Ai,ct,cr,cu,ci,rfl,hM⟩:=hok h0;obtain⟨hv,hi0,hk1,hk6,-⟩:=askE_ok h0;have hn:n≤10:=by
   have h:=(valid_facts hv).n10;omega
  obtain⟨i,hi⟩:∃i:Nat,idxP ps id=i:=⟨(idxP ps id).toNat,by omega⟩;obtain⟨k,rfl⟩:∃k:Nat,kind=k:=⟨kind.toNat,by omega⟩;have hin:i<n:=(by have:=(idxP_bound ps id).2;omega);have hS:spanE ps ws id k=spanS (toT ps) (rowsT ps ws) (upP (toT ps) (rowsT ps ws)) (intoP (toT ps) (rowsT ps ws)) n i k:=by
   unfold spanE;rw[if_pos h0,hi];unfold spanSp;rw[hl];rfl
  rw[hi];have hVF:=valid_facts hv;have hSm:=hVF.smr ws.length;rw[List.take_length,hl] at hSm;have hFw:=hVF.fwd;rw[hl] at hFw;have HSp:=Lib.hid (span_any mb n (toT ps) (rowsT ps ws) _ _ At Ar Au Ai ct cr cu ci hFw hSm (up_smu hSm hn) (into_smu hSm hn) hn i k hin (by omega) (by omega) z1 hM);have hSh:=Lib.hid hS;have h0h:=Lib.hid h0;clear hS hVF hSm hFw hM hok hbad hv hi0 hk1 hk6 hi h0 hin;generalize spanS (toT ps) (rowsT ps ws) (upP (toT ps) (rowsT ps ws)) (intoP (toT ps) (rowsT ps ws)) n i k=s at *;(go_wp2_with fail);refine HSp.out.mono ?_;rintro e z2 ⟨rfl,hb2⟩;have HP2:=Lib.hid (HP1.out.below hb2);clear hb2;obtain⟨g0,g1,f0,f1⟩:=two_facts HP2.out.b1;go_wp2;obtain⟨e0,e1⟩:=set_back HP2.out.b1 (.int .i64 s.1) (.int .i64 s.2);exact bodyPost_ret (v:=.tuple #[.agg #[.int .i64 s.1,.int .i64 s.2],.int .i64 0]) (by simp[results,Tryd.results39,go_sem,e0,e1]) rfl ⟨by rw[hSh.out,h0h.out],below_two HP2.out.bel (by omega) _ _⟩
 ·obtain rfl:=hbad h0;have hS:Hid (spanE ps ws id kind=(0,0)):=(by show _=_;unfold spanE;rw[if_neg h0]);have h0b:(askE ps ws id kind==0)=false:=(by simpa using h0);obtain⟨g0,g1,f0,f1⟩:=two_facts HP1.out.b1;clear hok hbad hl;obtain⟨er,her⟩:∃er,er=askE ps ws id kind:=⟨_,rfl⟩;rw[←her] at h0 h0b ⊢;have herh:=Lib.hid her;clear her;go_wp2;obtain⟨e0,e1⟩:=set_back HP1.out.b1 (.int .i64 0) (.int .i64 0);exact bodyPost_ret (v:=.tuple #[.agg #[.int .i64 0,.int .i64 0],.int .i64 er]) (by simp[results,Tryd.results39,go_sem,e0,e1]) rfl ⟨by rw[hS.out,herh.out],below_two HP1.out.bel (by omega) _ _⟩
set_option maxRecDepth 100000 in
set_option maxHeartbeats 2000000 in
theorem pIn_any(A A':Option Addr)(n c n' c':Nat)(ps:List PR)(ws:List WE)(id:Int)(w:World)(hnm:n≤maxLen)(hR:Reads w w.heap.size 4 A n (pgs ps))(hW:Reads w w.heap.size 5 A' n' (wgs ws))(hL:Laid w) :
  Calls Tryd.prog 41 #[.agg #[.slice A n c,.slice A' n' c'],.int .i64 id] w fun e w'=>e = .returned (.tuple #[.agg #[.int .i64 (inE ps ws id).1,.int .i64 (inE ps ws id).2],.int .i64 (askE ps ws id 1)])∧Below w.heap.size w w':=by
 have hl:=hR.pg_len;have HP0:=Lib.hid (PY.start (c:=c) (c':=c') hR hW hL);have HA:=Lib.hid (fun z (hz:PY w A A' n c n' c' ps ws z)=>asked_any A A' n c n' c' ps ws id 1 z hnm hz.rp hz.rw_ hz.laid);clear hR hW hL
 go_enter Tryd.func41,Tryd.ntmps41
 go_wp2_with fail
 refine(HA.out _ HP0.out).mono ?_;rintro e z1 ⟨hb1,hbad,hok⟩;have HP1:=Lib.hid (HP0.out.below hb1);clear hb1;by_cases h0:askE ps ws id 1=0
 ·obtain⟨mb,At,Ar,Au,Ai,ct,cr,cu,ci,rfl,hM⟩:=hok h0;obtain⟨hv,hi0,hk1,hk6,-⟩:=askE_ok h0;have hn:n≤10:=by
   have h:=(valid_facts hv).n10;omega
  obtain⟨i,hi⟩:∃i:Nat,idxP ps id=i:=⟨(idxP ps id).toNat,by omega⟩;have hin:i<n:=(by have:=(idxP_bound ps id).2;omega);have hS:inE ps ws id=inS (toT ps) (rowsT ps ws) (upP (toT ps) (rowsT ps ws)) (intoP (toT ps) (rowsT ps ws)) n i:=by
   unfold inE;rw[if_pos h0,hi];unfold inSp;rw[hl];rfl
  rw[hi];have hVF:=valid_facts hv;have hSm:=hVF.smr ws.length;rw[List.take_length,hl] at hSm;have hFw:=hVF.fwd;rw[hl] at hFw;have HSp:=Lib.hid (inM_any mb n (toT ps) (rowsT ps ws) _ _ At Ar Au Ai ct cr cu ci hFw hSm (up_smu hSm hn) (into_smu hSm hn) hn i hin z1 hM);have hSh:=Lib.hid hS;have h0h:=Lib.hid h0;clear hS hVF hSm hFw hM hok hbad hv hi0 hk1 hk6 hi h0 hin;generalize inS (toT ps) (rowsT ps ws) (upP (toT ps) (rowsT ps ws)) (intoP (toT ps) (rowsT ps ws)) n i=s at *;(go_wp2_with fail);refine HSp.out.mono ?_;rintro e z2 ⟨rfl,hb2⟩;have HP2:=Lib.hid (HP1.out.below hb2);clear hb2;obtain⟨g0,g1,f0,f1⟩:=two_facts HP2.out.b1;go_wp2;obtain⟨e0,e1⟩:=set_back HP2.out.b1 (.int .i64 s.1) (.int .i64 s.2);exact bodyPost_ret (v:=.tuple #[.agg #[.int .i64 s.1,.int .i64 s.2],.int .i64 0]) (by simp[results,Tryd.results41,go_sem,e0,e1]) rfl ⟨by rw[hSh.out,h0h.out],below_two HP2.out.bel (by omega) _ _⟩
 ·obtain rfl:=hbad h0;have hS:Hid (inE ps ws id=(0,0)):=(by show _=_;unfold inE;rw[if_neg h0]);have h0b:(askE ps ws id 1==0)=false:=(by simpa using h0);obtain⟨g0,g1,f0,f1⟩:=two_facts HP1.out.b1;clear hok hbad hl;obtain⟨er,her⟩:∃er,er=askE ps ws id 1:=⟨_,rfl⟩;rw[←her] at h0 h0b ⊢;have herh:=Lib.hid her;clear her;go_wp2;obtain⟨e0,e1⟩:=set_back HP1.out.b1 (.int .i64 0) (.int .i64 0);exact bodyPost_ret (v:=.tuple #[.agg #[.int .i64 0,.int .i64 0],.int .i64 er]) (by simp[results,Tryd.results41,go_sem,e0,e1]) rfl ⟨by rw[hS.out,herh.out],below_two HP1.out.bel (by omega) _ _⟩
end Go.Proofs.YtfplipbkjglmhaaDoor
