/-
 PressEnds, the tied card: for every press, pressing and kind the law returns true, and its arguments read as before. The package's table of checks is laid as the program's text lays it (the given ties).
-/
import Derived.Test.YtfplipbkjglmhaaDoorEnP
import Derived.Test.YtfplipbkjglmhaaDoorRsL
import Derived.Test.YtfplipbkjglmhaaDoorRAsk
import Derived.Test.YtfplipbkjglmhaaDoorRWo
import Derived.Test.YtfplipbkjglmhaaDoorTk
import Derived.Test.YtfplipbkjglmhaaDoorRdy
import Derived.Test.YtfplipbkjglmhaaDoorAliv
import Derived.Test.YtfplipbkjglmhaaDoorPLaid
import Derived.Test.YtfplipbkjglmhaaDoorCards
import Derived.Test.YtfplipbkjglmhaaDoorTie
import Derived.SevenTiedAt
namespace Go.Proofs.YtfplipbkjglmhaaDoor
open Go.RowKit
set_option linter.unusedVariables false
set_option linter.unusedSimpArgs false
/-- A Number that no weighing has. -/
def moreN (ws:List WE):Int:=ws.foldl (fun n x=>max n (x.1+1)) 1
def moreS (ws:List WE):Int:=if 9999<moreN ws∨30≤ws.length then 0 else moreN ws
theorem more_acc:∀(ws:List WE) (a:Int),a≤ws.foldl (fun n x=>max n (x.1+1)) a∧∀x∈ws,x.1<ws.foldl (fun n x=>max n (x.1+1)) a
 |[],a=>⟨Int.le_refl _,fun x h=>by cases h⟩
 |y::r,a=>by
  obtain⟨h1,h2⟩:=more_acc r (max a (y.1+1));rw[List.foldl_cons];refine⟨by omega,fun x hx=>?_⟩;rcases List.mem_cons.1 hx with rfl|hx
  ·omega
  ·exact h2 x hx
theorem more_facts{ws:List WE}(h:moreS ws≠0):moreS ws=moreN ws∧1≤moreN ws∧moreN ws≤9999∧ws.length<30∧∀x∈ws,x.1<moreN ws:=by
 obtain⟨h1,h2⟩:=more_acc ws 1;unfold moreS at *;split at h
 ·exact absurd rfl h
 ·rename_i hn;rw[if_neg hn];exact⟨rfl,h1,by omega,by omega,h2⟩
theorem pos_end{ws:List WE}{N:Int}(h:∀x∈ws,x.1<N):posW ws N=ws.length:=by
 unfold posW;congr 1
 induction ws with
 |nil=>rfl
 |cons y r ih=>rw[List.takeWhile_cons,if_pos (by simpa using h y (List.mem_cons_self ..)),ih (fun x hx=>h x (List.mem_cons_of_mem _ hx))]
theorem ins_last{ws:List WE}{N:Int}(h:∀x∈ws,x.1<N)(x:WE):insW ws (posW ws N) x=ws ++ [x]:=by
 rw[pos_end h];unfold insW;simp
theorem allW_snoc{ps:List PR}{x:WE}:∀(ws:List WE) (l:Int),allW ps l ws=true→(∀y∈ws,y.1<x.1)→l<x.1→allW ps l (ws ++ [x])=okW ps 0 x:=by
 intro ws
 induction ws with
 |nil=>
  intro l _ _ hl;simp only[List.nil_append,allW,Bool.and_true,okW,decide_eq_true hl,Bool.and_true];by_cases h0:(0:Int)<x.1
  ·rw[decide_eq_true h0,Bool.and_true]
  ·have:rng 1 9999 x.1=false:=(by simp[rng];omega);rw[this];simp
 |cons y r ih=>
  intro l h hx hl;simp only[allW,Bool.and_eq_true] at h;simp only[List.cons_append,allW,h.1,Bool.true_and];exact ih y.1 h.2 (fun z hz=>hx z (List.mem_cons_of_mem _ hz)) (hx y (List.mem_cons_self ..))
theorem valid_snoc{ps:List PR}{ws:List WE}{x:WE}(hv:validP ps ws=true)(hl:ws.length<30)(hx:∀y∈ws,y.1<x.1)(h1:0<x.1):validP ps (ws ++ [x])=okW ps 0 x:=by
 unfold validP at *;simp only[Bool.and_eq_true,decide_eq_true_eq] at hv;obtain⟨⟨⟨a,b⟩,c⟩,d⟩:=hv;rw[allW_snoc ws 0 d hx h1,decide_eq_true a,c,decide_eq_true (by simp;omega)];rfl
/-- One weighing more. -/
theorem weigh_more{ps:List PR}{ws:List WE}{id k lo hi:Int}(hv:validP ps ws=true)(hm:moreS ws≠0) :
  weighS ps ws (moreS ws,id,k,lo,hi)=if okW ps 0 (moreN ws,id,k,lo,hi) then((ps,ws ++ [(moreN ws,id,k,lo,hi)]),0) else(([],[]),21):=by
 obtain⟨e,h1,h9,hl,hx⟩:=more_facts hm;unfold weighS;rw[e,if_pos hv,if_neg (by omega),ins_last hx,valid_snoc hv hl hx (by omega)]
theorem rows_snoc(ps:List PR)(ws:List WE)(x:WE):rowsT ps (ws ++ [x])=note1 ps x (rowsT ps ws):=by
 unfold rowsT;rw[List.foldl_append];rfl
theorem note_wth{ps:List PR}{R:Nat→Nat→Sp}{N id k lo hi:Int}{i q:Nat}(hi_:idxP ps id=i)(hk:k=q):note1 ps (N,id,k,lo,hi) R=wth R i q lo hi:=by
 funext a b
 unfold note1 wth;simp only[hi_,hk];by_cases h:a=i∧b=q
 ·obtain⟨rfl,rfl⟩:=h;rw[if_pos ⟨rfl,rfl⟩,if_pos ⟨rfl,rfl⟩];unfold both;simp only;rw[Int.max_comm,Int.min_comm]
 ·rw[if_neg (fun h'=>h ⟨by omega,by omega⟩),if_neg h]
theorem okW_more{ps:List PR}{ws:List WE}{id k lo hi:Int}(hm:moreS ws≠0)(hi_:0≤idxP ps id)(hk:1≤k∧k≤6)(h0:0≤lo)(h1:hi≤1000000):okW ps 0 (moreN ws,id,k,lo,hi)=decide (lo≤hi):=by
 obtain⟨e,g1,g9,hl,hx⟩:=more_facts hm;rw[Bool.eq_iff_iff];unfold okW rng;simp only[Bool.and_eq_true,decide_eq_true_eq];omega
/-- Both ends of what is told come about; what is beyond them does not. -/
structure EndsF (ps:List PR) (ws:List WE) (id k:Int) (s:Sp):Prop where
 in_:0≤s.1∧s.1≤s.2∧s.2≤1000000
 ok:∀lo hi,0≤lo→hi≤1000000→lo≤hi→weighS ps ws (moreS ws,id,k,lo,hi)=((ps,ws ++ [(moreN ws,id,k,lo,hi)]),0)∧validP ps (ws ++ [(moreN ws,id,k,lo,hi)])=true
 no:∀lo hi,0≤lo→hi≤1000000→hi<lo→weighS ps ws (moreS ws,id,k,lo,hi)=(([],[]),21)
 lo_:hasT ps (ws ++ [(moreN ws,id,k,s.1,s.1)])=true
 hi_:hasT ps (ws ++ [(moreN ws,id,k,s.2,s.2)])=true
 und:1≤s.1→hasT ps (ws ++ [(moreN ws,id,k,0,s.1 - 1)])=false
 abv:s.2<1000000→hasT ps (ws ++ [(moreN ws,id,k,s.2+1,1000000)])=false
theorem ends_law{ps:List PR}{ws:List WE}{id k:Int}(hm:moreS ws≠0)(h:askE ps ws id k=0):EndsF ps ws id k (spanE ps ws id k):=by
 obtain⟨hv,hi,h1,h6,ht⟩:=askE_ok h;have hVF:=valid_facts hv;obtain⟨e,g1,g9,hl,hx⟩:=more_facts hm;obtain⟨i,hi_⟩:∃i:Nat,idxP ps id=i:=⟨(idxP ps id).toNat,by omega⟩;obtain⟨q,rfl⟩:∃q:Nat,k=q:=⟨k.toNat,by omega⟩;have hin:i<ps.length:=by have:=idxP_bound ps id;omega
 have hF:=hVF.fwd;have hH:=has_Holds hVF ht;have hI:=rows_InR hVF ps.length;have hS:spanE ps ws id q=spanP (toT ps) (rowsT ps ws) ps.length i q:=by
  unfold spanE;rw[if_pos h,spanSp_P,hi_];rfl
 rw[hS];have hin3:=span_in (k:=q) hF hH hI hin (by omega) (by omega);have hok:∀lo hi',0≤lo→hi'≤1000000→lo≤hi'→validP ps (ws ++ [(moreN ws,id,(q:Int),lo,hi')])=true:=fun lo hi' a b c=>by
  rw[valid_snoc hv hl hx (by simp only;omega),okW_more hm hi ⟨h1,h6⟩ a b];simpa using c
 have hhas:∀lo hi',0≤lo→hi'≤1000000→lo≤hi'→(hasT ps (ws ++ [(moreN ws,id,(q:Int),lo,hi')])=true↔Holds ps.length (wth (rowsT ps ws) i q lo hi') (upP (toT ps) (wth (rowsT ps ws) i q lo hi'))):=fun lo hi' a b c=>by
  rw[has_iff (valid_facts (hok lo hi' a b c)),rows_snoc,note_wth hi_ rfl]
 refine⟨hin3,fun lo hi' a b c=>⟨?_,hok lo hi' a b c⟩,fun lo hi' a b c=>?_,?_,?_,fun a=>?_,fun a=>?_⟩
 ·rw[weigh_more hv hm,okW_more hm hi ⟨h1,h6⟩ a b,if_pos (by simpa using c)]
 ·rw[weigh_more hv hm,okW_more hm hi ⟨h1,h6⟩ a b,if_neg (by simpa using c)]
 ·rw[hhas _ _ (by omega) (by omega) (by omega)];exact span_pt hF hH hin (by omega) (by omega) (Int.le_refl _) (by omega)
 ·rw[hhas _ _ (by omega) (by omega) (by omega)];exact span_pt hF hH hin (by omega) (by omega) (by omega) (Int.le_refl _)
 ·rw[←Bool.not_eq_true,hhas _ _ (by omega) (by omega) (by omega),span_lo hF hH hI hin (by omega) (by omega)];omega
 ·rw[←Bool.not_eq_true,hhas _ _ (by omega) (by omega) (by omega),span_hi hF hH hI hin (by omega) (by omega)];omega
end Go.Proofs.YtfplipbkjglmhaaDoor

namespace Go.Proofs.YtfplipbkjglmhaaDoor
open Go.RowKit
set_option linter.unusedVariables false
set_option linter.unusedSimpArgs false
theorem more_step{ws:List WE}{t:Nat}{x:WE}(h:ws[t]? = some x):moreN (ws.take (t+1))=max (moreN (ws.take t)) (x.1+1):=by
 unfold moreN;rw[List.take_add_one,h,List.foldl_append];rfl
theorem more_le{ws:List WE}(h:∀x∈ws,x.1≤9999):1≤moreN ws∧moreN ws≤10000:=by
 unfold moreN;have key:∀(l:List WE) (a:Int),(∀x∈l,x.1≤9999)→1≤a→a≤10000→1≤l.foldl (fun n x=>max n (x.1+1)) a∧l.foldl (fun n x=>max n (x.1+1)) a≤10000:=by
  intro l
  induction l with
  |nil=>intro a _ h1 h2;exact⟨h1,h2⟩
  |cons y r ih=>
   intro a hx h1 h2;have:=hx y (List.mem_cons_self ..);exact ih _ (fun x hx'=>hx x (List.mem_cons_of_mem _ hx')) (show 1≤max a (y.1+1) by omega) (show max a (y.1+1)≤10000 by omega)
 exact key ws 1 h (by omega) (by omega)
set_option maxRecDepth 100000 in
set_option maxHeartbeats 2000000 in
theorem more_any(A A':Option Addr)(n c n' c':Nat)(ps:List PR)(ws:List WE)(w:World)(hnm':n'≤maxLen)(hW:Reads w w.heap.size 5 A' n' (wgs ws))(hv:validP ps ws=true) :
  Calls Tryd.prog 42 #[.agg #[.slice A n c,.slice A' n' c']] w fun e w'=>e = .returned (.int .i64 (moreS ws))∧Below w.heap.size w w':=by
 have hl':ws.length=n':=hW.wg_len;have hbd:∀x∈ws,1≤x.1∧x.1≤9999:=fun x hx=>num_bd hv hx;have hml:∀t,1≤moreN (ws.take t)∧moreN (ws.take t)≤10000:=fun t=>more_le fun x hx=>(hbd x (List.mem_of_mem_take hx)).2
 have hmh:=Lib.hid hml;have hbh:=Lib.hid hbd;have hn30:n'≤30:=by have:=(valid_facts hv).m30;omega
 have HB0:=Lib.hid ((Below.refl w.heap.size w).alloc (Nat.le_refl _) (.cells #[.slice A n c,.slice A' n' c'] 25));have HWd:=Lib.hid (fun z (hz:Below w.heap.size w z)=>(hW.below hz).more hz.size);have hO0:=heap_alloc_new w (.cells #[.slice A n c,.slice A' n' c'] 25);have HOp:=Lib.hid (fun z (hz:Below (w.alloc (.cells #[.slice A n c,.slice A' n' c'] 25)).heap.size (w.alloc (.cells #[.slice A n c,.slice A' n' c'] 25)) z)=>keepO hz hO0);have hlh:=Lib.hid hl';have hnm64:(n':Int)≤30:=by omega
 obtain⟨p0,p1,-,-⟩:=two_facts hO0;clear hW hO0 hml hbd hl'
 go_enter Tryd.func42,Tryd.ntmps42
 go_wp2_with fail
 clear p0 p1;generalize hwb:(w.alloc (.cells #[.slice A n c,.slice A' n' c'] 25))=wb at *;clear hwb;go_loopw [3,9] (fun v u wr=>∃wl,wl=wr∧∃t:Nat,t≤n'∧v = .int .i64 (moreN (ws.take t))∧u = .int .i64 t∧Hid (Below wb.heap.size wb wl)) (fun _ u _=>n' - (intOf u).toNat)
 case atStart=>exact⟨_,rfl,0,Nat.zero_le _,rfl,rfl,Lib.hid (Below.refl _ _)⟩
 case round=>
  obtain⟨wq,rfl,t,ht,rfl,rfl,HBq⟩:=hrel;have HBr:=Lib.hid (below_via HB0.out HB0.out.size HBq.out);obtain⟨p0,p1,-,-⟩:=two_facts (HOp.out _ HBq.out);have h1:=(hmh.out t).1;have h2:=(hmh.out t).2;by_cases htn:t<n'
  ·have hti:(t:Int)<(n':Int):=(by omega);have ht0:(0:Int)≤(t:Int):=(by omega);obtain⟨bq,oq,N,Q,Kd,Lo,Hi,hAe,hbq,hx,y0,y1,y2,y3,y4⟩:=(HWd.out _ HBr.out).wg htn;have hN:=hbh.out _ (List.mem_of_getElem? hx);have hst:=Lib.hid (more_step hx);have HBx:=Lib.hid (HBq.out.alloc HBq.out.size (.cells #[.int .i64 N,.int .i64 Q,.int .i64 Kd,.int .i64 Lo,.int .i64 Hi] 81));obtain⟨hN1,hN2⟩:=hN;simp only at hN1 hN2;have hmx:(if moreN (ws.take t)<N+1 then N+1 else moreN (ws.take t))=moreN (ws.take (t+1)):=(by rw[hst.out,mx_if]);obtain⟨a',ha_⟩:∃a',a'=moreN (ws.take (t+1)):=⟨_,rfl⟩;rw[←ha_] at hmx;have ha:=Lib.hid ha_;clear ha_;generalize moreN (ws.take t)=a at *;subst hAe;clear hx hst;go_wp2;go_roundw
   case rel=>exact⟨_,rfl,t+1,by omega,by rw[ha.out],by go_num,HBx⟩
   case measure=>simp[intOf];omega
  ·obtain rfl:n'=t:=(by omega);have hti:¬(n':Int)<(n':Int):=(by omega);have hfin:Hid (moreS ws=if 9999<moreN (ws.take n')∨30≤n' then 0 else moreN (ws.take n')):=by
    show _=_;unfold moreS;rw[List.take_of_length_le (by rw[hlh.out];omega),hlh.out]
   generalize moreN (ws.take n')=a at *;by_cases h9:9999<a
   ·have hd:decide (9999<a)=true:=(by simpa using h9);go_wp2;go_ret;exact⟨ret_int (by rw[hfin.out];simp[h9]),HBr.out⟩
   ·have hd:decide (9999<a)=false:=(by simpa using h9);by_cases h3:30≤n'
    ·have h3i:decide ((30:Int)≤(n':Int))=true:=(by simp;omega);go_wp2;go_ret;exact⟨ret_int (by rw[hfin.out];simp[h3]),HBr.out⟩
    ·have h3i:decide ((30:Int)≤(n':Int))=false:=(by simp;omega);go_wp2;go_ret;exact⟨ret_int (by rw[hfin.out,if_neg (by omega)]),HBr.out⟩
end Go.Proofs.YtfplipbkjglmhaaDoor

namespace Go.Proofs.YtfplipbkjglmhaaDoor
open Go.RowKit
set_option linter.unusedVariables false
set_option linter.unusedSimpArgs false
theorem cel_at{w:World}{b j:Nat}{cs:Array Value}{t:TypeId}{u:Value}(h:w.heap[b]? = some (.cells cs t (0,0)))(hu:cs[j]? = some u):w.cell? ⟨b,j,none⟩=some u:=by simp[World.cell?,h,hu]
def e3 (x:Int×Int×Bool):List Value:=[.int .i64 x.1,.int .i64 x.2.1,.bool x.2.2]
/-- What stands behind what is told. -/
structure LE (w:World) (sb:Nat) (A A':Option Addr) (n c n' c':Nat) (ps:List PR) (ws:List WE) (s:Sp) (z:World):Prop extends PX w A A' n c n' c' ps ws z where
 bs:z.heap[sb]? = some (.cells #[.int .i64 s.1,.int .i64 s.2] 36 (0,0))
theorem LE.under{w z y:World}{sb:Nat}{A A':Option Addr}{n c n' c':Nat}{ps:List PR}{ws:List WE}{s:Sp}(h:LE w sb A A' n c n' c' ps ws s z)(hb:Below z.heap.size z y):LE w sb A A' n c n' c' ps ws s y:=
 ⟨h.toPX.below hb,keepO hb h.bs⟩
set_option maxRecDepth 100000 in
set_option maxHeartbeats 8000000 in
theorem law_ends(A A':Option Addr)(n c n' c':Nat)(ps:List PR)(ws:List WE)(wh:Nat)(kd:Nat)(w:World)(hwh:wh≤255)(hkd:kd≤255)(hnm:n≤maxLen)(hnm':n'≤maxLen)
  (hR:Reads w w.heap.size 4 A n (pgs ps)) (hW:Reads w w.heap.size 5 A' n' (wgs ws)) (hL:Laid w) :
  Calls Tryd.prog 11 #[.agg #[.slice A n c,.slice A' n' c'],.int .u8 wh,.int .u8 kd] w fun e w'=>e = .returned (.bool true)∧Below w.heap.size w w':=by
 have hl:ps.length=n:=hR.pg_len;have hl':ws.length=n':=hW.wg_len;have HX0:=Lib.hid (PX.start (c:=c) (c':=c') hR hW hL);have HAl:=Lib.hid (fun z (K:PX w A A' n c n' c' ps ws z)=>alive_any z K.laid);have HRy:=Lib.hid (fun z (K:PX w A A' n c n' c' ps ws z)=>ready_any A A' n c n' c' ps ws z hnm hnm' K.rp K.rw_);have HKk:∃K:Nat,(K:Int)=1+(kd:Int)%6∧1≤K∧K≤6:=⟨1+kd%6,by omega,by omega,by omega⟩;obtain⟨K,hKe,hK1,hK6⟩:=HKk;have HC2:=Lib.hid (fun id z (X:PX w A A' n c n' c' ps ws z)=>pSpan_any A A' n c n' c' ps ws id K z hnm X.rp X.rw_ X.laid);have HMo:=Lib.hid (fun hv z (X:PX w A A' n c n' c' ps ws z)=>more_any A A' n c n' c' ps ws z hnm' X.rw_ hv);clear hR hW hL;obtain⟨g,hg_⟩:∃g,g=(!(decide (20<n) || decide (50<n')) && validP ps ws):=⟨_,rfl⟩;rw[←hg_] at HRy;have hg:=Lib.hid hg_;clear hg_;have hwh0:(0:Int)≤(wh:Int):=by omega
 have hwh1:(wh:Int)≤255:=by omega
 have hkd0:(0:Int)≤(kd:Int):=by omega
 have hkd1:(kd:Int)≤255:=by omega
 go_enter Tryd.func11,Tryd.ntmps11
 go_wp2_with fail
 refine(HAl.out _ HX0.out).mono ?_;rintro e z1 ⟨rfl,hb⟩;have HX1:=Lib.hid (HX0.out.below hb);clear hb HX0;obtain⟨p0,p1⟩:=HX1.out.cells;go_wp2_with fail
 clear p0 p1;refine(HRy.out _ HX1.out).mono ?_;rintro e z2 ⟨rfl,hb⟩;have HX2:=Lib.hid (HX1.out.below hb);clear hb HX1;cases g with
 |false=>
  go_wp2;go_ret;exact⟨rfl,HX2.out.bel⟩
 |true=>
 have hv:validP ps ws=true:=by have h:=hg.out;simp at h;exact h.2.symm ▸ rfl
 have hVF:=valid_facts hv;have hn10:n≤10:=by have:=hVF.n10;omega
 have hn30:n'≤30:=by have:=hVF.m30;omega
 clear hg HRy HAl;obtain⟨p0,p1⟩:=HX2.out.cells;by_cases hn0:n=0
 ·have hz:((n:Int)==0)=true:=(by simp[hn0]);go_wp2;go_ret;exact⟨rfl,HX2.out.bel⟩
 have hz:((n:Int)==0)=false:=by simpa using hn0
 go_wp2_with fail
 clear p0 p1;refine(HMo.out hv _ HX2.out).mono ?_;rintro e z3 ⟨rfl,hb⟩;have HX3:=Lib.hid (HX2.out.below hb);clear hb HX2;by_cases hm0:moreS ws=0
 ·have hmz:(moreS ws==0)=true:=(by simp[hm0]);go_wp2;go_ret;exact⟨rfl,HX3.out.bel⟩
 have hmz:(moreS ws==0)=false:=by simpa using hm0
 obtain⟨i,hi_⟩:∃i,i=wh%n:=⟨_,rfl⟩;have hin:i<n:=by rw[hi_];exact Nat.mod_lt _ (by omega)
 have hrem:(wh:Int).tmod (n:Int)=(i:Int):=by rw[hi_];exact Int.ofNat_tmod wh n
 have hnz:((n:Int)==0)=false:=by simp;omega
 have hi0:(0:Int)≤(i:Int):=by omega
 have hi1:(i:Int)<(n:Int):=by omega
 obtain⟨bp,op,I,D,P,T,hAe,hbp,hx,y0,y1,y2,y3⟩:=HX3.out.rp.pg hin;have hI:Hid (idQ ps i=I):=by show _=_;unfold idQ;rw[hx]
 subst hAe;clear hi_;obtain⟨p0,p1⟩:=HX3.out.cells;go_wp2_with fail
 go_quiet (fail)
 clear p0 p1 y0 y1 y2 y3;have HX4:=Lib.hid (HX3.out.below (below_drewN (Below.refl _ _) nq));generalize z3.drewN nq=z4 at *;clear HX3 hrem hnz hi0 hi1 hz hx;rw[←hKe];have hKh:=Lib.hid hKe;clear hKe;have hidx:idxP ps I=i:=by rw[←hI.out];exact idx_idQ hVF (by omega)
 have hAE:=askE_two (kind:=K) hv (by rw[hidx];omega:0≤idxP ps I) (by omega);obtain⟨p0,p1⟩:=HX4.out.cells;have hAEh:=Lib.hid hAE;clear hAE;go_wp2_with fail
 clear p0 p1;obtain⟨s,hs_⟩:∃s,s=spanE ps ws I K:=⟨_,rfl⟩;obtain⟨eA,heA_⟩:∃eA,eA=askE ps ws I K:=⟨_,rfl⟩;have HC2':=Lib.hid (HC2.out I);rw[←heA_,←hs_] at HC2';have hsh:=Lib.hid hs_;have heA:=Lib.hid heA_;clear hs_ heA_ HC2;refine(HC2'.out _ HX4.out).mono ?_;rintro e z5 ⟨rfl,hb⟩;obtain⟨wq,hwq_⟩:∃wq,wq=z5.alloc (.cells #[.int .i64 s.1,.int .i64 s.2] 36):=⟨_,rfl⟩;have hb2:Below z5.heap.size z5 wq:=by rw[hwq_];exact(Below.refl _ _).alloc (Nat.le_refl _) _
 have XS_:wq.heap[z5.heap.size]? = some (.cells #[.int .i64 s.1,.int .i64 s.2] 36 (0,0)):=by rw[hwq_];exact heap_alloc_new _ _
 obtain⟨sb,hsb_⟩:∃sb,sb=z5.heap.size:=⟨_,rfl⟩;rw[←hsb_] at XS_;have HT_:LE w sb _ A' n c n' c' ps ws s wq:=⟨(HX4.out.below hb).below hb2,XS_⟩;have HTh:=Lib.hid HT_;have hwq:=Lib.hid hwq_;have hsb:=Lib.hid hsb_;clear hb hb2 hwq_ HX4 XS_ hsb_ HC2' HT_;cases ht:hasT ps ws with
 |false=>
  obtain rfl:eA=8:=(by rw[heA.out,hAEh.out,ht];rfl);clear heA hAEh;go_wp2;go_ret;rw[←hwq.out];exact⟨rfl,HTh.out.bel⟩
 |true=>
 obtain rfl:eA=0:=by rw[heA.out,hAEh.out,ht];rfl
 have hA0:=heA.out.symm;have hE_:=ends_law hm0 hA0;rw[←hsh.out] at hE_;obtain⟨g1,g2,g3⟩:=hE_.in_;have hE:=Lib.hid hE_;have d1:decide (s.1<0)=false:=by simp;omega
 have d2:decide (s.1 > s.2)=false:=by simp;omega
 have d3:decide (s.2 > 1000000)=false:=by simp;omega
 have e1:IntKind.i64.wrap (s.1 - 1)=s.1 - 1:=IntWalk.i64_in _ (by omega);have e2:IntKind.i64.wrap (s.2+1)=s.2+1:=IntWalk.i64_in _ (by omega);have HT:=HTh.out;obtain⟨p0,p1,-,-⟩:=two_facts HT.bs;have hsbq:sb<wq.heap.size:=(Array.getElem?_eq_some_iff.1 HT.bs).1;rw[hwq.out,hsb.out] at p0 p1;clear hE_ HTh hA0 heA hAEh hsh hidx ht hI;go_wp2_with fail
 rw[←hwq.out,←hsb.out];rw[←hwq.out,←hsb.out] at p0 p1;clear hwq hsb d1 d2 d3;have HQw:=Lib.hid (fun w' (hz:Hid (Kp wq.heap.size [] wq w'))=>(⟨(hz.out.cell (by simp only;omega) (by simp;try omega)).trans p0,(hz.out.cell (by simp only;omega) (by simp;try omega)).trans p1⟩:w'.cell? ⟨sb,0,none⟩=some (.int .i64 s.1)∧w'.cell? ⟨sb,1,none⟩=some (.int .i64 s.2)));obtain⟨S,hSd⟩:∃S:World→Prop,S=fun w'=>(w'.cell? ⟨sb,0,none⟩=some (.int .i64 s.1)∧w'.cell? ⟨sb,1,none⟩=some (.int .i64 s.2))∧Hid (Kp wq.heap.size [] wq w'):=⟨_,rfl⟩
 have HS:=Lib.hid (fun w' (hz:Hid (Kp wq.heap.size [] wq w'))=>(by rw[hSd];exact⟨HQw.out w' hz,hz⟩:S w'));clear p0 p1 HQw;refine wp_region_held_drew (S:=S) (by kernel_rfl) ?_ (fun hHeld=>?_)
 ·exact HS.out _ (Lib.hid (Kp.refl _ _ _).drew)
 have hKyd:Hid (Kp wq.heap.size [] wq wq.drew):=Lib.hid (Kp.refl _ _ _).drew;have hSyd:wq.heap.size≤wq.drew.heap.size:=Nat.le_refl _;have HT:=HT.under (Below.refl wq.heap.size wq).drew;generalize wq.drew=yd at *;refine tY (v:=?_) 0 82 ?_ ?_;rotate_left
 ·intro w hSw;rw[hSd] at hSw;obtain⟨⟨q0,q1⟩,-⟩:=hSw;go_simp;(try with_reducible rfl)
 try simp only[N0]
 refine tY (v:=?_) 1 83 ?_ ?_;rotate_left
 ·intro w hSw;rw[hSd] at hSw;obtain⟨⟨q0,q1⟩,-⟩:=hSw;go_simp;(try with_reducible rfl)
 try simp only[N0]
 refine tY (v:=?_) 2 84 ?_ ?_;rotate_left
 ·intro w hSw;rw[hSd] at hSw;obtain⟨⟨q0,q1⟩,-⟩:=hSw;go_simp;(try with_reducible rfl)
 try simp only[N0]
 refine tY (v:=?_) 3 85 ?_ ?_;rotate_left
 ·intro w hSw;rw[hSd] at hSw;obtain⟨⟨q0,q1⟩,-⟩:=hSw;go_simp;(try with_reducible rfl)
 try simp only[N0]
 refine tY (v:=?_) 6 88 ?_ ?_;rotate_left
 ·intro w hSw;rw[hSd] at hSw;obtain⟨⟨q0,q1⟩,-⟩:=hSw;go_simp;(try with_reducible rfl)
 try simp only[N0]
 refine tY (v:=?_) 7 89 ?_ ?_;rotate_left
 ·intro w hSw;rw[hSd] at hSw;obtain⟨⟨q0,q1⟩,-⟩:=hSw;go_simp;(try with_reducible rfl)
 try simp only[N0]
 refine tY (v:=?_) 8 90 ?_ ?_;rotate_left
 ·intro w hSw;rw[hSd] at hSw;obtain⟨⟨q0,q1⟩,-⟩:=hSw;go_simp;(try with_reducible rfl)
 try simp only[N0]
 refine tY (v:=?_) 9 91 ?_ ?_;rotate_left
 ·intro w hSw;rw[hSd] at hSw;obtain⟨⟨q0,q1⟩,-⟩:=hSw;go_simp;(try with_reducible rfl)
 try simp only[N0]
 refine tY (v:=?_) 12 94 ?_ ?_;rotate_left
 ·intro w hSw;rw[hSd] at hSw;obtain⟨⟨q0,q1⟩,-⟩:=hSw;go_simp;(try with_reducible rfl)
 try simp only[N0]
 refine tY (v:=?_) 13 95 ?_ ?_;rotate_left
 ·intro w hSw;rw[hSd] at hSw;obtain⟨⟨q0,q1⟩,-⟩:=hSw;go_simp;(try with_reducible rfl)
 try simp only[N0]
 refine tY (v:=?_) 14 96 ?_ ?_;rotate_left
 ·intro w hSw;rw[hSd] at hSw;obtain⟨⟨q0,q1⟩,-⟩:=hSw;go_simp;(try with_reducible rfl)
 try simp only[N0]
 refine tY (v:=?_) 17 99 ?_ ?_;rotate_left
 ·intro w hSw;rw[hSd] at hSw;obtain⟨⟨q0,q1⟩,-⟩:=hSw;go_simp;(try with_reducible rfl)
 try simp only[N0]
 refine tY (v:=?_) 18 100 ?_ ?_;rotate_left
 ·intro w hSw;rw[hSd] at hSw;obtain⟨⟨q0,q1⟩,-⟩:=hSw;go_simp;(try with_reducible rfl)
 try simp only[N0]
 refine tY (v:=?_) 19 101 ?_ ?_;rotate_left
 ·intro w hSw;rw[hSd] at hSw;obtain⟨⟨q0,q1⟩,-⟩:=hSw;go_simp;(try with_reducible rfl)
 try simp only[N0]
 refine tY (v:=?_) 24 106 ?_ ?_;rotate_left
 ·intro w hSw;rw[hSd] at hSw;obtain⟨⟨q0,q1⟩,-⟩:=hSw;go_simp;(try with_reducible rfl)
 try simp only[N0]
 refine wpAnyH_ready (rs:=[4]) (by kernel_rfl) (by simp) ?_;refine AllReadyH.cons (o:=_) rfl (fun Kq hK=>?_) AllReadyH.nil;go_simp;refine(span_mk (s.1) (s.1) yd).mono ?_;rintro e c4yd ⟨rfl,hb⟩;have hKc4yd:=Lib.hid (hKyd.out.call hSyd hb);have hSc4yd:=Nat.le_trans hSyd hb.size;have HT:=HT.under hb;clear hb;try go_simp
 refine hK.out _ _ ?_ (fun hHeld=>?_)
 ·exact HS.out _ hKc4yd
 clear hK Kq;try simp only[N0]
 refine tY (v:=?_) 5 87 ?_ ?_;rotate_left
 ·intro w hSw;rw[hSd] at hSw;obtain⟨⟨q0,q1⟩,-⟩:=hSw;go_simp;(try with_reducible rfl)
 try simp only[N0]
 refine wpAnyH_ready (rs:=[10]) (by kernel_rfl) (by simp) ?_;refine AllReadyH.cons (o:=_) rfl (fun Kq hK=>?_) AllReadyH.nil;go_simp;refine(span_mk (s.2) (s.2) c4yd).mono ?_;rintro e c10c4yd ⟨rfl,hb⟩;have hKc10c4yd:=Lib.hid (hKc4yd.out.call hSc4yd hb);have hSc10c4yd:=Nat.le_trans hSc4yd hb.size;have HT:=HT.under hb;clear hb;try go_simp
 refine hK.out _ _ ?_ (fun hHeld=>?_)
 ·exact HS.out _ hKc10c4yd
 clear hK Kq;try simp only[N0]
 refine tY (v:=?_) 11 93 ?_ ?_;rotate_left
 ·intro w hSw;rw[hSd] at hSw;obtain⟨⟨q0,q1⟩,-⟩:=hSw;go_simp;(try with_reducible rfl)
 try simp only[N0]
 refine wpAnyH_ready (rs:=[15]) (by kernel_rfl) (by simp) ?_;refine AllReadyH.cons (o:=_) rfl (fun Kq hK=>?_) AllReadyH.nil;go_simp;refine(span_mk (0) (s.1 - 1) c10c4yd).mono ?_;rintro e c15c10c4yd ⟨rfl,hb⟩;have hKc15c10c4yd:=Lib.hid (hKc10c4yd.out.call hSc10c4yd hb);have hSc15c10c4yd:=Nat.le_trans hSc10c4yd hb.size;have HT:=HT.under hb;clear hb;try go_simp
 refine hK.out _ _ ?_ (fun hHeld=>?_)
 ·exact HS.out _ hKc15c10c4yd
 clear hK Kq;try simp only[N0]
 refine tY (v:=?_) 16 98 ?_ ?_;rotate_left
 ·intro w hSw;rw[hSd] at hSw;obtain⟨⟨q0,q1⟩,-⟩:=hSw;go_simp;(try with_reducible rfl)
 try simp only[N0]
 refine wpAnyH_ready (rs:=[20]) (by kernel_rfl) (by simp) ?_;refine AllReadyH.cons (o:=_) rfl (fun Kq hK=>?_) AllReadyH.nil;go_simp;refine(span_mk (s.2+1) (1000000) c15c10c4yd).mono ?_;rintro e c20c15c10c4yd ⟨rfl,hb⟩;have hKc20c15c10c4yd:=Lib.hid (hKc15c10c4yd.out.call hSc15c10c4yd hb);have hSc20c15c10c4yd:=Nat.le_trans hSc15c10c4yd hb.size;have HT:=HT.under hb;clear hb;try go_simp
 refine hK.out _ _ ?_ (fun hHeld=>?_)
 ·exact HS.out _ hKc20c15c10c4yd
 clear hK Kq;try simp only[N0]
 refine tY (v:=?_) 21 103 ?_ ?_;rotate_left
 ·intro w hSw;rw[hSd] at hSw;obtain⟨⟨q0,q1⟩,-⟩:=hSw;go_simp;(try with_reducible rfl)
 try simp only[N0]
 refine wpAnyH_ready (rs:=[22]) (by kernel_rfl) (by simp) ?_;refine AllReadyH.cons (o:=_) rfl (fun Kq hK=>?_) AllReadyH.nil;go_simp;obtain⟨ab,hab_⟩:∃q,q=c20c15c10c4yd.heap.size:=⟨_,rfl⟩;have hOA:=heap_alloc_new c20c15c10c4yd (.cells #[.int .i64 s.1,.int .i64 s.1,.bool true,.int .i64 s.2,.int .i64 s.2,.bool true,.int .i64 0,.int .i64 (s.1 - 1),.bool false,.int .i64 (s.2+1),.int .i64 1000000,.bool false] 91);rw[←hab_] at hOA;have hbA:=(Below.refl c20c15c10c4yd.heap.size c20c15c10c4yd).alloc (Nat.le_refl _) (.cells #[.int .i64 s.1,.int .i64 s.1,.bool true,.int .i64 s.2,.int .i64 s.2,.bool true,.int .i64 0,.int .i64 (s.1 - 1),.bool false,.int .i64 (s.2+1),.int .i64 1000000,.bool false] 91);have HT:=HT.under hbA;have hKzb:=Lib.hid (hKc20c15c10c4yd.out.alloc hSc20c15c10c4yd (.cells #[.int .i64 s.1,.int .i64 s.1,.bool true,.int .i64 s.2,.int .i64 s.2,.bool true,.int .i64 0,.int .i64 (s.1 - 1),.bool false,.int .i64 (s.2+1),.int .i64 1000000,.bool false] 91));have hSzb:=Nat.le_trans hSc20c15c10c4yd hbA.size;clear hbA;rw[←hab_];generalize (c20c15c10c4yd.alloc (.cells #[.int .i64 s.1,.int .i64 s.1,.bool true,.int .i64 s.2,.int .i64 s.2,.bool true,.int .i64 0,.int .i64 (s.1 - 1),.bool false,.int .i64 (s.2+1),.int .i64 1000000,.bool false] 91))=zb at *;clear hab_;refine hK.out _ _ ?_ (fun hHeld=>?_)
 ·exact HS.out _ hKzb
 clear hK Kq;try simp only[N0]
 refine tY (v:=?_) 23 105 ?_ ?_;rotate_left
 ·intro w hSw;rw[hSd] at hSw;obtain⟨⟨q0,q1⟩,-⟩:=hSw;go_simp;(try with_reducible rfl)
 try simp only[N0]
 refine wpAnyH_done (by kernel_rfl) ?_ _;clear HS hSd;have HTh:=Lib.hid HT;have hAh:=Lib.hid hOA;clear HT hOA e1 e2 g1 g2 g3;obtain⟨EL,hEL_⟩:∃EL:List (Int×Int×Bool),EL = [(s.1,s.1,true),(s.2,s.2,true),(0,s.1 - 1,false),(s.2+1,1000000,false)]:=⟨_,rfl⟩;have hEL:=Lib.hid hEL_;have hOK_:∀x∈EL,0≤x.1∧x.2.1≤1000000∧(x.1≤x.2.1→hasT ps (ws ++ [(moreN ws,I,(K:Int),x.1,x.2.1)])=x.2.2):=by
  obtain⟨g1,g2,g3⟩:=hE.out.in_;intro x hx;rw[hEL_] at hx;simp only[List.mem_cons,List.not_mem_nil,or_false] at hx;rcases hx with rfl|rfl|rfl|rfl
  ·exact⟨g1,by simp only;omega,fun _=>hE.out.lo_⟩
  ·exact⟨by simp only;omega,g3,fun _=>hE.out.hi_⟩
  ·exact⟨by simp only;omega,by simp only;omega,fun h=>hE.out.und (by simp only at h;omega)⟩
  ·exact⟨by simp only;omega,by simp only;omega,fun h=>hE.out.abv (by simp only at h;omega)⟩
 have hOK:=Lib.hid hOK_;have hWok:=Lib.hid (fun lo hi=>hE.out.ok lo hi);have hWno:=Lib.hid (fun lo hi=>hE.out.no lo hi);have HWe:=Lib.hid (fun x z (X:LE w sb (some ⟨bp,op,none⟩) A' n c n' c' ps ws s z)=>weigh_any (some ⟨bp,op,none⟩) A' n c n' c' ps ws x z hnm hnm' X.rp X.rw_ X.laid);clear hEL_ hOK_;go_wp2_with fail
 go_loopw [106] (fun u wr=>∃wl,wl=wr∧∃t:Nat,t≤4∧u = .int .i64 t∧Hid (LE w sb (some ⟨bp,op,none⟩) A' n c n' c' ps ws s wl)∧Hid (wl.heap[ab]? = some (.cells #[.int .i64 s.1,.int .i64 s.1,.bool true,.int .i64 s.2,.int .i64 s.2,.bool true,.int .i64 0,.int .i64 (s.1 - 1),.bool false,.int .i64 (s.2+1),.int .i64 1000000,.bool false] 91 (0,0)))) (fun u _=>4 - (intOf u).toNat)
 case atStart=>exact⟨_,rfl,0,by omega,rfl,HTh,hAh⟩
 case round=>
  obtain⟨wr,rfl,t,ht,rfl,HQ,hQA⟩:=hrel;by_cases htn:t<4
  ·have hti:(t:Int)<4:=(by omega);have ht0:(0:Int)≤(t:Int):=(by omega);have hRA:Reads wr wr.heap.size 3 (some ⟨ab,0,none⟩) 4 (EL.flatMap e3):=(by rw[hEL.out];exact rd_cel hQA.out rfl);obtain⟨b,o,x,hAe2,hb_,hx,hc⟩:=Reads.rec_at (f:=e3) (m:=3) (fun _=>rfl) (by omega) hRA htn;injection hAe2 with hA3;injection hA3 with hb2 ho2;subst hb2 ho2;obtain⟨lo,hi,wn⟩:=x;obtain⟨k1,k2,k3⟩:=hOK.out _ (List.mem_of_getElem? hx);simp only at k1 k2 k3;have k3h:=Lib.hid k3;have y0:=hc 0 _ rfl;have y1:=hc 1 _ rfl;have y2:=hc 2 _ rfl;have hbk:Below wr.heap.size wr (wr.alloc (.cells #[.int .i64 lo,.int .i64 hi,.bool wn] 91)):=(Below.refl _ _).alloc (Nat.le_refl _) _;have hXk:=heap_alloc_new wr (.cells #[.int .i64 lo,.int .i64 hi,.bool wn] 91);simp only[Nat.zero_add,Nat.add_zero] at y0 y1 y2;clear hRA hb_ hx hc k3;(go_wp2_with fail);clear y0 y1 y2;obtain⟨wk,hwk⟩:∃wk,wk=wr.alloc (.cells #[.int .i64 lo,.int .i64 hi,.bool wn] 91):=⟨_,rfl⟩;obtain⟨xb,hxb⟩:∃xb,xb=wr.heap.size:=⟨_,rfl⟩;rw[←hwk,←hxb];rw[←hwk] at hbk;rw[←hwk,←hxb] at hXk;have HK:=Lib.hid (HQ.out.under hbk);have HKA:=Lib.hid (keepO hbk hQA.out);have HKX:=Lib.hid hXk;have x0:=cel_at hXk (j:=0) rfl;have x1:=cel_at hXk (j:=1) rfl;have hXl:xb<wk.heap.size:=(Array.getElem?_eq_some_iff.1 hXk).1;have hWl:w.heap.size<wk.heap.size:=(Array.getElem?_eq_some_iff.1 HK.out.b0).1;obtain⟨p0,p1⟩:=HK.out.cells;have HT:=HK.out;have HQw:=Lib.hid (fun w' (hz:Hid (Kp wk.heap.size [] wk w'))=>(⟨(hz.out.cell (by simp only;omega) (by simp;try omega)).trans p0,(hz.out.cell (by simp only;omega) (by simp;try omega)).trans p1,(hz.out.cell (by simp only;omega) (by simp;try omega)).trans x0,(hz.out.cell (by simp only;omega) (by simp;try omega)).trans x1⟩:w'.cell? ⟨w.heap.size,0,none⟩=some (.slice (some ⟨bp,op,none⟩) n c)∧w'.cell? ⟨w.heap.size,1,none⟩=some (.slice A' n' c')∧w'.cell? ⟨xb,0,none⟩=some (.int .i64 lo)∧w'.cell? ⟨xb,1,none⟩=some (.int .i64 hi)))
   obtain⟨S,hSd⟩:∃S:World→Prop,S=fun w'=>(w'.cell? ⟨w.heap.size,0,none⟩=some (.slice (some ⟨bp,op,none⟩) n c)∧w'.cell? ⟨w.heap.size,1,none⟩=some (.slice A' n' c')∧w'.cell? ⟨xb,0,none⟩=some (.int .i64 lo)∧w'.cell? ⟨xb,1,none⟩=some (.int .i64 hi))∧Hid (Kp wk.heap.size [] wk w'):=⟨_,rfl⟩
   have HS:=Lib.hid (fun w' (hz:Hid (Kp wk.heap.size [] wk w'))=>(by rw[hSd];exact⟨HQw.out w' hz,hz⟩:S w'));clear p0 p1 x0 x1 hwk hxb hbk hXk HQw HQ hQA
   go_cut [14,15] from 107 to 148 (fun s14 s15 wx=>∃wl,wl=wx∧∃yb A1 n1 c1 A2 n2 c2,s14 = .pointer (some ⟨yb,0,none⟩)∧s15 = .int .i64 (weighS ps ws (moreS ws,I,(K:Int),lo,hi)).2∧wl.heap[yb]? = some (.cells #[.slice A1 n1 c1,.slice A2 n2 c2] 25 (0,0))∧Reads wl wl.heap.size 4 A1 n1 (pgs (weighS ps ws (moreS ws,I,(K:Int),lo,hi)).1.1)∧Reads wl wl.heap.size 5 A2 n2 (wgs (weighS ps ws (moreS ws,I,(K:Int),lo,hi)).1.2)∧Below wk.heap.size wk wl)
   case first=>
    refine wp_region_held_drew (S:=S) (by kernel_rfl) ?_ (fun hHeld=>?_)
    ·exact HS.out _ (Lib.hid (Kp.refl _ _ _).drew)
    have hKyd:Hid (Kp wk.heap.size [] wk wk.drew):=Lib.hid (Kp.refl _ _ _).drew;have hSyd:wk.heap.size≤wk.drew.heap.size:=Nat.le_refl _;have HT:=HT.under (Below.refl wk.heap.size wk).drew;generalize wk.drew=yd at *;refine tY (v:=?_) 0 111 ?_ ?_;rotate_left
    ·intro w hSw;rw[hSd] at hSw;obtain⟨⟨q0,q1,q2,q3⟩,-⟩:=hSw;go_simp;(try with_reducible rfl)
    (try simp only[N0]);refine tY (v:=?_) 1 112 ?_ ?_;rotate_left
    ·intro w hSw;rw[hSd] at hSw;obtain⟨⟨q0,q1,q2,q3⟩,-⟩:=hSw;go_simp;(try with_reducible rfl)
    (try simp only[N0]);refine tY (v:=?_) 3 114 ?_ ?_;rotate_left
    ·intro w hSw;rw[hSd] at hSw;obtain⟨⟨q0,q1,q2,q3⟩,-⟩:=hSw;go_simp;(try with_reducible rfl)
    (try simp only[N0]);refine tY (v:=?_) 4 115 ?_ ?_;rotate_left
    ·intro w hSw;rw[hSd] at hSw;obtain⟨⟨q0,q1,q2,q3⟩,-⟩:=hSw;go_simp;(try with_reducible rfl)
    (try simp only[N0]);refine tY (v:=?_) 5 116 ?_ ?_;rotate_left
    ·intro w hSw;rw[hSd] at hSw;obtain⟨⟨q0,q1,q2,q3⟩,-⟩:=hSw;go_simp;(try with_reducible rfl)
    (try simp only[N0]);refine tY (v:=?_) 6 117 ?_ ?_;rotate_left
    ·intro w hSw;rw[hSd] at hSw;obtain⟨⟨q0,q1,q2,q3⟩,-⟩:=hSw;go_simp;(try with_reducible rfl)
    (try simp only[N0]);refine wpAnyH_ready (rs:=[2,12]) (by kernel_rfl) (by simp) ?_;refine AllReadyH.cons (o:=_) rfl (fun Kq hK=>?_) ?_
    ·go_simp;refine(HMo.out hv yd HT.toPX).mono ?_;rintro e c2yd ⟨rfl,hb⟩;have hKc2yd:=Lib.hid (hKyd.out.call hSyd hb);have HT:=HT.under hb;have hSc2yd:=Nat.le_trans hSyd hb.size;clear hb;(try go_simp);refine hK.out _ _ ?_ (fun hHeld=>?_)
     ·exact HS.out _ hKc2yd
     clear hK Kq;(try simp only[N0]);refine tY (v:=?_) 7 118 ?_ ?_;rotate_left
     ·intro w hSw;rw[hSd] at hSw;obtain⟨⟨q0,q1,q2,q3⟩,-⟩:=hSw;go_simp;(try with_reducible rfl)
     (try simp only[N0]);refine wpAnyH_ready (rs:=[8,12]) (by kernel_rfl) (by simp) ?_;refine AllReadyH.cons (o:=_) rfl (fun Kq hK=>?_) ?_
     ·go_simp;refine(HWe.out (moreS ws,I,(K:Int),lo,hi) c2yd HT).mono ?_;rintro e c8c2yd ⟨⟨A1,n1,c1,A2,n2,c2,rfl,ho1,ho2⟩,hb⟩;have hKc8c2yd:=Lib.hid (hKc2yd.out.call hSc2yd hb);have HT:=HT.under hb;have hSc8c2yd:=Nat.le_trans hSc2yd hb.size;clear hb;(try go_simp);refine hK.out _ _ ?_ (fun hHeld=>?_)
      ·exact HS.out _ hKc8c2yd
      clear hK Kq;(try simp only[N0]);refine tY (v:=?_) 9 110 ?_ ?_;rotate_left
      ·intro w hSw;rw[hSd] at hSw;obtain⟨⟨q0,q1,q2,q3⟩,-⟩:=hSw;go_simp;(try with_reducible rfl)
      (try simp only[N0]);refine tY (v:=?_) 10 120 ?_ ?_;rotate_left
      ·intro w hSw;rw[hSd] at hSw;obtain⟨⟨q0,q1,q2,q3⟩,-⟩:=hSw;go_simp;(try with_reducible rfl)
      (try simp only[N0]);refine tY (v:=?_) 11 121 ?_ ?_;rotate_left
      ·intro w hSw;rw[hSd] at hSw;obtain⟨⟨q0,q1,q2,q3⟩,-⟩:=hSw;go_simp;(try with_reducible rfl)
      (try simp only[N0]);refine wpAnyH_ready (rs:=[12]) (by kernel_rfl) (by simp) ?_;refine AllReadyH.cons (o:=_) rfl (fun Kq hK=>?_) AllReadyH.nil;go_simp;obtain⟨yb,hyb_⟩:∃q,q=c8c2yd.heap.size:=⟨_,rfl⟩;have hOy:=heap_alloc_new c8c2yd (.cells #[.slice none 0 0,.slice none 0 0] 25);have hyb:=hSc8c2yd;rw[←hyb_] at hOy hyb;have hb:=(Below.refl c8c2yd.heap.size c8c2yd).alloc (Nat.le_refl _) (.cells #[.slice none 0 0,.slice none 0 0] 25);have HT:=HT.under hb;have ho1:=ownR_below ho1 hb;have ho2:=ownR_below ho2 hb;have hKz12c8c2yd:=Lib.hid (hKc8c2yd.out.alloc hSc8c2yd (.cells #[.slice none 0 0,.slice none 0 0] 25));have hSz12c8c2yd:=Nat.le_trans hSc8c2yd hb.size;clear hb;generalize (c8c2yd.alloc (.cells #[.slice none 0 0,.slice none 0 0] 25))=z12c8c2yd at *;refine hK.out _ _ ?_ (fun hHeld=>?_)
      ·exact HS.out _ hKz12c8c2yd
      clear hK Kq;(try simp only[N0]);(try rw[←hyb_]);clear hyb_;refine wpAnyH_ready (rs:=[13]) (by kernel_rfl) (by simp) ?_;refine AllReadyH.cons (o:=_) rfl (fun Kq hK=>?_) AllReadyH.nil;obtain⟨e0,e1,g0,g1⟩:=two_facts hOy;go_simp;clear e0 e1 g0 g1;have hw1:=ownR_ne ho1 hOy;have hw2:=ownR_ne ho2 hOy;have ho1:=ownsRow_setCell_other (ownsRow_setCell_other ho1 (a:=⟨yb,0,none⟩) (fun h=>hw1 yb h rfl) (.slice A1 n1 c1)) (a:=⟨yb,1,none⟩) (fun h=>hw1 yb h rfl) (.slice A2 n2 c2);have ho2:=ownsRow_setCell_other (ownsRow_setCell_other ho2 (a:=⟨yb,0,none⟩) (fun h=>hw2 yb h rfl) (.slice A1 n1 c1)) (a:=⟨yb,1,none⟩) (fun h=>hw2 yb h rfl) (.slice A2 n2 c2);have hOy:=set_two z12c8c2yd yb _ (.slice A1 n1 c1) (.slice A2 n2 c2) _ _ hOy;have hKs13z12c8c2yd:=Lib.hid ((hKz12c8c2yd.out.set (p:=⟨yb,0,none⟩) (Or.inr hyb) (.slice A1 n1 c1)).set (p:=⟨yb,1,none⟩) (Or.inr hyb) (.slice A2 n2 c2));obtain⟨s13z12c8c2yd,hz_⟩:∃z,z=((z12c8c2yd.setCell ⟨yb,0,none⟩ (.slice A1 n1 c1)).setCell ⟨yb,1,none⟩ (.slice A2 n2 c2)):=⟨_,rfl⟩;rw[←hz_];rw[←hz_] at ho1 ho2 hOy hKs13z12c8c2yd;have hSs13z12c8c2yd:=Nat.le_trans hSz12c8c2yd (show z12c8c2yd.heap.size≤s13z12c8c2yd.heap.size by rw[hz_];simp);clear hz_;refine hK.out _ _ ?_ (fun hHeld=>?_)
      ·exact HS.out _ hKs13z12c8c2yd
      clear hK Kq;(try simp only[N0]);refine tY (v:=?_) 14 15 ?_ ?_;rotate_left
      ·intro w hSw;rw[hSd] at hSw;obtain⟨⟨q0,q1,q2,q3⟩,-⟩:=hSw;go_simp;(try with_reducible rfl)
      (try simp only[N0]);refine wpAnyH_done (by kernel_rfl) ?_ _;clear HS hSd;generalize s13z12c8c2yd=wy at *;go_wp2;go_meet;exact⟨_,rfl,yb,A1,n1,c1,A2,n2,c2,rfl,rfl,hOy,Reads.of_own ho1,Reads.of_own ho2,hKs13z12c8c2yd.out.below (B':=wk.heap.size) (Nat.le_refl _) (by simp)⟩
     refine AllReadyH.cons (o:=_) rfl (fun Kq hK=>?_) AllReadyH.nil;go_simp;obtain⟨yb,hyb_⟩:∃q,q=c2yd.heap.size:=⟨_,rfl⟩;have hOy:=heap_alloc_new c2yd (.cells #[.slice none 0 0,.slice none 0 0] 25);have hyb:=hSc2yd;rw[←hyb_] at hOy hyb;have hb:=(Below.refl c2yd.heap.size c2yd).alloc (Nat.le_refl _) (.cells #[.slice none 0 0,.slice none 0 0] 25);have HT:=HT.under hb;have hKz12c2yd:=Lib.hid (hKc2yd.out.alloc hSc2yd (.cells #[.slice none 0 0,.slice none 0 0] 25));have hSz12c2yd:=Nat.le_trans hSc2yd hb.size;clear hb;generalize (c2yd.alloc (.cells #[.slice none 0 0,.slice none 0 0] 25))=z12c2yd at *;refine hK.out _ _ ?_ (fun hHeld=>?_)
     ·exact HS.out _ hKz12c2yd
     clear hK Kq;(try simp only[N0]);(try rw[←hyb_]);clear hyb_;refine wpAnyH_ready (rs:=[8]) (by kernel_rfl) (by simp) ?_;refine AllReadyH.cons (o:=_) rfl (fun Kq hK=>?_) AllReadyH.nil;go_simp;refine(HWe.out (moreS ws,I,(K:Int),lo,hi) z12c2yd HT).mono ?_;rintro e c8z12c2yd ⟨⟨A1,n1,c1,A2,n2,c2,rfl,ho1,ho2⟩,hb⟩;have hKc8z12c2yd:=Lib.hid (hKz12c2yd.out.call hSz12c2yd hb);have hOy:=keepO hb hOy;have HT:=HT.under hb;have hSc8z12c2yd:=Nat.le_trans hSz12c2yd hb.size;clear hb;(try go_simp);refine hK.out _ _ ?_ (fun hHeld=>?_)
     ·exact HS.out _ hKc8z12c2yd
     clear hK Kq;(try simp only[N0]);refine tY (v:=?_) 9 110 ?_ ?_;rotate_left
     ·intro w hSw;rw[hSd] at hSw;obtain⟨⟨q0,q1,q2,q3⟩,-⟩:=hSw;go_simp;(try with_reducible rfl)
     (try simp only[N0]);refine tY (v:=?_) 10 120 ?_ ?_;rotate_left
     ·intro w hSw;rw[hSd] at hSw;obtain⟨⟨q0,q1,q2,q3⟩,-⟩:=hSw;go_simp;(try with_reducible rfl)
     (try simp only[N0]);refine tY (v:=?_) 11 121 ?_ ?_;rotate_left
     ·intro w hSw;rw[hSd] at hSw;obtain⟨⟨q0,q1,q2,q3⟩,-⟩:=hSw;go_simp;(try with_reducible rfl)
     (try simp only[N0]);refine wpAnyH_ready (rs:=[13]) (by kernel_rfl) (by simp) ?_;refine AllReadyH.cons (o:=_) rfl (fun Kq hK=>?_) AllReadyH.nil;obtain⟨e0,e1,g0,g1⟩:=two_facts hOy;go_simp;clear e0 e1 g0 g1;have hw1:=ownR_ne ho1 hOy;have hw2:=ownR_ne ho2 hOy;have ho1:=ownsRow_setCell_other (ownsRow_setCell_other ho1 (a:=⟨yb,0,none⟩) (fun h=>hw1 yb h rfl) (.slice A1 n1 c1)) (a:=⟨yb,1,none⟩) (fun h=>hw1 yb h rfl) (.slice A2 n2 c2);have ho2:=ownsRow_setCell_other (ownsRow_setCell_other ho2 (a:=⟨yb,0,none⟩) (fun h=>hw2 yb h rfl) (.slice A1 n1 c1)) (a:=⟨yb,1,none⟩) (fun h=>hw2 yb h rfl) (.slice A2 n2 c2);have hOy:=set_two c8z12c2yd yb _ (.slice A1 n1 c1) (.slice A2 n2 c2) _ _ hOy;have hKs13c8z12c2yd:=Lib.hid ((hKc8z12c2yd.out.set (p:=⟨yb,0,none⟩) (Or.inr hyb) (.slice A1 n1 c1)).set (p:=⟨yb,1,none⟩) (Or.inr hyb) (.slice A2 n2 c2));obtain⟨s13c8z12c2yd,hz_⟩:∃z,z=((c8z12c2yd.setCell ⟨yb,0,none⟩ (.slice A1 n1 c1)).setCell ⟨yb,1,none⟩ (.slice A2 n2 c2)):=⟨_,rfl⟩;rw[←hz_];rw[←hz_] at ho1 ho2 hOy hKs13c8z12c2yd;have hSs13c8z12c2yd:=Nat.le_trans hSc8z12c2yd (show c8z12c2yd.heap.size≤s13c8z12c2yd.heap.size by rw[hz_];simp);clear hz_;refine hK.out _ _ ?_ (fun hHeld=>?_)
     ·exact HS.out _ hKs13c8z12c2yd
     clear hK Kq;(try simp only[N0]);refine tY (v:=?_) 14 15 ?_ ?_;rotate_left
     ·intro w hSw;rw[hSd] at hSw;obtain⟨⟨q0,q1,q2,q3⟩,-⟩:=hSw;go_simp;(try with_reducible rfl)
     (try simp only[N0]);refine wpAnyH_done (by kernel_rfl) ?_ _;clear HS hSd;generalize s13c8z12c2yd=wy at *;go_wp2;go_meet;exact⟨_,rfl,yb,A1,n1,c1,A2,n2,c2,rfl,rfl,hOy,Reads.of_own ho1,Reads.of_own ho2,hKs13c8z12c2yd.out.below (B':=wk.heap.size) (Nat.le_refl _) (by simp)⟩
    refine AllReadyH.cons (o:=_) rfl (fun Kq hK=>?_) AllReadyH.nil;go_simp;obtain⟨yb,hyb_⟩:∃q,q=yd.heap.size:=⟨_,rfl⟩;have hOy:=heap_alloc_new yd (.cells #[.slice none 0 0,.slice none 0 0] 25);have hyb:=hSyd;rw[←hyb_] at hOy hyb;have hb:=(Below.refl yd.heap.size yd).alloc (Nat.le_refl _) (.cells #[.slice none 0 0,.slice none 0 0] 25);have HT:=HT.under hb;have hKz12yd:=Lib.hid (hKyd.out.alloc hSyd (.cells #[.slice none 0 0,.slice none 0 0] 25));have hSz12yd:=Nat.le_trans hSyd hb.size;clear hb;generalize (yd.alloc (.cells #[.slice none 0 0,.slice none 0 0] 25))=z12yd at *;refine hK.out _ _ ?_ (fun hHeld=>?_)
    ·exact HS.out _ hKz12yd
    clear hK Kq;(try simp only[N0]);(try rw[←hyb_]);clear hyb_;refine wpAnyH_ready (rs:=[2]) (by kernel_rfl) (by simp) ?_;refine AllReadyH.cons (o:=_) rfl (fun Kq hK=>?_) AllReadyH.nil;go_simp;refine(HMo.out hv z12yd HT.toPX).mono ?_;rintro e c2z12yd ⟨rfl,hb⟩;have hKc2z12yd:=Lib.hid (hKz12yd.out.call hSz12yd hb);have hOy:=keepO hb hOy;have HT:=HT.under hb;have hSc2z12yd:=Nat.le_trans hSz12yd hb.size;clear hb;(try go_simp);refine hK.out _ _ ?_ (fun hHeld=>?_)
    ·exact HS.out _ hKc2z12yd
    clear hK Kq;(try simp only[N0]);refine tY (v:=?_) 7 118 ?_ ?_;rotate_left
    ·intro w hSw;rw[hSd] at hSw;obtain⟨⟨q0,q1,q2,q3⟩,-⟩:=hSw;go_simp;(try with_reducible rfl)
    (try simp only[N0]);refine wpAnyH_ready (rs:=[8]) (by kernel_rfl) (by simp) ?_;refine AllReadyH.cons (o:=_) rfl (fun Kq hK=>?_) AllReadyH.nil;go_simp;refine(HWe.out (moreS ws,I,(K:Int),lo,hi) c2z12yd HT).mono ?_;rintro e c8c2z12yd ⟨⟨A1,n1,c1,A2,n2,c2,rfl,ho1,ho2⟩,hb⟩;have hKc8c2z12yd:=Lib.hid (hKc2z12yd.out.call hSc2z12yd hb);have hOy:=keepO hb hOy;have HT:=HT.under hb;have hSc8c2z12yd:=Nat.le_trans hSc2z12yd hb.size;clear hb;(try go_simp);refine hK.out _ _ ?_ (fun hHeld=>?_)
    ·exact HS.out _ hKc8c2z12yd
    clear hK Kq;(try simp only[N0]);refine tY (v:=?_) 9 110 ?_ ?_;rotate_left
    ·intro w hSw;rw[hSd] at hSw;obtain⟨⟨q0,q1,q2,q3⟩,-⟩:=hSw;go_simp;(try with_reducible rfl)
    (try simp only[N0]);refine tY (v:=?_) 10 120 ?_ ?_;rotate_left
    ·intro w hSw;rw[hSd] at hSw;obtain⟨⟨q0,q1,q2,q3⟩,-⟩:=hSw;go_simp;(try with_reducible rfl)
    (try simp only[N0]);refine tY (v:=?_) 11 121 ?_ ?_;rotate_left
    ·intro w hSw;rw[hSd] at hSw;obtain⟨⟨q0,q1,q2,q3⟩,-⟩:=hSw;go_simp;(try with_reducible rfl)
    (try simp only[N0]);refine wpAnyH_ready (rs:=[13]) (by kernel_rfl) (by simp) ?_;refine AllReadyH.cons (o:=_) rfl (fun Kq hK=>?_) AllReadyH.nil;obtain⟨e0,e1,g0,g1⟩:=two_facts hOy;go_simp;clear e0 e1 g0 g1;have hw1:=ownR_ne ho1 hOy;have hw2:=ownR_ne ho2 hOy;have ho1:=ownsRow_setCell_other (ownsRow_setCell_other ho1 (a:=⟨yb,0,none⟩) (fun h=>hw1 yb h rfl) (.slice A1 n1 c1)) (a:=⟨yb,1,none⟩) (fun h=>hw1 yb h rfl) (.slice A2 n2 c2);have ho2:=ownsRow_setCell_other (ownsRow_setCell_other ho2 (a:=⟨yb,0,none⟩) (fun h=>hw2 yb h rfl) (.slice A1 n1 c1)) (a:=⟨yb,1,none⟩) (fun h=>hw2 yb h rfl) (.slice A2 n2 c2);have hOy:=set_two c8c2z12yd yb _ (.slice A1 n1 c1) (.slice A2 n2 c2) _ _ hOy;have hKs13c8c2z12yd:=Lib.hid ((hKc8c2z12yd.out.set (p:=⟨yb,0,none⟩) (Or.inr hyb) (.slice A1 n1 c1)).set (p:=⟨yb,1,none⟩) (Or.inr hyb) (.slice A2 n2 c2));obtain⟨s13c8c2z12yd,hz_⟩:∃z,z=((c8c2z12yd.setCell ⟨yb,0,none⟩ (.slice A1 n1 c1)).setCell ⟨yb,1,none⟩ (.slice A2 n2 c2)):=⟨_,rfl⟩;rw[←hz_];rw[←hz_] at ho1 ho2 hOy hKs13c8c2z12yd;have hSs13c8c2z12yd:=Nat.le_trans hSc8c2z12yd (show c8c2z12yd.heap.size≤s13c8c2z12yd.heap.size by rw[hz_];simp);clear hz_;refine hK.out _ _ ?_ (fun hHeld=>?_)
    ·exact HS.out _ hKs13c8c2z12yd
    clear hK Kq;(try simp only[N0]);refine tY (v:=?_) 14 15 ?_ ?_;rotate_left
    ·intro w hSw;rw[hSd] at hSw;obtain⟨⟨q0,q1,q2,q3⟩,-⟩:=hSw;go_simp;(try with_reducible rfl)
    (try simp only[N0]);refine wpAnyH_done (by kernel_rfl) ?_ _;clear HS hSd;generalize s13c8c2z12yd=wy at *;go_wp2;go_meet;exact⟨_,rfl,yb,A1,n1,c1,A2,n2,c2,rfl,rfl,hOy,Reads.of_own ho1,Reads.of_own ho2,hKs13c8c2z12yd.out.below (B':=wk.heap.size) (Nat.le_refl _) (by simp)⟩
   case rest=>
    obtain⟨wl,rfl,yb,A1,n1,c1,A2,n2,c2,rfl,rfl,hOy,hR1,hR2,hBk⟩:=‹∃wl,wl=_∧_›;clear HS hSd S;have HL:=Lib.hid (HK.out.under hBk);have HLA:=Lib.hid (keepO hBk HKA.out);have HLX:=Lib.hid (keepO hBk HKX.out);have HY:=Lib.hid hOy;have hR1h:=Lib.hid hR1;have hR2h:=Lib.hid hR2;have x0:=cel_at HLX.out (j:=0) rfl;have x1:=cel_at HLX.out (j:=1) rfl;have x2:=cel_at HLX.out (j:=2) rfl;obtain⟨y0,y1,-,-⟩:=two_facts hOy;clear hBk HK HKA HKX hOy hR1 hR2 HT hXl hWl;by_cases hlh:lo≤hi
    ·obtain⟨e,ev⟩:=hWok.out lo hi k1 k2 hlh;have hKn:=k3h.out hlh;rw[e] at hR1h hR2h ⊢;simp only at hR1h hR2h ⊢;have hgt:decide (lo > hi)=false:=(by simp;omega);have hHo:=pHolds_any A1 A2 n1 c1 n2 c2 ps _ wl hR1h.out hR2h.out HL.out.laid;have hch:checkS ps (ws ++ [(moreN ws,I,(K:Int),lo,hi)])=0:=(by unfold checkS;rw[if_pos ev]);rw[ev,hKn,hch,Bool.true_and] at hHo;have hHoh:=Lib.hid hHo;clear hHo hch hKn ev e hR1h hR2h;(go_wp2_with fail);refine hHoh.out.mono ?_;rintro e wz ⟨rfl,hb⟩;replace HL:=Lib.hid (HL.out.under hb);replace HLA:=Lib.hid (keepO hb HLA.out);replace HLX:=Lib.hid (keepO hb HLX.out);clear x0 x1 x2 y0 y1 HY hHoh hb;have x2:=cel_at HLX.out (j:=2) rfl;have hww:(wn != wn)=false:=(by simp);go_wp2;go_roundw
     case rel=>exact⟨_,rfl,t+1,by omega,by go_num,HL,HLA⟩
     case measure=>simp[intOf];omega
    ·have e:=hWno.out lo hi k1 k2 (by omega);rw[e];simp only;have hgt:decide (lo > hi)=true:=(by simp;omega);clear hR1h hR2h e y0 y1 HY;go_wp2;go_roundw
     case rel=>exact⟨_,rfl,t+1,by omega,by go_num,HL,HLA⟩
     case measure=>simp[intOf];omega
  ·obtain rfl:t=4:=(by omega);go_wp2;go_ret;exact⟨rfl,HQ.out.bel⟩
end Go.Proofs.YtfplipbkjglmhaaDoor

namespace Go.Proofs.YtfplipbkjglmhaaDoor.pressEnds
open Go.ChangeShapes Go.WideShapes Go.ChangeAt Go.RowKit Go.Joins
set_option linter.unusedVariables false
theorem laidOut:laidOutB Tryd.prog=true:=by kernel_rfl
set_option maxRecDepth 100000 in
theorem lifted(os:Os)(started:os.Started)(H:Type)(enc:TypeId×Value→H) :
  ReturnsInHanded {} Tryd.checked os 11 .any (fun w args=>(Rows.pressEndsSpec.pre enc Tryd.prog Tryd.f11 [] false w args∧laidMetH Tryd.prog laidList w)∧sizedMet enc Tryd.prog Tryd.f11 (OpenSpec.ofChange Rows.pressEndsSpec) false w args)
   (Rows.pressEndsSpec.post enc Tryd.prog Tryd.f11 false true false false):=by
 refine returnsInHanded_of_change_and (C:=Tryd.checked) (X:=fun w _=>laidMetH Tryd.prog laidList w) (fun _ _ _ hh h=>h.of_heap hh) own started (by kernel_rfl) Tryd.func11
  (ChangeSpec.witness_shaped (enc:=enc) (C:=Tryd.checked) (os:=os) (X:=fun w _=>laidMetH Tryd.prog laidList w) false (World.doorLaid Tryd.prog 25 os) #[.agg #[.slice none 0 0,.slice none 0 0],.int .u8 0,.int .u8 0] 8 rfl (World.shaped_of_RefB (by kernel_rfl) (by kernel_rfl)) (by kernel_rfl) (by kernel_rfl) (by kernel_rfl) (door_met os _)) ?_
 intro W base args ds gs before hval0 hW _ _ hL _;have hval:∀(j:Nat) t v,Tryd.f11.params[j]? = some t→args[j]? = some v→Value.okWide Tryd.prog W .any base t v:=hval0;have hW':=hW;have hblk:∀x∈before,x.block<W.heap.size:=fun x hx=>hW.lt x hx;obtain⟨p,q,hA0,hV,rfl,hfz,hnd⟩:=hW;have hA:DataW.TrodAll enc Tryd.prog W 0 (fun _=>true) true Tryd.f11.params.toList args.toList ds p:=hA0;have hA':=hA;have hP:=Tryd.params11;rw[Tryd.params11] at hA hval hA';obtain⟨v0,vs0,d0,ds0,p0,q0,hargs,rfl,rfl,h0,r0⟩:=trodAll_cons hA;obtain⟨v1,vs1,d1,ds1,p1,q1,rfl,rfl,rfl,h1,r1⟩:=trodAll_cons r0;obtain⟨v2,vs2,d2,ds2,p2,q2,rfl,rfl,rfl,h2,r2⟩:=trodAll_cons r1;obtain⟨rfl,rfl,rfl⟩:=trodAll_nil r2;obtain rfl:args = #[v0,v1,v2]:=by cases args;simp_all
 obtain⟨rfl,rfl⟩:=trodVars_none hV;simp only[List.append_nil] at hW' hblk;obtain⟨c00,c01,y00,y01,m0,rfl,-,-,g00,g01⟩:=open_agg2 Tryd.underlying25 (by kernel_rfl) (by kernel_rfl) (hval 0 25 v0 rfl rfl) h0;obtain⟨A,n,c,ps,rfl,hnc,hcm0,-,hRp⟩:=open_recs (f:=pgc) (fun _=>rfl) (by omega) Tryd.underlying22 cPg (fun k cs y hl h=>dec_pg k cs y hl h) g00;obtain⟨A',n',c',ws,rfl,hnc',hcm',hnil,hRw⟩:=open_recs (f:=wgc) (fun _=>rfl) (by omega) Tryd.underlying23 cWg (fun k cs y hl h=>dec_wg k cs y hl h) g01;obtain⟨x1_,rfl,rfl,rfl,hw1⟩:=open_int Tryd.underlying5 (hval 1 5 v1 rfl rfl) h1;obtain⟨x1,rfl,hx1⟩:∃m:Nat,x1_=m∧m≤255:=by
  have h:=hw1;simp only[Lit.wf,Bool.and_eq_true,decide_eq_true_eq,show IntKind.u8.min=0 by decide,show IntKind.u8.max=255 by decide] at h;exact⟨x1_.toNat,by omega,by omega⟩
 obtain⟨x2_,rfl,rfl,rfl,hw2⟩:=open_int Tryd.underlying5 (hval 2 5 v2 rfl rfl) h2;obtain⟨x2,rfl,hx2⟩:∃m:Nat,x2_=m∧m≤255:=by
  have h:=hw2;simp only[Lit.wf,Bool.and_eq_true,decide_eq_true_eq,show IntKind.u8.min=0 by decide,show IntKind.u8.max=255 by decide] at h;exact⟨x2_.toNat,by omega,by omega⟩
 clear hA0 hval0;refine(law_ends A A' n c n' c' ps ws x1 x2 W hx1 hx2 (by omega) (by omega) hRp hRw (laid_of hL)).mono fun e W' ⟨he,hb⟩=>?_;subst he;refine⟨_,rfl,post_below (ds:=[_,_,_]) (gs:=[]) (pa:=p0++([]++([]++([])))) (pv:=[]) (by simpa using hW') (fun _ _ _=>(trodAll_cons_mk (shut_bool Tryd.underlying4 _) trodAll_mk0)) (fun sp hsp=>?_) (fun _ _=>rfl) (by simp) hb (ok_one (by kernel_rfl) rfl (okWide_bool_mk Tryd.underlying4 _))⟩;rw[hP];refine trodAll_stays laidOut ?_ hA' (fun x hx=>hb.same (hblk x (by simpa using hx))) (fun x hx=>hsp x (by simpa using hx));intro t ht;have hall:([25,5,5].all fun u=>Tryd.prog.readableRec u && decide (u<Tryd.prog.types.size))=true:=by kernel_rfl
 have:=List.all_eq_true.1 hall t (by simpa using ht);simpa using this
theorem over:Rows.PressEndsSaid:=
 OpenClaim.holds_of_wide 11 Tryd.f11 rfl rfl rfl rfl rfl rfl rfl ⟨rfl,rfl,rfl,rfl,rfl⟩ rfl rfl rfl rfl rfl (by kernel_rfl) Tryd.func11 (by kernel_rfl)
  (of_decide_eq_true (by kernel_rfl)) (by unfold Func.isWrapper;first|(rw[if_pos (by decide +kernel)];kernel_rfl)|(rw[if_neg (by decide +kernel)];exact⟨rfl,rfl⟩))
  (fun os started H enc _=>lifted os started H enc)
/-- The tied card. -/
theorem proved:Rows.PressEndsCardSaid:=
 Claim7.holds_tied_plain_at .later [] [.funcs] true (true, "3cbcdd9f0d995b805788fb1a66c61468378cabb8fb1e0a1aebf8d521baf47642") false
  over (fun _ h=>by cases h) (by kernel_rfl) (fun _ h=>by cases h) pressEnds_row_tie rfl ⟨rfl,rfl⟩ (by kernel_rfl) rfl
  (fun f fn hf hfn=>by
   obtain rfl:f=11:=Option.some.inj ((show Tryd.prog.funcNamed "oilcake/oilcakelaw02.PressEnds" = some 11 by kernel_rfl).symm.trans hf) |>.symm
   obtain rfl:fn=Tryd.f11:=(Option.some.inj (Tryd.func11.symm.trans hfn)).symm;exact⟨by kernel_rfl,fun j t ht=>by
    rw[Tryd.params11] at ht;have hm:t∈[25,5,5]:=(by simpa using Array.mem_of_getElem? ht);have hall:([25,5,5].all fun u=>!Tryd.prog.wantsStandIn u)=true:=by kernel_rfl
    exact(show Tryd.prog.wantsStandIn t=false by simpa using List.all_eq_true.1 hall t hm)⟩)
  (by kernel_rfl)
#print axioms proved
end Go.Proofs.YtfplipbkjglmhaaDoor.pressEnds
