/-
 PressReading, the tied card: for every press, weighing, pressing and kind the law returns true, and its arguments read as before. The package's table of checks is laid as the program's text lays it (the given ties).
-/
import Derived.Test.YtfplipbkjglmhaaDoorEnP
import Derived.Test.YtfplipbkjglmhaaDoorRsL
import Derived.Test.YtfplipbkjglmhaaDoorRAsk
import Derived.Test.YtfplipbkjglmhaaDoorRWo
import Derived.Test.YtfplipbkjglmhaaDoorPAll
import Derived.Test.YtfplipbkjglmhaaDoorGonD
import Derived.Test.YtfplipbkjglmhaaDoorTk
import Derived.Test.YtfplipbkjglmhaaDoorRdy
import Derived.Test.YtfplipbkjglmhaaDoorAliv
import Derived.Test.YtfplipbkjglmhaaDoorPLaid
import Derived.Test.YtfplipbkjglmhaaDoorCards
import Derived.Test.YtfplipbkjglmhaaDoorTie
import Derived.SevenTiedAt
namespace Go.Proofs.YtfplipbkjglmhaaDoor
open Go.RowKit
set_option linter.unusedVariables false
set_option linter.unusedSimpArgs false
/-- A Number that no weighing has. -/
def moreN (ws:List WE):Int:=ws.foldl (fun n x=>max n (x.1+1)) 1
def moreS (ws:List WE):Int:=if 9999<moreN ws∨30≤ws.length then 0 else moreN ws
theorem more_acc:∀(ws:List WE) (a:Int),a≤ws.foldl (fun n x=>max n (x.1+1)) a∧∀x∈ws,x.1<ws.foldl (fun n x=>max n (x.1+1)) a
 |[],a=>⟨Int.le_refl _,fun x h=>by cases h⟩
 |y::r,a=>by
  obtain⟨h1,h2⟩:=more_acc r (max a (y.1+1));rw[List.foldl_cons];refine⟨by omega,fun x hx=>?_⟩;rcases List.mem_cons.1 hx with rfl|hx
  ·omega
  ·exact h2 x hx
theorem more_facts{ws:List WE}(h:moreS ws≠0):moreS ws=moreN ws∧1≤moreN ws∧moreN ws≤9999∧ws.length<30∧∀x∈ws,x.1<moreN ws:=by
 obtain⟨h1,h2⟩:=more_acc ws 1;unfold moreS at *;split at h
 ·exact absurd rfl h
 ·rename_i hn;rw[if_neg hn];exact⟨rfl,h1,by omega,by omega,h2⟩
theorem pos_end{ws:List WE}{N:Int}(h:∀x∈ws,x.1<N):posW ws N=ws.length:=by
 unfold posW;congr 1
 induction ws with
 |nil=>rfl
 |cons y r ih=>rw[List.takeWhile_cons,if_pos (by simpa using h y (List.mem_cons_self ..)),ih (fun x hx=>h x (List.mem_cons_of_mem _ hx))]
theorem ins_last{ws:List WE}{N:Int}(h:∀x∈ws,x.1<N)(x:WE):insW ws (posW ws N) x=ws ++ [x]:=by
 rw[pos_end h];unfold insW;simp
theorem allW_snoc{ps:List PR}{x:WE}:∀(ws:List WE) (l:Int),allW ps l ws=true→(∀y∈ws,y.1<x.1)→l<x.1→allW ps l (ws ++ [x])=okW ps 0 x:=by
 intro ws
 induction ws with
 |nil=>
  intro l _ _ hl;simp only[List.nil_append,allW,Bool.and_true,okW,decide_eq_true hl,Bool.and_true];by_cases h0:(0:Int)<x.1
  ·rw[decide_eq_true h0,Bool.and_true]
  ·have:rng 1 9999 x.1=false:=(by simp[rng];omega);rw[this];simp
 |cons y r ih=>
  intro l h hx hl;simp only[allW,Bool.and_eq_true] at h;simp only[List.cons_append,allW,h.1,Bool.true_and];exact ih y.1 h.2 (fun z hz=>hx z (List.mem_cons_of_mem _ hz)) (hx y (List.mem_cons_self ..))
theorem valid_snoc{ps:List PR}{ws:List WE}{x:WE}(hv:validP ps ws=true)(hl:ws.length<30)(hx:∀y∈ws,y.1<x.1)(h1:0<x.1):validP ps (ws ++ [x])=okW ps 0 x:=by
 unfold validP at *;simp only[Bool.and_eq_true,decide_eq_true_eq] at hv;obtain⟨⟨⟨a,b⟩,c⟩,d⟩:=hv;rw[allW_snoc ws 0 d hx h1,decide_eq_true a,c,decide_eq_true (by simp;omega)];rfl
/-- One weighing more. -/
theorem weigh_more{ps:List PR}{ws:List WE}{id k lo hi:Int}(hv:validP ps ws=true)(hm:moreS ws≠0) :
  weighS ps ws (moreS ws,id,k,lo,hi)=if okW ps 0 (moreN ws,id,k,lo,hi) then((ps,ws ++ [(moreN ws,id,k,lo,hi)]),0) else(([],[]),21):=by
 obtain⟨e,h1,h9,hl,hx⟩:=more_facts hm;unfold weighS;rw[e,if_pos hv,if_neg (by omega),ins_last hx,valid_snoc hv hl hx (by omega)]
theorem rows_snoc(ps:List PR)(ws:List WE)(x:WE):rowsT ps (ws ++ [x])=note1 ps x (rowsT ps ws):=by
 unfold rowsT;rw[List.foldl_append];rfl
theorem note_wth{ps:List PR}{R:Nat→Nat→Sp}{N id k lo hi:Int}{i q:Nat}(hi_:idxP ps id=i)(hk:k=q):note1 ps (N,id,k,lo,hi) R=wth R i q lo hi:=by
 funext a b
 unfold note1 wth;simp only[hi_,hk];by_cases h:a=i∧b=q
 ·obtain⟨rfl,rfl⟩:=h;rw[if_pos ⟨rfl,rfl⟩,if_pos ⟨rfl,rfl⟩];unfold both;simp only;rw[Int.max_comm,Int.min_comm]
 ·rw[if_neg (fun h'=>h ⟨by omega,by omega⟩),if_neg h]
theorem okW_more{ps:List PR}{ws:List WE}{id k lo hi:Int}(hm:moreS ws≠0)(hi_:0≤idxP ps id)(hk:1≤k∧k≤6)(h0:0≤lo)(h1:hi≤1000000):okW ps 0 (moreN ws,id,k,lo,hi)=decide (lo≤hi):=by
 obtain⟨e,g1,g9,hl,hx⟩:=more_facts hm;rw[Bool.eq_iff_iff];unfold okW rng;simp only[Bool.and_eq_true,decide_eq_true_eq];omega
/-- Both ends of what is told come about; what is beyond them does not. -/
structure EndsF (ps:List PR) (ws:List WE) (id k:Int) (s:Sp):Prop where
 in_:0≤s.1∧s.1≤s.2∧s.2≤1000000
 ok:∀lo hi,0≤lo→hi≤1000000→lo≤hi→weighS ps ws (moreS ws,id,k,lo,hi)=((ps,ws ++ [(moreN ws,id,k,lo,hi)]),0)∧validP ps (ws ++ [(moreN ws,id,k,lo,hi)])=true
 no:∀lo hi,0≤lo→hi≤1000000→hi<lo→weighS ps ws (moreS ws,id,k,lo,hi)=(([],[]),21)
 lo_:hasT ps (ws ++ [(moreN ws,id,k,s.1,s.1)])=true
 hi_:hasT ps (ws ++ [(moreN ws,id,k,s.2,s.2)])=true
 und:1≤s.1→hasT ps (ws ++ [(moreN ws,id,k,0,s.1 - 1)])=false
 abv:s.2<1000000→hasT ps (ws ++ [(moreN ws,id,k,s.2+1,1000000)])=false
theorem ends_law{ps:List PR}{ws:List WE}{id k:Int}(hm:moreS ws≠0)(h:askE ps ws id k=0):EndsF ps ws id k (spanE ps ws id k):=by
 obtain⟨hv,hi,h1,h6,ht⟩:=askE_ok h;have hVF:=valid_facts hv;obtain⟨e,g1,g9,hl,hx⟩:=more_facts hm;obtain⟨i,hi_⟩:∃i:Nat,idxP ps id=i:=⟨(idxP ps id).toNat,by omega⟩;obtain⟨q,rfl⟩:∃q:Nat,k=q:=⟨k.toNat,by omega⟩;have hin:i<ps.length:=by have:=idxP_bound ps id;omega
 have hF:=hVF.fwd;have hH:=has_Holds hVF ht;have hI:=rows_InR hVF ps.length;have hS:spanE ps ws id q=spanP (toT ps) (rowsT ps ws) ps.length i q:=by
  unfold spanE;rw[if_pos h,spanSp_P,hi_];rfl
 rw[hS];have hin3:=span_in (k:=q) hF hH hI hin (by omega) (by omega);have hok:∀lo hi',0≤lo→hi'≤1000000→lo≤hi'→validP ps (ws ++ [(moreN ws,id,(q:Int),lo,hi')])=true:=fun lo hi' a b c=>by
  rw[valid_snoc hv hl hx (by simp only;omega),okW_more hm hi ⟨h1,h6⟩ a b];simpa using c
 have hhas:∀lo hi',0≤lo→hi'≤1000000→lo≤hi'→(hasT ps (ws ++ [(moreN ws,id,(q:Int),lo,hi')])=true↔Holds ps.length (wth (rowsT ps ws) i q lo hi') (upP (toT ps) (wth (rowsT ps ws) i q lo hi'))):=fun lo hi' a b c=>by
  rw[has_iff (valid_facts (hok lo hi' a b c)),rows_snoc,note_wth hi_ rfl]
 refine⟨hin3,fun lo hi' a b c=>⟨?_,hok lo hi' a b c⟩,fun lo hi' a b c=>?_,?_,?_,fun a=>?_,fun a=>?_⟩
 ·rw[weigh_more hv hm,okW_more hm hi ⟨h1,h6⟩ a b,if_pos (by simpa using c)]
 ·rw[weigh_more hv hm,okW_more hm hi ⟨h1,h6⟩ a b,if_neg (by simpa using c)]
 ·rw[hhas _ _ (by omega) (by omega) (by omega)];exact span_pt hF hH hin (by omega) (by omega) (Int.le_refl _) (by omega)
 ·rw[hhas _ _ (by omega) (by omega) (by omega)];exact span_pt hF hH hin (by omega) (by omega) (by omega) (Int.le_refl _)
 ·rw[←Bool.not_eq_true,hhas _ _ (by omega) (by omega) (by omega),span_lo hF hH hI hin (by omega) (by omega)];omega
 ·rw[←Bool.not_eq_true,hhas _ _ (by omega) (by omega) (by omega),span_hi hF hH hI hin (by omega) (by omega)];omega
end Go.Proofs.YtfplipbkjglmhaaDoor

namespace Go.Proofs.YtfplipbkjglmhaaDoor
open Go.RowKit
set_option linter.unusedVariables false
set_option linter.unusedSimpArgs false
theorem more_step{ws:List WE}{t:Nat}{x:WE}(h:ws[t]? = some x):moreN (ws.take (t+1))=max (moreN (ws.take t)) (x.1+1):=by
 unfold moreN;rw[List.take_add_one,h,List.foldl_append];rfl
theorem more_le{ws:List WE}(h:∀x∈ws,x.1≤9999):1≤moreN ws∧moreN ws≤10000:=by
 unfold moreN;have key:∀(l:List WE) (a:Int),(∀x∈l,x.1≤9999)→1≤a→a≤10000→1≤l.foldl (fun n x=>max n (x.1+1)) a∧l.foldl (fun n x=>max n (x.1+1)) a≤10000:=by
  intro l
  induction l with
  |nil=>intro a _ h1 h2;exact⟨h1,h2⟩
  |cons y r ih=>
   intro a hx h1 h2;have:=hx y (List.mem_cons_self ..);exact ih _ (fun x hx'=>hx x (List.mem_cons_of_mem _ hx')) (show 1≤max a (y.1+1) by omega) (show max a (y.1+1)≤10000 by omega)
 exact key ws 1 h (by omega) (by omega)
set_option maxRecDepth 100000 in
set_option maxHeartbeats 2000000 in
theorem more_any(A A':Option Addr)(n c n' c':Nat)(ps:List PR)(ws:List WE)(w:World)(hnm':n'≤maxLen)(hW:Reads w w.heap.size 5 A' n' (wgs ws))(hv:validP ps ws=true) :
  Calls Tryd.prog 42 #[.agg #[.slice A n c,.slice A' n' c']] w fun e w'=>e = .returned (.int .i64 (moreS ws))∧Below w.heap.size w w':=by
 have hl':ws.length=n':=hW.wg_len;have hbd:∀x∈ws,1≤x.1∧x.1≤9999:=fun x hx=>num_bd hv hx;have hml:∀t,1≤moreN (ws.take t)∧moreN (ws.take t)≤10000:=fun t=>more_le fun x hx=>(hbd x (List.mem_of_mem_take hx)).2
 have hmh:=Lib.hid hml;have hbh:=Lib.hid hbd;have hn30:n'≤30:=by have:=(valid_facts hv).m30;omega
 have HB0:=Lib.hid ((Below.refl w.heap.size w).alloc (Nat.le_refl _) (.cells #[.slice A n c,.slice A' n' c'] 25));have HWd:=Lib.hid (fun z (hz:Below w.heap.size w z)=>(hW.below hz).more hz.size);have hO0:=heap_alloc_new w (.cells #[.slice A n c,.slice A' n' c'] 25);have HOp:=Lib.hid (fun z (hz:Below (w.alloc (.cells #[.slice A n c,.slice A' n' c'] 25)).heap.size (w.alloc (.cells #[.slice A n c,.slice A' n' c'] 25)) z)=>keepO hz hO0);have hlh:=Lib.hid hl';have hnm64:(n':Int)≤30:=by omega
 obtain⟨p0,p1,-,-⟩:=two_facts hO0;clear hW hO0 hml hbd hl'
 go_enter Tryd.func42,Tryd.ntmps42
 go_wp2_with fail
 clear p0 p1;generalize hwb:(w.alloc (.cells #[.slice A n c,.slice A' n' c'] 25))=wb at *;clear hwb;go_loopw [3,9] (fun v u wr=>∃wl,wl=wr∧∃t:Nat,t≤n'∧v = .int .i64 (moreN (ws.take t))∧u = .int .i64 t∧Hid (Below wb.heap.size wb wl)) (fun _ u _=>n' - (intOf u).toNat)
 case atStart=>exact⟨_,rfl,0,Nat.zero_le _,rfl,rfl,Lib.hid (Below.refl _ _)⟩
 case round=>
  obtain⟨wq,rfl,t,ht,rfl,rfl,HBq⟩:=hrel;have HBr:=Lib.hid (below_via HB0.out HB0.out.size HBq.out);obtain⟨p0,p1,-,-⟩:=two_facts (HOp.out _ HBq.out);have h1:=(hmh.out t).1;have h2:=(hmh.out t).2;by_cases htn:t<n'
  ·have hti:(t:Int)<(n':Int):=(by omega);have ht0:(0:Int)≤(t:Int):=(by omega);obtain⟨bq,oq,N,Q,Kd,Lo,Hi,hAe,hbq,hx,y0,y1,y2,y3,y4⟩:=(HWd.out _ HBr.out).wg htn;have hN:=hbh.out _ (List.mem_of_getElem? hx);have hst:=Lib.hid (more_step hx);have HBx:=Lib.hid (HBq.out.alloc HBq.out.size (.cells #[.int .i64 N,.int .i64 Q,.int .i64 Kd,.int .i64 Lo,.int .i64 Hi] 81));obtain⟨hN1,hN2⟩:=hN;simp only at hN1 hN2;have hmx:(if moreN (ws.take t)<N+1 then N+1 else moreN (ws.take t))=moreN (ws.take (t+1)):=(by rw[hst.out,mx_if]);obtain⟨a',ha_⟩:∃a',a'=moreN (ws.take (t+1)):=⟨_,rfl⟩;rw[←ha_] at hmx;have ha:=Lib.hid ha_;clear ha_;generalize moreN (ws.take t)=a at *;subst hAe;clear hx hst;go_wp2;go_roundw
   case rel=>exact⟨_,rfl,t+1,by omega,by rw[ha.out],by go_num,HBx⟩
   case measure=>simp[intOf];omega
  ·obtain rfl:n'=t:=(by omega);have hti:¬(n':Int)<(n':Int):=(by omega);have hfin:Hid (moreS ws=if 9999<moreN (ws.take n')∨30≤n' then 0 else moreN (ws.take n')):=by
    show _=_;unfold moreS;rw[List.take_of_length_le (by rw[hlh.out];omega),hlh.out]
   generalize moreN (ws.take n')=a at *;by_cases h9:9999<a
   ·have hd:decide (9999<a)=true:=(by simpa using h9);go_wp2;go_ret;exact⟨ret_int (by rw[hfin.out];simp[h9]),HBr.out⟩
   ·have hd:decide (9999<a)=false:=(by simpa using h9);by_cases h3:30≤n'
    ·have h3i:decide ((30:Int)≤(n':Int))=true:=(by simp;omega);go_wp2;go_ret;exact⟨ret_int (by rw[hfin.out];simp[h3]),HBr.out⟩
    ·have h3i:decide ((30:Int)≤(n':Int))=false:=(by simp;omega);go_wp2;go_ret;exact⟨ret_int (by rw[hfin.out,if_neg (by omega)]),HBr.out⟩
end Go.Proofs.YtfplipbkjglmhaaDoor

namespace Go.Proofs.YtfplipbkjglmhaaDoor
open Go.RowKit
set_option linter.unusedVariables false
set_option linter.unusedSimpArgs false
theorem more_wid(ps:List PR)(ws:List WE)(x:WE):Wid (rowsT ps ws) (rowsT ps (ws ++ [x])):=by
 rw[rows_snoc];exact note1_out (fun _ _=>⟨Int.le_refl _,Int.le_refl _⟩) ps x
theorem hasT_wid{ps:List PR}{ws ws':List WE}(hv:validP ps ws=true)(hv':validP ps ws'=true)(hw:Wid (rowsT ps ws) (rowsT ps ws'))(h:hasT ps ws'=true):hasT ps ws=true:=by
 rw[has_iff (valid_facts hv)];rw[has_iff (valid_facts hv')] at h;intro i hi;obtain⟨h1,h2⟩:=h i hi;refine⟨fun k a b=>?_,?_⟩
 ·have:=h1 k a b;have:=hw i k;unfold Ne at *;omega
 ·have:=up_wid (t:=toT ps) hw (i+1) i (by omega);unfold Ne at *;omega
theorem in_wid{t:Nat→Option Nat}{R' R:Nat→Nat→Sp}(hR:Wid R' R)(n i:Nat):(inS t R' (upP t R') (intoP t R') n i).1≤(inS t R (upP t R) (intoP t R) n i).1∧(inS t R (upP t R) (intoP t R) n i).2≤(inS t R' (upP t R') (intoP t R') n i).2:=by
 have hU:∀j,(upP t R' j).1≤(upP t R j).1∧(upP t R j).2≤(upP t R' j).2:=fun j=>up_wid hR (j+1) j (by omega);have hd:=down_wid (t:=t) hR hU n n i;have hf:=feed_wid (t:=t) (U':=upP t R') (U:=upP t R) i i (fun j _=>hU j);have h1:=hR i 1;have h2:=hR i 2;have h3:=hR i 3;have h4:=hR i 4;have h5:=hR i 5;unfold inS intoP;rw[rest1_restS,rest1_restS];simp only[restS,both,minus,plus,minus1] at *;generalize (feed t (upP t R') i i).1=f1 at *;generalize (feed t (upP t R') i i).2=f2 at *;generalize (feed t (upP t R) i i).1=g1 at *;generalize (feed t (upP t R) i i).2=g2 at *;generalize (downS t R' (upP t R') n n i).1=d1 at *;generalize (downS t R' (upP t R') n n i).2=d2 at *;generalize (downS t R (upP t R) n n i).1=e1 at *;generalize (downS t R (upP t R) n n i).2=e2 at *;constructor<;>omega
theorem cnt_wid{a b:Sp}(hb:Ne b)(h1:a.1≤b.1)(h2:b.2≤a.2)(e:Int):cnt b e≤cnt a e:=by
 unfold Ne at hb;unfold cnt;rcases (by omega:0≤e∨e≤0) with he|he
 ·have g1:b.2*e≤a.2*e:=Int.mul_le_mul_of_nonneg_right h2 he;have g2:b.1*e≤b.2*e:=Int.mul_le_mul_of_nonneg_right hb he;omega
 ·have g1:b.1*e≤a.1*e:=Int.mul_le_mul_of_nonpos_right h1 he;have g2:b.2*e≤b.1*e:=Int.mul_le_mul_of_nonpos_right hb he;omega
section
variable {n:Nat} {t:Nat→Option Nat} {R' R:Nat→Nat→Sp}
theorem row_wid(hw:Wid R' R)(kind:Nat)(one:Int)(y:Nat→Int)(i:Nat):∀k,(∀q,1≤q→q≤k→Ne (R i q))→rowS t R kind one y i k≤rowS t R' kind one y i k
 |0,_=>Int.le_refl _
 |k+1,h=>by
  have ih:=row_wid hw kind one y i k fun q a b=>h q a (by omega);have:=cnt_wid (h (k+1) (by omega) (by omega)) (hw i (k+1)).1 (hw i (k+1)).2 (eachP kind one (y i) (yTo t y i) (k+1));show rowS t R kind one y i k+cnt (R i (k+1)) _≤rowS t R' kind one y i k+cnt (R' i (k+1)) _;omega
theorem pri_wid(hw:Wid R' R)(kind:Nat)(one:Int)(y:Nat→Int):∀m,(∀i,i<m→∀q,1≤q→q≤6→Ne (R i q))→priS t R kind one y m≤priS t R' kind one y m
 |0,_=>Int.le_refl _
 |m+1,h=>by
  have ih:=pri_wid hw kind one y m fun i hi=>h i (by omega);have:=row_wid (t:=t) hw kind one y m 6 (h m (by omega));show priS t R kind one y m+rowS t R kind one y m 6≤priS t R' kind one y m+rowS t R' kind one y m 6;omega
theorem grt_wid(hF:Fwd n t){kind:Nat}{sgn:Int}(hg:sgn=1∨sgn = -1)(h5:kind≤5)(hH:Holds n R (upP t R))(hH':Holds n R' (upP t R'))(hw:Wid R' R):grt t R kind sgn n≤grt t R' kind sgn n:=by
 obtain⟨y,hy,e⟩:=grt_at hF hg h5 hH';have h1:=grt_le hF hg h5 hH hy;have h2:=pri_wid (t:=t) hw kind sgn y n fun i hi=>(hH i hi).1
 omega
/-- How far the parings at a place can lie beyond those of wider notes. -/
def offD (U' U:Sp):Int:=max 0 (max (U'.1 - U.1) (U.2 - U'.2))
def offS (t:Nat→Option Nat) (U' U:Nat→Sp) (k:Nat):Nat→Int
 |0=>0
 |j+1=>if t j=some k then offS t U' U k j+offD (U' j) (U j) else offS t U' U k j
def goB (o:Option Nat) (m:Nat):Bool:=match o with|some k=>decide (m≤k)|none=>false
/-- Of those below m whose parings go to m or beyond it. -/
def offP (t:Nat→Option Nat) (U' U:Nat→Sp) (m:Nat):Nat→Int
 |0=>0
 |j+1=>if goB (t j) m=true then offP t U' U m j+offD (U' j) (U j) else offP t U' U m j
theorem offD_0(a b:Sp):0≤offD a b:=by unfold offD;omega
theorem offP_0(U' U:Nat→Sp)(m:Nat):∀j,0≤offP t U' U m j
 |0=>Int.le_refl _
 |j+1=>by
  have:=offP_0 U' U m j;have:=offD_0 (U' j) (U j);unfold offP;split<;>omega
theorem offS_0(U' U:Nat→Sp)(m:Nat):∀j,0≤offS t U' U m j
 |0=>Int.le_refl _
 |j+1=>by
  have:=offS_0 U' U m j;have:=offD_0 (U' j) (U j);unfold offS;split<;>omega
theorem off_split(U' U:Nat→Sp)(m:Nat):∀j,offP t U' U m j=offP t U' U (m+1) j+offS t U' U m j
 |0=>rfl
 |j+1=>by
  have ih:=off_split U' U m j;unfold offP offS;cases ht:t j with
  |none=>simpa [goB] using ih
  |some k=>
   by_cases e:k=m
   ·subst e;rw[if_pos (show goB (some k) k=true by simp[goB]),if_neg (show ¬goB (some k) (k+1)=true by simp[goB]),if_pos rfl];omega
   ·rw[if_neg (show ¬some k=some m by simpa using e)];by_cases g:m≤k
    ·rw[if_pos (show goB (some k) m=true by simpa [goB] using g),if_pos (show goB (some k) (m+1)=true by simp[goB];omega)];omega
    ·rw[if_neg (show ¬goB (some k) m=true by simpa [goB] using g),if_neg (show ¬goB (some k) (m+1)=true by simp[goB];omega)];omega
theorem feed_off'(U' U:Nat→Sp)(k:Nat):∀m,(feed t U' k m).1 - (feed t U k m).1≤offS t U' U k m∧(feed t U k m).2 - (feed t U' k m).2≤offS t U' U k m
 |0=>by simp[feed,offS]
 |m+1=>by
  obtain⟨h1,h2⟩:=feed_off' U' U k m;unfold feed offS;split
  ·unfold offD plus;simp only;omega
  ·exact⟨h1,h2⟩
theorem par_cases{c o:Sp}(hc:Ne c)(ho:Ne o):(c.2<o.1∧misP c o=c.2 - o.1∧parP c o=(o.1,o.1))∨(o.2<c.1∧misP c o=c.1 - o.2∧parP c o=(o.2,o.2))∨(o.1≤c.2∧c.1≤o.2∧misP c o=0∧parP c o=(max c.1 o.1,min c.2 o.2)):=by
 unfold Ne at *;rcases (by omega:c.2<o.1∨o.2<c.1∨(o.1≤c.2∧c.1≤o.2)) with a|a|⟨a,b⟩
 ·have e:misP c o=c.2 - o.1:=(by unfold misP;omega);refine .inl ⟨a,e,?_⟩;unfold parP;rw[e,if_neg (by omega),if_pos (by omega)]
 ·have e:misP c o=c.1 - o.2:=(by unfold misP;omega);refine .inr (.inl ⟨a,e,?_⟩);unfold parP;rw[e,if_pos (by omega)]
 ·have e:misP c o=0:=(by unfold misP;omega);refine .inr (.inr ⟨a,b,e,?_⟩);unfold parP;rw[e,if_neg (by omega),if_neg (by omega)];simp[both]
theorem mis_step{c c' o o':Sp}{D:Int}(hc:Ne c)(hc':Ne c')(ho:Ne o)(ho':Ne o')(hD:0≤D)(h1:c'.1 - c.1≤D)(h2:c.2 - c'.2≤D)(g1:o'.1≤o.1)(g2:o.2≤o'.2) :
  max (misP c' o') (-(misP c' o'))+offD (parP c' o') (parP c o)≤max (misP c o) (-(misP c o))+D:=by
 have a:=par_cases hc ho;have b:=par_cases hc' ho';unfold Ne at *;unfold offD;rcases a with ⟨a1,a2,a3⟩|⟨a1,a2,a3⟩|⟨a0,a1,a2,a3⟩<;>rcases b with ⟨b1,b2,b3⟩|⟨b1,b2,b3⟩|⟨b0,b1,b2,b3⟩<;>rw[a2,a3,b2,b3]<;>simp only<;>omega
theorem gone_wid(hw:Wid R' R)(hF:Fwd n t)(hr:∀i,i<n→∀k,1≤k→k≤6→Ne (R i k))(hr':∀i,i<n→∀k,1≤k→k≤6→Ne (R' i k)) :
  ∀m,m≤n→sumM (misU t R') m+offP t (parU t R') (parU t R) m m≤sumM (misU t R) m
 |0,_=>by simp[sumM,offP]
 |m+1,hm=>by
  have ih:=gone_wid hw hF hr hr' m (by omega);have hU:∀j,j<n→Ne (parU t R j):=fun j hj=>(gone_law hr j hj).2.2.1
  have hU':∀j,j<n→Ne (parU t R' j):=fun j hj=>(gone_law hr' j hj).2.2.1
  have hc:Ne (canS t R (parU t R) m):=can_ne (fun j hj=>hU j (by omega)) (hr m (by omega));have hc':Ne (canS t R' (parU t R') m):=can_ne (fun j hj=>hU' j (by omega)) (hr' m (by omega));rw[off_split] at ih;obtain⟨f1,f2⟩:=feed_off' (t:=t) (parU t R') (parU t R) m m;have h0:=offS_0 (t:=t) (parU t R') (parU t R) m m;have g:∀k,(R' m k).1≤(R m k).1∧(R m k).2≤(R' m k).2:=hw m
  have hst:=mis_step hc hc' (hr m (by omega) 6 (by omega) (by omega)) (hr' m (by omega) 6 (by omega) (by omega)) h0
   (by have a1:=g 1;have a2:=g 2;have a3:=g 3;have a4:=g 4;have a5:=g 5;simp only[canS,minus,plus,restS];omega)
   (by have a1:=g 1;have a2:=g 2;have a3:=g 3;have a4:=g 4;have a5:=g 5;simp only[canS,minus,plus,restS];omega) (g 6).1 (g 6).2
  rw[←parU_eq,←parU_eq] at hst;have e1:sumM (misU t R') (m+1)=sumM (misU t R') m+max (misU t R' m) (-(misU t R' m)):=rfl;have e2:sumM (misU t R) (m+1)=sumM (misU t R) m+max (misU t R m) (-(misU t R m)):=rfl;have e3:offP t (parU t R') (parU t R) (m+1) (m+1)≤offP t (parU t R') (parU t R) (m+1) m+offD (parU t R' m) (parU t R m):=by
   have:=offD_0 (parU t R' m) (parU t R m);rw[show offP t (parU t R') (parU t R) (m+1) (m+1)=if goB (t m) (m+1)=true then offP t (parU t R') (parU t R) (m+1) m+offD (parU t R' m) (parU t R m) else offP t (parU t R') (parU t R) (m+1) m from rfl];split<;>omega
  rw[e1,e2];unfold misU at *;omega
theorem cl_wid(hw:Wid R' R)(h:clB R' n=true):clB R n=true:=by
 unfold clB at *;rw[List.any_eq_true] at *;obtain⟨i,hi,h⟩:=h;refine⟨i,hi,?_⟩;rw[List.any_eq_true] at *;obtain⟨k,hk,h⟩:=h;refine⟨k,hk,?_⟩;have:=hw i (k+1);simp only[decide_eq_true_eq] at *;omega
end
/-- What PressReading compares. -/
structure RdF (ps:List PR) (ws ws':List WE):Prop where
 val:validP ps ws'=true
 gon:gonE ps ws≠0→gonE ps ws'≠0
 goS:gonE ps ws'=0→gonS ps ws≤gonS ps ws'
 ask:∀id k,0≤idxP ps id→1≤k→k≤5→askE ps ws' id k=0→askE ps ws id k=0∧askE ps ws id 1=0∧askE ps ws' id 1=0∧allE ps ws k=0∧allE ps ws' k=0∧
  ((spanE ps ws id k).1≤(spanE ps ws' id k).1∧(spanE ps ws' id k).2≤(spanE ps ws id k).2)∧
  ((inE ps ws id).1≤(inE ps ws' id).1∧(inE ps ws' id).2≤(inE ps ws id).2)∧
  ((allS ps ws k).1≤(allS ps ws' k).1∧(allS ps ws' k).2≤(allS ps ws k).2)
theorem read_gen{ps:List PR}{ws ws':List WE}(hv:validP ps ws=true)(hv':validP ps ws'=true)(hw:Wid (rowsT ps ws) (rowsT ps ws')):RdF ps ws ws':=by
 have hF:=valid_facts hv;have hgE:gonE ps ws≠0→gonE ps ws'≠0:=fun h=>by
  unfold gonE at *;rw[if_pos hv] at h;rw[if_pos hv'];split at h
  ·rename_i hc;rw[if_pos (cl_wid hw hc)];decide
  ·exact absurd rfl h
 refine⟨hv',hgE,fun h=>?_,fun id k hid k1 k5 ha=>?_⟩
 ·have h2:gonE ps ws=0:=by
   by_cases h3:gonE ps ws=0
   ·exact h3
   ·exact absurd h (hgE h3)
  have c:∀{ws:List WE},validP ps ws=true→gonE ps ws=0→clB (rowsT ps ws) ps.length=false:=fun {ws} hv h=>by
   unfold gonE at h;rw[if_pos hv] at h;split at h
   ·omega
   ·rename_i hc;simpa using hc
  have:=gone_wid (n:=ps.length) hw hF.fwd (clB_no (c hv' h)) (clB_no (c hv h2)) ps.length (Nat.le_refl _);have h0:=offP_0 (t:=toT ps) (parU (toT ps) (rowsT ps ws)) (parU (toT ps) (rowsT ps ws')) ps.length ps.length;unfold gonS;rw[if_pos h,if_pos h2];omega
 ·obtain⟨_,_,_,_,ht'⟩:=askE_ok ha;have ht:=hasT_wid hv hv' hw ht';have a1:∀q,1≤q→q≤6→askE ps ws id q=0:=fun q q1 q6=>(by rw[askE_two hv hid ⟨q1,q6⟩,if_pos ht]);have a2:∀q,1≤q→q≤6→askE ps ws' id q=0:=fun q q1 q6=>(by rw[askE_two hv' hid ⟨q1,q6⟩,if_pos ht']);have b1:allE ps ws k=0:=(by unfold allE;rw[if_pos hv,if_pos (by simp[rng];omega),if_pos ht]);have b2:allE ps ws' k=0:=(by unfold allE;rw[if_pos hv',if_pos (by simp[rng];omega),if_pos ht']);refine⟨a1 k k1 (by omega),a1 1 (by omega) (by omega),a2 1 (by omega) (by omega),b1,b2,?_,?_,?_⟩
  ·unfold spanE;rw[if_pos (a1 k k1 (by omega)),if_pos ha];exact span_wid hw _ _ _ (by omega)
  ·unfold inE;rw[if_pos (a1 1 (by omega) (by omega)),if_pos (a2 1 (by omega) (by omega))];exact in_wid hw _ _
  ·unfold allS;rw[if_pos b1,if_pos b2];have hH:=(has_iff hF).1 ht;have hH':=(has_iff (valid_facts hv')).1 ht';have p:=grt_wid hF.fwd (kind:=k.toNat) (sgn:=-1) (.inr rfl) (by omega) hH' hH hw;have q:=grt_wid hF.fwd (kind:=k.toNat) (sgn:=1) (.inl rfl) (by omega) hH' hH hw;exact⟨by simp only;omega,q⟩
theorem read_law{ps:List PR}{ws:List WE}(hv:validP ps ws=true)(hm:moreS ws≠0){I K lo hi:Int}(hi_:0≤idxP ps I)(hK:1≤K∧K≤6)(h0:0≤lo)(h1:hi≤1000000)(hlh:lo≤hi) :
  weighS ps ws (moreS ws,I,K,lo,hi)=((ps,ws ++ [(moreN ws,I,K,lo,hi)]),0)∧RdF ps ws (ws ++ [(moreN ws,I,K,lo,hi)]):=by
 obtain⟨e,g1,g9,hl,hx⟩:=more_facts hm;refine⟨by rw[weigh_more hv hm,okW_more hm hi_ hK h0 h1,if_pos (by simpa using hlh)],read_gen hv ?_ (more_wid ps ws _)⟩;rw[valid_snoc hv hl hx (by simp only;omega),okW_more hm hi_ hK h0 h1];simpa using hlh
end Go.Proofs.YtfplipbkjglmhaaDoor

namespace Go.Proofs.YtfplipbkjglmhaaDoor
open Go.RowKit
set_option linter.unusedVariables false
set_option linter.unusedSimpArgs false
set_option maxRecDepth 100000 in
set_option maxHeartbeats 16000000 in
theorem law_reading(A A':Option Addr)(n c n' c':Nat)(ps:List PR)(ws:List WE)(wh:Nat)(kd:Nat)(lw:Nat)(wd:Nat)(ot:Nat)(od:Nat)(w:World)(hwh:wh≤255)(hkd:kd≤255)(hlw:lw≤4294967295)(hwd:wd≤4294967295)(hot:ot≤255)(hod:od≤255)(hnm:n≤maxLen)(hnm':n'≤maxLen)
  (hR:Reads w w.heap.size 4 A n (pgs ps)) (hW:Reads w w.heap.size 5 A' n' (wgs ws)) (hL:Laid w) :
  Calls Tryd.prog 12 #[.agg #[.slice A n c,.slice A' n' c'],.int .u8 wh,.int .u8 kd,.int .u32 lw,.int .u32 wd,.int .u8 ot,.int .u8 od] w fun e w'=>e = .returned (.bool true)∧Below w.heap.size w w':=by
 have hl:ps.length=n:=hR.pg_len;have hl':ws.length=n':=hW.wg_len;have HX0:=Lib.hid (PX.start (c:=c) (c':=c') hR hW hL);have HAl:=Lib.hid (fun z (K:PX w A A' n c n' c' ps ws z)=>alive_any z K.laid);have HRy:=Lib.hid (fun z (K:PX w A A' n c n' c' ps ws z)=>ready_any A A' n c n' c' ps ws z hnm hnm' K.rp K.rw_);have HMo:=Lib.hid (fun hv z (X:PX w A A' n c n' c' ps ws z)=>more_any A A' n c n' c' ps ws z hnm' X.rw_ hv);clear hR hW hL;obtain⟨g,hg_⟩:∃g,g=(!(decide (20<n) || decide (50<n')) && validP ps ws):=⟨_,rfl⟩;rw[←hg_] at HRy;have hg:=Lib.hid hg_;clear hg_;have hwh0:(0:Int)≤(wh:Int):=by omega
 have hwh1:(wh:Int)≤255:=by omega
 have hkd0:(0:Int)≤(kd:Int):=by omega
 have hkd1:(kd:Int)≤255:=by omega
 have hlw0:(0:Int)≤(lw:Int):=by omega
 have hlw1:(lw:Int)≤4294967295:=by omega
 have hwd0:(0:Int)≤(wd:Int):=by omega
 have hwd1:(wd:Int)≤4294967295:=by omega
 have hot0:(0:Int)≤(ot:Int):=by omega
 have hot1:(ot:Int)≤255:=by omega
 have hod0:(0:Int)≤(od:Int):=by omega
 have hod1:(od:Int)≤255:=by omega
 go_enter Tryd.func12,Tryd.ntmps12
 go_wp2_with fail
 refine(HAl.out _ HX0.out).mono ?_;rintro e z1 ⟨rfl,hb⟩;have HX1:=Lib.hid (HX0.out.below hb);clear hb HX0;obtain⟨p0,p1⟩:=HX1.out.cells;go_wp2_with fail
 clear p0 p1;refine(HRy.out _ HX1.out).mono ?_;rintro e z2 ⟨rfl,hb⟩;have HX2:=Lib.hid (HX1.out.below hb);clear hb HX1;cases g with
 |false=>
  go_wp2;go_ret;exact⟨rfl,HX2.out.bel⟩
 |true=>
 have hv:validP ps ws=true:=by have h:=hg.out;simp at h;exact h.2.symm ▸ rfl
 have hVF:=valid_facts hv;have hn10:n≤10:=by have:=hVF.n10;omega
 have hn30:n'≤30:=by have:=hVF.m30;omega
 clear hg HRy HAl;have hvh:=Lib.hid hv;obtain⟨p0,p1⟩:=HX2.out.cells;by_cases hn0:n=0
 ·have hz:((n:Int)==0)=true:=(by simp[hn0]);go_wp2;go_ret;exact⟨rfl,HX2.out.bel⟩
 have hz:((n:Int)==0)=false:=by simpa using hn0
 go_wp2_with fail
 clear p0 p1;refine(HMo.out hv _ HX2.out).mono ?_;rintro e z3 ⟨rfl,hb⟩;have HX3:=Lib.hid (HX2.out.below hb);clear hb HX2;by_cases hm0:moreS ws=0
 ·have hmz:(moreS ws==0)=true:=(by simp[hm0]);go_wp2;go_ret;exact⟨rfl,HX3.out.bel⟩
 have hmz:(moreS ws==0)=false:=by simpa using hm0
 obtain⟨i,hi_⟩:∃i,i=wh%n:=⟨_,rfl⟩;obtain⟨k,hk_⟩:∃k,k=ot%n:=⟨_,rfl⟩;have hin:i<n:=by rw[hi_];exact Nat.mod_lt _ (by omega)
 have hkn:k<n:=by rw[hk_];exact Nat.mod_lt _ (by omega)
 have hrem:(wh:Int).tmod (n:Int)=(i:Int):=by rw[hi_];exact Int.ofNat_tmod wh n
 have hrem2:Hid ((ot:Int).tmod (n:Int)=(k:Int)):=by show _=_;rw[hk_];exact Int.ofNat_tmod ot n
 have hwr:IntKind.i64.wrap (wh:Int)=(wh:Int):=IntWalk.i64_in _ (by omega);have hwr2:IntKind.i64.wrap (kd:Int)=(kd:Int):=IntWalk.i64_in _ (by omega);have hnz:((n:Int)==0)=false:=by simp;omega
 have hi0:(0:Int)≤(i:Int):=by omega
 have hi1:(i:Int)<(n:Int):=by omega
 obtain⟨K,hKe⟩:∃K:Int,1+(kd:Int)%6=K:=⟨_,rfl⟩;have hK:1≤K∧K≤6:=by omega
 have hKe2:IntKind.i64.wrap (1+(kd:Int).tmod 6)=K:=by rw[Int.tmod_eq_emod_of_nonneg (by omega),hKe];exact IntWalk.i64_in _ (by omega)
 obtain⟨bp,op,I,D,P,T,hAe,hbp,hx,y0,-,-,-⟩:=HX3.out.rp.pg hin;have hI:Hid (idQ ps i=I):=by show _=_;unfold idQ;rw[hx]
 subst hAe;clear hi_ hk_ hx;have hidx:0≤idxP ps I:=by rw[←hI.out,idx_idQ hVF (by omega)];omega
 have hw2:w.heap.size<z3.heap.size:=(Array.getElem?_eq_some_iff.1 HX3.out.b0).1;have HT:=HX3.out;obtain⟨p0,p1⟩:=HX3.out.cells;have HQw:=Lib.hid (fun w' (hz:Hid (Kp z3.heap.size [] z3 w'))=>(⟨(hz.out.cell (by simp only;omega) (by simp;try omega)).trans p0,(hz.out.cell (by simp only;omega) (by simp;try omega)).trans p1,(hz.out.cell (by simp only;omega) (by simp;try omega)).trans y0⟩:w'.cell? ⟨w.heap.size,0,none⟩=some (.slice (some ⟨bp,op,none⟩) n c)∧w'.cell? ⟨w.heap.size,1,none⟩=some (.slice A' n' c')∧w'.cell? ⟨bp,op+i*4,none⟩=some (.int .i64 I)));obtain⟨S,hSd⟩:∃S:World→Prop,S=fun w'=>(w'.cell? ⟨w.heap.size,0,none⟩=some (.slice (some ⟨bp,op,none⟩) n c)∧w'.cell? ⟨w.heap.size,1,none⟩=some (.slice A' n' c')∧w'.cell? ⟨bp,op+i*4,none⟩=some (.int .i64 I))∧Hid (Kp z3.heap.size [] z3 w'):=⟨_,rfl⟩
 have HS:=Lib.hid (fun w' (hz:Hid (Kp z3.heap.size [] z3 w'))=>(by rw[hSd];exact⟨HQw.out w' hz,hz⟩:S w'));clear hv HQw;go_wp2_with fail
 clear p0 p1 y0 hz
 go_cut [16] from 59 to 76 (fun s16 wx=>∃wl,wl=wx∧∃xb,s16 = .pointer (some ⟨xb,0,none⟩)∧wl.heap[xb]? = some (.cells #[.int .i64 (moreS ws),.int .i64 I,.int .i64 K,.int .i64 0,.int .i64 0] 81 (0,0))∧z3.heap.size≤xb∧Below z3.heap.size z3 wl)
 case first=>
  refine wp_region_held_drew (S:=S) (by kernel_rfl) ?_ (fun hHeld=>?_)
  ·exact HS.out _ (Lib.hid (Kp.refl _ _ _).drew)
  have hKyd:Hid (Kp z3.heap.size [] z3 z3.drew):=Lib.hid (Kp.refl _ _ _).drew;have hSyd:z3.heap.size≤z3.drew.heap.size:=Nat.le_refl _;have HT:=HT.below (Below.refl z3.heap.size z3).drew;generalize z3.drew=yd at *;refine tY (v:=?_) 0 59 ?_ ?_;rotate_left
  ·intro w hSw;rw[hSd] at hSw;obtain⟨⟨q0,q1,q2⟩,-⟩:=hSw;go_simp;(try with_reducible rfl)
  (try simp only[N0]);refine tY (v:=?_) 2 61 ?_ ?_;rotate_left
  ·intro w hSw;rw[hSd] at hSw;obtain⟨⟨q0,q1,q2⟩,-⟩:=hSw;go_simp;(try with_reducible rfl)
  (try simp only[N0]);refine tY (v:=?_) 3 62 ?_ ?_;rotate_left
  ·intro w hSw;rw[hSd] at hSw;obtain⟨⟨q0,q1,q2⟩,-⟩:=hSw;go_simp;(try with_reducible rfl)
  (try simp only[N0]);refine tY (v:=?_) 4 63 ?_ ?_;rotate_left
  ·intro w hSw;rw[hSd] at hSw;obtain⟨⟨q0,q1,q2⟩,-⟩:=hSw;go_simp;(try with_reducible rfl)
  (try simp only[N0]);refine tY (v:=?_) 5 64 ?_ ?_;rotate_left
  ·intro w hSw;rw[hSd] at hSw;obtain⟨⟨q0,q1,q2⟩,-⟩:=hSw;go_simp;(try with_reducible rfl)
  (try simp only[N0]);refine tY (v:=?_) 6 65 ?_ ?_;rotate_left
  ·intro w hSw;rw[hSd] at hSw;obtain⟨⟨q0,q1,q2⟩,-⟩:=hSw;go_simp;(try with_reducible rfl)
  (try simp only[N0]);refine tY (v:=?_) 7 66 ?_ ?_;rotate_left
  ·intro w hSw;rw[hSd] at hSw;obtain⟨⟨q0,q1,q2⟩,-⟩:=hSw;go_simp;(try with_reducible rfl)
  (try simp only[N0]);refine tY (v:=?_) 8 67 ?_ ?_;rotate_left
  ·intro w hSw;rw[hSd] at hSw;obtain⟨⟨q0,q1,q2⟩,-⟩:=hSw;go_simp;(try with_reducible rfl)
  (try simp only[N0]);refine tY (v:=?_) 9 68 ?_ ?_;rotate_left
  ·intro w hSw;rw[hSd] at hSw;obtain⟨⟨q0,q1,q2⟩,-⟩:=hSw;go_simp;(try with_reducible rfl)
  (try simp only[N0]);refine tY (v:=?_) 10 69 ?_ ?_;rotate_left
  ·intro w hSw;rw[hSd] at hSw;obtain⟨⟨q0,q1,q2⟩,-⟩:=hSw;go_simp;(try with_reducible rfl)
  (try simp only[N0]);refine tY (v:=?_) 11 70 ?_ ?_;rotate_left
  ·intro w hSw;rw[hSd] at hSw;obtain⟨⟨q0,q1,q2⟩,-⟩:=hSw;go_simp;(try with_reducible rfl)
  (try simp only[N0]);refine tY (v:=?_) 12 71 ?_ ?_;rotate_left
  ·intro w hSw;rw[hSd] at hSw;obtain⟨⟨q0,q1,q2⟩,-⟩:=hSw;go_simp;(try with_reducible rfl)
  (try simp only[N0]);refine tY (v:=?_) 13 72 ?_ ?_;rotate_left
  ·intro w hSw;rw[hSd] at hSw;obtain⟨⟨q0,q1,q2⟩,-⟩:=hSw;go_simp;(try with_reducible rfl)
  (try simp only[N0]);refine tY (v:=?_) 14 73 ?_ ?_;rotate_left
  ·intro w hSw;rw[hSd] at hSw;obtain⟨⟨q0,q1,q2⟩,-⟩:=hSw;go_simp;(try with_reducible rfl)
  (try simp only[N0]);refine tY (v:=?_) 15 74 ?_ ?_;rotate_left
  ·intro w hSw;rw[hSd] at hSw;obtain⟨⟨q0,q1,q2⟩,-⟩:=hSw;go_simp;(try with_reducible rfl)
  (try simp only[N0]);refine tY (v:=?_) 16 75 ?_ ?_;rotate_left
  ·intro w hSw;rw[hSd] at hSw;obtain⟨⟨q0,q1,q2⟩,-⟩:=hSw;go_simp;(try with_reducible rfl)
  (try simp only[N0]);refine wpAnyH_ready (rs:=[1,18]) (by kernel_rfl) (by simp) ?_;refine AllReadyH.cons (o:=_) rfl (fun Kq hK=>?_) ?_
  ·go_simp;refine(HMo.out hvh.out yd HT).mono ?_;rintro e c1yd ⟨rfl,hb⟩;have hKc1yd:=Lib.hid (hKyd.out.call hSyd hb);have HT:=HT.below hb;have hSc1yd:=Nat.le_trans hSyd hb.size;clear hb;(try go_simp);refine hK.out _ _ ?_ (fun hHeld=>?_)
   ·exact HS.out _ hKc1yd
   clear hK Kq;(try simp only[N0]);refine tY (v:=?_) 17 76 ?_ ?_;rotate_left
   ·intro w hSw;rw[hSd] at hSw;obtain⟨⟨q0,q1,q2⟩,-⟩:=hSw;go_simp;(try with_reducible rfl)
   (try simp only[N0]);refine wpAnyH_ready (rs:=[18]) (by kernel_rfl) (by simp) ?_;refine AllReadyH.cons (o:=_) rfl (fun Kq hK=>?_) AllReadyH.nil;go_simp;obtain⟨xb,hxb_⟩:∃q,q=c1yd.heap.size:=⟨_,rfl⟩;have hOx:=heap_alloc_new c1yd (.cells #[.int .i64 0,.int .i64 0,.int .i64 0,.int .i64 0,.int .i64 0] 81);have hxb:=hSc1yd;rw[←hxb_] at hOx hxb;have hb:=(Below.refl c1yd.heap.size c1yd).alloc (Nat.le_refl _) (.cells #[.int .i64 0,.int .i64 0,.int .i64 0,.int .i64 0,.int .i64 0] 81);have HT:=HT.below hb;have hKzac1yd:=Lib.hid (hKc1yd.out.alloc hSc1yd (.cells #[.int .i64 0,.int .i64 0,.int .i64 0,.int .i64 0,.int .i64 0] 81));have hSzac1yd:=Nat.le_trans hSc1yd hb.size;have hxz:xb<(c1yd.alloc (.cells #[.int .i64 0,.int .i64 0,.int .i64 0,.int .i64 0,.int .i64 0] 81)).heap.size:=(Array.getElem?_eq_some_iff.1 hOx).1;clear hb;generalize (c1yd.alloc (.cells #[.int .i64 0,.int .i64 0,.int .i64 0,.int .i64 0,.int .i64 0] 81))=zac1yd at *;refine hK.out _ _ ?_ (fun hHeld=>?_)
   ·exact HS.out _ hKzac1yd
   clear hK Kq;(try simp only[N0]);(try rw[←hxb_]);clear hxb_;refine wpAnyH_ready (rs:=[19]) (by kernel_rfl) (by simp) ?_;refine AllReadyH.cons (o:=_) rfl (fun Kq hK=>?_) AllReadyH.nil;obtain⟨e0,e1,e2,e3,e4,g0,g1,g2,g3,g4⟩:=facts5' hOx;go_simp;clear e0 e1 e2 e3 e4 g0 g1 g2 g3 g4;have hOx:=set5' zac1yd xb _ (.int .i64 (moreS ws)) (.int .i64 I) (.int .i64 K) (.int .i64 0) (.int .i64 0) _ _ _ _ _ hOx;have hKzszac1yd:=Lib.hid (((((hKzac1yd.out.set (p:=⟨xb,0,none⟩) (Or.inr hxb) (.int .i64 (moreS ws))).set (p:=⟨xb,1,none⟩) (Or.inr hxb) (.int .i64 I)).set (p:=⟨xb,2,none⟩) (Or.inr hxb) (.int .i64 K)).set (p:=⟨xb,3,none⟩) (Or.inr hxb) (.int .i64 0)).set (p:=⟨xb,4,none⟩) (Or.inr hxb) (.int .i64 0));obtain⟨zszac1yd,hz_⟩:∃z,z=(((((zac1yd.setCell ⟨xb,0,none⟩ (.int .i64 (moreS ws))).setCell ⟨xb,1,none⟩ (.int .i64 I)).setCell ⟨xb,2,none⟩ (.int .i64 K)).setCell ⟨xb,3,none⟩ (.int .i64 0)).setCell ⟨xb,4,none⟩ (.int .i64 0)):=⟨_,rfl⟩;rw[←hz_];rw[←hz_] at hOx hKzszac1yd;have hSzszac1yd:=Nat.le_trans hSzac1yd (show zac1yd.heap.size≤zszac1yd.heap.size by rw[hz_];simp);have hxz:xb<zszac1yd.heap.size:=(Array.getElem?_eq_some_iff.1 hOx).1;clear hz_;refine hK.out _ _ ?_ (fun hHeld=>?_)
   ·exact HS.out _ hKzszac1yd
   clear hK Kq;(try simp only[N0]);refine wpAnyH_done (by kernel_rfl) ?_ _;clear HS hSd;generalize zszac1yd=z4 at *;go_wp2;go_meet;exact⟨_,rfl,xb,rfl,hOx,hxb,hKzszac1yd.out.below (B':=z3.heap.size) (Nat.le_refl _) (by simp)⟩
  refine AllReadyH.cons (o:=_) rfl (fun Kq hK=>?_) AllReadyH.nil;go_simp;obtain⟨xb,hxb_⟩:∃q,q=yd.heap.size:=⟨_,rfl⟩;have hOx:=heap_alloc_new yd (.cells #[.int .i64 0,.int .i64 0,.int .i64 0,.int .i64 0,.int .i64 0] 81);have hxb:=hSyd;rw[←hxb_] at hOx hxb;have hb:=(Below.refl yd.heap.size yd).alloc (Nat.le_refl _) (.cells #[.int .i64 0,.int .i64 0,.int .i64 0,.int .i64 0,.int .i64 0] 81);have HT:=HT.below hb;have hKzayd:=Lib.hid (hKyd.out.alloc hSyd (.cells #[.int .i64 0,.int .i64 0,.int .i64 0,.int .i64 0,.int .i64 0] 81));have hSzayd:=Nat.le_trans hSyd hb.size;have hxz:xb<(yd.alloc (.cells #[.int .i64 0,.int .i64 0,.int .i64 0,.int .i64 0,.int .i64 0] 81)).heap.size:=(Array.getElem?_eq_some_iff.1 hOx).1;clear hb;generalize (yd.alloc (.cells #[.int .i64 0,.int .i64 0,.int .i64 0,.int .i64 0,.int .i64 0] 81))=zayd at *;refine hK.out _ _ ?_ (fun hHeld=>?_)
  ·exact HS.out _ hKzayd
  clear hK Kq;(try simp only[N0]);(try rw[←hxb_]);clear hxb_;refine wpAnyH_ready (rs:=[1]) (by kernel_rfl) (by simp) ?_;refine AllReadyH.cons (o:=_) rfl (fun Kq hK=>?_) AllReadyH.nil;go_simp;refine(HMo.out hvh.out zayd HT).mono ?_;rintro e c1zayd ⟨rfl,hb⟩;have hKc1zayd:=Lib.hid (hKzayd.out.call hSzayd hb);have hOx:=keepO hb hOx;have hxz:=Nat.lt_of_lt_of_le hxz hb.size;have HT:=HT.below hb;have hSc1zayd:=Nat.le_trans hSzayd hb.size;clear hb;(try go_simp);refine hK.out _ _ ?_ (fun hHeld=>?_)
  ·exact HS.out _ hKc1zayd
  clear hK Kq;(try simp only[N0]);refine tY (v:=?_) 17 76 ?_ ?_;rotate_left
  ·intro w hSw;rw[hSd] at hSw;obtain⟨⟨q0,q1,q2⟩,-⟩:=hSw;go_simp;(try with_reducible rfl)
  (try simp only[N0]);refine wpAnyH_ready (rs:=[19]) (by kernel_rfl) (by simp) ?_;refine AllReadyH.cons (o:=_) rfl (fun Kq hK=>?_) AllReadyH.nil;obtain⟨e0,e1,e2,e3,e4,g0,g1,g2,g3,g4⟩:=facts5' hOx;go_simp;clear e0 e1 e2 e3 e4 g0 g1 g2 g3 g4;have hOx:=set5' c1zayd xb _ (.int .i64 (moreS ws)) (.int .i64 I) (.int .i64 K) (.int .i64 0) (.int .i64 0) _ _ _ _ _ hOx;have hKzsc1zayd:=Lib.hid (((((hKc1zayd.out.set (p:=⟨xb,0,none⟩) (Or.inr hxb) (.int .i64 (moreS ws))).set (p:=⟨xb,1,none⟩) (Or.inr hxb) (.int .i64 I)).set (p:=⟨xb,2,none⟩) (Or.inr hxb) (.int .i64 K)).set (p:=⟨xb,3,none⟩) (Or.inr hxb) (.int .i64 0)).set (p:=⟨xb,4,none⟩) (Or.inr hxb) (.int .i64 0));obtain⟨zsc1zayd,hz_⟩:∃z,z=(((((c1zayd.setCell ⟨xb,0,none⟩ (.int .i64 (moreS ws))).setCell ⟨xb,1,none⟩ (.int .i64 I)).setCell ⟨xb,2,none⟩ (.int .i64 K)).setCell ⟨xb,3,none⟩ (.int .i64 0)).setCell ⟨xb,4,none⟩ (.int .i64 0)):=⟨_,rfl⟩;rw[←hz_];rw[←hz_] at hOx hKzsc1zayd;have hSzsc1zayd:=Nat.le_trans hSc1zayd (show c1zayd.heap.size≤zsc1zayd.heap.size by rw[hz_];simp);have hxz:xb<zsc1zayd.heap.size:=(Array.getElem?_eq_some_iff.1 hOx).1;clear hz_;refine hK.out _ _ ?_ (fun hHeld=>?_)
  ·exact HS.out _ hKzsc1zayd
  clear hK Kq;(try simp only[N0]);refine wpAnyH_done (by kernel_rfl) ?_ _;clear HS hSd;generalize zsc1zayd=z4 at *;go_wp2;go_meet;exact⟨_,rfl,xb,rfl,hOx,hxb,hKzsc1zayd.out.below (B':=z3.heap.size) (Nat.le_refl _) (by simp)⟩
 case rest=>
 obtain⟨z4,rfl,xb,rfl,hOx,hxb,hBz⟩:=‹∃wl,wl=_∧_›;obtain⟨lo,hlo⟩:∃x:Int,(lw:Int)%1000001=x:=⟨_,rfl⟩;obtain⟨wi,hwi⟩:∃x:Int,(wd:Int)%1000001=x:=⟨_,rfl⟩;have hlo0:0≤lo:=by omega
 have hlo1:lo≤1000000:=by omega
 have hwi0:0≤wi:=by omega
 have hwi1:wi≤1000000:=by omega
 obtain⟨hi',hhi⟩:∃x:Int,(if lo+wi<1000000 then lo+wi else 1000000)=x:=⟨_,rfl⟩;have hhi0:lo≤hi':=by rw[←hhi];split<;>omega
 have hhi1:hi'≤1000000:=by rw[←hhi];split<;>omega
 have hwl:IntKind.i64.wrap (lw:Int)=(lw:Int):=IntWalk.i64_in _ (by omega);have hww:IntKind.i64.wrap (wd:Int)=(wd:Int):=IntWalk.i64_in _ (by omega);have hsm:IntKind.i64.wrap (lo+wi)=lo+wi:=IntWalk.i64_in _ (by omega);obtain⟨z5,hz5_⟩:∃z,z=(z4.setCell ⟨xb,3,none⟩ (.int .i64 lo)).setCell ⟨xb,4,none⟩ (.int .i64 hi'):=⟨_,rfl⟩;have hO5:z5.heap[xb]? = some (.cells #[.int .i64 (moreS ws),.int .i64 I,.int .i64 K,.int .i64 lo,.int .i64 hi'] 81 (0,0)):=by rw[hz5_];simp[World.setCell,Array.getElem?_modify,hOx]
 have hb5:Below z3.heap.size z3 z5:=by rw[hz5_];exact(hBz.setCell (p:=⟨xb,3,none⟩) hxb _).setCell (p:=⟨xb,4,none⟩) hxb _
 have HX:=Lib.hid (HX3.out.below hb5);have hO4:(z4.setCell ⟨xb,3,none⟩ (.int .i64 lo)).heap[xb]? = some (.cells #[.int .i64 (moreS ws),.int .i64 I,.int .i64 K,.int .i64 lo,.int .i64 0] 81 (0,0)):=by simp[World.setCell,Array.getElem?_modify,hOx]
 obtain⟨e0,e1,e2,e3,e4,f0,f1,f2,f3,f4⟩:=facts5' hOx;obtain⟨u0,u1,u2,u3,u4,v0,v1,v2,v3,v4⟩:=facts5' hO4;obtain⟨x0,x1,x2,x3,x4,-⟩:=facts5' hO5;obtain⟨p0,p1⟩:=HX.out.cells;rw[hz5_] at x0 x1 x2 x3 x4 p0 p1;have hz5:=Lib.hid hz5_;obtain⟨hs1,hs2⟩:=read_law hvh.out hm0 hidx hK hlo0 hhi1 hhi0;obtain⟨ws',hws_⟩:∃x,x=ws ++ [(moreN ws,I,K,lo,hi')]:=⟨_,rfl⟩;rw[←hws_] at hs1 hs2;have hstr:=Lib.hid hs1;have hRd:=Lib.hid hs2;have hws':=Lib.hid hws_;have hVh:=Lib.hid hVF;clear hz5_ hO5 hb5 HX3 hO4 hOx hBz hs1 hs2 hws_ hVF hmz hm0 hidx hK hI HMo hrem hwr hwr2 hnz hKe hKe2 hi0 hi1;go_wp2_with fail
 rw[←hz5.out];clear e0 e1 e2 e3 e4 f0 f1 f2 f3 f4 u0 u1 u2 u3 u4 v0 v1 v2 v3 v4 x0 x1 x2 x3 x4 p0 p1 hz5 hlo hwi hhi hwl hww hsm;have hQ:=weigh_any (some ⟨bp,op,none⟩) A' n c n' c' ps ws (moreS ws,I,K,lo,hi') z5 hnm hnm' HX.out.rp HX.out.rw_ HX.out.laid;rw[hstr.out] at hQ;refine hQ.mono ?_;rintro e z6 ⟨⟨A1,n1,c1,A2,n2,c2,rfl,ho1,ho2⟩,hb⟩;replace HX:=Lib.hid (HX.out.below hb);have HR1:=Lib.hid (Reads.of_own ho1);have HR2:=Lib.hid (Reads.of_own ho2);obtain rfl:n=n1:=by have h:ps.length=n1:=HR1.out.pg_len;have h2:ps.length=n:=HX.out.rp.pg_len;omega
 have hn2_:n2=n'+1:=by have h:ws'.length=n2:=HR2.out.wg_len;have h2:ws.length=n':=HX.out.rw_.wg_len;rw[hws'.out] at h;simp at h;omega
 have hn2:=Lib.hid hn2_;clear hb ho1 ho2 hQ hstr hn2_;obtain⟨y1,hy1_⟩:∃y,y=z6.alloc (.cells #[.slice A1 n c1,.slice A2 n2 c2] 25):=⟨_,rfl⟩;have hb:Below z6.heap.size z6 y1:=by rw[hy1_];exact(Below.refl _ _).alloc (Nat.le_refl _) _
 replace HX:=Lib.hid (HX.out.below hb);replace HR1:=Lib.hid ((HR1.out.below hb).more hb.size);replace HR2:=Lib.hid ((HR2.out.below hb).more hb.size);have HY_:y1.heap[z6.heap.size]? = some (.cells #[.slice A1 n c1,.slice A2 n2 c2] 25 (0,0)):=by rw[hy1_];exact heap_alloc_new _ _
 obtain⟨b1,hb1_⟩:∃q,q=z6.heap.size:=⟨_,rfl⟩;rw[←hb1_] at HY_;have HY:=Lib.hid HY_;have hy1:=Lib.hid hy1_;have hb1:=Lib.hid hb1_;clear hb hy1_ hb1_ HY_;obtain⟨p0,p1⟩:=HX.out.cells;obtain⟨q0,q1,-,-⟩:=two_facts HY.out;rw[hy1.out] at p0 p1 q0 q1;go_wp2_with fail
 clear p0 p1 q0 q1;rw[←hy1.out,←hb1.out];clear hy1 hb1;have hQ:=ready_any A1 A2 n c1 n2 c2 ps ws' y1 hnm (by have:=hn2.out;unfold maxLen;omega) HR1.out HR2.out;rw[show (!(decide (20<n) || decide (50<n2)) && validP ps ws')=true by have:=hn2.out;rw[hRd.out.val];simp;omega] at hQ;refine hQ.mono ?_;rintro e z7 ⟨rfl,hb⟩;replace HX:=Lib.hid (HX.out.below hb);replace HR1:=Lib.hid ((HR1.out.below hb).more hb.size);replace HR2:=Lib.hid ((HR2.out.below hb).more hb.size);replace HY:=Lib.hid (keepO hb HY.out);clear hb hQ;have hn2e:((n2:Int) != (n':Int)+1)=false:=by rw[hn2.out];simp
 have hn2i:(n':Int)≤30:=by omega
 obtain⟨p0,p1⟩:=HX.out.cells;obtain⟨q0,q1,-,-⟩:=two_facts HY.out;go_wp2_with fail
 clear p0 p1 q0 q1;obtain⟨g0,hg0_⟩:∃g,g=gonE ps ws:=⟨_,rfl⟩;obtain⟨g1,hg1_⟩:∃g,g=gonE ps ws':=⟨_,rfl⟩;obtain⟨s0,hs0_⟩:∃g,g=gonS ps ws:=⟨_,rfl⟩;obtain⟨s1,hs1_⟩:∃g,g=gonS ps ws':=⟨_,rfl⟩;have hg0:g0=0∨g0=8:=by rw[hg0_];unfold gonE;rw[if_pos hvh.out];split<;>simp
 have hg1:g1=0∨g1=8:=by rw[hg1_];unfold gonE;rw[if_pos hRd.out.val];split<;>simp
 have hgg:g0≠0→g1≠0:=by rw[hg0_,hg1_];exact hRd.out.gon
 have hss:g1=0→s0≤s1:=by rw[hg1_,hs0_,hs1_];exact hRd.out.goS
 have hQ:=pGone_any (some ⟨bp,op,none⟩) A' n c n' c' ps ws z7 hnm HX.out.rp HX.out.rw_ HX.out.laid;rw[←hg0_,←hs0_] at hQ;have hQ2:=Lib.hid (fun z (X:PX w (some ⟨bp,op,none⟩) A' n c n' c' ps ws z) (r1:Reads z z.heap.size 4 A1 n (pgs ps)) (r2:Reads z z.heap.size 5 A2 n2 (wgs ws'))=>pGone_any A1 A2 n c1 n2 c2 ps ws' z hnm r1 r2 X.laid);rw[←hg1_,←hs1_] at hQ2;have hg0h:=Lib.hid hg0;have hg1h:=Lib.hid hg1;have hggh:=Lib.hid hgg;have hssh:=Lib.hid hss;clear hg0_ hg1_ hs0_ hs1_ hg0 hg1 hgg hss hn2e hn2;refine hQ.mono ?_;rintro e z8 ⟨⟨Ag,mg,cg,rfl,-,-⟩,hb⟩;replace HX:=Lib.hid (HX.out.below hb);replace HR1:=Lib.hid ((HR1.out.below hb).more hb.size);replace HR2:=Lib.hid ((HR2.out.below hb).more hb.size);replace HY:=Lib.hid (keepO hb HY.out);clear hb hQ;obtain⟨p0,p1⟩:=HX.out.cells;obtain⟨q0,q1,-,-⟩:=two_facts HY.out;go_wp2_with fail
 clear p0 p1 q0 q1;refine(hQ2.out z8 HX.out HR1.out HR2.out).mono ?_;rintro e z9 ⟨⟨Ah,mh,ch,rfl,-,-⟩,hb⟩;replace HX:=Lib.hid (HX.out.below hb);replace HR1:=Lib.hid ((HR1.out.below hb).more hb.size);replace HR2:=Lib.hid ((HR2.out.below hb).more hb.size);replace HY:=Lib.hid (keepO hb HY.out);clear hb hQ2
 go_upto_region 12 with (fail)
 go_cut [145] from 127 to 145 (fun s145 wx=>∃wl,wl=wx∧wl=z9∧s145 = .bool false)
 case first=>
  rcases hg0h.out with h0|h0<;>rcases hg1h.out with h1|h1
  ·have hle:=hssh.out h1;have hlt:decide (s1<s0)=false:=(by simp;omega);subst h0 h1;go_wp2;go_meet;exact⟨_,rfl,rfl,rfl⟩
  ·subst h0 h1;go_wp2;go_meet;exact⟨_,rfl,rfl,rfl⟩
  ·exact absurd h1 (hggh.out (by rw[h0];decide))
  ·subst h0 h1;go_wp2;go_meet;exact⟨_,rfl,rfl,rfl⟩
 case rest=>
 obtain⟨z9',rfl,hz9e,rfl⟩:=‹∃wl,wl=_∧_›;obtain rfl:=hz9e;clear hg0h hg1h hggh hssh;obtain⟨bp2,op2,I2,D2,P2,T2,hAe2,hbp2,hx2,y0,-,-,-⟩:=HX.out.rp.pg hkn;simp only[Option.some.injEq,Addr.mk.injEq,and_true] at hAe2;obtain⟨rfl,rfl⟩:=hAe2;have hI2:Hid (idQ ps k=I2):=by show _=_;unfold idQ;rw[hx2]
 have hidx2:Hid (0≤idxP ps I2):=by show _≤_;rw[←hI2.out,idx_idQ hVh.out (by have h:ps.length=n:=HX.out.rp.pg_len;omega)];omega
 have hKq:∃x:Int,x=1+(od:Int)%5∧1≤x∧x≤5:=⟨_,rfl,by omega,by omega⟩;obtain⟨Kq,hKq,hKq1,hKq5⟩:=hKq;have hrm:=hrem2.out;have hk0:(0:Int)≤(k:Int):=by omega
 have hk1:(k:Int)<(n:Int):=by omega
 have hnz:((n:Int)==0)=false:=by simp;omega
 clear hx2 hrem2;obtain⟨p0,p1⟩:=HX.out.cells;go_wp2_with fail
 go_quiet (fail)
 rename_i nq;clear p0 p1 y0 hrm hnz hk0 hk1;have hb:=below_drewN (Below.refl z9'.heap.size z9') nq;replace HX:=Lib.hid (HX.out.below hb);replace HR1:=Lib.hid ((HR1.out.below hb).more hb.size);replace HR2:=Lib.hid ((HR2.out.below hb).more hb.size);replace HY:=Lib.hid (keepO hb HY.out);clear hb;generalize z9'.drewN nq=z10 at *;rw[←hKq];clear hKq;obtain⟨p0,p1⟩:=HX.out.cells;obtain⟨q0,q1,-,-⟩:=two_facts HY.out;go_wp2_with fail
 clear p0 p1 q0 q1;obtain⟨sa,hsa_⟩:∃q,q=spanE ps ws I2 Kq:=⟨_,rfl⟩;obtain⟨ea,hea_⟩:∃q,q=askE ps ws I2 Kq:=⟨_,rfl⟩;have hsa:=Lib.hid hsa_;have hea:=Lib.hid hea_;have hQ:=pSpan_any (some ⟨bp,op,none⟩) A' n c n' c' ps ws I2 Kq z10 hnm HX.out.rp HX.out.rw_ HX.out.laid;rw[←hsa_,←hea_] at hQ;clear hsa_ hea_;refine hQ.mono ?_;rintro e z11 ⟨rfl,hb⟩;replace HX:=Lib.hid (HX.out.below hb);replace HR1:=Lib.hid ((HR1.out.below hb).more hb.size);replace HR2:=Lib.hid ((HR2.out.below hb).more hb.size);replace HY:=Lib.hid (keepO hb HY.out);clear hb hQ;obtain⟨y2,hy2_⟩:∃y,y=z11.alloc (.cells #[.int .i64 sa.1,.int .i64 sa.2] 36):=⟨_,rfl⟩;have hb:Below z11.heap.size z11 y2:=by rw[hy2_];exact(Below.refl _ _).alloc (Nat.le_refl _) _
 replace HX:=Lib.hid (HX.out.below hb);replace HR1:=Lib.hid ((HR1.out.below hb).more hb.size);replace HR2:=Lib.hid ((HR2.out.below hb).more hb.size);replace HY:=Lib.hid (keepO hb HY.out);have Ba_:y2.heap[z11.heap.size]? = some (.cells #[.int .i64 sa.1,.int .i64 sa.2] 36 (0,0)):=by rw[hy2_];exact heap_alloc_new _ _
 obtain⟨b2,hb2_⟩:∃q,q=z11.heap.size:=⟨_,rfl⟩;rw[←hb2_] at Ba_;have Ba:=Lib.hid Ba_;have hy2:=Lib.hid hy2_;have hb2:=Lib.hid hb2_;clear hb hy2_ hb2_ Ba_;obtain⟨p0,p1⟩:=HX.out.cells;obtain⟨q0,q1,-,-⟩:=two_facts HY.out;rw[hy2.out] at p0 p1 q0 q1;go_wp2_with fail
 clear p0 p1 q0 q1;rw[←hy2.out,←hb2.out];clear hy2 hb2;obtain⟨sb,hsb_⟩:∃q,q=spanE ps ws' I2 Kq:=⟨_,rfl⟩;obtain⟨eb,heb_⟩:∃q,q=askE ps ws' I2 Kq:=⟨_,rfl⟩;have hsb:=Lib.hid hsb_;have heb:=Lib.hid heb_;have hQ:=pSpan_any A1 A2 n c1 n2 c2 ps ws' I2 Kq y2 hnm HR1.out HR2.out HX.out.laid;rw[←hsb_,←heb_] at hQ;clear hsb_ heb_;refine hQ.mono ?_;rintro e z12 ⟨rfl,hb⟩;replace HX:=Lib.hid (HX.out.below hb);replace HR1:=Lib.hid ((HR1.out.below hb).more hb.size);replace HR2:=Lib.hid ((HR2.out.below hb).more hb.size);replace HY:=Lib.hid (keepO hb HY.out);replace Ba:=Lib.hid (keepO hb Ba.out);clear hb hQ;obtain⟨y3,hy3_⟩:∃y,y=z12.alloc (.cells #[.int .i64 sb.1,.int .i64 sb.2] 36):=⟨_,rfl⟩;have hb:Below z12.heap.size z12 y3:=by rw[hy3_];exact(Below.refl _ _).alloc (Nat.le_refl _) _
 replace HX:=Lib.hid (HX.out.below hb);replace HR1:=Lib.hid ((HR1.out.below hb).more hb.size);replace HR2:=Lib.hid ((HR2.out.below hb).more hb.size);replace HY:=Lib.hid (keepO hb HY.out);replace Ba:=Lib.hid (keepO hb Ba.out);have Bb_:y3.heap[z12.heap.size]? = some (.cells #[.int .i64 sb.1,.int .i64 sb.2] 36 (0,0)):=by rw[hy3_];exact heap_alloc_new _ _
 obtain⟨b3,hb3_⟩:∃q,q=z12.heap.size:=⟨_,rfl⟩;rw[←hb3_] at Bb_;have Bb:=Lib.hid Bb_;have hy3:=Lib.hid hy3_;have hb3:=Lib.hid hb3_;clear hb hy3_ hb3_ Bb_;cases ht:hasT ps ws' with
 |false=>
  obtain rfl:eb=8:=(by rw[heb.out,askE_two hRd.out.val hidx2.out ⟨hKq1,by omega⟩,ht];rfl);clear heb hsa hea hsb;go_wp2;go_ret;rw[←hy3.out];exact⟨rfl,HX.out.bel⟩
 |true=>
 obtain rfl:eb=0:=by rw[heb.out,askE_two hRd.out.val hidx2.out ⟨hKq1,by omega⟩,ht];rfl
 obtain⟨k1,k2,k3,k4,k5,k6,k7,k8⟩:=hRd.out.ask I2 Kq hidx2.out hKq1 hKq5 heb.out.symm;rw[←hsa.out,←hsb.out] at k6;obtain rfl:ea=0:=by rw[hea.out,k1]
 have K2:=Lib.hid k2;have K3:=Lib.hid k3;have K4:=Lib.hid k4;have K5:=Lib.hid k5;have K6:=Lib.hid k6;have K7:=Lib.hid k7;have K8:=Lib.hid k8;clear k1 k2 k3 k4 k5 k6 k7 k8 hea heb ht;obtain⟨p0,p1⟩:=HX.out.cells;obtain⟨q0,q1,-,-⟩:=two_facts HY.out;rw[hy3.out] at p0 p1 q0 q1;go_wp2_with fail
 clear p0 p1 q0 q1;rw[←hy3.out,←hb3.out];clear hy3 hb3;obtain⟨ia,hia_⟩:∃q,q=inE ps ws I2:=⟨_,rfl⟩;have hia:=Lib.hid hia_;have hQ:=pIn_any (some ⟨bp,op,none⟩) A' n c n' c' ps ws I2 y3 hnm HX.out.rp HX.out.rw_ HX.out.laid;rw[←hia_,K2.out] at hQ;clear hia_;refine hQ.mono ?_;rintro e z13 ⟨rfl,hb⟩;replace HX:=Lib.hid (HX.out.below hb);replace HR1:=Lib.hid ((HR1.out.below hb).more hb.size);replace HR2:=Lib.hid ((HR2.out.below hb).more hb.size);replace HY:=Lib.hid (keepO hb HY.out);replace Ba:=Lib.hid (keepO hb Ba.out);replace Bb:=Lib.hid (keepO hb Bb.out);clear hb hQ;obtain⟨y4,hy4_⟩:∃y,y=z13.alloc (.cells #[.int .i64 ia.1,.int .i64 ia.2] 36):=⟨_,rfl⟩;have hb:Below z13.heap.size z13 y4:=by rw[hy4_];exact(Below.refl _ _).alloc (Nat.le_refl _) _
 replace HX:=Lib.hid (HX.out.below hb);replace HR1:=Lib.hid ((HR1.out.below hb).more hb.size);replace HR2:=Lib.hid ((HR2.out.below hb).more hb.size);replace HY:=Lib.hid (keepO hb HY.out);replace Ba:=Lib.hid (keepO hb Ba.out);replace Bb:=Lib.hid (keepO hb Bb.out);have Ca_:y4.heap[z13.heap.size]? = some (.cells #[.int .i64 ia.1,.int .i64 ia.2] 36 (0,0)):=by rw[hy4_];exact heap_alloc_new _ _
 obtain⟨b4,hb4_⟩:∃q,q=z13.heap.size:=⟨_,rfl⟩;rw[←hb4_] at Ca_;have Ca:=Lib.hid Ca_;have hy4:=Lib.hid hy4_;have hb4:=Lib.hid hb4_;clear hb hy4_ hb4_ Ca_;obtain⟨p0,p1⟩:=HX.out.cells;obtain⟨q0,q1,-,-⟩:=two_facts HY.out;rw[hy4.out] at p0 p1 q0 q1;go_wp2_with fail
 clear p0 p1 q0 q1;rw[←hy4.out,←hb4.out];clear hy4 hb4;obtain⟨ib,hib_⟩:∃q,q=inE ps ws' I2:=⟨_,rfl⟩;have hib:=Lib.hid hib_;have hQ:=pIn_any A1 A2 n c1 n2 c2 ps ws' I2 y4 hnm HR1.out HR2.out HX.out.laid;rw[←hib_,K3.out] at hQ;clear hib_;refine hQ.mono ?_;rintro e z14 ⟨rfl,hb⟩;replace HX:=Lib.hid (HX.out.below hb);replace HR1:=Lib.hid ((HR1.out.below hb).more hb.size);replace HR2:=Lib.hid ((HR2.out.below hb).more hb.size);replace HY:=Lib.hid (keepO hb HY.out);replace Ba:=Lib.hid (keepO hb Ba.out);replace Bb:=Lib.hid (keepO hb Bb.out);replace Ca:=Lib.hid (keepO hb Ca.out);clear hb hQ;obtain⟨y5,hy5_⟩:∃y,y=z14.alloc (.cells #[.int .i64 ib.1,.int .i64 ib.2] 36):=⟨_,rfl⟩;have hb:Below z14.heap.size z14 y5:=by rw[hy5_];exact(Below.refl _ _).alloc (Nat.le_refl _) _
 replace HX:=Lib.hid (HX.out.below hb);replace HR1:=Lib.hid ((HR1.out.below hb).more hb.size);replace HR2:=Lib.hid ((HR2.out.below hb).more hb.size);replace HY:=Lib.hid (keepO hb HY.out);replace Ba:=Lib.hid (keepO hb Ba.out);replace Bb:=Lib.hid (keepO hb Bb.out);replace Ca:=Lib.hid (keepO hb Ca.out);have Cb_:y5.heap[z14.heap.size]? = some (.cells #[.int .i64 ib.1,.int .i64 ib.2] 36 (0,0)):=by rw[hy5_];exact heap_alloc_new _ _
 obtain⟨b5,hb5_⟩:∃q,q=z14.heap.size:=⟨_,rfl⟩;rw[←hb5_] at Cb_;have Cb:=Lib.hid Cb_;have hy5:=Lib.hid hy5_;have hb5:=Lib.hid hb5_;clear hb hy5_ hb5_ Cb_;obtain⟨p0,p1⟩:=HX.out.cells;obtain⟨q0,q1,-,-⟩:=two_facts HY.out;rw[hy5.out] at p0 p1 q0 q1;go_wp2_with fail
 clear p0 p1 q0 q1;rw[←hy5.out,←hb5.out];clear hy5 hb5;obtain⟨la,hla_⟩:∃q,q=allS ps ws Kq:=⟨_,rfl⟩;have hla:=Lib.hid hla_;have hQ:=pAll_any (some ⟨bp,op,none⟩) A' n c n' c' ps ws Kq y5 hnm HX.out.rp HX.out.rw_ HX.out.laid;rw[←hla_,K4.out] at hQ;clear hla_;refine hQ.mono ?_;rintro e z15 ⟨rfl,hb⟩;replace HX:=Lib.hid (HX.out.below hb);replace HR1:=Lib.hid ((HR1.out.below hb).more hb.size);replace HR2:=Lib.hid ((HR2.out.below hb).more hb.size);replace HY:=Lib.hid (keepO hb HY.out);replace Ba:=Lib.hid (keepO hb Ba.out);replace Bb:=Lib.hid (keepO hb Bb.out);replace Ca:=Lib.hid (keepO hb Ca.out);replace Cb:=Lib.hid (keepO hb Cb.out);clear hb hQ;obtain⟨y6,hy6_⟩:∃y,y=z15.alloc (.cells #[.int .i64 la.1,.int .i64 la.2] 36):=⟨_,rfl⟩;have hb:Below z15.heap.size z15 y6:=by rw[hy6_];exact(Below.refl _ _).alloc (Nat.le_refl _) _
 replace HX:=Lib.hid (HX.out.below hb);replace HR1:=Lib.hid ((HR1.out.below hb).more hb.size);replace HR2:=Lib.hid ((HR2.out.below hb).more hb.size);replace HY:=Lib.hid (keepO hb HY.out);replace Ba:=Lib.hid (keepO hb Ba.out);replace Bb:=Lib.hid (keepO hb Bb.out);replace Ca:=Lib.hid (keepO hb Ca.out);replace Cb:=Lib.hid (keepO hb Cb.out);have Da_:y6.heap[z15.heap.size]? = some (.cells #[.int .i64 la.1,.int .i64 la.2] 36 (0,0)):=by rw[hy6_];exact heap_alloc_new _ _
 obtain⟨b6,hb6_⟩:∃q,q=z15.heap.size:=⟨_,rfl⟩;rw[←hb6_] at Da_;have Da:=Lib.hid Da_;have hy6:=Lib.hid hy6_;have hb6:=Lib.hid hb6_;clear hb hy6_ hb6_ Da_;obtain⟨p0,p1⟩:=HX.out.cells;obtain⟨q0,q1,-,-⟩:=two_facts HY.out;rw[hy6.out] at p0 p1 q0 q1;go_wp2_with fail
 clear p0 p1 q0 q1;rw[←hy6.out,←hb6.out];clear hy6 hb6;obtain⟨lb,hlb_⟩:∃q,q=allS ps ws' Kq:=⟨_,rfl⟩;have hlb:=Lib.hid hlb_;have hQ:=pAll_any A1 A2 n c1 n2 c2 ps ws' Kq y6 hnm HR1.out HR2.out HX.out.laid;rw[←hlb_,K5.out] at hQ;clear hlb_;refine hQ.mono ?_;rintro e z16 ⟨rfl,hb⟩;replace HX:=Lib.hid (HX.out.below hb);replace HR1:=Lib.hid ((HR1.out.below hb).more hb.size);replace HR2:=Lib.hid ((HR2.out.below hb).more hb.size);replace HY:=Lib.hid (keepO hb HY.out);replace Ba:=Lib.hid (keepO hb Ba.out);replace Bb:=Lib.hid (keepO hb Bb.out);replace Ca:=Lib.hid (keepO hb Ca.out);replace Cb:=Lib.hid (keepO hb Cb.out);replace Da:=Lib.hid (keepO hb Da.out);clear hb hQ;obtain⟨y7,hy7_⟩:∃y,y=z16.alloc (.cells #[.int .i64 lb.1,.int .i64 lb.2] 36):=⟨_,rfl⟩;have hb:Below z16.heap.size z16 y7:=by rw[hy7_];exact(Below.refl _ _).alloc (Nat.le_refl _) _
 replace HX:=Lib.hid (HX.out.below hb);replace HR1:=Lib.hid ((HR1.out.below hb).more hb.size);replace HR2:=Lib.hid ((HR2.out.below hb).more hb.size);replace HY:=Lib.hid (keepO hb HY.out);replace Ba:=Lib.hid (keepO hb Ba.out);replace Bb:=Lib.hid (keepO hb Bb.out);replace Ca:=Lib.hid (keepO hb Ca.out);replace Cb:=Lib.hid (keepO hb Cb.out);replace Da:=Lib.hid (keepO hb Da.out);have Db_:y7.heap[z16.heap.size]? = some (.cells #[.int .i64 lb.1,.int .i64 lb.2] 36 (0,0)):=by rw[hy7_];exact heap_alloc_new _ _
 obtain⟨b7,hb7_⟩:∃q,q=z16.heap.size:=⟨_,rfl⟩;rw[←hb7_] at Db_;have Db:=Lib.hid Db_;have hy7:=Lib.hid hy7_;have hb7:=Lib.hid hb7_;clear hb hy7_ hb7_ Db_;obtain⟨a0,a1,-,-⟩:=two_facts Ba.out;obtain⟨b0,b1,-,-⟩:=two_facts Bb.out;obtain⟨c0,c1,-,-⟩:=two_facts Ca.out;obtain⟨v0,v1,-,-⟩:=two_facts Cb.out;obtain⟨r0,r1,-,-⟩:=two_facts Da.out;obtain⟨t0,t1,-,-⟩:=two_facts Db.out;have h7:=K7.out;have h8:=K8.out;rw[←hia.out,←hib.out] at h7;rw[←hla.out,←hlb.out] at h8;obtain⟨m1,m2⟩:=K6.out;obtain⟨m3,m4⟩:=h7;obtain⟨m5,m6⟩:=h8;have d1:decide (sa.1≤sb.1)=true:=by simpa using m1
 have d2:decide (sb.2≤sa.2)=true:=by simpa using m2
 have d3:decide (ia.1≤ib.1)=true:=by simpa using m3
 have d4:decide (ib.2≤ia.2)=true:=by simpa using m4
 have d5:decide (la.1≤lb.1)=true:=by simpa using m5
 have d6:decide (lb.2≤la.2)=true:=by simpa using m6
 rw[hy7.out] at a0 a1 b0 b1 c0 c1 v0 v1 r0 r1 t0 t1;rw[hb7.out] at t0 t1;clear m1 m2 m3 m4 m5 m6;go_wp2;go_ret;rw[←hy7.out];exact⟨rfl,HX.out.bel⟩
end Go.Proofs.YtfplipbkjglmhaaDoor

namespace Go.Proofs.YtfplipbkjglmhaaDoor.pressReading
open Go.ChangeShapes Go.WideShapes Go.ChangeAt Go.RowKit Go.Joins
set_option linter.unusedVariables false
theorem laidOut:laidOutB Tryd.prog=true:=by kernel_rfl
set_option maxRecDepth 100000 in
theorem lifted(os:Os)(started:os.Started)(H:Type)(enc:TypeId×Value→H) :
  ReturnsInHanded {} Tryd.checked os 12 .any (fun w args=>(Rows.pressReadingSpec.pre enc Tryd.prog Tryd.f12 [] false w args∧laidMetH Tryd.prog laidList w)∧sizedMet enc Tryd.prog Tryd.f12 (OpenSpec.ofChange Rows.pressReadingSpec) false w args)
   (Rows.pressReadingSpec.post enc Tryd.prog Tryd.f12 false true false false):=by
 refine returnsInHanded_of_change_and (C:=Tryd.checked) (X:=fun w _=>laidMetH Tryd.prog laidList w) (fun _ _ _ hh h=>h.of_heap hh) own started (by kernel_rfl) Tryd.func12
  (ChangeSpec.witness_shaped (enc:=enc) (C:=Tryd.checked) (os:=os) (X:=fun w _=>laidMetH Tryd.prog laidList w) false (World.doorLaid Tryd.prog 25 os) #[.agg #[.slice none 0 0,.slice none 0 0],.int .u8 0,.int .u8 0,.int .u32 0,.int .u32 0,.int .u8 0,.int .u8 0] 8 rfl (World.shaped_of_RefB (by kernel_rfl) (by kernel_rfl)) (by kernel_rfl) (by kernel_rfl) (by kernel_rfl) (door_met os _)) ?_
 intro W base args ds gs before hval0 hW _ _ hL _;have hval:∀(j:Nat) t v,Tryd.f12.params[j]? = some t→args[j]? = some v→Value.okWide Tryd.prog W .any base t v:=hval0;have hW':=hW;have hblk:∀x∈before,x.block<W.heap.size:=fun x hx=>hW.lt x hx;obtain⟨p,q,hA0,hV,rfl,hfz,hnd⟩:=hW;have hA:DataW.TrodAll enc Tryd.prog W 0 (fun _=>true) true Tryd.f12.params.toList args.toList ds p:=hA0;have hA':=hA;have hP:=Tryd.params12;rw[Tryd.params12] at hA hval hA';obtain⟨v0,vs0,d0,ds0,p0,q0,hargs,rfl,rfl,h0,r0⟩:=trodAll_cons hA;obtain⟨v1,vs1,d1,ds1,p1,q1,rfl,rfl,rfl,h1,r1⟩:=trodAll_cons r0;obtain⟨v2,vs2,d2,ds2,p2,q2,rfl,rfl,rfl,h2,r2⟩:=trodAll_cons r1;obtain⟨v3,vs3,d3,ds3,p3,q3,rfl,rfl,rfl,h3,r3⟩:=trodAll_cons r2;obtain⟨v4,vs4,d4,ds4,p4,q4,rfl,rfl,rfl,h4,r4⟩:=trodAll_cons r3;obtain⟨v5,vs5,d5,ds5,p5,q5,rfl,rfl,rfl,h5,r5⟩:=trodAll_cons r4;obtain⟨v6,vs6,d6,ds6,p6,q6,rfl,rfl,rfl,h6,r6⟩:=trodAll_cons r5;obtain⟨rfl,rfl,rfl⟩:=trodAll_nil r6;obtain rfl:args = #[v0,v1,v2,v3,v4,v5,v6]:=by cases args;simp_all
 obtain⟨rfl,rfl⟩:=trodVars_none hV;simp only[List.append_nil] at hW' hblk;obtain⟨c00,c01,y00,y01,m0,rfl,-,-,g00,g01⟩:=open_agg2 Tryd.underlying25 (by kernel_rfl) (by kernel_rfl) (hval 0 25 v0 rfl rfl) h0;obtain⟨A,n,c,ps,rfl,hnc,hcm0,-,hRp⟩:=open_recs (f:=pgc) (fun _=>rfl) (by omega) Tryd.underlying22 cPg (fun k cs y hl h=>dec_pg k cs y hl h) g00;obtain⟨A',n',c',ws,rfl,hnc',hcm',hnil,hRw⟩:=open_recs (f:=wgc) (fun _=>rfl) (by omega) Tryd.underlying23 cWg (fun k cs y hl h=>dec_wg k cs y hl h) g01;obtain⟨x1_,rfl,rfl,rfl,hw1⟩:=open_int Tryd.underlying5 (hval 1 5 v1 rfl rfl) h1;obtain⟨x1,rfl,hx1⟩:∃m:Nat,x1_=m∧m≤255:=by
  have h:=hw1;simp only[Lit.wf,Bool.and_eq_true,decide_eq_true_eq,show IntKind.u8.min=0 by decide,show IntKind.u8.max=255 by decide] at h;exact⟨x1_.toNat,by omega,by omega⟩
 obtain⟨x2_,rfl,rfl,rfl,hw2⟩:=open_int Tryd.underlying5 (hval 2 5 v2 rfl rfl) h2;obtain⟨x2,rfl,hx2⟩:∃m:Nat,x2_=m∧m≤255:=by
  have h:=hw2;simp only[Lit.wf,Bool.and_eq_true,decide_eq_true_eq,show IntKind.u8.min=0 by decide,show IntKind.u8.max=255 by decide] at h;exact⟨x2_.toNat,by omega,by omega⟩
 obtain⟨x3_,rfl,rfl,rfl,hw3⟩:=open_int Tryd.underlying79 (hval 3 79 v3 rfl rfl) h3;obtain⟨x3,rfl,hx3⟩:∃m:Nat,x3_=m∧m≤4294967295:=by
  have h:=hw3;simp only[Lit.wf,Bool.and_eq_true,decide_eq_true_eq,show IntKind.u32.min=0 by decide,show IntKind.u32.max=4294967295 by decide] at h;exact⟨x3_.toNat,by omega,by omega⟩
 obtain⟨x4_,rfl,rfl,rfl,hw4⟩:=open_int Tryd.underlying79 (hval 4 79 v4 rfl rfl) h4;obtain⟨x4,rfl,hx4⟩:∃m:Nat,x4_=m∧m≤4294967295:=by
  have h:=hw4;simp only[Lit.wf,Bool.and_eq_true,decide_eq_true_eq,show IntKind.u32.min=0 by decide,show IntKind.u32.max=4294967295 by decide] at h;exact⟨x4_.toNat,by omega,by omega⟩
 obtain⟨x5_,rfl,rfl,rfl,hw5⟩:=open_int Tryd.underlying5 (hval 5 5 v5 rfl rfl) h5;obtain⟨x5,rfl,hx5⟩:∃m:Nat,x5_=m∧m≤255:=by
  have h:=hw5;simp only[Lit.wf,Bool.and_eq_true,decide_eq_true_eq,show IntKind.u8.min=0 by decide,show IntKind.u8.max=255 by decide] at h;exact⟨x5_.toNat,by omega,by omega⟩
 obtain⟨x6_,rfl,rfl,rfl,hw6⟩:=open_int Tryd.underlying5 (hval 6 5 v6 rfl rfl) h6;obtain⟨x6,rfl,hx6⟩:∃m:Nat,x6_=m∧m≤255:=by
  have h:=hw6;simp only[Lit.wf,Bool.and_eq_true,decide_eq_true_eq,show IntKind.u8.min=0 by decide,show IntKind.u8.max=255 by decide] at h;exact⟨x6_.toNat,by omega,by omega⟩
 clear hA0 hval0;refine(law_reading A A' n c n' c' ps ws x1 x2 x3 x4 x5 x6 W hx1 hx2 hx3 hx4 hx5 hx6 (by omega) (by omega) hRp hRw (laid_of hL)).mono fun e W' ⟨he,hb⟩=>?_;subst he;refine⟨_,rfl,post_below (ds:=[_,_,_,_,_,_,_]) (gs:=[]) (pa:=p0++([]++([]++([]++([]++([]++([]++([])))))))) (pv:=[]) (by simpa using hW') (fun _ _ _=>(trodAll_cons_mk (shut_bool Tryd.underlying4 _) trodAll_mk0)) (fun sp hsp=>?_) (fun _ _=>rfl) (by simp) hb (ok_one (by kernel_rfl) rfl (okWide_bool_mk Tryd.underlying4 _))⟩;rw[hP];refine trodAll_stays laidOut ?_ hA' (fun x hx=>hb.same (hblk x (by simpa using hx))) (fun x hx=>hsp x (by simpa using hx));intro t ht;have hall:([25,5,5,79,79,5,5].all fun u=>Tryd.prog.readableRec u && decide (u<Tryd.prog.types.size))=true:=by kernel_rfl
 have:=List.all_eq_true.1 hall t (by simpa using ht);simpa using this
theorem over:Rows.PressReadingSaid:=
 OpenClaim.holds_of_wide 12 Tryd.f12 rfl rfl rfl rfl rfl rfl rfl ⟨rfl,rfl,rfl,rfl,rfl⟩ rfl rfl rfl rfl rfl (by kernel_rfl) Tryd.func12 (by kernel_rfl)
  (of_decide_eq_true (by kernel_rfl)) (by unfold Func.isWrapper;first|(rw[if_pos (by decide +kernel)];kernel_rfl)|(rw[if_neg (by decide +kernel)];exact⟨rfl,rfl⟩))
  (fun os started H enc _=>lifted os started H enc)
/-- The tied card. -/
theorem proved:Rows.PressReadingCardSaid:=
 Claim7.holds_tied_plain_at .later [] [.funcs] true (true, "3cbcdd9f0d995b805788fb1a66c61468378cabb8fb1e0a1aebf8d521baf47642") false
  over (fun _ h=>by cases h) (by kernel_rfl) (fun _ h=>by cases h) pressReading_row_tie rfl ⟨rfl,rfl⟩ (by kernel_rfl) rfl
  (fun f fn hf hfn=>by
   obtain rfl:f=12:=Option.some.inj ((show Tryd.prog.funcNamed "oilcake/oilcakelaw02.PressReading" = some 12 by kernel_rfl).symm.trans hf) |>.symm
   obtain rfl:fn=Tryd.f12:=(Option.some.inj (Tryd.func12.symm.trans hfn)).symm;exact⟨by kernel_rfl,fun j t ht=>by
    rw[Tryd.params12] at ht;have hm:t∈[25,5,5,79,79,5,5]:=(by simpa using Array.mem_of_getElem? ht);have hall:([25,5,5,79,79,5,5].all fun u=>!Tryd.prog.wantsStandIn u)=true:=by kernel_rfl
    exact(show Tryd.prog.wantsStandIn t=false by simpa using List.all_eq_true.1 hall t hm)⟩)
  (by kernel_rfl)
#print axioms proved
end Go.Proofs.YtfplipbkjglmhaaDoor.pressReading
