/-
 PressFalse, the tied card: for every press and bits the law returns true, and its arguments read as before. The package's table of checks is laid as the program's text lays it (the given ties).
-/
import Derived.Test.YtfplipbkjglmhaaDoorRsL
import Derived.Test.YtfplipbkjglmhaaDoorRWo
import Derived.Test.YtfplipbkjglmhaaDoorFal
import Derived.Test.YtfplipbkjglmhaaDoorSumB
import Derived.Test.YtfplipbkjglmhaaDoorRdy
import Derived.Test.YtfplipbkjglmhaaDoorAliv
import Derived.Test.YtfplipbkjglmhaaDoorPLaid
import Derived.Test.YtfplipbkjglmhaaDoorCards
import Derived.Test.YtfplipbkjglmhaaDoorTie
import Derived.SevenTiedAt
namespace Go.Proofs.YtfplipbkjglmhaaDoor
open Go.RowKit
set_option linter.unusedVariables false
set_option linter.unusedSimpArgs false
/-- Places in a list of weighings, in order, from one on. -/
def Places (ws:List WE) (f:Nat) (js:List Nat):Prop:=js.Pairwise (· < ·)∧∀j∈js,f≤j∧j<ws.length
def numsW (ws:List WE) (js:List Nat):List Int:=js.map (nmW ws)
theorem Places.tail{ws:List WE}{f j:Nat}{r:List Nat}(h:Places ws f (j::r)):Places ws (j+1) r:=
 ⟨(List.pairwise_cons.1 h.1).2,fun k hk=>⟨(List.pairwise_cons.1 h.1).1 k hk,(h.2 k (List.mem_cons_of_mem _ hk)).2⟩⟩
theorem Places.mono{ws:List WE}{f g:Nat}{js:List Nat}(h:Places ws f js)(hg:g≤f):Places ws g js:=⟨h.1,fun j hj=>⟨Nat.le_trans hg (h.2 j hj).1,(h.2 j hj).2⟩⟩
theorem Places.cons{ws:List WE}{f:Nat}{js:List Nat}(h:Places ws (f+1) js)(hf:f<ws.length):Places ws f (f::js):=by
 refine⟨List.pairwise_cons.2 ⟨fun k hk=>by have:=(h.2 k hk).1;omega,h.1⟩,fun k hk=>?_⟩;rcases List.mem_cons.1 hk with rfl|hk
 ·exact⟨Nat.le_refl _,hf⟩
 ·have:=h.2 k hk;omega
theorem nm_up{ps:List PR}{ws:List WE}(hv:validP ps ws=true){i j:Nat}(h:i<j)(hj:j<ws.length):nmW ws i<nmW ws j:=by
 have ha:allW ps 0 ws=true:=by unfold validP at hv;simp only[Bool.and_eq_true] at hv;exact hv.2
 have hp:=(allW_up ws 0 ha).2;have h2:=List.pairwise_iff_getElem.1 hp i j (by simp;omega) (by simpa using hj) h;simp only[List.getElem_map] at h2;rw[nmW_at (List.getElem?_eq_getElem (by omega)),nmW_at (List.getElem?_eq_getElem hj)];exact h2
theorem strk_some{ps:List PR}{ws:List WE}:∀(m f:Nat) (l r:List Int),strk ps ws m f l=some r→∃js,Places ws f js∧js.length=m∧r=l++numsW ws js∧hasT ps (lessW ws r)=true
 |0,f,l,r,h=>by
  rw[strk_0] at h;split at h
  ·rename_i ht;simp at h;subst h;exact⟨[],⟨List.Pairwise.nil,fun j hj=>by cases hj⟩,rfl,by simp[numsW],ht⟩
  ·cases h
 |m+1,f,l,r,h=>by
  obtain⟨d,hd⟩:∃d,d=ws.length - f:=⟨_,rfl⟩
  induction d generalizing f with
  |zero=>rw[strk_end m l (by omega)] at h;cases h
  |succ d ih=>
   cases hs:strk ps ws m (f+1) (l ++ [nmW ws f]) with
   |some x=>
    rw[strk_hit m l (by omega) hs] at h;cases h;obtain⟨js,hp,hl,e,ht⟩:=strk_some m _ _ _ hs;exact⟨f::js,hp.cons (by omega),by simp[hl],by rw[e];simp[numsW],ht⟩
   |none=>
    rw[strk_miss m l (by omega) hs] at h;obtain⟨js,hp,hl,e,ht⟩:=ih (f+1) h (by omega);exact⟨js,hp.mono (by omega),hl,e,ht⟩
theorem strk_min{ps:List PR}{ws:List WE}(hv:validP ps ws=true):∀(m f:Nat) (l:List Int) (js:List Nat),Places ws f js→js.length=m→hasT ps (lessW ws (l++numsW ws js))=true→
  ∃ks,strk ps ws m f l=some (l++numsW ws ks)∧ks.length=m∧lexB (numsW ws js) (numsW ws ks)=false
 |0,f,l,js,hp,hl,h=>by
  obtain rfl:js = []:=List.length_eq_zero_iff.1 hl;refine⟨[],?_,rfl,rfl⟩;rw[strk_0,if_pos (by simpa [numsW] using h)];simp[numsW]
 |m+1,f,l,js,hp,hl,h=>by
  obtain⟨j,r,rfl⟩:∃j r,js=j::r:=by
   cases js with
   |nil=>simp at hl
   |cons j r=>exact⟨j,r,rfl⟩
  obtain⟨hj1,hj2⟩:=hp.2 j (List.mem_cons_self ..);obtain⟨d,hd⟩:∃d,d=ws.length - f:=⟨_,rfl⟩
  induction d generalizing f with
  |zero=>omega
  |succ d ih=>
   by_cases hjf:j=f
   ·subst hjf;obtain⟨ks,e,hk,hx⟩:=strk_min hv m (j+1) (l ++ [nmW ws j]) r hp.tail (by simpa using hl) (by simpa [numsW] using h);refine⟨j::ks,?_,by simp[hk],?_⟩
    ·rw[strk_hit m l (by omega) e];simp[numsW]
    ·show (if nmW ws j=nmW ws j then _ else _)=false;rw[if_pos rfl];exact hx
   ·cases hs:strk ps ws m (f+1) (l ++ [nmW ws f]) with
    |some x=>
     obtain⟨ks,hpk,hk,e,_⟩:=strk_some m _ _ _ hs;refine⟨f::ks,?_,by simp[hk],?_⟩
     ·rw[strk_hit m l (by omega) hs,e];simp[numsW]
     ·have hlt:=nm_up hv (show f<j by omega) hj2;show (if nmW ws j=nmW ws f then _ else decide (nmW ws j<nmW ws f))=false;rw[if_neg (by omega)];simpa using by omega
    |none=>
     rw[strk_miss m l (by omega) hs];exact ih (f+1) ⟨hp.1,fun k hk=>by
      have h1:=hp.2 k hk;rcases List.mem_cons.1 hk with rfl|hk
      ·omega
      ·have:=(List.pairwise_cons.1 hp.1).1 k hk;omega⟩ (by omega) (by omega)
theorem fal_min{ps:List PR}{ws:List WE}(hv:validP ps ws=true){js:List Nat}(hp:Places ws 0 js)(h:hasT ps (lessW ws (numsW ws js))=true) :
  ∀(d m:Nat),m≤js.length→js.length<m+d→∃r,falF ps ws m d=some r∧shB (numsW ws js) r=false:=by
 intro d
 induction d with
 |zero=>intro m _ _;omega
 |succ d ih=>
  intro m h1 h2;by_cases e:m=js.length
  ·obtain⟨ks,e1,hk,hx⟩:=strk_min hv m 0 [] js hp e.symm (by simpa using h);refine⟨_,fal_hit e1,?_⟩;unfold shB;rw[if_pos (by simp[numsW,hk,e])];simpa using hx
  ·cases hs:strk ps ws m 0 [] with
   |some r=>
    obtain⟨ks,_,hk,e',_⟩:=strk_some m 0 [] r hs;have hl:r.length=m:=(by rw[e'];simpa [numsW] using hk);refine⟨r,fal_hit hs,?_⟩;unfold shB;rw[if_neg (by simp[numsW];omega)];simp[numsW];omega
   |none=>rw[fal_miss hs];exact ih (m+1) (by omega) (by omega)
theorem fal_is{ps:List PR}{ws:List WE}:∀(d m:Nat) (r:List Int),falF ps ws m d=some r→∃js,Places ws 0 js∧r=numsW ws js∧js.length<m+d∧hasT ps (lessW ws r)=true
 |0,m,r,h=>by cases h
 |d+1,m,r,h=>by
  cases hs:strk ps ws m 0 [] with
  |some x=>
   rw[fal_hit hs] at h;cases h;obtain⟨js,hp,hl,e,ht⟩:=strk_some m _ _ _ hs;exact⟨js,hp,by simpa using e,by omega,ht⟩
  |none=>
   rw[fal_miss hs] at h;obtain⟨js,hp,e,hl,ht⟩:=fal_is d (m+1) r h;exact⟨js,hp,e,by omega,ht⟩
theorem nm_mem{ws:List WE}{j:Nat}(h:j<ws.length):∃x∈ws,x.1=nmW ws j:=⟨ws[j],List.getElem_mem _,(nmW_at (List.getElem?_eq_getElem h)).symm⟩
theorem strike_nums{ps:List PR}{ws:List WE}(hv:validP ps ws=true){js:List Nat}(hp:Places ws 0 js):strikeS ps ws (numsW ws js)=((ps,lessW ws (numsW ws js)),0):=by
 unfold strikeS;rw[if_pos hv,if_pos];rw[Bool.and_eq_true];constructor
 ·refine incB_true fun i hi=>?_;have hl:(numsW ws js).length=js.length:=(by simp[numsW]);have e:∀q,q<js.length→(numsW ws js)[q]?.getD 0=nmW ws (js[q]?.getD 0):=fun q hq=>(by simp[numsW,List.getElem?_eq_getElem hq]);rw[e i (by omega),e (i+1) (by omega),List.getElem?_eq_getElem (show i<js.length by omega),List.getElem?_eq_getElem (show i+1<js.length by omega)];exact nm_up hv (List.pairwise_iff_getElem.1 hp.1 i (i+1) (by omega) (by omega) (by omega)) (hp.2 _ (List.getElem_mem _)).2
 ·rw[List.all_eq_true];intro x hx;obtain⟨j,hj,rfl⟩:=List.mem_map.1 hx;obtain⟨y,hy,e⟩:=nm_mem (hp.2 j hj).2;unfold numW;rw[List.any_eq_true];exact⟨y,hy,by simp[e]⟩
theorem asc_eq:∀(a b:List Int),a.Pairwise (· < ·)→b.Pairwise (· < ·)→(∀x,x∈a↔x∈b)→a=b
 |[],[],_,_,_=>rfl
 |[],y::b,_,_,h=>absurd ((h y).2 (List.mem_cons_self ..)) (by simp)
 |x::a,[],_,_,h=>absurd ((h x).1 (List.mem_cons_self ..)) (by simp)
 |x::a,y::b,ha,hb,h=>by
  obtain⟨a1,a2⟩:=List.pairwise_cons.1 ha;obtain⟨b1,b2⟩:=List.pairwise_cons.1 hb;have e:x=y:=by
   rcases List.mem_cons.1 ((h x).1 (List.mem_cons_self ..)) with e|e
   ·exact e
   ·rcases List.mem_cons.1 ((h y).2 (List.mem_cons_self ..)) with e'|e'
    ·exact e'.symm
    ·have:=a1 y e';have:=b1 x e;omega
  subst e;congr 1;refine asc_eq a b a2 b2 fun z=>⟨fun hz=>?_,fun hz=>?_⟩
  ·rcases List.mem_cons.1 ((h z).1 (List.mem_cons_of_mem _ hz)) with e|e
   ·have:=a1 z hz;omega
   ·exact e
  ·rcases List.mem_cons.1 ((h z).2 (List.mem_cons_of_mem _ hz)) with e|e
   ·have:=b1 z hz;omega
   ·exact e
theorem split_len{α:Type}(p:α→Bool):∀l:List α,(l.filter p).length+(l.filter fun x=>!p x).length=l.length
 |[]=>rfl
 |x::r=>by have:=split_len p r;cases h:p x<;>simp[h]<;>omega
theorem less_all{ps:List PR}{ws:List WE}(hv:validP ps ws=true){js:List Nat}(hp:Places ws 0 js):(lessW ws (numsW ws js)).length+(numsW ws js).length=ws.length:=by
 have ha:allW ps 0 ws=true:=by unfold validP at hv;simp only[Bool.and_eq_true] at hv;exact hv.2
 have e:(ws.filter fun x=>hasI (numsW ws js) x.1).map (fun x=>x.1)=numsW ws js:=by
  refine asc_eq _ _ ((allW_up ws 0 ha).2.sublist (List.filter_sublist.map _)) ?_ fun z=>?_
  ·unfold numsW;rw[List.pairwise_map];exact hp.1.imp_of_mem fun {a b} h1 h2 h=>nm_up hv h (hp.2 b h2).2
  ·simp only[List.mem_map,List.mem_filter,hasI,List.any_eq_true,beq_iff_eq];constructor
   ·rintro ⟨x,⟨_,y,hy,e⟩,rfl⟩;rw[e];exact hy
   ·intro hz;obtain⟨j,hj,rfl⟩:=List.mem_map.1 hz;obtain⟨y,hy,e⟩:=nm_mem (hp.2 j hj).2;exact⟨y,⟨hy,_,hz,e⟩,e⟩
 have h1:=split_len (fun x:WE=>hasI (numsW ws js) x.1) ws;have h2:(numsW ws js).length=(ws.filter fun x=>hasI (numsW ws js) x.1).length:=by conv=>lhs;rw[←e];simp
 unfold lessW;omega
/-- The numbers of up to three weighings, by bits. -/
def oth3 (b:Nat):Nat→List Nat
 |0=>[]
 |t+1=>if bitN b t=1∧(oth3 b t).length<3 then oth3 b t ++ [t] else oth3 b t
theorem oth3_facts(b:Nat):∀t,(oth3 b t).Pairwise (· < ·)∧(∀j∈oth3 b t,j<t)∧(oth3 b t).length≤3
 |0=>⟨List.Pairwise.nil,(fun j h=>by cases h),by simp[oth3]⟩
 |t+1=>by
  obtain⟨h1,h2,h3⟩:=oth3_facts b t;unfold oth3;split
  ·rename_i h;refine⟨?_,fun j hj=>?_,by simp;omega⟩
   ·rw[List.pairwise_append];exact⟨h1,List.pairwise_singleton ..,fun a ha c hc=>by simp at hc;subst hc;exact h2 a ha⟩
   ·rw[List.mem_append] at hj;rcases hj with hj|hj
    ·have:=h2 j hj;omega
    ·simp at hj;omega
  ·exact⟨h1,fun j hj=>by have:=h2 j hj;omega,h3⟩
theorem oth3_places(b:Nat)(ws:List WE):Places ws 0 (oth3 b ws.length):=⟨(oth3_facts b _).1,fun j hj=>⟨by omega,(oth3_facts b _).2.1 j hj⟩⟩
/-- What PressFalse compares. -/
structure FalF (ps:List PR) (ws:List WE) (L:List Int):Prop where
 len:L.length≤3
 str:strikeS ps ws L=((ps,lessW ws L),0)
 all:(lessW ws L).length+L.length=ws.length
 bd:∀x∈L,1≤x∧x≤9999
 none_:falS ps ws=none→hasT ps (lessW ws L)=false
 some_:∀r,falS ps ws=some r→r.length≤3∧strikeS ps ws r=((ps,lessW ws r),0)∧(lessW ws r).length+r.length=ws.length∧hasT ps (lessW ws r)=true∧(hasT ps (lessW ws L)=true→shB L r=false)∧∀x∈r,1≤x∧x≤9999
theorem nums_bd{ps:List PR}{ws:List WE}(hv:validP ps ws=true){js:List Nat}(hp:Places ws 0 js):∀x∈numsW ws js,1≤x∧x≤9999:=by
 intro x hx;obtain⟨j,hj,rfl⟩:=List.mem_map.1 hx;obtain⟨y,hy,e⟩:=nm_mem (hp.2 j hj).2;rw[←e];exact num_bd hv hy
theorem false_law{ps:List PR}{ws:List WE}(hv:validP ps ws=true)(b:Nat):FalF ps ws (numsW ws (oth3 b ws.length)):=by
 have hp:=oth3_places b ws;have hl:(oth3 b ws.length).length≤3:=(oth3_facts b _).2.2;refine⟨by simpa [numsW] using hl,strike_nums hv hp,less_all hv hp,nums_bd hv hp,fun h=>?_,fun r h=>?_⟩
 ·cases ht:hasT ps (lessW ws (numsW ws (oth3 b ws.length))) with
  |false=>rfl
  |true=>
   obtain⟨r,e,_⟩:=fal_min hv hp ht 4 0 (by omega) (by omega);unfold falS at h;rw[h] at e;cases e
 ·obtain⟨js,hq,e,hl',ht⟩:=fal_is 4 0 r h;subst e;refine⟨by simp[numsW];omega,strike_nums hv hq,less_all hv hq,ht,fun h1=>?_,nums_bd hv hq⟩;obtain⟨r',e',hs⟩:=fal_min hv hp h1 4 0 (by omega) (by omega);unfold falS at h;rw[h] at e';cases e';exact hs
end Go.Proofs.YtfplipbkjglmhaaDoor

namespace Go.Proofs.YtfplipbkjglmhaaDoor
open Go.RowKit
set_option linter.unusedVariables false
set_option linter.unusedSimpArgs false
theorem band1u(x:Nat)(h:x<2^32):bits .and .u32 (x:Int) 1=((x%2:Nat):Int):=by
 have e1:x%2^IntKind.u32.bits=x:=Nat.mod_eq_of_lt (by simp[IntKind.bits];omega);have e2:1%2^IntKind.u32.bits=1:=by decide
 have e3:IntKind.u32.wrap ((x%2:Nat):Int)=((x%2:Nat):Int):=by unfold IntKind.wrap;simp[IntKind.bits,IntKind.signed];omega
 simp only[bits];rw[←e3];simp[e1,e2,Nat.and_one_is_mod]
theorem band_bitu{s i:Nat}(h:s<2^32):bits .and .u32 ((s:Int)/2^i) 1=(bitN s i:Int):=by
 have e:((s:Int)/2^i)=((s/2^i:Nat):Int):=by simp
 rw[e,band1u _ (Nat.lt_of_le_of_lt (Nat.div_le_self _ _) h)];rfl
theorem cel_of{w:World}{b j:Nat}{cs:Array Value}{t:TypeId}{u:Value}(h:w.heap[b]? = some (.cells cs t (0,0)))(hu:cs[j]? = some u):w.cell? ⟨b,j,none⟩=some u:=by simp[World.cell?,h,hu]
theorem nums_yes{ws:List WE}{b t:Nat}(h1:bitN b t=1)(h2:(oth3 b t).length<3):numsW ws (oth3 b (t+1))=numsW ws (oth3 b t) ++ [nmW ws t]∧(oth3 b (t+1)).length=(oth3 b t).length+1:=by
 rw[show oth3 b (t+1)=oth3 b t ++ [t] by show (if _ then _ else _)=_;rw[if_pos ⟨h1,h2⟩]];simp[numsW]
theorem nums_no{b t:Nat}(h:¬(bitN b t=1∧(oth3 b t).length<3)):oth3 b (t+1)=oth3 b t:=by show (if _ then _ else _)=_;rw[if_neg h]
set_option maxRecDepth 100000 in
set_option maxHeartbeats 8000000 in
theorem law_false(A A':Option Addr)(n c n' c':Nat)(ps:List PR)(ws:List WE)(bt:Nat)(w:World)(hbt:bt≤4294967295)(hnm:n≤maxLen)(hnm':n'≤maxLen)
  (hR:Reads w w.heap.size 4 A n (pgs ps)) (hW:Reads w w.heap.size 5 A' n' (wgs ws)) (hL:Laid w) :
  Calls Tryd.prog 8 #[.agg #[.slice A n c,.slice A' n' c'],.int .u32 bt] w fun e w'=>e = .returned (.bool true)∧Below w.heap.size w w':=by
 have hl:ps.length=n:=hR.pg_len;have hl':ws.length=n':=hW.wg_len;have HX0:=Lib.hid (PX.start (c:=c) (c':=c') hR hW hL);have HAl:=Lib.hid (fun z (K:PX w A A' n c n' c' ps ws z)=>alive_any z K.laid);have HRy:=Lib.hid (fun z (K:PX w A A' n c n' c' ps ws z)=>ready_any A A' n c n' c' ps ws z hnm hnm' K.rp K.rw_);clear hR hW hL;obtain⟨g,hg_⟩:∃g,g=(!(decide (20<n) || decide (50<n')) && validP ps ws):=⟨_,rfl⟩;rw[←hg_] at HRy;have hg:=Lib.hid hg_;clear hg_;have hbt0:(0:Int)≤(bt:Int):=by omega
 have hbt1:(bt:Int)≤4294967295:=by omega
 go_enter Tryd.func8,Tryd.ntmps8
 go_wp2_with fail
 refine(HAl.out _ HX0.out).mono ?_;rintro e z1 ⟨rfl,hb⟩;have HX1:=Lib.hid (HX0.out.below hb);clear hb HX0;obtain⟨p0,p1⟩:=HX1.out.cells;go_wp2_with fail
 clear p0 p1;refine(HRy.out _ HX1.out).mono ?_;rintro e z2 ⟨rfl,hb⟩;have HX2:=Lib.hid (HX1.out.below hb);clear hb HX1;cases g with
 |false=>
  go_wp2;go_ret;exact⟨rfl,HX2.out.bel⟩
 |true=>
 have hv:validP ps ws=true:=by have h:=hg.out;simp at h;exact h.2.symm ▸ rfl
 have hVF:=valid_facts hv;have hn10:n≤10:=by have:=hVF.n10;omega
 have hn30:n'≤30:=by have:=hVF.m30;omega
 clear hg HRy HAl;have hvh:=Lib.hid hv;have hlh':=Lib.hid hl';have HBq:=Lib.hid (Below.refl z2.heap.size z2);have hb32:=Lib.hid (show bt<2^32 by omega);have hn0:(0:Int)≤(n':Int):=by omega
 have hn3:(n':Int)≤30:=by omega
 have FF_:=false_law hv bt;rw[hl'] at FF_;have FF:=Lib.hid FF_;obtain⟨i0,hi,hz0,hz1,hz2⟩:=info_parts info_int;obtain⟨p0,p1⟩:=HX2.out.cells;clear FF_ hv hl' hl;go_wp2_with fail
 clear p0 p1;go_loopw [6,31] (fun v u wr=>∃wl,wl=wr∧∃i mo:Nat,i≤n'∧mo=(oth3 bt i).length∧u = .int .i64 i∧Hid (wl.ownsRow z2.heap.size 3 1 v mo (ints (numsW ws (oth3 bt i))))∧Hid (Below z2.heap.size z2 wl)) (fun _ u _=>n' - (intOf u).toNat)
 case atStart=>exact⟨_,rfl,0,0,by omega,rfl,rfl,Lib.hid (World.ownsRow_nil _ _ _ _),HBq⟩
 case round=>
  obtain⟨wj,rfl,i,mo,hi_,hmo_,rfl,HOw,HBj⟩:=hrel;have HJ:=Lib.hid (HX2.out.below HBj.out);obtain⟨Ao,co,rfl⟩:=ownR_val HOw.out;have hmo:=Lib.hid hmo_;have hm3:mo≤3:=(by rw[hmo_];exact(oth3_facts bt i).2.2);clear hmo_;by_cases hin:i<n'
  ·have hii:(i:Int)<(n':Int):=(by omega);have ii0:(0:Int)≤(i:Int):=(by omega);obtain⟨bi,hbi_⟩:∃x:Int,x=(bitN bt i:Int):=⟨_,rfl⟩;have hbit:bits .and .u32 ((bt:Int)/2^i) 1=bi:=(by rw[hbi_];exact band_bitu hb32.out);have hbih:=Lib.hid hbi_;clear hbi_;obtain⟨bq,oq,N,Q,Kd,Lo,Hi,hAe,hbq,hx,y0,y1,y2,y3,y4⟩:=HJ.out.rw_.wg hin;have hN:Hid (nmW ws i=N):=(by show _=_;unfold nmW;rw[hx]);have hbk:Below wj.heap.size wj (wj.alloc (.cells #[.int .i64 N,.int .i64 Q,.int .i64 Kd,.int .i64 Lo,.int .i64 Hi] 81)):=(Below.refl _ _).alloc (Nat.le_refl _) _;have hXk_:=heap_alloc_new wj (.cells #[.int .i64 N,.int .i64 Q,.int .i64 Kd,.int .i64 Lo,.int .i64 Hi] 81);have HOk:=Lib.hid (ownR_below HOw.out hbk);have HBk:=Lib.hid (below_via HBj.out HBj.out.size hbk);subst hAe;have HXk:=Lib.hid hXk_;clear hx hbk hXk_ HOw HJ;by_cases hc:bitN bt i=1∧(oth3 bt i).length<3
   ·obtain⟨h01,hlt_⟩:=hc;have hb1:(bi==1)=true:=(by rw[hbih.out,h01];rfl);obtain⟨hy1,hy2⟩:=nums_yes (ws:=ws) h01 hlt_;rw[←hmo.out] at hlt_ hy2;have hlt:(mo:Int)<3:=(by omega);have hy:=Lib.hid hy1;have hyl:=Lib.hid hy2;clear hbih h01 hy1 hy2 hmo
    go_upto_if 45 with (fail)
    obtain⟨wk,hwk⟩:∃wk,wk=wj.alloc (.cells #[.int .i64 N,.int .i64 Q,.int .i64 Kd,.int .i64 Lo,.int .i64 Hi] 81):=⟨_,rfl⟩;rw[←hwk] at HXk HOk HBk ⊢;obtain⟨xb,hxb⟩:∃xb,xb=wj.heap.size:=⟨_,rfl⟩;rw[←hxb] at HXk ⊢;have x0:=cel_of HXk.out (j:=0) rfl;clear hwk hxb y0 y1 y2 y3 y4 HXk hbit hb1;have hLn:=heap_alloc_new wk (.cells #[.int .i64 N] 3);have hbA:=(Below.refl wk.heap.size wk).alloc (Nat.le_refl _) (.cells #[.int .i64 N] 3);have HOw3:=Lib.hid (ownR_below HOk.out hbA);have HLn:=Lib.hid (rd_one (t:=3) hLn);have HB3:=Lib.hid (below_via HBk.out HBk.out.size hbA);have hlw:=HBk.out.size;clear hLn hbA HOk
    go_wp2_with (first
     |(at_builtin;refine wpList_app _ rfl _ _ 46 rfl z2.heap.size 3 i0 _ 1 8 Tryd.underlying46 hi hz0 hz1 hz2 rfl (by decide) (.slice Ao mo co) mo (ints (numsW ws (oth3 bt i))) rfl HOw3.out _ (some ⟨wk.heap.size,0,none⟩) 1 1 (ints [N]) rfl HLn.out (ints_one _) ?c3 ?c4 ?c5 ?_))
    case c3=>unfold maxLen;omega
    case c4=>omega
    case c5=>first|omega|(simp<;>omega)
    intro v' z4 hown hgr hatv;have HB4:=Lib.hid (HB3.out.grown hgr HB3.out.size (fun k hk=>(ownR_lt HOw3.out hk).1));have hxs:Hid (z4.ownsRow z2.heap.size 3 1 v' (mo+1) (ints (numsW ws (oth3 bt (i+1))))):=by
     show World.ownsRow _ _ _ _ _ _ _;rw[hy.out,hN.out,show ∀l,ints (l ++ [N])=ints l++ints [N] from fun l=>by simp[ints]];exact hown
    clear hown hgr hatv HOw3 HB3 HLn x0;obtain⟨A4,c4,rfl⟩:=ownR_val hxs.out;go_wp2;go_roundw
    case rel=>exact⟨_,rfl,i+1,mo+1,by omega,hyl.out.symm,by go_num,hxs,HB4⟩
    case measure=>simp[intOf];omega
   ·have hno:=Lib.hid (nums_no hc);have hc':Hid (bitN bt i=1→¬mo<3):=fun h1 h2=>hc ⟨h1,by rw[←hmo.out];exact h2⟩;clear hc;rcases bitN_01 bt i with h01|h01
    ·have hb1:(bi==1)=false:=(by rw[hbih.out,h01];rfl);clear hbih h01 hc';go_wp2;go_roundw
     case rel=>exact⟨_,rfl,i+1,mo,by omega,by rw[hno.out];exact hmo.out,by go_num,by rw[hno.out];exact HOk,HBk⟩
     case measure=>simp[intOf];omega
    ·have hb1:(bi==1)=true:=(by rw[hbih.out,h01];rfl);have hlt:decide ((mo:Int)<3)=false:=(by have:=hc'.out h01;simp;omega);clear hbih h01 hc';go_wp2;go_roundw
     case rel=>exact⟨_,rfl,i+1,mo,by omega,by rw[hno.out];exact hmo.out,by go_num,by rw[hno.out];exact HOk,HBk⟩
     case measure=>simp[intOf];omega
  ·obtain rfl:n'=i:=(by omega);have hii:¬(n':Int)<(n':Int):=(by omega);obtain⟨L,hL_⟩:∃L,L=numsW ws (oth3 bt n'):=⟨_,rfl⟩;rw[←hL_] at HOw FF;have HRo:=Lib.hid (Reads.of_own HOw.out);have hmL:Hid (L.length=mo):=(by show _=_;rw[hL_,hmo.out];simp[numsW]);obtain⟨eF,heF_⟩:∃eF,eF=falE ps ws:=⟨_,rfl⟩;obtain⟨l,hl_⟩:∃l,l=falL ps ws:=⟨_,rfl⟩;have heF:=Lib.hid heF_;have hlL:=Lib.hid hl_;obtain⟨was,hwas_⟩:∃b,b=hasT ps (lessW ws L):=⟨_,rfl⟩;have hwas:=Lib.hid hwas_;have hFa:=pFalse_any A A' n c n' c' ps ws wj HJ.out.rp HJ.out.rw_ HJ.out.laid;rw[←heF_,←hl_] at hFa;have hFah:=Lib.hid hFa;clear hL_ HOw heF_ hl_ hwas_ hFa HX2 HBq HBj hmo;obtain⟨p0,p1⟩:=HJ.out.cells;(go_wp2_with fail);clear p0 p1 hii;refine hFah.out.mono ?_;rintro e z3 ⟨⟨Al,m,cl,rfl,hm3',hrl⟩,hb⟩;replace HJ:=Lib.hid (HJ.out.below hb);replace HRo:=Lib.hid ((HRo.out.below hb).more hb.size);have HRl:=Lib.hid hrl;clear hb hrl hFah;obtain⟨p0,p1⟩:=HJ.out.cells;(go_wp2_with fail);clear p0 p1;refine(strike_any A A' n c n' c' ps ws Ao mo co L _ hnm hnm' (by omega) (fun x hx=>WalkArith.wf_i64 (by have:=FF.out.bd x hx;omega)) HJ.out.rp HJ.out.rw_ HRo.out HJ.out.laid).mono ?_;rw[FF.out.str];rintro e bp ⟨⟨A1p,n1p,c1p,A2p,n2p,c2p,rfl,ho1,ho2⟩,hb⟩;replace HJ:=Lib.hid (HJ.out.below hb);replace HRo:=Lib.hid (((HRo.out.below hb)).more hb.size);replace HRl:=Lib.hid (((HRl.out.below hb)).more hb.size);have HR1:=Lib.hid (Reads.of_own ho1);have HR2:=Lib.hid (Reads.of_own ho2);have hn2p_:(lessW ws L).length=n2p:=HR2.out.wg_len;clear hb ho1 ho2;obtain⟨dp,hz9_⟩:∃z9,z9=bp.alloc (.cells #[.slice A1p n1p c1p,.slice A2p n2p c2p] 25):=⟨_,rfl⟩
   have hb:Below bp.heap.size bp dp:=(by rw[hz9_];exact(Below.refl _ _).alloc (Nat.le_refl _) _);replace HJ:=Lib.hid (HJ.out.below hb);replace HRo:=Lib.hid (((HRo.out.below hb)).more hb.size);replace HRl:=Lib.hid (((HRl.out.below hb)).more hb.size);replace HR1:=Lib.hid (((HR1.out.below hb)).more hb.size);replace HR2:=Lib.hid (((HR2.out.below hb)).more hb.size);have hyb:=heap_alloc_new bp (.cells #[.slice A1p n1p c1p,.slice A2p n2p c2p] 25);rw[←hz9_] at hyb;have hz9:=Lib.hid hz9_;obtain⟨ybp,hyb_⟩:∃yb,yb=bp.heap.size:=⟨_,rfl⟩;rw[←hyb_] at hyb;have hybe:=Lib.hid hyb_;obtain⟨q0,q1,-,-⟩:=two_facts hyb;rw[hz9.out,hybe.out] at q0 q1;have HYp:=Lib.hid hyb;have hn2p:=Lib.hid hn2p_;clear hb hz9_ hyb_ hyb hn2p_;(go_wp2_with fail);clear q0 q1;rw[←hz9.out,←hybe.out];clear hz9 hybe;have hHo:=pHolds_any A1p A2p n1p c1p n2p c2p ps (lessW ws L) dp HR1.out HR2.out HJ.out.laid;rw[valid_less L hvh.out,show checkS ps (lessW ws L)=0 by unfold checkS;rw[if_pos (valid_less L hvh.out)],Bool.true_and,←hwas.out] at hHo;have hHoh:=Lib.hid hHo;clear hHo;refine hHoh.out.mono ?_;rintro e fp ⟨rfl,hb⟩;replace HJ:=Lib.hid (HJ.out.below hb);replace HYp:=Lib.hid (keepO hb HYp.out);replace HRo:=Lib.hid (((HRo.out.below hb)).more hb.size);replace HRl:=Lib.hid (((HRl.out.below hb)).more hb.size);clear hb hHoh HR1 HR2;have hall:=FF.out.all;rw[hn2p.out,hmL.out,hlh'.out] at hall;have hs0:(n2p:Int)+(mo:Int)=(n':Int):=(by omega);have hsum:((n2p:Int)+(mo:Int) != (n':Int))=false:=(by rw[hs0];simp);have hn2i:(n2p:Int)≤30:=by omega
   obtain⟨p0,p1⟩:=HJ.out.cells;obtain⟨q0,q1,-,-⟩:=two_facts HYp.out;clear hall hs0 hn2p;cases hF:falS ps ws with
   |none=>
    obtain⟨g1,g2⟩:=fal_none hvh.out hF;obtain rfl:eF=4:=(by rw[heF.out,g1]);obtain rfl:was=false:=(by rw[hwas.out,FF.out.none_ hF]);clear heF hwas hF g1 g2;go_wp2;go_ret;exact⟨rfl,HJ.out.bel⟩
   |some r=>
    obtain⟨g1,g2⟩:=fal_some hvh.out hF;obtain rfl:eF=0:=(by rw[heF.out,g1]);obtain rfl:l=r:=(by rw[hlL.out,g2]);obtain⟨f1,f2,f3,f4,f5,f6⟩:=FF.out.some_ _ hF;rw[←hwas.out] at f5;have f2h:=Lib.hid f2;have f3h:=Lib.hid f3;have f4h:=Lib.hid f4;have f5h:=Lib.hid f5;have f6h:=Lib.hid f6;have hml:Hid (l.length=m):=(by show _=_;have h:=HRl.out.len;simpa using h);clear heF hwas hF g1 g2 f1 f2 f3 f4 f5 f6 p0 p1 q0 q1;have hsumh:=Lib.hid hsum;clear hsum;obtain⟨p0,p1⟩:=HJ.out.cells;obtain⟨q0,q1,-,-⟩:=two_facts HYp.out;have hsum:=hsumh.out
    go_upto_block 18 with (fail)
    clear q0 q1 p0 p1 hsum hsumh hn2i;obtain⟨p0,p1⟩:=HJ.out.cells;(go_wp2_with fail);clear p0 p1;refine(strike_any A A' n c n' c' ps ws Al m cl l _ hnm hnm' (by omega) (fun x hx=>WalkArith.wf_i64 (by have:=f6h.out x hx;omega)) HJ.out.rp HJ.out.rw_ HRl.out HJ.out.laid).mono ?_;rw[f2h.out];rintro e bs ⟨⟨A1s,n1s,c1s,A2s,n2s,c2s,rfl,ho1,ho2⟩,hb⟩;replace HJ:=Lib.hid (HJ.out.below hb);replace HRo:=Lib.hid (((HRo.out.below hb)).more hb.size);replace HRl:=Lib.hid (((HRl.out.below hb)).more hb.size);have HR1:=Lib.hid (Reads.of_own ho1);have HR2:=Lib.hid (Reads.of_own ho2);have hn2s_:(lessW ws l).length=n2s:=HR2.out.wg_len;clear hb ho1 ho2;obtain⟨ds,hz9_⟩:∃z9,z9=bs.alloc (.cells #[.slice A1s n1s c1s,.slice A2s n2s c2s] 25):=⟨_,rfl⟩;have hb:Below bs.heap.size bs ds:=(by rw[hz9_];exact(Below.refl _ _).alloc (Nat.le_refl _) _);replace HJ:=Lib.hid (HJ.out.below hb);replace HRo:=Lib.hid (((HRo.out.below hb)).more hb.size);replace HRl:=Lib.hid (((HRl.out.below hb)).more hb.size);replace HR1:=Lib.hid (((HR1.out.below hb)).more hb.size);replace HR2:=Lib.hid (((HR2.out.below hb)).more hb.size);have hyb:=heap_alloc_new bs (.cells #[.slice A1s n1s c1s,.slice A2s n2s c2s] 25);rw[←hz9_] at hyb;have hz9:=Lib.hid hz9_;obtain⟨ybs,hyb_⟩:∃yb,yb=bs.heap.size:=⟨_,rfl⟩;rw[←hyb_] at hyb;have hybe:=Lib.hid hyb_;obtain⟨q0,q1,-,-⟩:=two_facts hyb;rw[hz9.out,hybe.out] at q0 q1;have HYs:=Lib.hid hyb;have hn2s:=Lib.hid hn2s_;clear hb hz9_ hyb_ hyb hn2s_;(go_wp2_with fail);clear q0 q1
    rw[←hz9.out,←hybe.out];clear hz9 hybe;have hHo:=pHolds_any A1s A2s n1s c1s n2s c2s ps (lessW ws l) ds HR1.out HR2.out HJ.out.laid;rw[valid_less l hvh.out,show checkS ps (lessW ws l)=0 by unfold checkS;rw[if_pos (valid_less l hvh.out)],Bool.true_and,f4h.out] at hHo;have hHoh:=Lib.hid hHo;clear hHo;refine hHoh.out.mono ?_;rintro e fs ⟨rfl,hb⟩;replace HJ:=Lib.hid (HJ.out.below hb);replace HYs:=Lib.hid (keepO hb HYs.out);replace HRo:=Lib.hid (((HRo.out.below hb)).more hb.size);replace HRl:=Lib.hid (((HRl.out.below hb)).more hb.size);clear hb hHoh HR1 HR2;have hall:=f3h.out;rw[hn2s.out,hml.out,hlh'.out] at hall;have hs0:(n2s:Int)+(m:Int)=(n':Int):=(by omega);have hsum:((n2s:Int)+(m:Int)==(n':Int))=true:=(by rw[hs0];simp);have hn2i:(n2s:Int)≤30:=(by omega);have hmi:(m:Int)≤3:=(by omega);obtain⟨p0,p1⟩:=HJ.out.cells;obtain⟨q0,q1,-,-⟩:=two_facts HYs.out;clear hall hs0 hn2s;cases was with
    |false=>
     go_wp2;go_ret;exact⟨rfl,HJ.out.bel⟩
    |true=>
     have hsh:=shorter_any Ao Al mo m co cl L l fs (by unfold maxLen;omega) (by unfold maxLen;omega) HRo.out HRl.out;rw[f5h.out rfl] at hsh;have hshh:=Lib.hid hsh;clear hsh;(go_wp2_with fail);clear p0 p1 q0 q1;refine hshh.out.mono ?_;rintro e w9 ⟨rfl,hb⟩;have HB9:=Lib.hid (HJ.out.below hb).bel;clear hb hshh HRo HRl;go_wp2;go_ret;exact⟨rfl,HB9.out⟩
end Go.Proofs.YtfplipbkjglmhaaDoor

namespace Go.Proofs.YtfplipbkjglmhaaDoor.pressFalse
open Go.ChangeShapes Go.WideShapes Go.ChangeAt Go.RowKit Go.Joins
set_option linter.unusedVariables false
theorem laidOut:laidOutB Tryd.prog=true:=by kernel_rfl
set_option maxRecDepth 100000 in
theorem lifted(os:Os)(started:os.Started)(H:Type)(enc:TypeId×Value→H) :
  ReturnsInHanded {} Tryd.checked os 8 .any (fun w args=>(Rows.pressFalseSpec.pre enc Tryd.prog Tryd.f8 [] false w args∧laidMetH Tryd.prog laidList w)∧sizedMet enc Tryd.prog Tryd.f8 (OpenSpec.ofChange Rows.pressFalseSpec) false w args)
   (Rows.pressFalseSpec.post enc Tryd.prog Tryd.f8 false true false false):=by
 refine returnsInHanded_of_change_and (C:=Tryd.checked) (X:=fun w _=>laidMetH Tryd.prog laidList w) (fun _ _ _ hh h=>h.of_heap hh) own started (by kernel_rfl) Tryd.func8
  (ChangeSpec.witness_shaped (enc:=enc) (C:=Tryd.checked) (os:=os) (X:=fun w _=>laidMetH Tryd.prog laidList w) false (World.doorLaid Tryd.prog 25 os) #[.agg #[.slice none 0 0,.slice none 0 0],.int .u32 0] 8 rfl (World.shaped_of_RefB (by kernel_rfl) (by kernel_rfl)) (by kernel_rfl) (by kernel_rfl) (by kernel_rfl) (door_met os _)) ?_
 intro W base args ds gs before hval0 hW _ _ hL _;have hval:∀(j:Nat) t v,Tryd.f8.params[j]? = some t→args[j]? = some v→Value.okWide Tryd.prog W .any base t v:=hval0;have hW':=hW;have hblk:∀x∈before,x.block<W.heap.size:=fun x hx=>hW.lt x hx;obtain⟨p,q,hA0,hV,rfl,hfz,hnd⟩:=hW;have hA:DataW.TrodAll enc Tryd.prog W 0 (fun _=>true) true Tryd.f8.params.toList args.toList ds p:=hA0;have hA':=hA;have hP:=Tryd.params8;rw[Tryd.params8] at hA hval hA';obtain⟨v0,vs0,d0,ds0,p0,q0,hargs,rfl,rfl,h0,r0⟩:=trodAll_cons hA;obtain⟨v1,vs1,d1,ds1,p1,q1,rfl,rfl,rfl,h1,r1⟩:=trodAll_cons r0;obtain⟨rfl,rfl,rfl⟩:=trodAll_nil r1;obtain rfl:args = #[v0,v1]:=by cases args;simp_all
 obtain⟨rfl,rfl⟩:=trodVars_none hV;simp only[List.append_nil] at hW' hblk;obtain⟨c00,c01,y00,y01,m0,rfl,-,-,g00,g01⟩:=open_agg2 Tryd.underlying25 (by kernel_rfl) (by kernel_rfl) (hval 0 25 v0 rfl rfl) h0;obtain⟨A,n,c,ps,rfl,hnc,hcm0,-,hRp⟩:=open_recs (f:=pgc) (fun _=>rfl) (by omega) Tryd.underlying22 cPg (fun k cs y hl h=>dec_pg k cs y hl h) g00;obtain⟨A',n',c',ws,rfl,hnc',hcm',hnil,hRw⟩:=open_recs (f:=wgc) (fun _=>rfl) (by omega) Tryd.underlying23 cWg (fun k cs y hl h=>dec_wg k cs y hl h) g01;obtain⟨x1_,rfl,rfl,rfl,hw1⟩:=open_int Tryd.underlying79 (hval 1 79 v1 rfl rfl) h1;obtain⟨x1,rfl,hx1⟩:∃m:Nat,x1_=m∧m≤4294967295:=by
  have h:=hw1;simp only[Lit.wf,Bool.and_eq_true,decide_eq_true_eq,show IntKind.u32.min=0 by decide,show IntKind.u32.max=4294967295 by decide] at h;exact⟨x1_.toNat,by omega,by omega⟩
 clear hA0 hval0;refine(law_false A A' n c n' c' ps ws x1 W hx1 (by omega) (by omega) hRp hRw (laid_of hL)).mono fun e W' ⟨he,hb⟩=>?_;subst he;refine⟨_,rfl,post_below (ds:=[_,_]) (gs:=[]) (pa:=p0++([]++([]))) (pv:=[]) (by simpa using hW') (fun _ _ _=>(trodAll_cons_mk (shut_bool Tryd.underlying4 _) trodAll_mk0)) (fun sp hsp=>?_) (fun _ _=>rfl) (by simp) hb (ok_one (by kernel_rfl) rfl (okWide_bool_mk Tryd.underlying4 _))⟩;rw[hP];refine trodAll_stays laidOut ?_ hA' (fun x hx=>hb.same (hblk x (by simpa using hx))) (fun x hx=>hsp x (by simpa using hx));intro t ht;have hall:([25,79].all fun u=>Tryd.prog.readableRec u && decide (u<Tryd.prog.types.size))=true:=by kernel_rfl
 have:=List.all_eq_true.1 hall t (by simpa using ht);simpa using this
theorem over:Rows.PressFalseSaid:=
 OpenClaim.holds_of_wide 8 Tryd.f8 rfl rfl rfl rfl rfl rfl rfl ⟨rfl,rfl,rfl,rfl,rfl⟩ rfl rfl rfl rfl rfl (by kernel_rfl) Tryd.func8 (by kernel_rfl)
  (of_decide_eq_true (by kernel_rfl)) (by unfold Func.isWrapper;first|(rw[if_pos (by decide +kernel)];kernel_rfl)|(rw[if_neg (by decide +kernel)];exact⟨rfl,rfl⟩))
  (fun os started H enc _=>lifted os started H enc)
/-- The tied card. -/
theorem proved:Rows.PressFalseCardSaid:=
 Claim7.holds_tied_plain_at .later [] [.funcs] true (true, "3cbcdd9f0d995b805788fb1a66c61468378cabb8fb1e0a1aebf8d521baf47642") false
  over (fun _ h=>by cases h) (by kernel_rfl) (fun _ h=>by cases h) pressFalse_row_tie rfl ⟨rfl,rfl⟩ (by kernel_rfl) rfl
  (fun f fn hf hfn=>by
   obtain rfl:f=8:=Option.some.inj ((show Tryd.prog.funcNamed "oilcake/oilcakelaw02.PressFalse" = some 8 by kernel_rfl).symm.trans hf) |>.symm
   obtain rfl:fn=Tryd.f8:=(Option.some.inj (Tryd.func8.symm.trans hfn)).symm;exact⟨by kernel_rfl,fun j t ht=>by
    rw[Tryd.params8] at ht;have hm:t∈[25,79]:=(by simpa using Array.mem_of_getElem? ht);have hall:([25,79].all fun u=>!Tryd.prog.wantsStandIn u)=true:=by kernel_rfl
    exact(show Tryd.prog.wantsStandIn t=false by simpa using List.all_eq_true.1 hall t hm)⟩)
  (by kernel_rfl)
#print axioms proved
end Go.Proofs.YtfplipbkjglmhaaDoor.pressFalse
