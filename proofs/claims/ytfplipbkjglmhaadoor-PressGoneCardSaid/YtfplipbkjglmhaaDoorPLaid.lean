/-
 What the row's condition gives: the table of checks lies in memory as its initialiser lays it.
-/
import Derived.Test.YtfplipbkjglmhaaDoorRows
import Derived.Below
import Derived.ChangeSame
import Derived.ProofKit
import Derived.OpenShut
import Derived.Test.YtfplipbkjglmhaaDoorPRec
import Derived.Deep.Slices
import Derived.Deep.Fields
import Derived.Lib.SmallJoins
import Derived.Test.YtfplipbkjglmhaaDoorPChk4
import Derived.LaidMore
import Derived.Stop.Joined
namespace Go.Proofs.YtfplipbkjglmhaaDoor
open Go.RowKit Go.WideShapes Go.ChangeShapes Go.ChangeAt
theorem own:ownKnob Tryd.prog.godebug=none:=by kernel_rfl
section
variable {H:Type} {enc:TypeId×Value→H} {P:Program}
theorem post_below{f:Func}{s:ChangeSpec}{apart fresh handsOn again:Bool}{W W':World}{args:Array Value}{v:Value}{ds gs:List (DataW H)}{before pa pv:List MemPlace}
  (hW:DataW.Whole enc P f.params.toList s.vars apart W args.toList ds gs before)
  (hres:∀(b:Nat) (sp:Nat→Bool) (hd:Bool),DataW.TrodAll enc P W' b sp hd f.resultTypes.toList (v.resultList f.resultTypes.size) (s.fn H (ds++gs)).results [])
  (hargs:∀sp:Nat→Bool,(∀p∈before,sp p.block=true)→DataW.TrodAll enc P W' 0 sp true f.params.toList args.toList (s.fn H (ds++gs)).args pa)
  (hvars:∀sp:Nat→Bool,(∀p∈before,sp p.block=true)→DataW.TrodVars enc P W' sp s.vars (s.fn H (ds++gs)).vars pv)
  (hps:before=pa++pv) (hb:Below W.heap.size W W')
  (hok:∀(j:Nat) (t:TypeId) (r:Value),f.resultTypes[j]? = some t→(v.resultList f.resultTypes.size)[j]? = some r→Value.okWide P W' .any 0 t r) :
  s.post enc P f apart fresh handsOn again W args v W':=by
 have hlt:∀p∈before,p.block<W.heap.size:=fun p hp=>hW.lt p hp;have hold:∀p∈before,(fun b=>decide (b<W.heap.size)) p.block=true:=fun p hp=>by simpa using hlt p hp
 refine⟨ds,gs,before,[],pa,pv,hW,hres _ _ _,hargs _ hold,hvars _ hold,World.keptBut_mono (fun p hp=>⟨hp,?_⟩) (hb.frame (·∈before)),fun _=>?_⟩
 ·rw[hps,List.mem_append] at hp;exact Or.inr hp
 ·obtain⟨_,_,_,_,_,hz,hn⟩:=hW;refine⟨hok,_,_,([]++pa)++pv,⟨[]++pa,pv,trodAll_append (hargs _ (fun _ _=>rfl)) (hres _ _ _),hvars _ (fun _ _=>rfl),rfl,?_,?_⟩,?_⟩
  ·intro b off hp;have hin:MemPlace.cell b off∈before:=(by rw[hps];simpa using hp);rw[hb.frozen (hlt _ hin)];exact hz b off hin
  ·intro ha;have:=hn ha;rw[hps] at this;simpa using this
  ·intro p hp _;rw[hps];simpa using hp
end
end Go.Proofs.YtfplipbkjglmhaaDoor

namespace Go.Proofs.YtfplipbkjglmhaaDoor
open Go.RowKit Go.WideShapes Go.ChangeShapes Go.ChangeAt Go.Deep
set_option linter.unusedVariables false
section
variable {H:Type} {enc:TypeId×Value→H} {P:Program}
theorem trodAll_stays(hl:laidOutB P=true){W W':World}{sp':Nat→Bool} :
  ∀{ts:List TypeId} {vs:List Value} {ds:List (DataW H)} {ps:List MemPlace},(∀t∈ts,P.readableRec t=true∧t<P.types.size)→
   DataW.TrodAll enc P W 0 (fun _=>true) true ts vs ds ps→(∀p∈ps,W.sameAt W' p)→(∀p∈ps,sp' p.block=true)→DataW.TrodAll enc P W' 0 sp' true ts vs ds ps
 |[],vs,ds,ps,_,h,_,_=>by
  obtain⟨rfl,rfl,rfl⟩:=trodAll_nil h;exact trodAll_mk0
 |t::ts,vs,ds,ps,ht,h,hsame,hs=>by
  obtain⟨v,vs',d,ds',p,q,rfl,rfl,rfl,h1,h2⟩:=trodAll_cons h
  refine trodAll_cons_mk (WideElems.Trod_stays hl (ht t (by simp)).1 (ht t (by simp)).2 h1 (fun x hx=>hsame x (by simp[hx])) (fun x hx=>hs x (by simp[hx])))
   (trodAll_stays hl (fun u hu=>ht u (by simp[hu])) h2 (fun x hx=>hsame x (by simp[hx])) (fun x hx=>hs x (by simp[hx])))
end
theorem cell_lt{w:World}{p:Addr}{v:Value}(h:w.cell? p=some v):p.block<w.heap.size:=by
 rcases Nat.lt_or_ge p.block w.heap.size with hlt|hge
 ·exact hlt
 ·have:w.heap[p.block]? = none:=Array.getElem?_eq_none hge;simp[World.cell?,this] at h
theorem list_of{α:Type}(Q:Nat→α→Prop):∀n:Nat,(∀i,i<n→∃x,Q i x)→∃l:List α,l.length=n∧∀i x,l[i]? = some x→Q i x
 |0,_=>⟨[],rfl,fun i x h=>by simp at h⟩
 |n+1,h=>by
  obtain⟨l,hl,hq⟩:=list_of Q n (fun i hi=>h i (by omega));obtain⟨x,hx⟩:=h n (by omega);refine⟨l ++ [x],by simp[hl],fun i y hy=>?_⟩;rcases Nat.lt_or_ge i n with h1|h1
  ·rw[List.getElem?_append_left (by omega)] at hy;exact hq i y hy
  ·rw[List.getElem?_append_right (by omega)] at hy;have hi:i - l.length=0:=by
    rcases Nat.eq_zero_or_pos (i - l.length) with h2|h2
    ·exact h2
    ·rw[List.getElem?_eq_none (by simp;omega)] at hy;cases hy
   rw[hi] at hy;simp at hy;have:i=n:=(by omega);subst this;subst hy;exact hx
theorem Reads.of_recs{α:Type}{w:World}{B b o m:Nat}{f:α→List Value}{l:List α}(hm:∀x,(f x).length=m)(h0:0<m)(hb:0<l.length→b<B)
  (h:∀k x,l[k]? = some x→∀j u,(f x)[j]? = some u→w.cell? ⟨b,o+(k*m+j),none⟩=some u):Reads w B m (some ⟨b,o,none⟩) l.length (l.flatMap f):=by
 refine⟨flat_len f m hm l,fun hn=>⟨b,o,rfl,hb hn,fun j u hu=>?_⟩⟩;have hj:j=j/m*m+j%m:=by rw[Nat.mul_comm];exact(Nat.div_add_mod j m).symm
 rw[hj,flat_get f m hm l _ _ (Nat.mod_lt _ h0)] at hu;obtain⟨x,hx,hu'⟩:=Option.bind_eq_some_iff.1 hu;rw[hj];exact h _ x hx _ u hu'
section
variable {H:Type} {enc:TypeId×Value→H} {P:Program} {w:World} {base:Nat} {spare:Nat→Bool} {held:Bool}
theorem open_recs{α:Type}{t e:TypeId}{m:Nat}{f:α→List Value}(hm:∀x,(f x).length=m)(h0:0<m){fuel:Nat}{v:Value}{x:DataW H×List MemPlace}(ht:P.underlying t=some (.slice e))(hC:P.cellsOf e=m)
  (hdec:∀n cs y,cs.length=m→DataW.trod enc P w base spare held n e cs=some y→∃x:α,cs=f x)
  (h:DataW.trod enc P w base spare held fuel t [v]=some x):∃A n c l,v = .slice A n c∧n≤c∧c≤maxLen∧(A=none→c=0)∧Reads w w.heap.size m A n (List.flatMap f l):=by
 rcases open_slice ht h with ⟨hcs,_⟩|⟨a,len,cap,mm,n,D,Pl,hcs,hb,hl,hcm,hmm,hx,hi⟩
 ·simp only[List.cons.injEq,and_true] at hcs;exact⟨none,0,0,[],hcs,Nat.le_refl _,by unfold maxLen;omega,fun _=>rfl,Reads.none_⟩
 ·simp only[List.cons.injEq,and_true] at hcs;rw[hC] at hi;have hel:∀i,i<len→∃x:α,∀j u,(f x)[j]? = some u→w.cell? (a.add (i*m+j))=some u:=fun i hil=>by
   obtain⟨cs',hc,ht'⟩:=hi i (by rw[hmm];split<;>omega);obtain⟨_,hcl,hat⟩:=World.cells?_some hc;obtain⟨y,rfl⟩:=hdec _ _ _ hcl ht';refine⟨y,fun j u hu=>?_⟩;have hj:j<m:=(by rw[←hm y];exact(List.getElem?_eq_some_iff.1 hu).1);rw[←Go.Deep.add_add,hat j hj];exact hu
  obtain⟨l,hll,hq⟩:=list_of (fun i (x:α)=>∀j u,(f x)[j]? = some u→w.cell? (a.add (i*m+j))=some u) len hel;rcases Nat.eq_zero_or_pos len with hz|hz
  ·subst hz;exact⟨some a,0,cap,[],hcs,Nat.zero_le _,hcm,(fun h=>by cases h),⟨by simp,fun h=>absurd h (by omega)⟩⟩
  ·obtain⟨b,o,spot⟩:=a;have hx0:l[0]? = some (l[0]'(by omega)):=List.getElem?_eq_getElem _;have hc0:=hq 0 _ hx0 0 _ (List.getElem?_eq_getElem (by rw[hm];exact h0));have hs:spot=none:=(by simpa [Addr.add] using World.cell?_spot hc0);subst hs;refine⟨_,len,cap,l,hcs,hl,hcm,(fun h=>by cases h),?_⟩;have hadd:∀k,(⟨b,o,none⟩:Addr).add k = ⟨b,o+k,none⟩:=fun k=>by
    by_cases hk:k=0
    ·subst hk;simp[Addr.add]
    ·simp[Addr.add,hk]
   have hb0:b<w.heap.size:=by
    have:=cell_lt hc0;rw[hadd] at this;exact this
   have:=Reads.of_recs (w:=w) (B:=w.heap.size) (b:=b) (o:=o) (m:=m) (f:=f) (l:=l) hm h0 (fun _=>hb0) (fun k x hx j u hu=>by rw[←hadd];exact hq k x hx j u hu);rw[hll] at this;exact this
end
section
variable {H:Type} {enc:TypeId×Value→H} {w:World} {base:Nat} {spare:Nat→Bool} {held:Bool}
theorem cI:Tryd.prog.cellsOf 3=1:=by kernel_rfl
theorem cS:Tryd.prog.cellsOf 36=2:=by kernel_rfl
theorem cPg:Tryd.prog.cellsOf 51=4:=by kernel_rfl
theorem cWg:Tryd.prog.cellsOf 81=5:=by kernel_rfl
theorem int_of{n:Nat}{v:Value}{xs:List (DataW H×List MemPlace)}{j:Nat}(hj:j<xs.length)(h:DataW.trod enc Tryd.prog w base spare held n 3 [v]=xs[j]?):∃z,v = .int .i64 z∧(Lit.int .i64 z).wf=true:=by
 rw[List.getElem?_eq_getElem hj] at h;obtain⟨z,e,_,hw⟩:=DataW.trod_int Tryd.underlying3 h;simp only[List.cons.injEq,and_true] at e;exact⟨z,e,hw⟩
theorem dec_pg(n:Nat)(cs:List Value)(y:DataW H×List MemPlace)(hl:cs.length=4)(h:DataW.trod enc Tryd.prog w base spare held n 51 cs=some y):∃x:PR,cs=pgc x:=by
 match cs,hl with
 |[v0,v1,v2,v3],_=>
  obtain⟨xs,k,_,_,_,hxl,hf⟩:=DataW.trod_struct Tryd.underlying51 h;have h0:DataW.trod enc Tryd.prog w base spare held k 3 ((([v0,v1,v2,v3]:List Value).drop 0).take (Tryd.prog.cellsOf 3))=xs[0]?:=hf 0 _ rfl;have h1:DataW.trod enc Tryd.prog w base spare held k 3 ((([v0,v1,v2,v3]:List Value).drop 1).take (Tryd.prog.cellsOf 3))=xs[1]?:=hf 1 _ rfl;have h2:DataW.trod enc Tryd.prog w base spare held k 3 ((([v0,v1,v2,v3]:List Value).drop 2).take (Tryd.prog.cellsOf 3))=xs[2]?:=hf 2 _ rfl;have h3:DataW.trod enc Tryd.prog w base spare held k 3 ((([v0,v1,v2,v3]:List Value).drop 3).take (Tryd.prog.cellsOf 3))=xs[3]?:=hf 3 _ rfl;simp only[cI,List.drop_zero,List.drop_succ_cons,List.take_succ_cons,List.take_zero] at h0 h1 h2 h3;have hxl':xs.length=4:=hxl;obtain⟨z0,rfl,-⟩:=int_of (by omega) h0;obtain⟨z1,rfl,-⟩:=int_of (by omega) h1;obtain⟨z2,rfl,-⟩:=int_of (by omega) h2;obtain⟨z3,rfl,-⟩:=int_of (by omega) h3;exact⟨(z0,z1,z2,z3),rfl⟩
theorem dec_sp(n:Nat)(v0 v1:Value)(y:DataW H×List MemPlace)(h:DataW.trod enc Tryd.prog w base spare held n 36 [v0,v1]=some y):∃a b,v0 = .int .i64 a∧v1 = .int .i64 b:=by
 obtain⟨xs,k,_,_,_,hxl,hf⟩:=DataW.trod_struct Tryd.underlying36 h;have h0:DataW.trod enc Tryd.prog w base spare held k 3 ((([v0,v1]:List Value).drop 0).take (Tryd.prog.cellsOf 3))=xs[0]?:=hf 0 _ rfl;have h1:DataW.trod enc Tryd.prog w base spare held k 3 ((([v0,v1]:List Value).drop 1).take (Tryd.prog.cellsOf 3))=xs[1]?:=hf 1 _ rfl;simp only[cI,List.drop_zero,List.drop_succ_cons,List.take_succ_cons,List.take_zero] at h0 h1;have hxl':xs.length=2:=hxl;obtain⟨z0,rfl,-⟩:=int_of (by omega) h0;obtain⟨z1,rfl,-⟩:=int_of (by omega) h1;exact⟨z0,z1,rfl,rfl⟩
theorem dec_wg(n:Nat)(cs:List Value)(y:DataW H×List MemPlace)(hl:cs.length=5)(h:DataW.trod enc Tryd.prog w base spare held n 81 cs=some y):∃x:WE,cs=wgc x:=by
 match cs,hl with
 |[v0,v1,v2,v3,v4],_=>
  obtain⟨xs,k,_,_,_,hxl,hf⟩:=DataW.trod_struct Tryd.underlying81 h;have h0:DataW.trod enc Tryd.prog w base spare held k 3 ((([v0,v1,v2,v3,v4]:List Value).drop 0).take (Tryd.prog.cellsOf 3))=xs[0]?:=hf 0 _ rfl;have h1:DataW.trod enc Tryd.prog w base spare held k 3 ((([v0,v1,v2,v3,v4]:List Value).drop 1).take (Tryd.prog.cellsOf 3))=xs[1]?:=hf 1 _ rfl;have h2:DataW.trod enc Tryd.prog w base spare held k 3 ((([v0,v1,v2,v3,v4]:List Value).drop 2).take (Tryd.prog.cellsOf 3))=xs[2]?:=hf 2 _ rfl;have h3:DataW.trod enc Tryd.prog w base spare held k 36 ((([v0,v1,v2,v3,v4]:List Value).drop 3).take (Tryd.prog.cellsOf 36))=xs[3]?:=hf 3 _ rfl;simp only[cI,cS,List.drop_zero,List.drop_succ_cons,List.take_succ_cons,List.take_zero] at h0 h1 h2 h3;have hxl':xs.length=4:=hxl;obtain⟨z0,rfl,-⟩:=int_of (by omega) h0;obtain⟨z1,rfl,-⟩:=int_of (by omega) h1;obtain⟨z2,rfl,-⟩:=int_of (by omega) h2;rw[List.getElem?_eq_getElem (by omega)] at h3;obtain⟨a,b,rfl,rfl⟩:=dec_sp _ _ _ _ h3;exact⟨(z0,z1,z2,a,b),rfl⟩
end
end Go.Proofs.YtfplipbkjglmhaaDoor

namespace Go.Proofs.YtfplipbkjglmhaaDoor
open Go.RowKit Go.WideShapes Go.ChangeShapes Go.ChangeAt
set_option linter.unusedVariables false
theorem gChecks:Tryd.prog.globalNamed "oilcake/press.checks" = some 0:=by kernel_rfl
theorem tChecks:(Tryd.prog.globals[0]?).map (·.type)=some 150:=by kernel_rfl
theorem cChecks:Tryd.prog.cellsOf 149=1:=by kernel_rfl
theorem cFn:Tryd.prog.cellsOf 28=1:=by kernel_rfl
theorem c3Checks:Tryd.prog.cellsOf 150=3:=by kernel_rfl
theorem list3{α:Type}{l:List α}(h:l.length=3):∃a b c,l = [a,b,c]:=by
 match l,h with
 |[a,b,c],_=>exact⟨a,b,c,rfl⟩
abbrev laidList:List (String×DataW Unit):=[("oilcake/press.checks",Rows.laid_oilcake_press_checks)]
theorem door_met(os:Os)(args:Array Value):laidMetH Tryd.prog laidList ((World.doorLaid Tryd.prog 25 os).forCall (fun _ _=>0) ⟨#[],args,[]⟩).memory:=
 laidMetH_of_parts3 (fuel:=8) (laidMet_of_run' 8 (by kernel_rfl) (by kernel_rfl)) (by kernel_rfl) (by kernel_rfl)
theorem one_fn{W:World}{n:Nat}{v:Value}{ps:List MemPlace}{b:UInt8}{r:List UInt8}{f0:FuncId}
  (hone:((List.range Tryd.prog.funcs.size).filter fun f=>(Tryd.prog.funcs[f]?).any (·.name.toUTF8.data.toList==b::r)) = [f0])
  (h:DataW.trod (funcToken Tryd.prog) Tryd.prog W 0 (fun _=>true) true n 149 [v]=some (.agg [.held (b::r)],ps)):v = .func (.func f0) #[] #[]:=by
 obtain⟨y0,m,hx,hl,h0⟩:=trod_struct1 Tryd.underlying149 h;simp only[Prod.mk.injEq,DataW.agg.injEq,List.cons.injEq,and_true] at hx;obtain⟨hy,-⟩:=hx;obtain⟨y1,y2⟩:=y0;simp only at hy;subst hy;simp only[cFn,List.drop_zero,List.take_succ_cons,List.take_zero] at h0;exact func_of_trod Tryd.underlying28 hone h0
theorem laid_of{W:World}(h:laidMetH Tryd.prog laidList W):Laid W:=by
 obtain⟨g,t,cs,fuel,p,hg,ht,hv,hd⟩:=h.funcs (List.mem_singleton.2 rfl);obtain rfl:=Option.some.inj (gChecks.symm.trans hg);obtain rfl:=Option.some.inj (tChecks.symm.trans ht);have hd':DataW.trod (funcToken Tryd.prog) Tryd.prog W 0 (fun _=>true) true fuel 150 cs.toList=some (.agg [.agg [.held [111,105,108,99,97,107,101,47,112,114,101,115,115,46,99,104,101,99,107,115,36,49]],.agg [.held [111,105,108,99,97,107,101,47,112,114,101,115,115,46,99,104,101,99,107,115,36,50]],.agg [.held [111,105,108,99,97,107,101,47,112,114,101,115,115,46,99,104,101,99,107,115,36,51]]],p):=hd;obtain⟨xs,m,_,hx,hl,hxl,hi⟩:=DataW.trod_array Tryd.underlying150 hd';rw[c3Checks] at hl;obtain⟨l⟩:=cs;obtain⟨v0,v1,v2,rfl⟩:=list3 hl;obtain⟨y0,y1,y2,rfl⟩:=list3 hxl;clear hd hl hxl;simp only[Prod.mk.injEq,List.map_cons,List.map_nil,DataW.agg.injEq,List.cons.injEq,and_true] at hx;obtain⟨⟨e0,e1,e2⟩,-⟩:=hx;have h0:=hi 0 (by omega);have h1:=hi 1 (by omega);have h2:=hi 2 (by omega);obtain⟨a0,a1⟩:=y0;obtain⟨b0,b1⟩:=y1;obtain⟨d0,d1⟩:=y2;simp only at e0 e1 e2;subst e0 e1 e2;simp only[cChecks,Nat.mul_one,List.drop_zero,List.drop_succ_cons,List.take_succ_cons,List.take_zero,List.getElem?_cons_zero,List.getElem?_cons_succ] at h0 h1 h2;have w0:=one_fn (f0:=137) (by kernel_rfl) h0;have w1:=one_fn (f0:=138) (by kernel_rfl) h1;have w2:=one_fn (f0:=139) (by kernel_rfl) h2;have c0:=World.var?_cell hg hv 0
 have c1:=World.var?_cell hg hv 1;have c2:=World.var?_cell hg hv 2;rw[w0] at c0;rw[w1] at c1;rw[w2] at c2;exact⟨by simpa using c0,by simpa using c1,by simpa using c2,cell_lt c0⟩
end Go.Proofs.YtfplipbkjglmhaaDoor
