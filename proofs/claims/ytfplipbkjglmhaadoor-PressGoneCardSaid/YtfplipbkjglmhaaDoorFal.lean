/-
  The fewest weighings that must be false: the program's walk: a range over the iterator, whose round returns.
-/
import Derived.Test.YtfplipbkjglmhaaDoorRAsk
import Derived.Test.YtfplipbkjglmhaaDoorLead
import Derived.RangeFuncNested
import Derived.RangeFuncBound
import Derived.RangeFuncCalls
import Derived.RangeFuncLeaves
import Derived.Shelf.Abstract
import Derived.Shelf.RegionOpen
import Derived.WalkKit
import Derived.OwnWalkIn
import Derived.TacticsInMore
import Derived.LoopNIn
import Derived.LoopIn
import Derived.Test.YtfplipbkjglmhaaDoorProg
import Derived.Test.YtfplipbkjglmhaaDoorTk
import Derived.Test.YtfplipbkjglmhaaDoorMill
import Derived.Test.YtfplipbkjglmhaaDoorWith
import Derived.Test.YtfplipbkjglmhaaDoorHold
import Derived.Test.YtfplipbkjglmhaaDoorApp0
import Derived.Test.YtfplipbkjglmhaaDoorAsk
import Derived.WalkMore
import Derived.Scope
namespace Go.Proofs.YtfplipbkjglmhaaDoor
open Go.RowKit
set_option linter.unusedVariables false
set_option linter.unusedSimpArgs false
theorem okW_last{ps:List PR}{l l':Int}{x:WE}(h:okW ps l x=true)(hl:l'≤l):okW ps l' x=true:=by
  unfold okW at *;simp only[Bool.and_eq_true,decide_eq_true_eq] at *;obtain⟨⟨⟨⟨⟨⟨a,b⟩,c⟩,d⟩,e⟩,f⟩,g⟩:=h;exact⟨⟨⟨⟨⟨⟨a,by omega⟩,c⟩,d⟩,e⟩,f⟩,g⟩
theorem okW_num{ps:List PR}{l:Int}{x:WE}(h:okW ps l x=true):l<x.1:=by
  unfold okW at h;simp only[Bool.and_eq_true,decide_eq_true_eq] at h;exact h.1.1.1.1.1.2
theorem allW_less{ps:List PR}(p:WE→Bool):∀(ws:List WE) (l l':Int),allW ps l ws=true→l'≤l→allW ps l' (ws.filter p)=true
  | [],_,_,_,_=>rfl
  | x::r,l,l',h,hl=>by
    simp only[allW,Bool.and_eq_true] at h;have hn:=okW_num h.1;by_cases hp:p x=true
    · rw[List.filter_cons_of_pos hp];simp only[allW,Bool.and_eq_true];exact⟨okW_last h.1 hl,allW_less p r x.1 x.1 h.2 (Int.le_refl _)⟩
    · rw[List.filter_cons_of_neg hp];exact allW_less p r x.1 l' h.2 (by omega)
theorem lessW_len(ws:List WE)(L:List Int):(lessW ws L).length≤ws.length:=List.length_filter_le _ _
theorem valid_less{ps:List PR}{ws:List WE}(L:List Int)(h:validP ps ws=true):validP ps (lessW ws L)=true:=by
  unfold validP at *;simp only[Bool.and_eq_true,decide_eq_true_eq] at *;obtain⟨⟨⟨a,b⟩,c⟩,d⟩:=h;have:=lessW_len ws L;exact⟨⟨⟨a,by omega⟩,c⟩,allW_less _ ws 0 0 d (Int.le_refl _)⟩
theorem has_iff{ps:List PR}{ws:List WE}(h:ValidF ps ws):hasT ps ws=true↔Holds ps.length (rowsT ps ws) (upP (toT ps) (rowsT ps ws)):=by
  unfold hasT;rw[holdsB_P,holdsP_iff (fun i hi=>by have:=rows_zero h i ws.length;rw[List.take_length] at this;rw[this];simp[Ne])]
/-- The first that there is, of some numbers on. -/
def firstS {α:Type} (f:Nat→Option α):Nat→Nat→Option α
  | _,0=>none
  | i,d+1=>match f i with
    | some x=>some x
    | none=>firstS f (i+1) d
theorem firstS_some{α:Type}{f:Nat→Option α}{i d:Nat}{x:α}(h:f i=some x):firstS f i (d+1)=some x:=by unfold firstS;rw[h]
theorem firstS_none{α:Type}{f:Nat→Option α}{i d:Nat}(h:f i=none):firstS f i (d+1)=firstS f (i+1) d:=by
  show (match f i with|some x=>some x|none=>firstS f (i+1) d)=_;rw[h]
def nmW (ws:List WE) (i:Nat):Int:=match ws[i]? with|some x=>x.1|none=>0
theorem nmW_at{ws:List WE}{i:Nat}{x:WE}(h:ws[i]? = some x):nmW ws i=x.1:=by unfold nmW;rw[h]
/-- The first list of so many weighings more, of those from a place on, without which there is a truth. -/
def strk (ps:List PR) (ws:List WE):Nat→Nat→List Int→Option (List Int)
  | 0,_,l=>if hasT ps (lessW ws l) then some l else none
  | m+1,from_,l=>firstS (fun i=>strk ps ws m (i+1) (l ++ [nmW ws i])) from_ (ws.length - from_)
theorem strk_0{ps:List PR}{ws:List WE}(f:Nat)(l:List Int):strk ps ws 0 f l=if hasT ps (lessW ws l) then some l else none:=rfl
theorem strk_S{ps:List PR}{ws:List WE}(m f:Nat)(l:List Int):strk ps ws (m+1) f l=firstS (fun i=>strk ps ws m (i+1) (l ++ [nmW ws i])) f (ws.length - f):=rfl
theorem strk_end{ps:List PR}{ws:List WE}(m:Nat){f:Nat}(l:List Int)(h:ws.length≤f):strk ps ws (m+1) f l=none:=by
  rw[strk_S,show ws.length - f=0 by omega];rfl
theorem strk_hit{ps:List PR}{ws:List WE}(m:Nat){f:Nat}(l:List Int)(h:f<ws.length){r:List Int}(hr:strk ps ws m (f+1) (l ++ [nmW ws f])=some r):strk ps ws (m+1) f l=some r:=by
  rw[strk_S];obtain⟨d,hd⟩:∃d,ws.length - f=d+1:=⟨ws.length - f - 1,by omega⟩;rw[hd];exact firstS_some hr
theorem strk_miss{ps:List PR}{ws:List WE}(m:Nat){f:Nat}(l:List Int)(h:f<ws.length)(hr:strk ps ws m (f+1) (l ++ [nmW ws f])=none):strk ps ws (m+1) f l=strk ps ws (m+1) (f+1) l:=by
  rw[strk_S,strk_S];obtain⟨d,hd⟩:∃d,ws.length - f=d+1:=⟨ws.length - f - 1,by omega⟩;rw[hd,show ws.length - (f+1)=d by omega];exact firstS_none hr
/-- Of how many on it is asked. -/
def falF (ps:List PR) (ws:List WE) (m d:Nat):Option (List Int):=firstS (fun q=>strk ps ws q 0 []) m d
def falS (ps:List PR) (ws:List WE):Option (List Int):=falF ps ws 0 4
def falE (ps:List PR) (ws:List WE):Int:=if validP ps ws then match falS ps ws with|some _=>0|none=>4 else 20
def falL (ps:List PR) (ws:List WE):List Int:=if validP ps ws then(falS ps ws).getD [] else []
theorem fal_hit{ps:List PR}{ws:List WE}{m d:Nat}{r:List Int}(h:strk ps ws m 0 []=some r):falF ps ws m (d+1)=some r:=firstS_some (f:=fun q=>strk ps ws q 0 []) h
theorem fal_miss{ps:List PR}{ws:List WE}{m d:Nat}(h:strk ps ws m 0 []=none):falF ps ws m (d+1)=falF ps ws (m+1) d:=firstS_none (f:=fun q=>strk ps ws q 0 []) h
theorem fal_some{ps:List PR}{ws:List WE}{r:List Int}(hv:validP ps ws=true)(h:falS ps ws=some r):falE ps ws=0∧falL ps ws=r:=by
  unfold falE falL;rw[hv,h];exact⟨rfl,rfl⟩
theorem fal_none{ps:List PR}{ws:List WE}(hv:validP ps ws=true)(h:falS ps ws=none):falE ps ws=4∧falL ps ws = []:=by
  unfold falE falL;rw[hv,h];exact⟨rfl,rfl⟩
theorem fal_bad{ps:List PR}{ws:List WE}(hv:validP ps ws=false):falE ps ws=20∧falL ps ws = []:=by
  unfold falE falL;rw[hv];exact⟨rfl,rfl⟩
/-- What a weight rests on. -/
def rstP (ps:List PR) (ws:List WE) (i k:Nat) (x:WE):Bool:=decide (spanSp ps (lessW ws [x.1]) i k≠spanSp ps ws i k)
def rstS (ps:List PR) (ws all:List WE) (i k:Nat):List Int:=(all.filter (rstP ps ws i k)).map fun x=>x.1
def rstL (ps:List PR) (ws:List WE) (id kind:Int):List Int:=if askE ps ws id kind=0 then rstS ps ws ws (idxP ps id).toNat kind.toNat else []
theorem rst_step{ps:List PR}{ws:List WE}{i k j:Nat}{x:WE}(hx:ws[j]? = some x):rstS ps ws (ws.take (j+1)) i k=rstS ps ws (ws.take j) i k++(if rstP ps ws i k x then [x.1] else []):=by
  unfold rstS;rw[List.take_add_one,hx,List.filter_append,List.map_append];congr 1;cases hp:rstP ps ws i k x<;>simp[hp]
end Go.Proofs.YtfplipbkjglmhaaDoor
namespace Go.Proofs.YtfplipbkjglmhaaDoor
open Go.RowKit Go.Shelf
set_option linter.unusedVariables false
set_option linter.unusedSimpArgs false
attribute [local go_sem] Oper.semAt_some
theorem roomW(k:Nat):Fence.wide.room k:=fun d h=>by cases h
theorem YieldAt.anyW{m:Nat}(m':Nat){P:Program}{l:Nat}{args:Array Value}{W:World}{R:Ending→World→Prop}(h:YieldAt Fence.wide m P l args W R):YieldAt Fence.wide m' P l args W R:=by
  obtain⟨fn,tmps,assign,body,hy,hR⟩:=h;exact⟨fn,tmps,assign,body,hy,hR.1,fun c cs _=>hR.2 c cs (roomW _)⟩
set_option maxRecDepth 100000 in
set_option maxHeartbeats 1000000 in
theorem add0_any (l yb pb ab : Nat) (A : Option Addr) (m c : Nat) (f : Int) (W : World) (R : Bool → World → Prop) (hc : W.cell? ⟨yb, 0, none⟩ = some (.func (.yield l) #[] #[]))
    (hY:YieldAt Fence.wide 0 Tryd.prog l #[.slice A m c] W fun e W'=>∃b,e = .returned (.bool b)∧R b W') :
    Calls Tryd.prog 111 #[.slice A m c,.int .i64 0,.int .i64 f,.pointer (some ⟨yb,0,none⟩),.pointer (some ⟨pb,0,none⟩),.pointer (some ⟨ab,0,none⟩)] W fun e W'=>∃b,e = .returned (.bool b)∧R b W':=by
  obtain⟨fn,tmps,assign,body,hy,hR⟩:=YieldAt.anyW 2 hY;refine(callsIn_wide (n:=3)).1 ?_;refine callsIn_of_wp Tryd.func111 rfl trivial ?_ rfl;simp only[Tryd.ntmps111,List.size_toArray,List.length_cons,List.length_nil,Nat.reduceAdd,Nat.reduceSub,Array.replicate_succ,Array.replicate_zero,List.push_toArray,List.append_toArray,List.nil_append,List.cons_append]
  gi_wp2_with (refine hR.mono ?_;clear hR;rintro e W2 ⟨b,rfl,hb⟩)
  trace_state
  go_ret;exact⟨_,rfl,hb⟩
end Go.Proofs.YtfplipbkjglmhaaDoor
namespace Go.Proofs.YtfplipbkjglmhaaDoor
open Go.RowKit
set_option linter.unusedVariables false
set_option linter.unusedSimpArgs false
/-- What a round does with a list: it goes on unless there is a truth without it. -/
def RoundOk (l:Nat) (Ds:List Nat) (ps:List PR) (ws:List WE) (JJ:World→Prop) (Jx:List Int→World→Prop):Prop:=
  ∀(L:List Int) (A:Option Addr) (m c:Nat) (W:World),JJ W→m≤3→Reads W W.heap.size 1 A m (ints L)→(∀p,A=some p→0<m→l<p.block)→YieldAt Fence.wide 0 Tryd.prog l #[.slice A m c] W fun e W'=>
    ∃b,e = .returned (.bool b)∧Kp W.heap.size Ds W W'∧((hasT ps (lessW ws L)=false∧b=true∧JJ W')∨(hasT ps (lessW ws L)=true∧b=false∧Jx L W'))
theorem cloneI_any (A : Option Addr) (n c : Nat) (xs : List Int) (w : World) (hn : n ≤ 4096) (hR : Reads w w.heap.size 1 A n (ints xs)) :
    Calls Tryd.prog 66 #[.slice A n c] w fun e w'=>∃v,e = .returned v∧w'.ownsRow w.heap.size 3 1 v n (ints xs)∧Below w.heap.size w w':=by
  have he:=fun w=>Lib.run_eql_slice_nil (P:=Tryd.prog) w 46 3 A n c 0 0 Tryd.underlying46;cases A with
  | none=>
    have hn0:n=0:=by
      rcases Nat.eq_zero_or_pos n with h|h
      · exact h
      · obtain⟨b,o,h',_⟩:=hR.2 h;cases h'
    subst hn0;have hx:xs = []:=(by have:=hR.1;simpa using this);subst hx;clear hR
    go_enter Tryd.func66,Tryd.ntmps66
    go_wp2;go_ret;exact⟨_,rfl,World.ownsRow_nil _ _ _ _,Below.refl _ _⟩
  | some ad=>
    obtain⟨i0,hi,hz0,hz1,hz2⟩:=info_parts info_int
    go_enter Tryd.func66,Tryd.ntmps66
    go_wp2_with (first
      | (at_builtin;refine wpList_app _ rfl _ _ 46 rfl w.heap.size 3 i0 _ 1 8 Tryd.underlying46 hi hz0 hz1 hz2 rfl (by decide) _ _ _ rfl (World.ownsRow_lit w #[] 0 (Nat.le_refl _) (by unfold maxLen;omega) rfl) w.heap.size (some ad) n c _ rfl (hR.alloc (Nat.le_refl _) _) (ints_one _) ?c3 ?c4 ?c5 ?_))
    case c3=>unfold maxLen;omega
    case c4=>omega
    case c5=>simp
    intro v' w' hown hgr hat;go_wp2;go_ret;refine⟨_,rfl,by simpa using hown,((Below.refl _ _).alloc (Nat.le_refl _) _).grown hgr (by simp) (fun k hk=>?_)⟩;simp[Value.ownBlock] at hk;omega
/-- What the iterator reads. -/
structure AC (l:Nat) (Ds:List Nat) (yb pb ab:Nat) (A A':Option Addr) (n c n' c':Nat) (ws:List WE) (W:World):Prop where
  y:W.heap[yb]? = some (.cells #[.func (.yield l) #[] #[]] 169 (0,0))
  p:W.heap[pb]? = some (.cells #[.slice A n c,.slice A' n' c'] 25 (0,0))
  a:W.heap[ab]? = some (.cells #[.func (.func 111) #[] #[.pointer (some ⟨yb,0,none⟩),.pointer (some ⟨pb,0,none⟩),.pointer (some ⟨ab,0,none⟩)]] 170 (0,0))
  w:RdX Ds W W.heap.size 5 A' n' (wgs ws)
  ny:yb ∉ Ds
  np:pb ∉ Ds
  na:ab ∉ Ds
  ds:∀d∈Ds,d≤l
  ll:l<W.heap.size
theorem AC.keep{l:Nat}{Ds:List Nat}{yb pb ab:Nat}{A A':Option Addr}{n c n' c':Nat}{ws:List WE}{W W':World}(h:AC l Ds yb pb ab A A' n c n' c' ws W)(hk:Kp W.heap.size Ds W W'):AC l Ds yb pb ab A A' n c n' c' ws W':=by
  have hb:∀(b:Nat) (o:Obj),W.heap[b]? = some o→b ∉ Ds→W'.heap[b]? = some o:=fun b o h1 h2=>(hk.block b (Array.getElem?_eq_some_iff.1 h1).1 h2).trans h1
  exact⟨hb _ _ h.y h.ny,hb _ _ h.p h.np,hb _ _ h.a h.na,(h.w.keep hk (Nat.le_refl _) (fun d hd=>Or.inl hd)).more hk.size,h.ny,h.np,h.na,h.ds,Nat.lt_of_lt_of_le h.ll hk.size⟩
theorem one_facts{x:World}{b:Nat}{c0:Value}{t:TypeId}(h:x.heap[b]? = some (.cells #[c0] t (0,0))):x.cell? ⟨b,0,none⟩=some c0∧x.frozen? ⟨b,0,none⟩=false:=
  ⟨by simp[World.cell?,h],by simp[World.frozen?,h]⟩
set_option maxRecDepth 100000 in
set_option maxHeartbeats 4000000 in
theorem add_any (l : Nat) (Ds : List Nat) (yb pb ab : Nat) (A A' : Option Addr) (n c n' c' : Nat) (ps : List PR) (ws : List WE) (JJ : World → Prop) (Jx : List Int → World → Prop) (hJ : ∀ W W', JJ W → Below W.heap.size W W' → JJ W') (hY : RoundOk l Ds ps ws JJ Jx) (hn' : n' ≤ 30) :
    ∀(mo:Nat) (f:Nat) (L:List Int) (A1:Option Addr) (m c1:Nat) (W:World),JJ W→AC l Ds yb pb ab A A' n c n' c' ws W→f≤n'→m+mo≤3→Reads W W.heap.size 1 A1 m (ints L)→(∀p,A1=some p→0<m→l<p.block)→
      Calls Tryd.prog 111 #[.slice A1 m c1,.int .i64 (mo:Nat),.int .i64 (f:Nat),.pointer (some ⟨yb,0,none⟩),.pointer (some ⟨pb,0,none⟩),.pointer (some ⟨ab,0,none⟩)] W fun e W'=>
        e = .returned (.bool (strk ps ws mo f L).isNone)∧Kp W.heap.size Ds W W'∧(strk ps ws mo f L=none→JJ W')∧(∀r,strk ps ws mo f L=some r→Jx r W')
  | 0,f,L,A1,m,c1,W,hJW,hAC,hf,hm,hL,hA=>by
    obtain⟨y0,-⟩:=one_facts hAC.y;refine(add0_any l yb pb ab A1 m c1 f W (fun b W'=>Kp W.heap.size Ds W W'∧((hasT ps (lessW ws L)=false∧b=true∧JJ W')∨(hasT ps (lessW ws L)=true∧b=false∧Jx L W'))) y0 (hY L A1 m c1 W hJW (by omega) hL hA)).mono ?_;rintro e W' ⟨b,rfl,hk,(⟨hT,rfl,hj⟩|⟨hT,rfl,hj⟩)⟩
    · have hs:strk ps ws 0 f L=none:=(by rw[strk_0,hT];rfl);rw[hs];exact⟨rfl,hk,fun _=>hj,fun r h=>by cases h⟩
    · have hs:strk ps ws 0 f L=some L:=(by rw[strk_0,hT];rfl);rw[hs];exact⟨rfl,hk,fun h=>(by cases h),fun r h=>by cases h;exact hj⟩
  | mo+1,f,L,A1,m,c1,W,hJW,hAC,hf,hm,hL,hA=>by
    have ih:=Lib.hid (add_any l Ds yb pb ab A A' n c n' c' ps ws JJ Jx hJ hY hn' mo);obtain⟨i0,hi,hz0,hz1,hz2⟩:=info_parts info_int;have hJ0:=Lib.hid hJW;have HAC:=Lib.hid (fun z (hz:Hid (Kp W.heap.size Ds W z))=>hAC.keep hz.out);have HL0:Hid (RdX Ds W W.heap.size 1 A1 m (ints L)):=⟨hL,fun p hp hn hd=>by have:=hA p hp hn;have:=hAC.ds _ hd;omega⟩;have hll:=hAC.ll;have hwl:Hid (ws.length=n'):=hAC.w.1.wg_len;have hAh:=Lib.hid hA;have hJh:=Lib.hid hJ;obtain⟨M,hM⟩:∃M:Int,M=((mo+1:Nat):Int):=⟨_,rfl⟩;rw[←hM];have hM1:1≤M∧M≤3:=(by omega);have hmo:¬M=0:=(by omega);have hmb:(M==0)=false:=(by simpa using hmo);have e1:=Lib.hid (show IntKind.i64.wrap (M - 1)=(mo:Int) by rw[IntWalk.i64_in _ (by omega)];omega);clear hM;clear hJW hAC hL hA hY hJ
    go_enter Tryd.func111,Tryd.ntmps111
    (go_wp2_with fail);go_loopw [10] (fun v wr=>∃wl,wl=wr∧∃i:Nat,f≤i∧i≤n'∧v = .int .i64 i∧Hid (JJ wl)∧Hid (Kp W.heap.size Ds W wl)∧Hid (strk ps ws (mo+1) f L=strk ps ws (mo+1) i L)) (fun v _=>n' - (intOf v).toNat)
    case atStart=>exact⟨_,rfl,f,Nat.le_refl _,hf,rfl,hJ0,Lib.hid (Kp.refl _ _ _),Lib.hid rfl⟩
    case round=>
      clear hJ0;obtain⟨wq,rfl,i,hfi,hin,rfl,HJr,HKr,hrel⟩:=hrel;have hACq:=HAC.out _ HKr;obtain⟨r0,r1,-,-⟩:=two_facts hACq.p;by_cases hi':i<n'
      · have hii:(i:Int)<(n':Int):=(by omega);have i0i:(0:Int)≤(i:Int):=(by omega);obtain⟨bw,ow,N,P,K,Lo,Hi,rfl,hbw,hx,y0,-,-,-,-⟩:=hACq.w.1.wg hi';have hbD:=hACq.w.2 _ rfl (by omega);simp only at hbD;have hnum:=nmW_at hx;simp only at hnum;have hmiss:=Lib.hid (fun h=>strk_miss (ps:=ps) mo L (f:=i) (by rw[hwl.out];exact hi') h);have hhit:=Lib.hid (fun r h=>strk_hit (ps:=ps) mo L (f:=i) (by rw[hwl.out];exact hi') (r:=r) h);rw[hnum] at hmiss hhit;obtain⟨a0,-⟩:=one_facts hACq.a;have hlab:ab<wq.heap.size:=(Array.getElem?_eq_some_iff.1 hACq.a).1;have hlpb:pb<wq.heap.size:=(Array.getElem?_eq_some_iff.1 hACq.p).1;have hna:=hACq.na;have hnp:=hACq.np;have e2:=Lib.hid (show IntKind.i64.wrap ((i:Int)+1)=((i+1:Nat):Int) by rw[IntWalk.i64_in _ (by omega)];omega);have HLr:=Lib.hid (fun z (hz:Hid (Kp wq.heap.size Ds wq z))=>((HL0.out.keep (HKr.out.trans (hz.out.mono HKr.out.size (fun d hd=>Or.inl hd))) (Nat.le_refl _) (fun d hd=>Or.inl hd)).1.more (Nat.le_trans HKr.out.size hz.out.size):Reads z z.heap.size 1 A1 m (ints L)))
        have HREC:=Lib.hid (fun(A2:Option Addr) (c2:Nat) (z:World) (hz:Hid (Kp wq.heap.size Ds wq z)) (hb:JJ z) (ho:z.ownsRow wq.heap.size 3 1 (.slice A2 (m+1) c2) (m+1) (ints L++ints [N]))=>
          ih.out (i+1) (L ++ [N]) A2 (m+1) c2 z hb (HAC.out z (Lib.hid (HKr.out.trans (hz.out.mono HKr.out.size (fun d hd=>Or.inl hd))))) (by omega) (by omega) (by have:=Reads.of_own ho;simpa [ints] using this) (fun p hp _=>by
            subst hp;have h1:=(ownR_lt ho rfl).1;have h2:=HKr.out.size
            omega))
        clear hx hnum;(go_wp2_with fail);have HQ:=Lib.hid (fun w' (hz:Hid (Kp wq.heap.size Ds wq w'))=>(⟨(hz.out.cell (p:=⟨ab,0,none⟩) hlab hna).trans a0,(hz.out.cell (p:=⟨pb,1,none⟩) hlpb hnp).trans r1,(hz.out.cell (p:=⟨bw,ow+i*5,none⟩) hbw hbD).trans y0⟩:w'.cell? ⟨ab,0,none⟩=some (.func (.func 111) #[] #[.pointer (some ⟨yb,0,none⟩),.pointer (some ⟨pb,0,none⟩),.pointer (some ⟨ab,0,none⟩)])∧w'.cell? ⟨pb,1,none⟩=some (.slice (some ⟨bw,ow,none⟩) n' c')∧w'.cell? ⟨bw,ow+i*5,none⟩=some (.int .i64 N)));obtain⟨S,hSd⟩:∃S:World→Prop,S=fun w'=>(w'.cell? ⟨ab,0,none⟩=some (.func (.func 111) #[] #[.pointer (some ⟨yb,0,none⟩),.pointer (some ⟨pb,0,none⟩),.pointer (some ⟨ab,0,none⟩)])∧w'.cell? ⟨pb,1,none⟩=some (.slice (some ⟨bw,ow,none⟩) n' c')∧w'.cell? ⟨bw,ow+i*5,none⟩=some (.int .i64 N))∧Hid (Kp wq.heap.size Ds wq w'):=⟨_,rfl⟩
        have HS:=Lib.hid (fun w' (hz:Hid (Kp wq.heap.size Ds wq w'))=>(by rw[hSd];exact⟨HQ.out w' hz,hz⟩:S w'));clear r0 r1 a0 y0 hACq;refine wp_region_held_drew (S:=S) (by kernel_rfl) ?_ (fun hHeld=>?_)
        · exact HS.out _ (Lib.hid (Kp.refl _ _ _).drew)
        have hKyd:Hid (Kp wq.heap.size Ds wq wq.drew):=Lib.hid (Kp.refl _ _ _).drew;have hSyd:wq.heap.size≤wq.drew.heap.size:=Nat.le_refl _;have hBl:=(Below.refl wq.heap.size wq).drew;generalize wq.drew=yd at *;refine tY (v:=?_) 0 24 ?_ ?_;rotate_left
        · intro w hSw;rw[hSd] at hSw;obtain⟨⟨q0,q1,q2⟩,-⟩:=hSw;go_simp;(try with_reducible rfl)
        (try simp only[N0]);refine tY (v:=?_) 1 25 ?_ ?_;rotate_left
        · intro w hSw;rw[hSd] at hSw;obtain⟨⟨q0,q1,q2⟩,-⟩:=hSw;go_simp;(try with_reducible rfl)
        (try simp only[N0]);refine tY (v:=?_) 3 27 ?_ ?_;rotate_left
        · intro w hSw;rw[hSd] at hSw;obtain⟨⟨q0,q1,q2⟩,-⟩:=hSw;go_simp;(try with_reducible rfl)
        (try simp only[N0]);refine tY (v:=?_) 4 28 ?_ ?_;rotate_left
        · intro w hSw;rw[hSd] at hSw;obtain⟨⟨q0,q1,q2⟩,-⟩:=hSw;go_simp;(try with_reducible rfl)
        (try simp only[N0]);refine tY (v:=?_) 5 29 ?_ ?_;rotate_left
        · intro w hSw;rw[hSd] at hSw;obtain⟨⟨q0,q1,q2⟩,-⟩:=hSw;go_simp;(try with_reducible rfl)
        (try simp only[N0]);refine tY (v:=?_) 6 30 ?_ ?_;rotate_left
        · intro w hSw;rw[hSd] at hSw;obtain⟨⟨q0,q1,q2⟩,-⟩:=hSw;go_simp;(try with_reducible rfl)
        (try simp only[N0]);refine tY (v:=?_) 7 31 ?_ ?_;rotate_left
        · intro w hSw;rw[hSd] at hSw;obtain⟨⟨q0,q1,q2⟩,-⟩:=hSw;go_simp;(try with_reducible rfl)
        (try simp only[N0]);refine tY (v:=?_) 8 32 ?_ ?_;rotate_left
        · intro w hSw;rw[hSd] at hSw;obtain⟨⟨q0,q1,q2⟩,-⟩:=hSw;go_simp;(try with_reducible rfl)
        (try simp only[N0]);refine tY (v:=?_) 11 35 ?_ ?_;rotate_left
        · intro w hSw;rw[hSd] at hSw;obtain⟨⟨q0,q1,q2⟩,-⟩:=hSw;go_simp;(try with_reducible rfl)
        (try simp only[N0]);refine tY (v:=?_) 12 36 ?_ ?_;rotate_left
        · intro w hSw;rw[hSd] at hSw;obtain⟨⟨q0,q1,q2⟩,-⟩:=hSw;go_simp;(try with_reducible rfl)
        (try simp only[N0]);refine tY (v:=?_) 13 37 ?_ ?_;rotate_left
        · intro w hSw;rw[hSd] at hSw;obtain⟨⟨q0,q1,q2⟩,-⟩:=hSw;go_simp;(try with_reducible rfl)
        (try simp only[N0]);refine tY (v:=?_) 14 38 ?_ ?_;rotate_left
        · intro w hSw;rw[hSd] at hSw;obtain⟨⟨q0,q1,q2⟩,-⟩:=hSw;go_simp;(try with_reducible rfl)
        (try simp only[N0]);refine wpAnyH_ready (rs:=[2,9]) (by kernel_rfl) (by simp) ?_;refine AllReadyH.cons (o:=_) rfl (fun Kq hK=>?_) ?_
        · go_simp;refine(cloneI_any A1 m c1 L yd (by omega) (HLr.out _ hKyd)).mono ?_;rintro e c2yd ⟨vc,rfl,hoc,hb⟩;have hKc2yd:=Lib.hid (hKyd.out.call hSyd hb);have hSc2yd:=Nat.le_trans hSyd hb.size;have HOC:=Lib.hid (Go.Joins.ownsRow_le hoc hSyd);have hBl:=hBl.trans (hb.mono hSyd);clear hoc;clear hb;(try go_simp);refine hK.out _ _ ?_ (fun hHeld=>?_)
          · exact HS.out _ hKc2yd
          clear hK Kq;(try simp only[N0]);refine wpAnyH_ready (rs:=[9]) (by kernel_rfl) (by simp) ?_;refine AllReadyH.cons (o:=_) rfl (fun Kq hK=>?_) AllReadyH.nil;replace HOC:=Lib.hid (ownR_below HOC.out ((Below.refl c2yd.heap.size c2yd).alloc (Nat.le_refl _) (.cells #[.int .i64 N] 3)));have hBl:=hBl.alloc hSc2yd (.cells #[.int .i64 N] 3);go_simp;have hOn:=heap_alloc_new c2yd (.cells #[.int .i64 N] 3);have hobn:=hSc2yd;have hKz9c2yd:=Lib.hid (hKc2yd.out.alloc hSc2yd (.cells #[.int .i64 N] 3));have hSz9c2yd:=Nat.le_trans hSc2yd ((Below.refl c2yd.heap.size c2yd).alloc (Nat.le_refl _) (.cells #[.int .i64 N] 3)).size;generalize (c2yd.alloc (.cells #[.int .i64 N] 3))=z9c2yd at *;refine hK.out _ _ ?_ (fun hHeld=>?_)
          · exact HS.out _ hKz9c2yd
          clear hK Kq;(try simp only[N0]);refine wpAnyH_ready (rs:=[10]) (by kernel_rfl) (by simp) ?_;refine AllReadyH.cons (o:=_) rfl (fun Kq hK=>?_) AllReadyH.nil;refine step_app _ rfl _ _ 46 rfl wq.heap.size 3 i0 _ 1 8 Tryd.underlying46 hi hz0 hz1 hz2 rfl (by decide) vc m (ints L) rfl HOC.out _ (some ⟨c2yd.heap.size,0,none⟩) 1 1 (ints [N]) rfl (rd_one hOn) (ints_one _) (by unfold maxLen;omega) (by omega) hSz9c2yd ?_;intro v' a10z9c2yd hown hgr hat;clear hat;obtain⟨A2,c2,rfl⟩:=ownR_val hown;have hKa10z9c2yd:=Lib.hid (hKz9c2yd.out.grown hgr hSz9c2yd (fun q hq=>Or.inr (ownR_lt HOC.out hq).1));have hSa10z9c2yd:=Nat.le_trans hSz9c2yd hgr.size;have HO2:=Lib.hid hown;have hBl:=hBl.grown hgr hSz9c2yd (fun q hq=>(ownR_lt HOC.out hq).1);clear hown hgr;refine hK.out _ _ ?_ (fun hHeld=>?_)
          · exact HS.out _ hKa10z9c2yd
          clear hK Kq;(try simp only[N0]);refine wpAnyH_ready (rs:=[15]) (by kernel_rfl) (by simp) ?_;refine AllReadyH.cons (o:=_) rfl (fun Kq hK=>?_) AllReadyH.nil;go_simp;rw[e1.out,e2.out];refine(HREC.out A2 c2 a10z9c2yd hKa10z9c2yd (hJh.out wq a10z9c2yd HJr.out hBl) HO2.out).mono ?_;rintro e r15a10z9c2yd ⟨rfl,hkp,hj1,hj2⟩;have hKr15a10z9c2yd:=Lib.hid (hKa10z9c2yd.out.trans (hkp.mono hSa10z9c2yd (fun d hd=>Or.inl hd)));have hSr15a10z9c2yd:=Nat.le_trans hSa10z9c2yd hkp.size;obtain⟨bb,hbb_⟩:∃x,x=(strk ps ws mo (i+1) (L ++ [N])).isNone:=⟨_,rfl⟩;rw[←hbb_];have hbb:=Lib.hid hbb_;clear hbb_;have HJ1:=Lib.hid hj1;have HJ2:=Lib.hid hj2;clear hkp hj1 hj2;(try go_simp);refine hK.out _ _ ?_ (fun hHeld=>?_)
          · exact HS.out _ hKr15a10z9c2yd
          clear hK Kq;(try simp only[N0]);refine wpAnyH_ready (rs:=[16]) (by kernel_rfl) (by simp) ?_;refine AllReadyH.cons (o:=_) rfl (fun Kq hK=>?_) AllReadyH.nil;go_simp;refine hK.out _ _ ?_ (fun hHeld=>?_)
          · exact HS.out _ hKr15a10z9c2yd
          clear hK Kq;(try simp only[N0]);refine wpAnyH_done (by kernel_rfl) ?_ _;clear HS HQ hSd HREC HLr;have hKW:=Lib.hid (HKr.out.trans (hKr15a10z9c2yd.out.mono HKr.out.size (fun d hd=>Or.inl hd)));cases bb
          · obtain ⟨r, hs⟩ : ∃ r, strk ps ws mo (i + 1) (L ++ [N]) = some r := by
              have h:=hbb.out;cases h2:strk ps ws mo (i+1) (L ++ [N]) with
              | none=>rw[h2] at h;cases h
              | some r=>exact⟨r,rfl⟩
            have hJn:=Lib.hid (HJ2.out r hs);have hst:=Lib.hid (hrel.out.trans (hhit.out r hs));clear hs HJ1 HJ2 hmiss hhit hbb;go_wp2;go_ret;exact⟨by rw[hst.out];rfl,hKW.out,fun h=>by(rw[hst.out] at h;cases h),fun r' h=>by(rw[hst.out] at h;cases h;exact hJn.out)⟩
          · have hs : strk ps ws mo (i + 1) (L ++ [N]) = none := by
              have h:=hbb.out;cases h2:strk ps ws mo (i+1) (L ++ [N]) with
              | none=>rfl
              | some r=>rw[h2] at h;cases h
            have hJn:=Lib.hid (HJ1.out hs);have hst:=Lib.hid (hrel.out.trans (hmiss.out hs));clear hs HJ1 HJ2 hmiss hhit hbb;go_wp2;go_roundw
            case rel=>exact⟨_,rfl,i+1,by omega,by omega,by go_num,hJn,hKW,hst⟩
            case measure=>simp[intOf];omega
        refine AllReadyH.cons (o:=_) rfl (fun Kq hK=>?_) AllReadyH.nil;have hBl:=hBl.alloc hSyd (.cells #[.int .i64 N] 3);go_simp;have hOn:=heap_alloc_new yd (.cells #[.int .i64 N] 3);have hobn:=hSyd;have hKz9yd:=Lib.hid (hKyd.out.alloc hSyd (.cells #[.int .i64 N] 3));have hSz9yd:=Nat.le_trans hSyd ((Below.refl yd.heap.size yd).alloc (Nat.le_refl _) (.cells #[.int .i64 N] 3)).size;generalize (yd.alloc (.cells #[.int .i64 N] 3))=z9yd at *;refine hK.out _ _ ?_ (fun hHeld=>?_)
        · exact HS.out _ hKz9yd
        clear hK Kq;(try simp only[N0]);refine wpAnyH_ready (rs:=[2]) (by kernel_rfl) (by simp) ?_;refine AllReadyH.cons (o:=_) rfl (fun Kq hK=>?_) AllReadyH.nil;go_simp;refine(cloneI_any A1 m c1 L z9yd (by omega) (HLr.out _ hKz9yd)).mono ?_;rintro e c2z9yd ⟨vc,rfl,hoc,hb⟩;have hKc2z9yd:=Lib.hid (hKz9yd.out.call hSz9yd hb);have hOn:=keepO hb hOn;have hSc2z9yd:=Nat.le_trans hSz9yd hb.size;have HOC:=Lib.hid (Go.Joins.ownsRow_le hoc hSz9yd);have hBl:=hBl.trans (hb.mono hSz9yd);clear hoc;clear hb;(try go_simp);refine hK.out _ _ ?_ (fun hHeld=>?_)
        · exact HS.out _ hKc2z9yd
        clear hK Kq;(try simp only[N0]);refine wpAnyH_ready (rs:=[10]) (by kernel_rfl) (by simp) ?_;refine AllReadyH.cons (o:=_) rfl (fun Kq hK=>?_) AllReadyH.nil;refine step_app _ rfl _ _ 46 rfl wq.heap.size 3 i0 _ 1 8 Tryd.underlying46 hi hz0 hz1 hz2 rfl (by decide) vc m (ints L) rfl HOC.out _ (some ⟨yd.heap.size,0,none⟩) 1 1 (ints [N]) rfl (rd_one hOn) (ints_one _) (by unfold maxLen;omega) (by omega) hSc2z9yd ?_;intro v' a10c2z9yd hown hgr hat;clear hat;obtain⟨A2,c2,rfl⟩:=ownR_val hown;have hKa10c2z9yd:=Lib.hid (hKc2z9yd.out.grown hgr hSc2z9yd (fun q hq=>Or.inr (ownR_lt HOC.out hq).1));have hSa10c2z9yd:=Nat.le_trans hSc2z9yd hgr.size;have HO2:=Lib.hid hown;have hBl:=hBl.grown hgr hSc2z9yd (fun q hq=>(ownR_lt HOC.out hq).1);clear hown hgr;refine hK.out _ _ ?_ (fun hHeld=>?_)
        · exact HS.out _ hKa10c2z9yd
        clear hK Kq;(try simp only[N0]);refine wpAnyH_ready (rs:=[15]) (by kernel_rfl) (by simp) ?_;refine AllReadyH.cons (o:=_) rfl (fun Kq hK=>?_) AllReadyH.nil;go_simp;rw[e1.out,e2.out];refine(HREC.out A2 c2 a10c2z9yd hKa10c2z9yd (hJh.out wq a10c2z9yd HJr.out hBl) HO2.out).mono ?_;rintro e r15a10c2z9yd ⟨rfl,hkp,hj1,hj2⟩;have hKr15a10c2z9yd:=Lib.hid (hKa10c2z9yd.out.trans (hkp.mono hSa10c2z9yd (fun d hd=>Or.inl hd)));have hSr15a10c2z9yd:=Nat.le_trans hSa10c2z9yd hkp.size;obtain⟨bb,hbb_⟩:∃x,x=(strk ps ws mo (i+1) (L ++ [N])).isNone:=⟨_,rfl⟩;rw[←hbb_];have hbb:=Lib.hid hbb_;clear hbb_;have HJ1:=Lib.hid hj1;have HJ2:=Lib.hid hj2;clear hkp hj1 hj2;(try go_simp);refine hK.out _ _ ?_ (fun hHeld=>?_)
        · exact HS.out _ hKr15a10c2z9yd
        clear hK Kq;(try simp only[N0]);refine wpAnyH_ready (rs:=[16]) (by kernel_rfl) (by simp) ?_;refine AllReadyH.cons (o:=_) rfl (fun Kq hK=>?_) AllReadyH.nil;go_simp;refine hK.out _ _ ?_ (fun hHeld=>?_)
        · exact HS.out _ hKr15a10c2z9yd
        clear hK Kq;(try simp only[N0]);refine wpAnyH_done (by kernel_rfl) ?_ _;clear HS HQ hSd HREC HLr;have hKW:=Lib.hid (HKr.out.trans (hKr15a10c2z9yd.out.mono HKr.out.size (fun d hd=>Or.inl hd)));cases bb
        · obtain ⟨r, hs⟩ : ∃ r, strk ps ws mo (i + 1) (L ++ [N]) = some r := by
            have h:=hbb.out;cases h2:strk ps ws mo (i+1) (L ++ [N]) with
            | none=>rw[h2] at h;cases h
            | some r=>exact⟨r,rfl⟩
          have hJn:=Lib.hid (HJ2.out r hs);have hst:=Lib.hid (hrel.out.trans (hhit.out r hs));clear hs HJ1 HJ2 hmiss hhit hbb;go_wp2;go_ret;exact⟨by rw[hst.out];rfl,hKW.out,fun h=>by(rw[hst.out] at h;cases h),fun r' h=>by(rw[hst.out] at h;cases h;exact hJn.out)⟩
        · have hs : strk ps ws mo (i + 1) (L ++ [N]) = none := by
            have h:=hbb.out;cases h2:strk ps ws mo (i+1) (L ++ [N]) with
            | none=>rfl
            | some r=>rw[h2] at h;cases h
          have hJn:=Lib.hid (HJ1.out hs);have hst:=Lib.hid (hrel.out.trans (hmiss.out hs));clear hs HJ1 HJ2 hmiss hhit hbb;go_wp2;go_roundw
          case rel=>exact⟨_,rfl,i+1,by omega,by omega,by go_num,hJn,hKW,hst⟩
          case measure=>simp[intOf];omega
      · obtain rfl:i=n':=(by omega);have hii:¬(i:Int)<(i:Int):=(by omega);have hend:=Lib.hid (hrel.out.trans (strk_end (ps:=ps) mo L (by rw[hwl.out];exact Nat.le_refl _)));clear hACq HAC ih hrel;go_wp2;go_ret;exact⟨by rw[hend.out];rfl,HKr.out,fun _=>HJr.out,fun r h=>by rw[hend.out] at h;cases h⟩
set_option maxRecDepth 100000 in
set_option maxHeartbeats 4000000 in
theorem lst1_any (l : Nat) (Ds : List Nat) (pb : Nat) (A' : Option Addr) (n' c' : Nat) (A : Option Addr) (n c : Nat) (ps : List PR) (ws : List WE) (JJ : World → Prop) (Jx : List Int → World → Prop) (hJ : ∀ W W', JJ W → Below W.heap.size W W' → JJ W') (hY : RoundOk l Ds ps ws JJ Jx) (hn' : n' ≤ 30)
    (W:World) (hJW:JJ W) (hpb:W.heap[pb]? = some (.cells #[.slice A n c,.slice A' n' c'] 25 (0,0))) (hnp:pb ∉ Ds) (hds:∀d∈Ds,d≤l) (hl:l<W.heap.size) (hW:RdX Ds W W.heap.size 5 A' n' (wgs ws)) :
    Calls Tryd.prog 110 #[.func (.yield l) #[] #[],.pointer (some ⟨pb,0,none⟩)] W fun e W'=>(∃v,e = .returned v)∧((falS ps ws=none∧JJ W')∨∃L,falS ps ws=some L∧Jx L W'):=by
  have hmf:∀(fn:Fn) (first cap:Array Value) (w:World),(Instr.makeFunc fn first cap).run Tryd.prog w = .ok (.func fn first cap) w:=fun _ _ _ _=>rfl;obtain⟨yb,hyb⟩:∃yb,yb=W.heap.size:=⟨_,rfl⟩;obtain⟨ab,hab⟩:∃ab,ab=W.heap.size+1:=⟨_,rfl⟩;obtain⟨wb,hwb⟩:∃z,z=(W.alloc (.cells #[.func (.yield l) #[] #[]] 169)).alloc (.cells #[.func (.func 111) #[] #[.pointer (some ⟨yb,0,none⟩),.pointer (some ⟨pb,0,none⟩),.pointer (some ⟨ab,0,none⟩)]] 170):=⟨_,rfl⟩;have hbb:Below W.heap.size W wb:=(by rw[hwb];exact((Below.refl _ _).alloc (Nat.le_refl _) _).alloc (by simp) _);have hAC:AC l Ds yb pb ab A A' n c n' c' ws wb:=by
    refine⟨?_,keepO hbb hpb,?_,?_,fun h=>?_,hnp,fun h=>?_,hds,Nat.lt_of_lt_of_le hl hbb.size⟩
    · rw[hwb,hyb,heap_lt_alloc' _ _ _ (by simp)];exact heap_alloc_new W _
    · rw[hwb];have:=heap_alloc_new (W.alloc (.cells #[.func (.yield l) #[] #[]] 169)) (.cells #[.func (.func 111) #[] #[.pointer (some ⟨yb,0,none⟩),.pointer (some ⟨pb,0,none⟩),.pointer (some ⟨ab,0,none⟩)]] 170);simp only[World.size_alloc] at this;rw[←hab] at this;exact this
    · exact(hW.keep (Kp.of_below hbb) (Nat.le_refl _) (fun d hd=>Or.inl hd)).more hbb.size
    · have:=hds _ h;omega
    · have:=hds _ h;omega
  have HJ0:=Lib.hid (hJ W wb hJW hbb);have HAC:=Lib.hid (fun z (hz:Hid (Kp wb.heap.size Ds wb z))=>hAC.keep hz.out);have HADD:=Lib.hid (fun(mo:Nat) (h3:mo≤3) (z:World) (hz:JJ z) (hc:AC l Ds yb pb ab A A' n c n' c' ws z)=>add_any l Ds yb pb ab A A' n c n' c' ps ws JJ Jx hJ hY hn' mo 0 [] none 0 0 z hz hc (Nat.zero_le _) (by omega) ⟨rfl,fun h=>absurd h (by omega)⟩ (fun p hp=>by cases hp));clear hJ hY hJW hpb hW hAC hbb
  go_enter Tryd.func110,Tryd.ntmps110
  (go_wp2_with fail);rw[←hyb,←hab] at *;rw[←hwb];clear hwb hyb hab;go_loopw [6] (fun v wr=>∃wl,wl=wr∧∃i:Nat,i≤4∧v = .int .i64 i∧Hid (JJ wl)∧Hid (Kp wb.heap.size Ds wb wl)∧Hid (falF ps ws i (4 - i)=falS ps ws)) (fun v _=>4 - (intOf v).toNat)
  case atStart=>exact⟨_,rfl,0,by omega,rfl,HJ0,Lib.hid (Kp.refl _ _ _),Lib.hid rfl⟩
  case round=>
    clear HJ0;obtain⟨wq,rfl,i,hi4,rfl,HJr,HKr,hrel⟩:=hrel;by_cases hi':i<4
    · have hii:(i:Int)<4:=(by omega);have hACq:=HAC.out _ HKr;obtain⟨a0,-⟩:=one_facts hACq.a;have hd4:4 - i=(4 - (i+1))+1:=(by omega);rw[hd4] at hrel;have hcall:=Lib.hid (HADD.out i (by omega) wq HJr.out hACq);clear hACq hd4;(go_wp2_with fail);refine hcall.out.mono ?_;rintro e wz ⟨rfl,hk,hj1,hj2⟩;have HKz:=Lib.hid (HKr.out.trans (hk.mono HKr.out.size (fun d hd=>Or.inl hd)));cases hs:strk ps ws i 0 [] with
      | none=>
        have hJn:=Lib.hid (hj1 hs);have hst:=Lib.hid ((fal_miss hs).symm.trans hrel.out);simp only[Option.isNone_none];clear hs hj1 hj2 hk hcall a0;go_wp2;go_roundw
        case rel=>exact⟨_,rfl,i+1,by omega,by go_num,hJn,HKz,hst⟩
        case measure=>simp[intOf];omega
      | some r=>
        have hJn:=Lib.hid (hj2 r hs);have hst:=Lib.hid (hrel.out.symm.trans (fal_hit hs));simp only[Option.isNone_some];clear hs hj1 hj2 hk hcall a0;go_wp2;refine bodyPost_ret (results_none rfl _ _ _) rfl ?_;exact⟨⟨_,rfl⟩,.inr ⟨r,hst.out,hJn.out⟩⟩
    · obtain rfl:i=4:=(by omega);have hii:¬(4:Int)<4:=(by omega);rw[show (((4:Nat):Nat):Int)=4 from rfl];have hst:=Lib.hid (hrel.out.symm.trans (show falF ps ws 4 (4 - 4)=none from rfl));clear hrel HADD HAC;go_wp2;refine bodyPost_end (results_none rfl _ _ _) rfl ?_;exact⟨⟨_,rfl⟩,.inl ⟨hst.out,HJr.out⟩⟩
end Go.Proofs.YtfplipbkjglmhaaDoor
namespace Go.Proofs.YtfplipbkjglmhaaDoor
open Go.RowKit Go.Shelf
set_option linter.unusedVariables false
set_option linter.unusedSimpArgs false
attribute [local go_sem] Oper.semAt_some
/-- A loop's record. -/
def rcd (fn:FuncId) (tmps:Array Value) (ps:Array Tmp) (assign body:Code) (D:Nat) (st:LoopState) (pe:Option Code):Loop:={ state:=st,pending:=pe,fn,tmps,params:=ps,assign,body,defers:=D }
/-- A range over a function, outside of any round: its function is called with yield; a pending jump is taken up behind it. -/
theorem wp_range {P : Program} {g : Operand} {ps : Array Tmp} {assign body : Code} {Q : Exit → Act → World → Prop} {a : Act} {w : World} {gf : Nat} {lb : Array Value}
    (hg:a.eval g = .func (.func gf) #[] lb) (eg:∀args w,(callFunc gf args).run P w = .ok (.enter gf args) w)
    (h:∀(fn:FuncId) (rc:LoopState→Option Code→Loop),rc=rcd fn a.tmps ps assign body w.heap.size→Calls P gf (#[.func (.yield (w.heap.size+1)) #[] #[]]++lb) ((w.alloc (.deferred (some []))).alloc (.loop (rc .ready none))) fun e w3=>(∃v,e = .returned v)∧
      ∃st pe,w3.heap[w.heap.size+1]? = some (.loop (rc st pe))∧st≠.busy∧
        (match pe with
         | none=>Q .normal { a with defers:={ target:=.collected w.heap.size,args:=#[] } :: a.defers } (w3.putObj (w.heap.size+1) (.loop (rc .exhausted pe)))
         | some c=>c.wp P Q { a with defers:={ target:=.collected w.heap.size,args:=#[] } :: a.defers } (w3.putObj (w.heap.size+1) (.loop (rc .exhausted pe))))) :
    (Code.rangeFunc g ps assign body).wp P Q a w:=by
  refine(wpIn_wide (n:=3)).1 (wpIn_rangeFunc ?_);intro fn _;obtain⟨W1,hW1⟩:∃W1,(w.alloc (.deferred (some []))).alloc (.loop (rcd fn a.tmps ps assign body w.heap.size .ready none))=W1:=⟨_,rfl⟩;have h:=h fn _ rfl;rw[hW1] at h
  refine⟨w.heap.size+1,[{ target:=.collected w.heap.size,args:=#[] }],W1,{ target:=.fn (.func gf) lb,args:=#[.func (.yield (w.heap.size+1)) #[] #[]] },W1,gf,
    #[.func (.yield (w.heap.size+1)) #[] #[]]++lb,W1,?_,?_,fun _ _=>trivial,?_,?_,?_⟩
  · rw[←hW1];exact run_enterLoop_outer _ _ _ _ _
  · simp only[resolve,hg];simp[go_sem]
  · simp[invoke,go_sem,eg]
  · intro h;cases h
  · refine callsIn_wide.2 (h.mono ?_);rintro e w3 ⟨⟨v,rfl⟩,st,pe,hl,hst,hq⟩;refine⟨pe,_,run_endLoop hl hst,?_⟩;cases pe with
    | none=>exact hq
    | some c=>exact wpIn_wide.2 hq
theorem lists_any (A A' : Option Addr) (n c n' c' : Nat) (w : World) :
    Calls Tryd.prog 86 #[.agg #[.slice A n c,.slice A' n' c']] w fun e w'=>e = .returned (.func (.func 110) #[] #[.pointer (some ⟨w.heap.size,0,none⟩)])∧w'=w.alloc (.cells #[.slice A n c,.slice A' n' c'] 25):=by
  have hmf:∀(fn:Fn) (first cap:Array Value) (w:World),(Instr.makeFunc fn first cap).run Tryd.prog w = .ok (.func fn first cap) w:=fun _ _ _ _=>rfl
  go_enter Tryd.func86,Tryd.ntmps86
  go_wp2;go_ret;exact⟨rfl,rfl⟩
theorem below_put{B:Nat}{a W:World}(h:Below B a W){l:Nat}(o:Obj)(hl:B≤l):Below B a (W.putObj l o):=
  ⟨h.os,h.tape,h.output,by simpa using h.size,fun k hk=>(World.putObj_heap_other (by omega)).trans (h.block k hk)⟩
theorem reads_put{W:World}{B size n:Nat}{A:Option Addr}{xs:List Value}(h:Reads W B size A n xs)(hs:0<size){l:Nat}{r:Loop}(o:Obj)(hl:W.heap[l]? = some (.loop r)):Reads (W.putObj l o) B size A n xs:=by
  refine⟨h.1,fun hn=>?_⟩;obtain⟨b,q,e,hb,hc⟩:=h.2 hn;have hlen:0<xs.length:=(by rw[h.1];exact Nat.mul_pos hn hs);have hne:b≠l:=by
    rintro rfl;have:=hc 0 (xs[0]) (by simp);simp[World.cell?,hl] at this
  refine⟨b,q,e,hb,fun j u hu=>?_⟩;have:=hc j u hu;simp only[World.cell?,World.putObj_heap_other hne] at this ⊢;exact this
theorem set_one{y:World}{b:Nat}{t:TypeId}{c0:Value}(h:y.heap[b]? = some (.cells #[c0] t (0,0)))(v:Value):(y.setCell ⟨b,0,none⟩ v).heap[b]? = some (.cells #[v] t (0,0)):=by
  simp[World.setCell,Array.getElem?_modify,h]
theorem reads_putD{W:World}{B size n:Nat}{A:Option Addr}{xs:List Value}(h:Reads W B size A n xs)(hs:0<size){l:Nat}{r:Option (List Deferred)}(o:Obj)(hl:W.heap[l]? = some (.deferred r)):Reads (W.putObj l o) B size A n xs:=by
  refine⟨h.1,fun hn=>?_⟩;obtain⟨b,q,e,hb,hc⟩:=h.2 hn;have hlen:0<xs.length:=(by rw[h.1];exact Nat.mul_pos hn hs);have hne:b≠l:=by
    rintro rfl;have:=hc 0 (xs[0]) (by simp);simp[World.cell?,hl] at this
  refine⟨b,q,e,hb,fun j u hu=>?_⟩;have:=hc j u hu;simp only[World.cell?,World.putObj_heap_other hne] at this ⊢;exact this
/-- Between two rounds. -/
structure FJJ (w:World) (D lp:Nat) (A A':Option Addr) (n c n' c':Nat) (rc:LoopState→Option Code→Loop) (W:World):Prop where
  lp:W.heap[lp]? = some (.loop (rc .ready none))
  d:W.heap[D]? = some (.deferred (some []))
  bel:Below w.heap.size w W
  b0:W.heap[w.heap.size]? = some (.cells #[.slice A n c,.slice A' n' c'] 25 (0,0))
  b1:W.heap[w.heap.size+1]? = some (.cells #[.slice none 0 0] 46 (0,0))
  b2:W.heap[w.heap.size+2]? = some (.cells #[.int .i64 0] 30 (0,0))
theorem FJJ.below{w:World}{D lp:Nat}{A A':Option Addr}{n c n' c':Nat}{rc:LoopState→Option Code→Loop}{W W':World}(h:FJJ w D lp A A' n c n' c' rc W)(hb:Below W.heap.size W W'):FJJ w D lp A A' n c n' c' rc W':=
  ⟨keepO hb h.lp,keepO hb h.d,below_via h.bel h.bel.size hb,keepO hb h.b0,keepO hb h.b1,keepO hb h.b2⟩
/-- A round has returned. -/
def FJx (w:World) (D lp:Nat) (rc:LoopState→Option Code→Loop) (L:List Int) (W:World):Prop:=
  W.heap[lp]? = some (.loop (rc .done (some .ret)))∧W.heap[D]? = some (.deferred (some []))∧Below w.heap.size w W∧∃A m c,W.heap[w.heap.size+1]? = some (.cells #[.slice A m c] 46 (0,0))∧
    W.heap[w.heap.size+2]? = some (.cells #[.int .i64 0] 30 (0,0))∧m≤3∧Reads W W.heap.size 1 A m (ints L)
set_option maxRecDepth 100000 in
set_option maxHeartbeats 2000000 in
theorem pFalse_any (A A' : Option Addr) (n c n' c' : Nat) (ps : List PR) (ws : List WE) (w : World) (hR : Reads w w.heap.size 4 A n (pgs ps)) (hW : Reads w w.heap.size 5 A' n' (wgs ws)) (hL : Laid w) :
    Calls Tryd.prog 36 #[.agg #[.slice A n c,.slice A' n' c']] w fun e w'=>(∃A1 m c1,e = .returned (.tuple #[.slice A1 m c1,.int .i64 (falE ps ws)])∧m≤3∧Reads w' w'.heap.size 1 A1 m (ints (falL ps ws)))∧Below w.heap.size w w':=by
  have hl:=hR.pg_len;have HCk:=Lib.hid (fun z (hz:PX w A A' n c n' c' ps ws z)=>Check_any A A' n c n' c' ps ws z hz.rp hz.rw_ hz.laid);have HP0:=Lib.hid (PX.start (c:=c) (c':=c') hR hW hL);have HRd:=Lib.hid (fun z (hz:Below w.heap.size w z)=>(hR.below hz).more hz.size);have HWd:=Lib.hid (fun z (hz:Below w.heap.size w z)=>(hW.below hz).more hz.size);clear hR hW hL;refine(callsIn_wide (n:=6)).1 ?_;refine callsIn_of_wp_marks Tryd.func36 rfl trivial ?_ rfl;refine wpIn_wide.2 ?_;simp only[Tryd.ntmps36,List.size_toArray,List.length_cons,List.length_nil,Nat.reduceAdd,Nat.reduceSub,Array.replicate_succ,Array.replicate_zero,List.push_toArray,List.append_toArray,List.nil_append,List.cons_append];have HP3:Hid (PX w A A' n c n' c' ps ws (((w.alloc (.cells #[.slice A n c,.slice A' n' c'] 25)).alloc (.cells #[.slice none 0 0] 46)).alloc (.cells #[.int .i64 0] 30))):=(HP0.out.below ((Below.refl _ _).alloc (Nat.le_refl _) _)).below ((Below.refl _ _).alloc (Nat.le_refl _) _);have hb1:Hid ((((w.alloc (.cells #[.slice A n c,.slice A' n' c'] 25)).alloc (.cells #[.slice none 0 0] 46)).alloc (.cells #[.int .i64 0] 30)).heap[w.heap.size+1]? = some (.cells #[.slice none 0 0] 46 (0,0))):=by
    show _=_;rw[heap_lt_alloc' _ _ _ (by simp)];have:=heap_alloc_new (w.alloc (.cells #[.slice A n c,.slice A' n' c'] 25)) (.cells #[.slice none 0 0] 46);simpa using this
  have hb2:Hid ((((w.alloc (.cells #[.slice A n c,.slice A' n' c'] 25)).alloc (.cells #[.slice none 0 0] 46)).alloc (.cells #[.int .i64 0] 30)).heap[w.heap.size+2]? = some (.cells #[.int .i64 0] 30 (0,0))):=by
    show _=_;have:=heap_alloc_new ((w.alloc (.cells #[.slice A n c,.slice A' n' c'] 25)).alloc (.cells #[.slice none 0 0] 46)) (.cells #[.int .i64 0] 30);simpa using this
  clear HP0;(go_wp2_with fail);refine wp_scope_straight ?_;(go_wp2_with fail);refine(HCk.out _ HP3.out).mono ?_;rintro e z1 ⟨rfl,hb⟩;have HP4:=Lib.hid (HP3.out.below hb);have hb1:=Lib.hid (keepO hb hb1.out);have hb2:=Lib.hid (keepO hb hb2.out);have hb1z:=hb2;clear hb HP3;cases hv:validP ps ws
  · rw[show checkS ps ws=20 by unfold checkS;rw[hv];rfl];have hE:=Lib.hid (fal_bad hv);obtain⟨g0,f0⟩:=one_facts hb1.out;obtain⟨g1,f1⟩:=one_facts hb2.out;have m1:=Lib.hid (set_one hb1.out (.slice none 0 0));have m2:=Lib.hid (set_one ((Below.heap_setCell z1 ⟨w.heap.size+1,0,none⟩ (.slice none 0 0) (w.heap.size+2) (by simp)).trans hb2.out) (.int .i64 20));have m3:=Lib.hid ((Below.heap_setCell (z1.setCell ⟨w.heap.size+1,0,none⟩ (.slice none 0 0)) ⟨w.heap.size+2,0,none⟩ (.int .i64 20) (w.heap.size+1) (by simp)).trans m1.out);have mB:=Lib.hid ((HP4.out.bel.setCell (p:=⟨w.heap.size+1,0,none⟩) (by simp) (.slice none 0 0)).setCell (p:=⟨w.heap.size+2,0,none⟩) (by simp) (.int .i64 20));clear hv HP4 hb1 hb2 hb1z;go_wp2;obtain⟨q0,-⟩:=one_facts m3.out;obtain⟨q1,-⟩:=one_facts m2.out;refine⟨.tuple #[.slice none 0 0,.int .i64 20],by simp[results,Tryd.results36,go_sem,q0,q1],⟨none,0,0,by rw[hE.out.1],by omega,?_⟩,mB.out⟩;rw[hE.out.2];exact⟨rfl,fun h=>absurd h (by omega)⟩
  rw[show checkS ps ws=0 by unfold checkS;rw[hv];rfl];have hvh:=Lib.hid hv;obtain⟨p0,p1⟩:=HP4.out.cells;clear hv;go_wp2_with fail
  go_step3
  (go_wp2_with fail);refine(lists_any A A' n c n' c' z1).mono ?_;rintro e z2 ⟨rfl,hz2⟩;have hb:Below z1.heap.size z1 z2:=(by rw[hz2];exact(Below.refl _ _).alloc (Nat.le_refl _) _);have HP5:=Lib.hid (HP4.out.below hb);have hb1:=Lib.hid (keepO hb hb1.out);have hb2:=Lib.hid (keepO hb hb2.out);have hpb:Hid (z2.heap[z1.heap.size]? = some (.cells #[.slice A n c,.slice A' n' c'] 25 (0,0))):=(by show _=_;rw[hz2];exact heap_alloc_new z1 _);have hpl:z1.heap.size<z2.heap.size:=(by rw[hz2];simp);have hw2:w.heap.size+2<z2.heap.size:=(Array.getElem?_eq_some_iff.1 hb2.out).1;clear hb hz2 p0 p1 HP4;(go_wp2_with fail);refine wp_range rfl (by intro args w;kernel_rfl) ?_;intro fn rc hrc_;have hrc:=Lib.hid hrc_;clear hrc_;obtain⟨W1,hW1⟩:∃W1,W1=(z2.alloc (.deferred (some []))).alloc (.loop (rc .ready none)):=⟨_,rfl⟩;rw[←hW1];obtain⟨lp,hlp⟩:∃lp,lp=z2.heap.size+1:=⟨_,rfl⟩;rw[←hlp];have hlph:=hlp;have hb12:Below z2.heap.size z2 W1:=(by rw[hW1];exact((Below.refl _ _).alloc (Nat.le_refl _) _).alloc (by simp) _);have hL1:W1.heap[lp]? = some (.loop (rc .ready none)):=by
    rw[hW1,hlp];have:=World.alloc_heap_new (z2.alloc (.deferred (some []))) (.loop (rc .ready none));rwa [World.size_alloc] at this
  have hD1:W1.heap[z2.heap.size]? = some (.deferred (some [])):=by
    rw[hW1];exact(Below.heap_alloc _ _ _ (by simp)).trans (World.alloc_heap_new z2 _)
  have HP6:=Lib.hid (HP5.out.below hb12);have hb1:=Lib.hid (keepO hb12 hb1.out);have hb2:=Lib.hid (keepO hb12 hb2.out);have hpb:=Lib.hid (keepO hb12 hpb.out);have hlp2:z2.heap.size<lp:=(by omega);clear hb12 hW1 HP5;have hlpH:=Lib.hid hlp;clear hlp hlph;have HJ0:Hid (FJJ w z2.heap.size lp A A' n c n' c' rc W1):=⟨hL1,hD1,HP6.out.bel,HP6.out.b0,hb1.out,hb2.out⟩;have HRO:RoundOk lp [lp,w.heap.size+1,w.heap.size+2] ps ws (FJJ w z2.heap.size lp A A' n c n' c' rc) (FJx w z2.heap.size lp rc):=by
    intro L A1 m c1 W hJ hm hr hAl;have hlt:lp<W.heap.size:=(Array.getElem?_eq_some_iff.1 hJ.lp).1;have hL2:(W.putObj lp (.loop { rc .ready none with state:=.busy })).heap[lp]? = some (.loop { rc .ready none with state:=.busy }):=World.putObj_heap_same hlt;have hr2:=reads_put hr (by omega) (.loop { rc .ready none with state:=.busy }) hJ.lp;have hB2:=below_put hJ.bel (.loop { rc .ready none with state:=.busy }) (l:=lp) (by omega);have k0:(W.putObj lp (.loop { rc .ready none with state:=.busy })).heap[w.heap.size]? = _:=(World.putObj_heap_other (by omega)).trans hJ.b0;have k1:(W.putObj lp (.loop { rc .ready none with state:=.busy })).heap[w.heap.size+1]? = _:=(World.putObj_heap_other (by omega)).trans hJ.b1;have k2:(W.putObj lp (.loop { rc .ready none with state:=.busy })).heap[w.heap.size+2]? = _:=(World.putObj_heap_other (by omega)).trans hJ.b2;have kD:(W.putObj lp (.loop { rc .ready none with state:=.busy })).heap[z2.heap.size]? = some (.deferred (some [])):=(World.putObj_heap_other (by omega)).trans hJ.d;have kk:∀q,q≠lp→(W.putObj lp (.loop { rc .ready none with state:=.busy })).heap[q]? = W.heap[q]?:=fun q hq=>World.putObj_heap_other hq;have ks:(W.putObj lp (.loop { rc .ready none with state:=.busy })).heap.size=W.heap.size:=World.putObj_size;have hbr:=run_beginRound (P:=Tryd.prog) hJ.lp (by rw[hrc.out];rfl);have hy:=run_yield (P:=Tryd.prog) (args:=#[.slice A1 m c1]) hJ.lp (by rw[hrc.out];rfl);generalize hW2:W.putObj lp (.loop { rc .ready none with state:=.busy })=W2 at *;have hoj:∀W3:World,W3.heap[lp]? = some (.loop { rc .ready none with state:=.busy })→∀jump,(Instr.endRound lp jump).run Tryd.prog W3 = .ok (.bool jump.isNone) (W3.putObj lp (.loop (rc (if jump.isNone then .ready else .done) jump))):=fun W3 h jump=>by
      have:=run_endRound (P:=Tryd.prog) jump h;rw[hrc.out] at this ⊢;exact this
    have hos:W2.os=W.os∧W2.tape=W.tape∧W2.output=W.output:=(by rw[←hW2];exact⟨rfl,rfl,rfl⟩);rw[hrc.out] at hy;refine⟨_,_,_,_,hy,roundIn_of_wpIn trivial ?_⟩;have hoj:=Lib.hid hoj;have HK:=Lib.hid (And.intro k1 (And.intro k2 (And.intro kD hL2)));have HZ:=Lib.hid (And.intro kk (And.intro ks hos));have HR2:=Lib.hid (show Reads W2 W2.heap.size 1 A1 m (ints L) by rw[ks];exact hr2);have HB2:=Lib.hid hB2;have hbr:=Lib.hid hbr;clear hy hJ hr hr2 hB2 kk ks hos k1 k2 kD hL2 hW2;obtain⟨p0,p1,-,-⟩:=two_facts k0;clear HJ0 hb1 hb2 hpb hb1z;have hVF:=valid_facts hvh.out;have hn10:n≤10:=(by have:=hVF.n10;omega);have hn30:n'≤30:=(by have:=hVF.m30;have:=(HWd.out _ HB2.out).wg_len;omega);have hVL:=Lib.hid (valid_less L hvh.out);clear hVF;simp only[rcd]
    gi_wp2
    refine⟨trivial,rfl,?_⟩;refine(CallsIn.inRound lp (callsIn_wide.2 (without_any A A' n c n' c' ps ws A1 m c1 L W2 (by omega) (by omega) (by unfold maxLen;omega) (HRd.out _ HB2.out) (HWd.out _ HB2.out) HR2.out))).mono ?_;rintro e x1 ⟨Aw1,cw1,Aw2,m2,cw2,rfl,ho1,ho2,hx1⟩;have HR3:=Lib.hid (Reads.of_own ho1);have HW3:=Lib.hid (Reads.of_own ho2);have HX1:=Lib.hid hx1;clear ho1 ho2 hx1 p0 p1
    gi_wp2
    refine⟨trivial,rfl,?_⟩;refine(CallsIn.inRound lp (callsIn_wide.2 (started_any Aw1 Aw2 n cw1 m2 cw2 ps (lessW ws L) x1 HR3.out HW3.out hVL.out))).mono ?_;rintro e x2 ⟨rfl,hb5,At,Ar,Au,ct,cr,cu,gI,hMO⟩;have HM:=Lib.hid hMO.mr;have HX2:=Lib.hid (below_via HX1.out HX1.out.size hb5);clear hb5 hMO;generalize x1.heap.size+1=mb at *
    gi_wp2
    refine⟨trivial,rfl,?_⟩;refine(CallsIn.inRound lp (callsIn_wide.2 (holds_any mb n _ _ _ _ _ _ _ _ _ _ _ _ hn10 x2 HM.out))).mono ?_;rintro e x3 ⟨rfl,hb6⟩;have HX3:=Lib.hid (below_via HX2.out HX2.out.size hb6);have hh:holdsB (rowsT ps (lessW ws L)) (upP (toT ps) (rowsT ps (lessW ws L))) n=hasT ps (lessW ws L):=(by unfold hasT;rw[hl]);rw[hh];clear hh hb6 HM HX1 HX2 HR3 HW3;obtain⟨k1,k2,kD,hL2⟩:=HK.out;obtain⟨kk,ks,ko1,ko2,ko3⟩:=HZ.out;have h1:=keepO HX3.out k1;have h2:=keepO HX3.out k2;have h3:=Lib.hid (keepO HX3.out kD);have h4:=Lib.hid (keepO HX3.out hL2);have h0':=Lib.hid (keepO HX3.out k0);have HBz:=Lib.hid (below_via HB2.out HB2.out.size HX3.out);have HRz:=Lib.hid ((HR2.out.below HX3.out).more HX3.out.size);have HKp:Hid (Kp W.heap.size [lp,w.heap.size+1,w.heap.size+2] W (x3.putObj lp (.loop (rc .ready none)))):=by
      refine⟨?_,?_,?_,?_,fun q hq hn=>?_⟩
      · exact HX3.out.os.trans ko1
      · exact HX3.out.tape.trans ko2
      · exact HX3.out.output.trans ko3
      · have:=HX3.out.size;simp;omega
      · have hne:q≠lp:=(by simp at hn;exact hn.1);rw[World.putObj_heap_other hne,HX3.out.block q (by omega),kk q hne]
    have HKs:Hid (Kp W.heap.size [lp,w.heap.size+1,w.heap.size+2] W x3):=by
      refine⟨?_,?_,?_,?_,fun q hq hn=>?_⟩
      · exact HX3.out.os.trans ko1
      · exact HX3.out.tape.trans ko2
      · exact HX3.out.output.trans ko3
      · have:=HX3.out.size;omega
      · have hne:q≠lp:=(by simp at hn;exact hn.1);rw[HX3.out.block q (by omega),kk q hne]
    clear kk ks ko1 ko2 ko3 k1 k2 kD hL2 HK HZ;cases hT:hasT ps (lessW ws L)
    · gi_wp2
      have hs3:lp<x3.heap.size:=(Array.getElem?_eq_some_iff.1 h4.out).1;refine⟨_,_,hoj.out _ h4.out none,.inr ⟨rfl,HKp.out,hT,?_⟩⟩;exact⟨World.putObj_heap_same hs3,(World.putObj_heap_other (by omega)).trans h3.out,below_put HBz.out _ (by omega),(World.putObj_heap_other (by omega)).trans h0'.out,(World.putObj_heap_other (by omega)).trans h1,(World.putObj_heap_other (by omega)).trans h2⟩
    · obtain⟨g0,f0⟩:=one_facts h1;obtain⟨g1,f1⟩:=one_facts h2;have m1:=Lib.hid (set_one h1 (.slice A1 m c1));have m2_:=Lib.hid (set_one ((Below.heap_setCell x3 ⟨w.heap.size+1,0,none⟩ (.slice A1 m c1) (w.heap.size+2) (by simp)).trans h2) (.int .i64 0));have m3:=Lib.hid ((Below.heap_setCell (x3.setCell ⟨w.heap.size+1,0,none⟩ (.slice A1 m c1)) ⟨w.heap.size+2,0,none⟩ (.int .i64 0) (w.heap.size+1) (by simp)).trans m1.out)
      have mk:∀q,w.heap.size+2<q→((x3.setCell ⟨w.heap.size+1,0,none⟩ (.slice A1 m c1)).setCell ⟨w.heap.size+2,0,none⟩ (.int .i64 0)).heap[q]? = x3.heap[q]?:=fun q hq=>
        (Below.heap_setCell (x3.setCell ⟨w.heap.size+1,0,none⟩ (.slice A1 m c1)) ⟨w.heap.size+2,0,none⟩ (.int .i64 0) q (by simp only;omega)).trans (Below.heap_setCell x3 ⟨w.heap.size+1,0,none⟩ (.slice A1 m c1) q (by simp only;omega))
      have mB:=Lib.hid ((HBz.out.setCell (p:=⟨w.heap.size+1,0,none⟩) (by simp) (.slice A1 m c1)).setCell (p:=⟨w.heap.size+2,0,none⟩) (by simp) (.int .i64 0));have mR:Hid (Reads ((x3.setCell ⟨w.heap.size+1,0,none⟩ (.slice A1 m c1)).setCell ⟨w.heap.size+2,0,none⟩ (.int .i64 0)) x3.heap.size 1 A1 m (ints L)):=by
        refine⟨HRz.out.1,fun hn=>?_⟩;obtain⟨b,q,e,hb,hc⟩:=HRz.out.2 hn;have hlb:=hAl _ e hn;simp only at hlb;refine⟨b,q,e,hb,fun j u hu=>?_⟩;have hcc:=hc j u hu;rw[World.cell?] at hcc ⊢;rw[mk b (by omega)];exact hcc
      have mk:=Lib.hid mk;have hs3:lp<x3.heap.size:=(Array.getElem?_eq_some_iff.1 h4.out).1;clear h1 h2
      gi_wp2
      have h4':=(mk.out lp (by omega)).trans h4.out;have hKr:Kp W.heap.size [lp,w.heap.size+1,w.heap.size+2] W (((x3.setCell ⟨w.heap.size+1,0,none⟩ (.slice A1 m c1)).setCell ⟨w.heap.size+2,0,none⟩ (.int .i64 0)).putObj lp (.loop (rc .done (some .ret)))):=by
        have h1:=(HKs.out.set (p:=⟨w.heap.size+1,0,none⟩) (Or.inl (by simp)) (.slice A1 m c1)).set (p:=⟨w.heap.size+2,0,none⟩) (Or.inl (by simp)) (.int .i64 0);exact⟨h1.os,h1.tape,h1.output,by simpa using h1.size,fun q hq hn=>(World.putObj_heap_other (by simp at hn;exact hn.1)).trans (h1.block q hq hn)⟩
      refine⟨_,_,hoj.out _ h4' (some .ret),.inl ⟨rfl,hKr,hT,?_⟩⟩;refine⟨World.putObj_heap_same (by simpa using hs3),(World.putObj_heap_other (by omega)).trans ((mk.out _ (by omega)).trans h3.out),below_put mB.out _ (by omega),A1,m,c1,(World.putObj_heap_other (by omega)).trans m3.out,(World.putObj_heap_other (by omega)).trans m2_.out,hm,?_⟩;have hrr:=reads_put mR.out (by omega) (.loop (rc .done (some .ret))) h4';simpa using hrr
  have hn30:n'≤30:=(by have:=(valid_facts hvh.out).m30;have:=HP6.out.rw_.wg_len;omega);have hWD:RdX [lp,w.heap.size+1,w.heap.size+2] W1 W1.heap.size 5 A' n' (wgs ws):=⟨HP6.out.rw_,fun p hp hn hd=>by
    obtain⟨b,o,e,hb,-⟩:=(HWd.out w (Below.refl _ _)).2 hn;rw[hp] at e;simp only[Option.some.injEq] at e;subst e;simp at hd
    omega⟩
  have hz1:w.heap.size+2<z1.heap.size:=(Array.getElem?_eq_some_iff.1 hb1z.out).1;refine(lst1_any lp [lp,w.heap.size+1,w.heap.size+2] z1.heap.size A' n' c' A n c ps ws _ _ (fun W W' h hb=>h.below hb) HRO hn30 W1 HJ0.out hpb.out (by simp;omega) (fun d hd=>by simp at hd;omega) (Array.getElem?_eq_some_iff.1 hL1).1 hWD).mono ?_;rintro e W3 ⟨hv,hcase⟩;refine⟨hv,?_⟩;rcases hcase with ⟨hnone,hJ⟩|⟨L,hsome,hJ⟩
  · refine⟨.ready,none,hJ.lp,by simp,?_⟩;obtain⟨W4,hW4⟩:∃W4,W4=W3.putObj lp (.loop (rc .exhausted none)):=⟨_,rfl⟩;show Exit.inBlock _ _ _ _ _;rw[←hW4];have k1:Hid (W4.heap[w.heap.size+1]? = some (.cells #[.slice none 0 0] 46 (0,0))):=(by show _=_;rw[hW4,World.putObj_heap_other (by omega)];exact hJ.b1);have k2:Hid (W4.heap[w.heap.size+2]? = some (.cells #[.int .i64 0] 30 (0,0))):=(by show _=_;rw[hW4,World.putObj_heap_other (by omega)];exact hJ.b2);have kD:W4.heap[z2.heap.size]? = some (.deferred (some [])):=(by rw[hW4,World.putObj_heap_other (by omega)];exact hJ.d);have kB:Below w.heap.size w W4:=(by rw[hW4];exact below_put hJ.bel _ (by omega));obtain⟨g0,f0⟩:=one_facts k1.out;obtain⟨g1,f1⟩:=one_facts k2.out;have hE:=Lib.hid (fal_none hvh.out hnone);clear hJ hW4 HRO HJ0;have m1:=Lib.hid (set_one k1.out (.slice none 0 0));have m2:=Lib.hid (set_one ((Below.heap_setCell W4 ⟨w.heap.size+1,0,none⟩ (.slice none 0 0) (w.heap.size+2) (by simp)).trans k2.out) (.int .i64 4));have m3:=Lib.hid ((Below.heap_setCell (W4.setCell ⟨w.heap.size+1,0,none⟩ (.slice none 0 0)) ⟨w.heap.size+2,0,none⟩ (.int .i64 4) (w.heap.size+1) (by simp)).trans m1.out);have mD:=Lib.hid ((Below.heap_setCell (W4.setCell ⟨w.heap.size+1,0,none⟩ (.slice none 0 0)) ⟨w.heap.size+2,0,none⟩ (.int .i64 4) z2.heap.size (by simp only;omega)).trans ((Below.heap_setCell W4 ⟨w.heap.size+1,0,none⟩ (.slice none 0 0) z2.heap.size (by simp only;omega)).trans kD));have mB:=Lib.hid ((kB.setCell (p:=⟨w.heap.size+1,0,none⟩) (by simp) (.slice none 0 0)).setCell (p:=⟨w.heap.size+2,0,none⟩) (by simp) (.int .i64 4))
    go_wp2;obtain⟨W5,hW5⟩:∃W5,W5=(W4.setCell ⟨w.heap.size+1,0,none⟩ (.slice none 0 0)).setCell ⟨w.heap.size+2,0,none⟩ (.int .i64 4):=⟨_,rfl⟩;rw[←hW5] at m2 m3 mD mB;obtain⟨q0,-⟩:=one_facts ((World.putObj_heap_other (w:=W5) (r:=z2.heap.size) (o:=.deferred none) (k:=w.heap.size+1) (by omega)).trans m3.out);obtain⟨q1,-⟩:=one_facts ((World.putObj_heap_other (w:=W5) (r:=z2.heap.size) (o:=.deferred none) (k:=w.heap.size+2) (by omega)).trans m2.out);(try rw[←hW5]);refine⟨by simp,.inl ⟨_,_,rfl,run_takeDeferred mD.out,?_⟩⟩;refine⟨.tuple #[.slice none 0 0,.int .i64 4],by simp[results,Tryd.results36,go_sem,q0,q1],⟨none,0,0,by rw[hE.out.1],by omega,?_⟩,below_put mB.out _ (by omega)⟩;rw[hE.out.2];exact⟨rfl,fun h=>absurd h (by omega)⟩
  · obtain⟨hl3,hD3,hB3,A1,m,c1,hx1,hx2,hm,hr⟩:=hJ;refine⟨.done,some .ret,hl3,by simp,?_⟩;show Code.wp _ _ _ _ _;obtain⟨W4,hW4⟩:∃W4,W4=W3.putObj lp (.loop (rc .exhausted (some .ret))):=⟨_,rfl⟩;rw[←hW4];have k1:Hid (W4.heap[w.heap.size+1]? = some (.cells #[.slice A1 m c1] 46 (0,0))):=(by show _=_;rw[hW4,World.putObj_heap_other (by omega)];exact hx1);have k2:Hid (W4.heap[w.heap.size+2]? = some (.cells #[.int .i64 0] 30 (0,0))):=(by show _=_;rw[hW4,World.putObj_heap_other (by omega)];exact hx2);have kD:W4.heap[z2.heap.size]? = some (.deferred (some [])):=(by rw[hW4,World.putObj_heap_other (by omega)];exact hD3);have kB:Below w.heap.size w W4:=(by rw[hW4];exact below_put hB3 _ (by omega));have kR:Reads W4 W4.heap.size 1 A1 m (ints L):=(by rw[hW4,World.putObj_size];exact reads_put hr (by omega) _ hl3);have hE:=Lib.hid (fal_some hvh.out hsome);clear hW4 HRO HJ0 hx1 hx2 hl3 hD3 hB3 hr;go_wp2;obtain⟨q0,-⟩:=one_facts ((World.putObj_heap_other (w:=W4) (r:=z2.heap.size) (o:=.deferred none) (k:=w.heap.size+1) (by omega)).trans k1.out);obtain⟨q1,-⟩:=one_facts ((World.putObj_heap_other (w:=W4) (r:=z2.heap.size) (o:=.deferred none) (k:=w.heap.size+2) (by omega)).trans k2.out);refine⟨by simp,.inl ⟨_,_,rfl,run_takeDeferred kD,?_⟩⟩;refine⟨.tuple #[.slice A1 m c1,.int .i64 0],by simp[results,Tryd.results36,go_sem,q0,q1],⟨A1,m,c1,by rw[hE.out.1],hm,?_⟩,below_put kB _ (by omega)⟩;rw[hE.out.2,World.putObj_size];exact reads_putD kR (by omega) _ kD
end Go.Proofs.YtfplipbkjglmhaaDoor
