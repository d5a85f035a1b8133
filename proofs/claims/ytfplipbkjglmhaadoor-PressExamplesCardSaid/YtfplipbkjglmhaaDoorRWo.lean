/-
 The walk of the reference's press without some weighings.
-/
import Derived.Test.YtfplipbkjglmhaaDoorLead
import Derived.Lib.AppendZerosOnto
import Derived.Lib.Overlaps
import Derived.Laws.Externs
import Derived.RegionTactic
import Derived.Deep.RegionLaw
import Derived.Test.YtfplipbkjglmhaaDoorKit
import Derived.Maps.OwnSet
import Derived.Maps.OwnOps
import Derived.Maps.Views
import Derived.Test.YtfplipbkjglmhaaDoorPTw
namespace Go.Proofs.YtfplipbkjglmhaaDoor
open Go.RowKit
set_option linter.unusedVariables false
set_option linter.unusedSimpArgs false
theorem run_copyN{P:Program}(w:World)(dT sT ty elem:TypeId)(size b o dLen dCap:Nat)(a:Addr)(sLen sCap:Nat)(cs:List Value)
  (hu:P.underlying dT=some (.slice elem)) (hs:(P.info? elem).map (·.size)=some size) (hn:cs.length=Nat.min sLen dLen*size)
  (hsrc:∀j v,cs[j]? = some v→w.cell? (a.add j)=some v) (hc:∀j,j<cs.length→(w.cell? ⟨b,o+j,none⟩).isSome=true) (hf:∀j,j<cs.length→w.frozen? ⟨b,o+j,none⟩=false) (h1:∀v∈cs,v.oneCell'=true) :
  (Builtin.copy_ #[dT,sT] ty #[.slice (some ⟨b,o,none⟩) dLen dCap,.slice (some a) sLen sCap]).run P w = .ok (goInt (Nat.min sLen dLen)) (w.setCells b o cs):=by
 have hl:=run_loadCells_list (P:=P) w a cs hsrc;have hst:=run_storeCells_cells (P:=P) b o cs 0 w (by simpa using hc) (by simpa using hf) h1;cases hq:P.info? elem with
 |none=>simp[hq] at hs
 |some i=>
  have hi:i.size=size:=(by simpa [hq] using hs);simp[Builtin.copy_,run_underlying hu,Builtin.lenOf,Builtin.firstCells,sizeOf,typeInfo,hq,hi,←hn,hl,hst]
theorem wp_copyI{P:Program}(w:World){o:Oper}{a:Act}{K:Act→World→Prop}{Q:Exit→Act→World→Prop}(d s:Operand)(t t':TypeId)
  (ho:o.op = .call { callee:=.builtin .copy,args:=#[d,s],argTypes:=#[t,t'] }) (v u:Value) (hd:a.eval d=v) (hs:a.eval s=u) {v':Value} {w':World}
  (hr:(Builtin.copy_ #[t,t'] o.type #[v,u]).run P w = .ok v' w') (h:K (a.put o.dst v') w'):o.wp P a w K Q:=by
 unfold Oper.wp execOp;simp only[ho,resolve,invoke,builtin,Sem.run_bind,Sem.run_pure,Result.andThen_ok,List.map_toArray,List.map_cons,List.map_nil,hd,hs,hr];exact h
theorem wpList_copyI{P:Program}(w:World){ops:Array Oper}{rest:List Oper}{o:Oper}{a:Act}{Q:Exit→Act→World→Prop}(hgd:o.guard=none)(d s:Operand)(t t':TypeId)
  (ho:o.op = .call { callee:=.builtin .copy,args:=#[d,s],argTypes:=#[t,t'] }) (v u:Value) (hd:a.eval d=v) (hs:a.eval s=u) {v':Value} {w':World}
  (hr:(Builtin.copy_ #[t,t'] o.type #[v,u]).run P w = .ok v' w') (h:wpList P ops Q rest (a.put o.dst v') w'):wpList P ops Q (o::rest) a w:=
 wpList_plain hgd fun _ hK=>wp_copyI w d s t t' ho v u hd hs hr (hK _ _ h)
theorem step_copyI{P:Program}{ops:Array Oper}{o:Oper}{a:Act}{w:World}{K:Act→World→Prop}{Q:Exit→Act→World→Prop}{E:Prop}
  (hg:o.guard=none) (d x:Operand) (dT sT:TypeId) (hop:o.op=Op.call { callee:=Callee.builtin Builtin.copy,args:=#[d,x],argTypes:=#[dT,sT] })
  (v u:Value) (hd:a.eval d=v) (hx:a.eval x=u) {v':Value} {w':World} (hr:(Builtin.copy_ #[dT,sT] o.type #[v,u]).run P w = .ok v' w') (hK:K (a.put o.dst v') w') :
  if Region.wanted o (yielded ops a.tmps)=true then Oper.wp P o a w K Q else E:=by
 have hw:Region.wanted o (yielded ops a.tmps)=true:=by simp[Region.wanted,hg]
 rw[if_pos hw];exact wp_copyI w d x dT sT hop v u hd hx hr hK
theorem wgs_drop:∀(ws:List WE) (i:Nat),wgs (ws.drop i)=(wgs ws).drop (i*5)
 |[],i=>by simp[wgs]
 |y::r,0=>by simp
 |y::r,i+1=>by
  have e:wgs (y::r)=wgc y++wgs r:=(by simp[wgs]);have h5:(wgc y).length=5:=rfl;rw[List.drop_succ_cons,wgs_drop r i,e,List.drop_append,show (wgc y).drop ((i+1)*5) = [] from List.drop_eq_nil_of_le (by rw[h5];omega),List.nil_append,h5];congr 1;omega
theorem wgs_len(ws:List WE):(wgs ws).length=ws.length*5:=flat_len wgc 5 (fun _=>rfl) ws
def insW (ws:List WE) (i:Nat) (x:WE):List WE:=ws.take i++x::ws.drop i
set_option maxRecDepth 100000 in
set_option maxHeartbeats 2000000 in
/-- At the end. -/
theorem ins_end(v:Value)(n base vb:Nat)(ws:List WE)(x:WE)(w:World)(hn:n≤4096)(hown:w.ownsRow base 81 5 v n (wgs ws))(hb:base≤w.heap.size)
  (hv:w.heap[vb]? = some (.cells #[.int .i64 x.1,.int .i64 x.2.1,.int .i64 x.2.2.1,.int .i64 x.2.2.2.1,.int .i64 x.2.2.2.2] 81 (0,0))) :
  Calls Tryd.prog 90 #[v,.int .i64 n,.slice (some ⟨vb,0,none⟩) 1 1] w fun e w'=>∃v',e = .returned v'∧w'.ownsRow base 81 5 v' (n+1) (wgs (insW ws n x))∧Kp w.heap.size v.ownBlock.toList w w':=by
 obtain⟨i0,hi,hz0,hz1,hz2⟩:=info_parts info_wg;have hl:ws.length=n:=Reads.wg_len (w:=w) (B:=w.heap.size) (A:=(own_val hown).choose) (by
  have h:=(own_val hown).choose_spec;obtain⟨c,h⟩:=h;rw[h] at hown
  exact Reads.of_own hown)
 have hins:Hid (wgs (insW ws n x)=wgs ws++wgs [x]):=by
  show _=_;unfold insW;rw[List.take_of_length_le (by omega),List.drop_eq_nil_of_le (by omega),wgs_append]
 have hRx:Hid (Reads w w.heap.size 5 (some ⟨vb,0,none⟩) 1 (wgs [x])):=⟨rfl,fun _=>⟨vb,0,rfl,(Array.getElem?_eq_some_iff.1 hv).1,fun j u hu=>by
  rw[Nat.zero_add];simp only[World.cell?,hv]
  simpa [wgs,wgc] using hu⟩⟩
 have HO:=Lib.hid hown;have HB:=Lib.hid hb;clear hl hv;rcases hown.2 with ⟨rfl,rfl⟩|⟨g,cap,cur,rfl,hg,hgh,hnc,hcm,_⟩
 ·clear hown hb
  go_enter Tryd.func90,Tryd.ntmps90
  go_wp2_with (first|(at_builtin;refine wpList_app _ rfl _ _ 23 rfl base 81 i0 _ 5 40 Tryd.underlying23 hi hz0 hz1 hz2 rfl (by decide) _ _ _ rfl HO.out w.heap.size (some ⟨vb,0,none⟩) 1 1 (wgs [x]) rfl hRx.out (wgs_one _) ?c3 ?c4 HB.out ?_))
  case c3=>unfold maxLen;omega
  case c4=>omega
  intro v' w' hown' hgr hat;go_wp2;go_ret;exact⟨_,rfl,(by rw[hins.out];exact hown'),(Kp.refl _ _ _).grown hgr (Nat.le_refl _) (fun k hk=>by simp[Value.ownBlock] at hk)⟩
 ·clear hown hb hgh;unfold maxLen at hcm;have HG:=Lib.hid hg;clear hg;by_cases hcn:cap=n
  ·subst hcn
   go_enter Tryd.func90,Tryd.ntmps90
   go_wp2_with (first|(at_builtin;refine wpList_app _ rfl _ _ 23 rfl base 81 i0 _ 5 40 Tryd.underlying23 hi hz0 hz1 hz2 rfl (by decide) _ _ _ rfl HO.out w.heap.size (some ⟨vb,0,none⟩) 1 1 (wgs [x]) rfl hRx.out (wgs_one _) ?c3 ?c4 HB.out ?_))
   case c3=>unfold maxLen;omega
   case c4=>omega
   intro v' w' hown' hgr hat;go_wp2;go_ret;exact⟨_,rfl,(by rw[hins.out];exact hown'),(Kp.refl _ _ _).grown hgr (Nat.le_refl _) (fun k hk=>by simp[Value.ownBlock] at hk;subst hk;exact .inl (by simp[Value.ownBlock]))⟩
  ·go_enter Tryd.func90,Tryd.ntmps90
   go_wp2_with (first|(at_builtin;refine wpList_app _ rfl _ _ 23 rfl base 81 i0 _ 5 40 Tryd.underlying23 hi hz0 hz1 hz2 rfl (by decide) _ _ _ rfl HO.out w.heap.size (some ⟨vb,0,none⟩) 1 1 (wgs [x]) rfl hRx.out (wgs_one _) ?c3 ?c4 HB.out ?_))
   case c3=>unfold maxLen;omega
   case c4=>omega
   intro v' w' hown' hgr hat;go_wp2;go_ret;exact⟨_,rfl,(by rw[hins.out];exact hown'),(Kp.refl _ _ _).grown hgr (Nat.le_refl _) (fun k hk=>by simp[Value.ownBlock] at hk;subst hk;exact .inl (by simp[Value.ownBlock]))⟩
/-- What a row holds behind the insertion. -/
theorem ins_at{ws:List WE}{i n:Nat}{x:WE}(hl:ws.length=n)(hi:i<n)(k:Nat)(y:WE)(h:(insW ws i x)[k]? = some y):(if k=i then x else if k<i then ws.getD k default else ws.getD (k - 1) default)=y:=by
 unfold insW at h;by_cases h1:k<i
 ·rw[List.getElem?_append_left (by simp;omega),List.getElem?_take_of_lt h1] at h;rw[if_neg (by omega),if_pos h1];simp[h]
 ·rw[List.getElem?_append_right (by simp;omega)] at h;have e:(ws.take i).length=i:=(by simp;omega);rw[e] at h;by_cases h2:k=i
  ·subst h2;simp at h;simp[h]
  ·obtain⟨d,hd⟩:∃d,k - i=d+1:=⟨k - i - 1,by omega⟩;rw[hd,List.getElem?_cons_succ,List.getElem?_drop] at h;rw[if_neg h2,if_neg h1,show k - 1=i+d by omega];simp[h]
theorem insW_len{ws:List WE}{i n:Nat}{x:WE}(hl:ws.length=n)(hi:i≤n):(insW ws i x).length=n+1:=by
 simp[insW];omega
theorem ins_row{W:World}{g c n i base:Nat}{ws:List WE}{x:WE}(hl:ws.length=n)(hi:i<n)(hroom:n+1≤c)(hcm:c≤maxLen)(hbg:base≤g)
  (h:RowOf W g 81 5 c wgc i (fun k=>ws.getD k default)) :
  ((W.setCells g ((i+1)*5) (wgs (ws.drop i))).setCells g (i*5) (wgc x)).ownsRow base 81 5 (.slice (some ⟨g,0,none⟩) (n+1) c) (n+1) (wgs (insW ws i x))∧
  ((W.setCells g (i*5) (wgc x)).setCells g ((i+1)*5) (wgs (ws.drop i))).ownsRow base 81 5 (.slice (some ⟨g,0,none⟩) (n+1) c) (n+1) (wgs (insW ws i x)):=by
 have hil:=insW_len (x:=x) hl (Nat.le_of_lt hi);have hdl:(ws.drop i).length=n - i:=by simp[hl]
 constructor
 ·obtain⟨f,f1,f2⟩:=h;have h2:RowOf ((W.setCells g ((i+1)*5) (wgs (ws.drop i))).setCells g (i*5) (wgc x)) g 81 5 c wgc (n+1) (fun k=>if k=i then x else if k<i then ws.getD k default else ws.getD (k - 1) default):=by
   refine⟨_,rowIs_sets _ _ _ _ (rowIs_sets _ _ _ _ f1),fun k hk t u hu=>?_⟩;have ht:t<5:=(List.getElem?_eq_some_iff.1 hu).1;have hw:(wgc x).length=5:=rfl;have hwd:(wgs (ws.drop i)).length=(n - i)*5:=(by rw[wgs_len,hdl]);by_cases h3:k=i
   ·subst h3;simp only[if_true] at hu;rw[if_pos (by omega),show k*5+t - k*5=t by omega,hu];rfl
   ·simp only[h3,if_false] at hu;rw[if_neg (by omega)];by_cases h4:k<i
    ·simp only[h4,if_true] at hu;rw[if_neg (by omega)];exact f2 k h4 t u hu
    ·simp only[h4,if_false] at hu;rw[if_pos (by rw[hwd];omega),wgs_drop,List.getElem?_drop,show i*5+(k*5+t - (i+1)*5)=(k - 1)*5+t by omega,wgs,flat_get wgc 5 (fun _=>rfl) _ _ _ ht];have e1:ws[k - 1]? = some (ws[k - 1]'(by omega)):=List.getElem?_eq_getElem _;have e2:ws.getD (k - 1) default=ws[k - 1]'(by omega):=(by rw[List.getD_eq_getElem?_getD,e1];rfl);rw[e2] at hu;rw[e1,Option.bind_some,hu];rfl
  have:=h2.own (fun _=>rfl) (base:=base) (l:=insW ws i x) (by omega) (by omega) hcm hbg (fun k y hy=>ins_at hl hi k y hy);rw[hil] at this;exact this
 ·obtain⟨f,f1,f2⟩:=h;have h2:RowOf ((W.setCells g (i*5) (wgc x)).setCells g ((i+1)*5) (wgs (ws.drop i))) g 81 5 c wgc (n+1) (fun k=>if k=i then x else if k<i then ws.getD k default else ws.getD (k - 1) default):=by
   refine⟨_,rowIs_sets _ _ _ _ (rowIs_sets _ _ _ _ f1),fun k hk t u hu=>?_⟩;have ht:t<5:=(List.getElem?_eq_some_iff.1 hu).1;have hw:(wgc x).length=5:=rfl;have hwd:(wgs (ws.drop i)).length=(n - i)*5:=(by rw[wgs_len,hdl]);by_cases h3:k=i
   ·subst h3;simp only[if_true] at hu;rw[if_neg (by omega),if_pos (by omega),show k*5+t - k*5=t by omega,hu];rfl
   ·simp only[h3,if_false] at hu;by_cases h4:k<i
    ·simp only[h4,if_true] at hu;rw[if_neg (by omega),if_neg (by omega)];exact f2 k h4 t u hu
    ·simp only[h4,if_false] at hu;rw[if_pos (by rw[hwd];omega),wgs_drop,List.getElem?_drop,show i*5+(k*5+t - (i+1)*5)=(k - 1)*5+t by omega,wgs,flat_get wgc 5 (fun _=>rfl) _ _ _ ht];have e1:ws[k - 1]? = some (ws[k - 1]'(by omega)):=List.getElem?_eq_getElem _;have e2:ws.getD (k - 1) default=ws[k - 1]'(by omega):=(by rw[List.getD_eq_getElem?_getD,e1];rfl);rw[e2] at hu;rw[e1,Option.bind_some,hu];rfl
  have:=h2.own (fun _=>rfl) (base:=base) (l:=insW ws i x) (by omega) (by omega) hcm hbg (fun k y hy=>ins_at hl hi k y hy);rw[hil] at this;exact this
theorem below_sets{B b:Nat}{a:World}(hb:B≤b):∀(vs:List Value) (o:Nat) (w:World),Below B a w→Below B a (w.setCells b o vs)
 |[],_,_,h=>h
 |v::r,o,w,h=>below_sets hb r (o+1) _ (h.setCell (p:=⟨b,o,none⟩) hb v)
theorem drew_sets(b:Nat):∀(vs:List Value) (o:Nat) (w:World),(w.setCells b o vs).drew=w.drew.setCells b o vs
 |[],_,_=>rfl
 |v::r,o,w=>by rw[World.setCells,World.setCells,drew_sets b r];rfl
theorem info_size:(Tryd.prog.info? 81).map (·.size)=some 5:=by
 obtain⟨i0,hi,hz0,hz1,hz2⟩:=info_parts info_wg;rw[hi];simp[hz1]
set_option maxRecDepth 100000 in
set_option maxHeartbeats 2000000 in
/-- There is room. -/
theorem ins_room(g n c i base vb:Nat)(ws:List WE)(x:WE)(w:World)(hn:n≤4096)(hi:i<n)(hroom:n+1≤c)(hne:vb≠g)(hown:w.ownsRow base 81 5 (.slice (some ⟨g,0,none⟩) n c) n (wgs ws))(hb:base≤w.heap.size)
  (hv:w.heap[vb]? = some (.cells #[.int .i64 x.1,.int .i64 x.2.1,.int .i64 x.2.2.1,.int .i64 x.2.2.2.1,.int .i64 x.2.2.2.2] 81 (0,0))) :
  Calls Tryd.prog 90 #[.slice (some ⟨g,0,none⟩) n c,.int .i64 i,.slice (some ⟨vb,0,none⟩) 1 1] w fun e w'=>∃v',e = .returned v'∧w'.ownsRow base 81 5 v' (n+1) (wgs (insW ws i x))∧Kp w.heap.size [g] w w':=by
 obtain⟨hl,hnc,hcm,hbg,hrow⟩:=RowOf.from (f:=wgc) (fun _=>rfl) (by omega) hown;have hov:∀o lb cb,(callFunc 113 #[.slice (some ⟨vb,0,none⟩) 1 1,.slice (some ⟨g,o,none⟩) lb cb]).run Tryd.prog w = .ok (.value (.bool false)) w:=fun o lb cb=>by
  obtain⟨f,⟨cur,h1,h2,h3⟩,h4⟩:=hrow;have hpos:cur.size≠0:=by omega
  rw[run_callFunc_extern Tryd.func113 (by kernel_rfl) (by kernel_rfl) (by kernel_rfl) (e:=Extern.SlicesOverlaps.overlaps #[23,23] #[4]) (by kernel_rfl),
   Lib.run_overlaps_apart w 23 4 81 Tryd.underlying23 5 Tryd.sizeOf81 ⟨vb,0,none⟩ ⟨g,o,none⟩ 1 1 lb cb hne 81 81 5 cur.size (by simp[World.shape?,hv]) (by simp[World.shape?,h1]) hpos (by simp[World.frozen?,hv]) (by simp[World.frozen?,hv])]
  rfl
 have hci:¬c=i:=by omega
 have hci1:¬c=i+1:=by omega
 have hw1:IntKind.i64.wrap ((i:Int)+1)=(i:Int)+1:=by rw[IntKind.wrap_i64];omega
 have hb1:(0:Int)≤(i:Int)+1:=by omega
 have htn:((i:Int)+1).toNat=i+1:=by omega
 have hb3:(i:Int)≤(n:Int)+1:=by omega
 have hb4:i≤n:=by omega
 have hb5:i≤n+1:=by omega
 have hz2:¬((i:Int)=(n:Int)):=by omega
 have hcm':=hcm;unfold maxLen at hcm'
 go_enter Tryd.func90,Tryd.ntmps90
 go_wp2_with (simp only[hov])
 have hdl:(wgs (ws.drop i)).length=(n - i)*5:=by rw[wgs_len];simp[hl]
 have hRd:=(Reads.of_own hown).2 (by omega);obtain⟨b0,o0,e0,-,hcell⟩:=hRd;simp only[Option.some.injEq,Addr.mk.injEq,and_true] at e0;obtain⟨rfl,rfl⟩:=e0
 have hcp1:∀ty,(Builtin.copy_ #[23,23] ty #[.slice (some ⟨g,(i+1)*5,none⟩) (n - i) (c - (i+1)),.slice (some ⟨g,i*5,none⟩) (n+1 - i) (c - i)]).run Tryd.prog w.drew = .ok (goInt (Nat.min (n+1 - i) (n - i))) (w.drew.setCells g ((i+1)*5) (wgs (ws.drop i))):=fun ty=>
  run_copyN w.drew _ _ ty 81 5 g ((i+1)*5) (n - i) (c - (i+1)) ⟨g,i*5,none⟩ (n+1 - i) (c - i) (wgs (ws.drop i)) Tryd.underlying23 info_size (by rw[hdl];congr 1;simp only[Nat.min_def];split<;>omega)
   (fun j v hj=>by rw[Addr.add_lit];rw[wgs_drop,List.getElem?_drop] at hj;have:=hcell _ v hj;rwa [Nat.zero_add] at this)
   (fun j hj=>hrow.there (o:=(i+1)*5+j) (by rw[hdl] at hj;omega)) (fun j hj=>hrow.frozen _) (wgs_one _)
 obtain⟨W1,hW1⟩:∃W1,W1=w.drew.setCells g ((i+1)*5) (wgs (ws.drop i)):=⟨_,rfl⟩;have hB1:Kp w.heap.size [g] w W1:=by rw[hW1];exact kp_sets (by simp) _ _ _ (Kp.refl _ _ _).drew
 have hrow1:∀o,o<c*5→(W1.cell? ⟨g,o,none⟩).isSome=true∧W1.frozen? ⟨g,o,none⟩=false:=fun o ho=>by
  obtain⟨f,f1,f2⟩:=hrow;have:=rowIs_sets (wgs (ws.drop i)) ((i+1)*5) w.drew f f1;rw[←hW1] at this;exact⟨by rw[this.cell ho];rfl,this.frozen _⟩
 have hv1:W1.heap[vb]? = w.heap[vb]?:=by
  have:Kp (w.heap.size) [g] w W1:=(by rw[hW1];exact kp_sets (by simp) _ _ _ (Kp.refl _ _ _).drew);exact this.block vb (Array.getElem?_eq_some_iff.1 hv).1 (by simpa using hne)
 have hcp2:∀ty,(Builtin.copy_ #[23,23] ty #[.slice (some ⟨g,i*5,none⟩) (n+1 - i) (c - i),.slice (some ⟨vb,0,none⟩) 1 1]).run Tryd.prog W1 = .ok (goInt (Nat.min 1 (n+1 - i))) (W1.setCells g (i*5) (wgc x)):=fun ty=>
  run_copyN W1 _ _ ty 81 5 g (i*5) (n+1 - i) (c - i) ⟨vb,0,none⟩ 1 1 (wgc x) Tryd.underlying23 info_size (by simp only[Nat.min_def];split<;>simp[wgc]<;>omega)
   (fun j v hj=>by rw[Addr.add_lit,Nat.zero_add];simp only[World.cell?,hv1,hv];simpa [wgc] using hj)
   (fun j hj=>(hrow1 _ (by simp[wgc] at hj;omega)).1) (fun j hj=>(hrow1 _ (by simp[wgc] at hj;omega)).2) (by intro v hv;simp[wgc] at hv;rcases hv with rfl|rfl|rfl|rfl|rfl<;>rfl)
 have hfin:Hid ((W1.setCells g (i*5) (wgc x)).ownsRow base 81 5 (.slice (some ⟨g,0,none⟩) (n+1) c) (n+1) (wgs (insW ws i x))):=by
  have:=(ins_row (W:=w.drew) (x:=x) hl hi hroom hcm hbg (RowOf.congr (w:=w.drew) hrow (Nat.le_of_lt hi) (fun _ _=>rfl))).1;rw[←hW1] at this;exact this
 rw[←hW1] at hcp1;have HB1:=Lib.hid hB1;have HG:=Lib.hid hbg;clear hv1 hrow1 hB1 hcell hdl hrow hown hv hov hbg hb hcm hl hW1
 go_region_law (refine step_copyI rfl _ _ 23 23 rfl _ _ (by simp[Act.eval,Act.put]) (by simp[Act.eval,Act.put]) (hcp1 _) ?_)
 go_wp2_with (at_builtin;refine wpList_copyI _ rfl _ _ 23 23 rfl _ _ rfl rfl (hcp2 _) ?_)
 go_ret;exact⟨_,rfl,hfin.out,kp_sets (by simp) _ _ _ HB1.out⟩
set_option maxRecDepth 100000 in
set_option maxHeartbeats 2000000 in
/-- There is no room. -/
theorem ins_grow(g n c i base vb:Nat)(ws:List WE)(x:WE)(w:World)(hn:n≤4096)(hi:i<n)(hfull:c<n+1)(hown:w.ownsRow base 81 5 (.slice (some ⟨g,0,none⟩) n c) n (wgs ws))(hb:base≤w.heap.size)
  (hv:w.heap[vb]? = some (.cells #[.int .i64 x.1,.int .i64 x.2.1,.int .i64 x.2.2.1,.int .i64 x.2.2.2.1,.int .i64 x.2.2.2.2] 81 (0,0))) :
  Calls Tryd.prog 90 #[.slice (some ⟨g,0,none⟩) n c,.int .i64 i,.slice (some ⟨vb,0,none⟩) 1 1] w fun e w'=>∃v',e = .returned v'∧w'.ownsRow base 81 5 v' (n+1) (wgs (insW ws i x))∧Kp w.heap.size [g] w w':=by
 obtain⟨hl,hnc,hcm,hbg,hrow⟩:=RowOf.from (f:=wgc) (fun _=>rfl) (by omega) hown;obtain⟨i0,gi,gz0,gz1,gz2⟩:=info_parts info_wg;obtain rfl:c=n:=by omega
 have hgl:=hrow.lt;have hvl:=(Array.getElem?_eq_some_iff.1 hv).1;obtain⟨b0,o0,e0,-,hcell⟩:=(Reads.of_own hown).2 (by omega);simp only[Option.some.injEq,Addr.mk.injEq,and_true] at e0;obtain⟨rfl,rfl⟩:=e0;have htl:((wgs ws).take (i*5)).length=i*5:=by rw[List.length_take,wgs_len];omega
 have hold:(Builtin.firstCells i0.size i (.slice (some ⟨g,0,none⟩) i c)).run Tryd.prog w.drew = .ok ((wgs ws).take (i*5)).toArray w.drew:=by
  rw[gz1];exact run_firstCells_some w.drew 5 i ⟨g,0,none⟩ i c _ htl (fun j v hj=>by
   rw[Addr.add_lit];rw[List.getElem?_take] at hj;split at hj
   ·exact hcell j v hj
   ·cases hj)
 have hik:i+(c+1 - i)=c+1:=by omega
 have hkk:(c:Int)+1 - (i:Int)=((c+1 - i:Nat):Int):=by omega
 obtain⟨G,hG⟩:∃G,G=grownCap w (c+1) c 81:=⟨_,rfl⟩;obtain⟨ROW,hROW⟩:∃ROW:Array Value,ROW=((wgs ws).take (i*5)).toArray++Builtin.zeroCells #[.int .i64 0,.int .i64 0,.int .i64 0,.int .i64 0,.int .i64 0] (c+1 - i)++Builtin.zeroCells #[.int .i64 0,.int .i64 0,.int .i64 0,.int .i64 0,.int .i64 0] (G - (c+1)):=⟨_,rfl⟩;have hGn:c+1≤G:=by rw[hG];exact grownCap_ge w _ _ _
 have hGm:G≤maxLen:=by rw[hG];exact grownCap_le_maxLen w (c+1) c _ (by unfold maxLen;omega)
 have hrz:∀ty,(Builtin.append_ #[23,3] ty #[.slice (some ⟨g,0,none⟩) i c,.int .i64 ((c:Int)+1 - (i:Int))]).run Tryd.prog w =
   .ok (.slice (some ⟨w.heap.size,0,none⟩) (c+1) G) (w.drew.alloc (.cells ROW 81)):=fun ty=>by
  have h:=Lib.run_append_grow_zeros w 23 3 ty 81 i0 _ .i64 .i64 Tryd.underlying23 Tryd.underlying3 gi gz0 (some ⟨g,0,none⟩) i c _ hold (c+1 - i) (by omega) (by omega) (by omega) (by omega) (by rw[gz2];omega) (by rw[gz2,hik];exact growslice_fits (by omega) (by omega));rw[hik,←hG] at h;rw[hkk,hROW];exact h
 have hRs:ROW.size=G*5:=by
  rw[hROW];simp only[Array.size_append,List.size_toArray,htl,Builtin.zeroCells,Array.size_map,Array.size_range];show i*5+(c+1 - i)*5+(G - (c+1))*5=G*5;omega
 have hRow:RowOf (w.drew.alloc (.cells ROW 81)) w.heap.size 81 5 G wgc i (fun k=>ws.getD k default):=by
  refine⟨fun j=>ROW[j]?.getD undef,⟨ROW,heap_alloc_new w.drew _,hRs,fun j hj=>?_⟩,fun k hk t u hu=>?_⟩
  ·have h:=Array.getElem?_eq_getElem (xs:=ROW) (i:=j) (by omega);simp only[h,Option.getD_some]
  ·have ht:t<5:=(List.getElem?_eq_some_iff.1 hu).1;have e1:ws[k]? = some (ws[k]'(by omega)):=List.getElem?_eq_getElem _;have e2:ws.getD k default=ws[k]'(by omega):=(by rw[List.getD_eq_getElem?_getD,e1];rfl);simp only[e2] at hu;have e3:ROW[k*5+t]? = some u:=by
    rw[hROW,Array.append_assoc,Array.getElem?_append_left (by rw[List.size_toArray,htl];omega),List.getElem?_toArray,List.getElem?_take_of_lt (by omega),wgs,flat_get wgc 5 (fun _=>rfl) _ _ _ ht,e1];exact hu
   simp[e3]
 obtain⟨W1,hW1⟩:∃W1,W1=w.drew.alloc (.cells ROW 81):=⟨_,rfl⟩;have hs1:W1.heap.size=w.heap.size+1:=by rw[hW1];simp
 rw[←hW1] at hrz hRow;have hOld:∀b,b<w.heap.size→W1.heap[b]? = w.heap[b]?:=fun b hb=>by rw[hW1];exact heap_alloc_old w.drew _ hb
 have hcpA:∀ty,(Builtin.copy_ #[23,23] ty #[.slice (some ⟨w.heap.size,i*5,none⟩) (c+1 - i) (G - i),.slice (some ⟨vb,0,none⟩) 1 1]).run Tryd.prog W1 = .ok (goInt (Nat.min 1 (c+1 - i))) (W1.setCells w.heap.size (i*5) (wgc x)):=fun ty=>
  run_copyN W1 _ _ ty 81 5 w.heap.size (i*5) (c+1 - i) (G - i) ⟨vb,0,none⟩ 1 1 (wgc x) Tryd.underlying23 info_size (by simp only[Nat.min_def];split<;>simp[wgc]<;>omega)
   (fun j v hj=>by rw[Addr.add_lit,Nat.zero_add];simp only[World.cell?,hOld vb hvl,hv];simpa [wgc] using hj)
   (fun j hj=>hRow.there (by simp[wgc] at hj;omega)) (fun j hj=>hRow.frozen _) (by intro v hv;simp[wgc] at hv;rcases hv with rfl|rfl|rfl|rfl|rfl<;>rfl)
 obtain⟨W2,hW2⟩:∃W2,W2=W1.setCells w.heap.size (i*5) (wgc x):=⟨_,rfl⟩;have hdl:(wgs (ws.drop i)).length=(c - i)*5:=by rw[wgs_len];simp[hl]
 have hrow2:∀o,o<G*5→(W2.cell? ⟨w.heap.size,o,none⟩).isSome=true∧W2.frozen? ⟨w.heap.size,o,none⟩=false:=fun o ho=>by
  obtain⟨f,f1,f2⟩:=hRow;have:=rowIs_sets (wgc x) (i*5) W1 f f1;rw[←hW2] at this;exact⟨by rw[this.cell ho];rfl,this.frozen _⟩
 have hk2:Kp (w.heap.size+1) [w.heap.size] W1 W2:=by rw[hW2];exact kp_sets (by simp) _ _ _ (Kp.refl _ _ _)
 have hcpB:∀ty,(Builtin.copy_ #[23,23] ty #[.slice (some ⟨w.heap.size,(i+1)*5,none⟩) (c - i) (G - (i+1)),.slice (some ⟨g,i*5,none⟩) (c - i) (c - i)]).run Tryd.prog W2.drew = .ok (goInt (Nat.min (c - i) (c - i))) (W2.drew.setCells w.heap.size ((i+1)*5) (wgs (ws.drop i))):=fun ty=>
  run_copyN W2.drew _ _ ty 81 5 w.heap.size ((i+1)*5) (c - i) (G - (i+1)) ⟨g,i*5,none⟩ (c - i) (c - i) (wgs (ws.drop i)) Tryd.underlying23 info_size (by rw[hdl];congr 1;simp only[Nat.min_def];split<;>omega)
   (fun j v hj=>by
    rw[Addr.add_lit];rw[wgs_drop,List.getElem?_drop] at hj;have h1:=hcell _ v hj;rw[Nat.zero_add] at h1;have h2:W2.drew.cell? ⟨g,i*5+j,none⟩=w.cell? ⟨g,i*5+j,none⟩:=by
     have h3:=hk2.block g (by omega) (by simp;omega);exact World.cell?_of_block (w:=w) (w':=W2.drew) (h3.trans (hOld g hgl))
    rw[h2];exact h1)
   (fun j hj=>(hrow2 ((i+1)*5+j) (by rw[hdl] at hj;omega)).1) (fun j hj=>(hrow2 ((i+1)*5+j) (by rw[hdl] at hj;omega)).2) (wgs_one _)
 have hfin:Hid ((W2.drew.setCells w.heap.size ((i+1)*5) (wgs (ws.drop i))).ownsRow base 81 5 (.slice (some ⟨w.heap.size,0,none⟩) (c+1) G) (c+1) (wgs (insW ws i x))):=by
  have:=(ins_row (W:=W1) (x:=x) (base:=base) hl hi hGn hGm hb hRow).2;rw[←hW2] at this;show World.ownsRow _ _ _ _ _ _ _;rw[show W2.drew.setCells w.heap.size ((i+1)*5) (wgs (ws.drop i))=(W2.setCells w.heap.size ((i+1)*5) (wgs (ws.drop i))).drew from(drew_sets _ _ _ _).symm];exact this
 have HB2:Hid (Below w.heap.size w (W2.drew.setCells w.heap.size ((i+1)*5) (wgs (ws.drop i)))):=by
  show Below _ _ _;refine below_sets (Nat.le_refl _) _ _ _ (Below.drew ?_);rw[hW2];refine below_sets (Nat.le_refl _) _ _ _ ?_;rw[hW1];exact((Below.refl _ _).drew).alloc (Nat.le_refl _) _
 rw[←hW2] at hcpA;have hci:¬c=i:=by omega
 have hGi:¬G=i:=by omega
 have hGi1:¬G=i+1:=by omega
 have hw1:IntKind.i64.wrap ((i:Int)+1)=(i:Int)+1:=by rw[IntKind.wrap_i64];omega
 have hb1:(0:Int)≤(i:Int)+1:=by omega
 have htn:((i:Int)+1).toNat=i+1:=by omega
 have hb3:(i:Int)≤(c:Int)+1:=by omega
 have hb4:i≤c:=by omega
 have hb5:i≤c+1:=by omega
 have hz2:¬((i:Int)=(c:Int)):=by omega
 have hGm':=hGm;unfold maxLen at hGm';clear hfull hkk hik hold hROW hG hRs hRow hOld hrow2 hk2 hdl hcell hrow hown hv hbg hb hcm hl hW2 hW1 hs1 htl hgl hvl gi gz0 gz1 gz2 hGm
 go_enter Tryd.func90,Tryd.ntmps90
 go_wp2_with (first
  |(at_builtin;refine Lib.wpList_append_run _ rfl _ _ _ _ rfl _ _ rfl rfl _ _ (hrz _) ?_)
  |(at_builtin;refine wpList_copyI _ rfl _ _ 23 23 rfl _ _ rfl rfl (hcpA _) ?_))
 go_region_law (refine step_copyI rfl _ _ 23 23 rfl _ _ (by simp[Act.eval,Act.put]) (by simp[Act.eval,Act.put]) (hcpB _) ?_)
 go_wp2;go_ret;exact⟨_,rfl,hfin.out,.of_below HB2.out⟩
/-- A weighing is put in its place. -/
theorem insert_any(v:Value)(n i base vb:Nat)(ws:List WE)(x:WE)(w:World)(hn:n≤4096)(hi:i≤n)(hne:v.ownBlock≠some vb)(hown:w.ownsRow base 81 5 v n (wgs ws))(hb:base≤w.heap.size)
  (hv:w.heap[vb]? = some (.cells #[.int .i64 x.1,.int .i64 x.2.1,.int .i64 x.2.2.1,.int .i64 x.2.2.2.1,.int .i64 x.2.2.2.2] 81 (0,0))) :
  Calls Tryd.prog 90 #[v,.int .i64 i,.slice (some ⟨vb,0,none⟩) 1 1] w fun e w'=>∃v',e = .returned v'∧w'.ownsRow base 81 5 v' (n+1) (wgs (insW ws i x))∧Kp w.heap.size v.ownBlock.toList w w':=by
 rcases Nat.lt_or_ge i n with h|h
 ·rcases hown.2 with ⟨_,h0⟩|⟨g,cap,cur,rfl,hg,hgh,hnc,hcm,_⟩
  ·omega
  ·rcases Nat.lt_or_ge cap (n+1) with hc|hc
   ·exact ins_grow g n cap i base vb ws x w hn h hc hown hb hv
   ·exact ins_room g n cap i base vb ws x w hn h hc (fun e=>hne (by rw[e];rfl)) hown hb hv
 ·obtain rfl:i=n:=(by omega);exact ins_end v i base vb ws x w hn hown hb hv
end Go.Proofs.YtfplipbkjglmhaaDoor
namespace Go.Proofs.YtfplipbkjglmhaaDoor
open Go.RowKit
set_option linter.unusedVariables false
set_option linter.unusedSimpArgs false
def cmpI (x y:Int):Int:=if x<y then -1 else if y<x then 1 else 0
theorem isNaN_any(x:Int)(w:World):Calls Tryd.prog 112 #[.int .i64 x] w fun e w'=>e = .returned (.bool false)∧w=w':=by
 go_enter Tryd.func112,Tryd.ntmps112
 go_wp2;go_ret;exact⟨ret_bool (by simp),rfl⟩
theorem compare_any(x y:Int)(w:World):Calls Tryd.prog 89 #[.int .i64 x,.int .i64 y] w fun e w'=>e = .returned (.int .i64 (cmpI x y))∧w=w':=by
 by_cases h1:x<y
 ·have hr:Hid (cmpI x y = -1):=by show _=_;unfold cmpI;rw[if_pos h1]
  go_enter Tryd.func89,Tryd.ntmps89
  (go_wp2_with (first|(go_at_call 112;refine(isNaN_any _ _).mono ?_;rintro e w' ⟨rfl,rfl⟩)|fail));go_ret;exact⟨ret_int hr.out.symm,rfl⟩
 ·by_cases h2:y<x
  ·have hr:Hid (cmpI x y=1):=by show _=_;unfold cmpI;rw[if_neg h1,if_pos h2]
   go_enter Tryd.func89,Tryd.ntmps89
   (go_wp2_with (first|(go_at_call 112;refine(isNaN_any _ _).mono ?_;rintro e w' ⟨rfl,rfl⟩)|fail));go_ret;exact⟨ret_int hr.out.symm,rfl⟩
  ·have hr:Hid (cmpI x y=0):=by show _=_;unfold cmpI;rw[if_neg h1,if_neg h2]
   go_enter Tryd.func89,Tryd.ntmps89
   (go_wp2_with (first|(go_at_call 112;refine(isNaN_any _ _).mono ?_;rintro e w' ⟨rfl,rfl⟩)|fail));go_ret;exact⟨ret_int hr.out.symm,rfl⟩
theorem weigh1_any(x:WE)(t:Int)(w:World) :
  Calls Tryd.prog 88 #[.agg #[.int .i64 x.1,.int .i64 x.2.1,.int .i64 x.2.2.1,.int .i64 x.2.2.2.1,.int .i64 x.2.2.2.2],.int .i64 t] w fun e w'=>e = .returned (.int .i64 (cmpI x.1 t))∧Below w.heap.size w w':=by
 obtain⟨N,P,K,L,H⟩:=x;have hH:=Lib.hid (fun w=>compare_any N t w);simp only;generalize cmpI N t=r at *
 go_enter Tryd.func88,Tryd.ntmps88
 go_wp2_with fail
 refine(hH.out _).mono ?_;rintro e w1 ⟨rfl,rfl⟩;go_wp2;go_ret;exact⟨rfl,(Below.refl _ _).alloc (Nat.le_refl _) _⟩
/-- How many weighings stand ahead of a number. -/
def posW (ws:List WE) (t:Int):Nat:=(ws.takeWhile fun x=>decide (x.1<t)).length
theorem takeWhile_len{α:Type}(p:α→Bool):∀(l:List α) (i:Nat),i≤l.length→(∀(k:Nat) (x:α),k<i→l[k]? = some x→p x=true)→(∀x,l[i]? = some x→p x=false)→(l.takeWhile p).length=i
 |[],i,h,_,_=>by simp at h;subst h;rfl
 |y::r,0,_,_,h=>by
  have:=h y rfl;simp[List.takeWhile_cons,this]
 |y::r,i+1,hl,h1,h2=>by
  have hy:=h1 0 y (by omega) rfl;have:=takeWhile_len p r i (by simpa using hl) (fun k x hk hx=>h1 (k+1) x (by omega) (by simpa using hx)) (fun x hx=>h2 x (by simpa using hx));simp[List.takeWhile_cons,hy,this]
/-- Numbers rise. -/
def Rise (ws:List WE):Prop:=∀(i j:Nat) (x y:WE),i<j→ws[i]? = some x→ws[j]? = some y→x.1<y.1
set_option maxRecDepth 100000 in
set_option maxHeartbeats 1000000 in
theorem search_any(A:Option Addr)(n c:Nat)(ws:List WE)(t:Int)(w:World)(hn:n≤4096)(hR:Reads w w.heap.size 5 A n (wgs ws))(hS:Rise ws) :
  Calls Tryd.prog 87 #[.slice A n c,.int .i64 t,.func (.func 88) #[] #[]] w fun e w'=>∃b,e = .returned (.tuple #[.int .i64 (posW ws t),.bool b])∧Below w.heap.size w w':=by
 have hl:=hR.wg_len;have HW1:=Lib.hid (fun x w=>weigh1_any x t w);have HSr:=Lib.hid hS;clear hS
 go_enter Tryd.func87,Tryd.ntmps87
 go_wp2;go_loopw [9,10] (fun s9 s10 wr=>∃i j:Nat,i≤j∧j≤n∧s9 = .int .i64 i∧s10 = .int .i64 j∧Hid (∀(k:Nat) (x:WE),k<i→ws[k]? = some x→x.1<t)∧Hid (∀(k:Nat) (x:WE),j≤k→ws[k]? = some x→t≤x.1)∧Hid (Below w.heap.size w wr)) (fun s9 s10 _=>(intOf s10).toNat - (intOf s9).toNat)
 case atStart=>exact⟨0,n,by omega,by omega,rfl,rfl,fun k x hk=>absurd hk (by omega),fun k x hk hx=>absurd (List.getElem?_eq_some_iff.1 hx).1 (by omega),Below.refl _ _⟩
 case round=>
  obtain⟨i,j,hij,hjn,rfl,rfl,hlo,hhi,hB⟩:=hrel;have hsz:=Lib.hid hB.out.size;by_cases hlt:i<j
  ·have hh1:i≤(i+j)/2:=(by omega);have hh2:(i+j)/2<j:=(by omega);obtain⟨b,o,N,P,K,L,H,rfl,hb,hx,c0,c1,c2,c3,c4⟩:=(hR.below hB.out).wg (k:=(i+j)/2) (by omega);by_cases hN:N<t
   ·have hr:Hid (cmpI N t = -1):=(by show _=_;unfold cmpI;rw[if_pos hN]);have hlo':Hid (∀(k:Nat) (x:WE),k<(i+j)/2+1→ws[k]? = some x→x.1<t):=by
     intro k x hk hkx;by_cases hkh:k=(i+j)/2
     ·subst hkh;rw[hx] at hkx;cases hkx;exact hN
     ·have:=HSr.out k ((i+j)/2) x _ (by omega) hkx hx;simp only at this;omega
    clear hx hN;(go_wp2_with fail);refine(HW1.out (N,P,K,L,H) _).mono ?_;rintro e w1 ⟨rfl,hb1⟩;rw[hr.out];have hB1:=Lib.hid (below_via hB.out hsz.out hb1);clear hb1;go_wp2;go_roundw
    case rel=>exact⟨(i+j)/2+1,j,by omega,by omega,vint (by omega),rfl,hlo',hhi,hB1⟩
    case measure=>simp[intOf];omega
   ·have hr:Hid (0≤cmpI N t):=(by show _≤_;unfold cmpI;rw[if_neg hN];split<;>omega);have hhi':Hid (∀(k:Nat) (x:WE),(i+j)/2≤k→ws[k]? = some x→t≤x.1):=by
     intro k x hk hkx;by_cases hkh:k=(i+j)/2
     ·subst hkh;rw[hx] at hkx;cases hkx;simp only;omega
     ·have:=HSr.out ((i+j)/2) k _ x (by omega) hx hkx;simp only at this;omega
    clear hx hN;(go_wp2_with fail);refine(HW1.out (N,P,K,L,H) _).mono ?_;rintro e w1 ⟨rfl,hb1⟩;have hB1:=Lib.hid (below_via hB.out hsz.out hb1);clear hb1;simp only;have hr':¬(cmpI N t<0):=(by have:=hr.out;omega);generalize cmpI N t=r at *;go_wp2;go_roundw
    case rel=>exact⟨i,(i+j)/2,by omega,by omega,rfl,vint (by omega),hlo,hhi',hB1⟩
    case measure=>simp[intOf];omega
  ·obtain rfl:i=j:=(by omega);have hpos:Hid (posW ws t=i):=takeWhile_len _ ws i (by omega) (fun k x hk hx=>by simpa using hlo.out k x hk hx) (fun x hx=>by have:=hhi.out i x (Nat.le_refl _) hx;simpa using this);have key:=Lib.hid (fun b:Bool=>(by rw[hpos.out]:Ending.returned (.tuple #[.int .i64 i,.bool b]) = .returned (.tuple #[.int .i64 (posW ws t),.bool b])));by_cases hin:i<n
   ·obtain⟨b,o,N,P,K,L,H,rfl,hb,hx,c0,c1,c2,c3,c4⟩:=(hR.below hB.out).wg hin;clear hx;(go_wp2_with fail);refine(HW1.out (N,P,K,L,H) _).mono ?_;rintro e w1 ⟨rfl,hb1⟩;have hB1:=Lib.hid (below_via hB.out hsz.out hb1);clear hb1;simp only;generalize cmpI N t=r at *;go_wp2
    go_ret2
    exact⟨_,key.out _,hB1.out⟩
   ·go_wp2
    go_ret2
    exact⟨_,key.out _,hB.out⟩
end Go.Proofs.YtfplipbkjglmhaaDoor
namespace Go.Proofs.YtfplipbkjglmhaaDoor
open Go.RowKit
set_option linter.unusedVariables false
set_option linter.unusedSimpArgs false
def weighS (ps:List PR) (ws:List WE) (x:WE):(List PR×List WE)×Int:=
 if validP ps ws then if ws.length=30 then(([],[]),9) else if validP ps (insW ws (posW ws x.1) x) then((ps,insW ws (posW ws x.1) x),0) else(([],[]),21) else(([],[]),20)
/-- What stands in each world behind the copies of the arguments. -/
structure PC (w:World) (A A':Option Addr) (n c n' c':Nat) (ps:List PR) (ws:List WE) (x:WE) (z:World):Prop where
 b0:z.heap[w.heap.size]? = some (.cells #[.slice A n c,.slice A' n' c'] 25 (0,0))
 bx:z.heap[w.heap.size+1]? = some (.cells #[.int .i64 x.1,.int .i64 x.2.1,.int .i64 x.2.2.1,.int .i64 x.2.2.2.1,.int .i64 x.2.2.2.2] 81 (0,0))
 b1:z.heap[w.heap.size+2]? = some (.cells #[.slice none 0 0,.slice none 0 0] 25 (0,0))
 bel:Below w.heap.size w z
 size:w.heap.size+3≤z.heap.size
 laid:Laid z
section
variable {w z y:World} {A A':Option Addr} {n c n' c':Nat} {ps:List PR} {ws:List WE} {x:WE}
theorem PC.below(h:PC w A A' n c n' c' ps ws x z)(hb:Below z.heap.size z y):PC w A A' n c n' c' ps ws x y:=by
 have hs:=h.size;have hs2:=hb.size;exact⟨keepO hb h.b0,keepO hb h.bx,keepO hb h.b1,below_via h.bel (by omega) hb,by omega,h.laid.below hb h.laid.2.2.2⟩
end
theorem five_facts{x:World}{b:Nat}{c0 c1 c2 c3 c4:Value}{t:TypeId}(h:x.heap[b]? = some (.cells #[c0,c1,c2,c3,c4] t (0,0))) :
  x.cell? ⟨b,0,none⟩=some c0∧x.cell? ⟨b,1,none⟩=some c1∧x.cell? ⟨b,2,none⟩=some c2∧x.cell? ⟨b,3,none⟩=some c3∧x.cell? ⟨b,4,none⟩=some c4:=
 ⟨by simp[World.cell?,h],by simp[World.cell?,h],by simp[World.cell?,h],by simp[World.cell?,h],by simp[World.cell?,h]⟩
theorem allW_rise{ps:List PR}:∀{ws:List WE} {last:Int},allW ps last ws=true→Rise ws∧∀(k:Nat) (y:WE),ws[k]? = some y→last<y.1
 |[],last,_=>⟨fun i j x y h hx=>by simp at hx,fun k y h=>by simp at h⟩
 |a::r,last,h=>by
  simp only[allW,Bool.and_eq_true] at h;obtain⟨h1,h2⟩:=h;obtain⟨r1,r2⟩:=allW_rise h2;simp only[okW,Bool.and_eq_true,decide_eq_true_eq] at h1;have hla:last<a.1:=(by omega);refine⟨fun i j x y hij hx hy=>?_,fun k y hy=>?_⟩
  ·cases j with
   |zero=>omega
   |succ j=>
    cases i with
    |zero=>simp at hx;subst hx;exact r2 j y (by simpa using hy)
    |succ i=>exact r1 i j x y (by omega) (by simpa using hx) (by simpa using hy)
  ·cases k with
   |zero=>simp at hy;subst hy;exact hla
   |succ k=>have:=r2 k y (by simpa using hy);omega
theorem own_lt{w:World}{base:Nat}{e:TypeId}{size n:Nat}{v:Value}{xs:List Value}(h:w.ownsRow base e size v n xs){k:Nat}(hk:v.ownBlock=some k):base≤k∧k<w.heap.size:=by
 rcases h.2 with ⟨h0,-⟩|⟨g1,cap',cur,h1,h2,h3,h4⟩
 ·rw[h0] at hk;cases hk
 ·rw[h1] at hk;simp only[Value.ownBlock,Option.some.injEq] at hk;subst hk;exact⟨h2,(Array.getElem?_eq_some_iff.1 h3).1⟩
theorem own_apart2{w:World}{base base' n m k:Nat}{xs ys:List Value}{u v:Value}(h:w.ownsRow base 51 4 u n xs)(h':w.ownsRow base' 81 5 v m ys)(hk:u.ownBlock=some k):v.ownBlock≠some k:=by
 intro hm;rcases h.2 with ⟨h0,-⟩|⟨g1,cap1,cur1,h1,-,h3,-⟩
 ·rw[h0] at hk;cases hk
 ·rw[h1] at hk;simp only[Value.ownBlock,Option.some.injEq] at hk;subst hk;rw[h1] at h;exact own_apart h h' hm rfl
theorem posW_le(ws:List WE)(t:Int):posW ws t≤ws.length:=by
 unfold posW;exact List.takeWhile_sublist _ |>.length_le
set_option maxRecDepth 100000 in
set_option maxHeartbeats 2000000 in
theorem weigh_any(A A':Option Addr)(n c n' c':Nat)(ps:List PR)(ws:List WE)(x:WE)(w:World)(hnm:n≤maxLen)(hnm':n'≤maxLen)(hR:Reads w w.heap.size 4 A n (pgs ps))(hW:Reads w w.heap.size 5 A' n' (wgs ws))(hL:Laid w) :
  Calls Tryd.prog 44 #[.agg #[.slice A n c,.slice A' n' c'],.agg #[.int .i64 x.1,.int .i64 x.2.1,.int .i64 x.2.2.1,.int .i64 x.2.2.2.1,.int .i64 x.2.2.2.2]] w fun e w'=>Res w.heap.size (weighS ps ws x) e w'∧Below w.heap.size w w':=by
 have hl:=hR.pg_len;have hl':=hW.wg_len;obtain⟨wb,hwb⟩:∃wb,wb=((w.alloc (.cells #[.slice A n c,.slice A' n' c'] 25)).alloc (.cells #[.int .i64 x.1,.int .i64 x.2.1,.int .i64 x.2.2.1,.int .i64 x.2.2.2.1,.int .i64 x.2.2.2.2] 81)).alloc (.cells #[.slice none 0 0,.slice none 0 0] 25):=⟨_,rfl⟩;have hbb:Below w.heap.size w wb:=by rw[hwb];exact(((Below.refl _ _).alloc (Nat.le_refl _) _).alloc (by simp) _).alloc (by simp<;>omega) _
 have HP0:Hid (PC w A A' n c n' c' ps ws x wb):=by
  refine⟨?_,?_,?_,hbb,by rw[hwb];simp,hL.below hbb hL.2.2.2⟩
  ·rw[hwb,heap_lt_alloc' _ _ _ (by simp<;>omega),heap_lt_alloc' _ _ _ (by simp)];exact heap_alloc_new w _
  ·rw[hwb,heap_lt_alloc' _ _ _ (by simp)];have:=heap_alloc_new (w.alloc (.cells #[.slice A n c,.slice A' n' c'] 25)) (.cells #[.int .i64 x.1,.int .i64 x.2.1,.int .i64 x.2.2.1,.int .i64 x.2.2.2.1,.int .i64 x.2.2.2.2] 81);simpa using this
  ·rw[hwb];have:=heap_alloc_new ((w.alloc (.cells #[.slice A n c,.slice A' n' c'] 25)).alloc (.cells #[.int .i64 x.1,.int .i64 x.2.1,.int .i64 x.2.2.1,.int .i64 x.2.2.2.1,.int .i64 x.2.2.2.2] 81)) (.cells #[.slice none 0 0,.slice none 0 0] 25);simpa using this
 have HG0:=Lib.hid hL.2.2.2;have HRp:=Lib.hid (fun z (hz:PC w A A' n c n' c' ps ws x z)=>(hR.below hz.bel).more hz.bel.size);have HRw:=Lib.hid (fun z (hz:PC w A A' n c n' c' ps ws x z)=>(hW.below hz.bel).more hz.bel.size);have HCk:=Lib.hid (fun z (hz:PC w A A' n c n' c' ps ws x z)=>Check_any A A' n c n' c' ps ws z (HRp.out z hz) (HRw.out z hz) hz.laid);clear hR hW hL hbb;cases hv:validP ps ws
 ·have hc:Hid (checkS ps ws=20):=(by show _=_;unfold checkS;rw[hv];rfl);have hs:Hid (weighS ps ws x=(([],[]),20)):=(by show _=_;unfold weighS;rw[hv];rfl);rw[hc.out] at HCk;clear hv hl hl'
  go_enter Tryd.func44,Tryd.ntmps44
  (go_wp2_with fail);rw[←hwb];clear hwb;refine(HCk.out _ HP0.out).mono ?_;rintro e z1 ⟨rfl,hb1⟩;have HP1:=Lib.hid (HP0.out.below hb1);clear hb1;obtain⟨g0,g1,f0,f1⟩:=two_facts HP1.out.b1;go_wp2;obtain⟨e0,e1⟩:=set_back HP1.out.b1 (.slice none 0 0) (.slice none 0 0);exact bodyPost_ret (v:=.tuple #[.agg #[.slice none 0 0,.slice none 0 0],.int .i64 20]) (by simp[results,Tryd.results44,go_sem,e0,e1]) rfl ⟨Res.nil hs.out,below_two HP1.out.bel (by omega) _ _⟩
 ·have hc:Hid (checkS ps ws=0):=(by show _=_;unfold checkS;rw[hv];rfl);rw[hc.out] at HCk;have hn:n≤10:=by
   have h:=hv;simp only[validP,Bool.and_eq_true,decide_eq_true_eq] at h;omega
  have hn':n'≤30:=by
   have h:=hv;simp only[validP,Bool.and_eq_true,decide_eq_true_eq] at h;omega
  have hrise:Hid (Rise ws):=by
   have h:=hv;simp only[validP,Bool.and_eq_true] at h;exact(allW_rise h.2).1
  by_cases h30:n'=30
  ·have hs:Hid (weighS ps ws x=(([],[]),9)):=(by show _=_;unfold weighS;rw[hv,if_pos rfl,if_pos (by omega)]);subst h30;clear hv hl hl'
   go_enter Tryd.func44,Tryd.ntmps44
   (go_wp2_with fail);rw[←hwb];clear hwb;refine(HCk.out _ HP0.out).mono ?_;rintro e z1 ⟨rfl,hb1⟩;have HP1:=Lib.hid (HP0.out.below hb1);clear hb1;obtain⟨p0,p1,-,-⟩:=two_facts HP1.out.b0;obtain⟨g0,g1,f0,f1⟩:=two_facts HP1.out.b1;go_wp2;obtain⟨e0,e1⟩:=set_back HP1.out.b1 (.slice none 0 0) (.slice none 0 0);exact bodyPost_ret (v:=.tuple #[.agg #[.slice none 0 0,.slice none 0 0],.int .i64 9]) (by simp[results,Tryd.results44,go_sem,e0,e1]) rfl ⟨Res.nil hs.out,below_two HP1.out.bel (by omega) _ _⟩
  ·have HS:Hid (weighS ps ws x=if validP ps (insW ws (posW ws x.1) x) then((ps,insW ws (posW ws x.1) x),0) else(([],[]),21)):=by
    show _=_;unfold weighS;rw[hv,if_pos rfl,if_neg (by omega)]
   have hpl:=posW_le ws x.1;rw[hl'] at hpl;have HWo:=Lib.hid (fun z (hz:PC w A A' n c n' c' ps ws x z)=>without_any A A' n c n' c' ps ws none 0 0 [] z (by omega) (by omega) (by unfold maxLen;omega) (HRp.out z hz) (HRw.out z hz) Reads.none_);rw[lessW_nil] at HWo;have h30':((n':Int)==30)=false:=(by simp;omega);have HL':=Lib.hid hl';clear hv hl hl' h30
   go_enter Tryd.func44,Tryd.ntmps44
   (go_wp2_with fail);rw[←hwb];clear hwb;refine(HCk.out _ HP0.out).mono ?_;rintro e z1 ⟨rfl,hb1⟩;have HP1:=Lib.hid (HP0.out.below hb1);clear hb1;obtain⟨p0,p1,-,-⟩:=two_facts HP1.out.b0;(go_wp2_with fail);refine(HWo.out _ HP1.out).mono ?_;rintro e z2 ⟨A1,c1,A2,m2,c2,rfl,ho1,ho2,hb2⟩;have HP2:=Lib.hid (HP1.out.below hb2);have hm2:m2=n':=by
    have:=(Reads.of_own ho2).wg_len;have:=HL'.out;omega
   subst hm2;have hz1:=HP1.out.size;obtain⟨y2,hy2⟩:∃y2,y2=(z2.setCell ⟨w.heap.size,0,none⟩ (.slice A1 n c1)).setCell ⟨w.heap.size,1,none⟩ (.slice A2 m2 c2):=⟨_,rfl⟩;have ho1':y2.ownsRow z1.heap.size 51 4 (.slice A1 n c1) n (pgs ps):=by
    rw[hy2];exact own_far (p:=⟨w.heap.size,1,none⟩) (own_far (p:=⟨w.heap.size,0,none⟩) ho1 (by simp only;omega) _) (by simp only;omega) _
   have ho2':y2.ownsRow z1.heap.size 81 5 (.slice A2 m2 c2) m2 (wgs ws):=by
    rw[hy2];exact own_far (p:=⟨w.heap.size,1,none⟩) (own_far (p:=⟨w.heap.size,0,none⟩) ho2 (by simp only;omega) _) (by simp only;omega) _
   have HPy:Hid (PC w A1 A2 n c1 m2 c2 ps ws x y2):=by
    have hb:Below w.heap.size z2 y2:=(by rw[hy2];exact((Below.refl _ _).setCell (by simp) _).setCell (by simp) _);refine⟨by rw[hy2];exact set_two _ _ _ _ _ _ _ HP2.out.b0,?_,?_,HP2.out.bel.trans hb,by rw[hy2];simp;exact HP2.out.size,HP2.out.laid.below hb HG0.out⟩
    ·rw[hy2,Below.heap_setCell _ _ _ _ (by simp),Below.heap_setCell _ _ _ _ (by simp)];exact HP2.out.bx
    ·rw[hy2,Below.heap_setCell _ _ _ _ (by simp),Below.heap_setCell _ _ _ _ (by simp)];exact HP2.out.b1
   have hzy:z1.heap.size≤y2.heap.size:=(by rw[hy2];simp;exact hb2.size);obtain⟨p0',p1',q0,q1⟩:=two_facts HP2.out.b0;obtain⟨x0,x1,x2,x3,x4⟩:=five_facts HP2.out.bx;have Hy2:Hid ((z2.setCell ⟨w.heap.size,0,none⟩ (.slice A1 n c1)).setCell ⟨w.heap.size,1,none⟩ (.slice A2 m2 c2)=y2):=(by show _=_;rw[hy2]);have HO1:=Lib.hid ho1';have HO2:=Lib.hid ho2';have HZy:=Lib.hid hzy;have HBs:=Lib.hid (search_any A2 m2 c2 ws x.1 y2 (by omega) (Reads.of_own ho2') hrise.out);clear ho1 ho2 ho1' ho2' hy2 hzy hb2 p0 p1;(go_wp2_with fail);rw[Hy2.out];clear p0' p1' q0 q1 x0 x1 x2 x3 x4;refine HBs.out.mono ?_;rintro e z3 ⟨fb,rfl,hb3⟩;have HP3:=Lib.hid (HPy.out.below hb3);have HO1':=Lib.hid (own_below HO1.out hb3);have HO2':=Lib.hid (own_below HO2.out hb3);have hs3:=hb3.size;have HZ3:Hid (z1.heap.size≤z3.heap.size):=Nat.le_trans HZy.out hs3;clear hb3 hs3;obtain⟨p0,p1,q0,q1⟩:=two_facts HP3.out.b0;obtain⟨x0,x1,x2,x3,x4⟩:=five_facts HP3.out.bx;generalize hpos:posW ws x.1=pos at *;obtain⟨y3,hy3⟩:∃y3,y3=z3.alloc (.cells #[.int .i64 x.1,.int .i64 x.2.1,.int .i64 x.2.2.1,.int .i64 x.2.2.2.1,.int .i64 x.2.2.2.2] 81):=⟨_,rfl⟩;have hby:Below z3.heap.size z3 y3:=(by rw[hy3];exact(Below.refl _ _).alloc (Nat.le_refl _) _);have HPy3:=Lib.hid (HP3.out.below hby);have HO1y:=Lib.hid (own_below HO1'.out hby);have HO2y:=Lib.hid (own_below HO2'.out hby);have hvb:y3.heap[z3.heap.size]? = some (.cells #[.int .i64 x.1,.int .i64 x.2.1,.int .i64 x.2.2.1,.int .i64 x.2.2.2.1,.int .i64 x.2.2.2.2] 81 (0,0)):=by rw[hy3];exact heap_alloc_new z3 _
   have hne:(Value.slice A2 m2 c2).ownBlock≠some z3.heap.size:=by
    intro h;have:=own_lt HO2'.out h;omega
   have HIn:=Lib.hid (insert_any (.slice A2 m2 c2) m2 pos z1.heap.size z3.heap.size ws x y3 (by omega) hpl hne HO2y.out (Nat.le_trans HZ3.out hby.size) hvb);have HZy3:=Lib.hid hby.size;clear hby hvb hne;(go_wp2_with fail);rw[←hy3];clear hy3;refine HIn.out.mono ?_;rintro e z4 ⟨v4,rfl,ho4,hk4⟩;obtain⟨A4,c4,hv4⟩:=own_val ho4;have hz3:=HZ3.out;have hy3s:=HPy3.out.size;have hD:∀d,d∈(Value.slice A2 m2 c2).ownBlock.toList→z1.heap.size≤d:=fun d hd=>by
    have:(Value.slice A2 m2 c2).ownBlock=some d:=(by simpa using hd);exact(own_lt HO2y.out this).1
   have hyz:z1.heap.size≤y3.heap.size:=Nat.le_trans HZ3.out HZy3.out;have hb4:Below z1.heap.size y3 z4:=hk4.below hyz hD;have h0:z4.heap[w.heap.size]? = some (.cells #[.slice A1 n c1,.slice A2 m2 c2] 25 (0,0)):=(hb4.block _ (by omega)).trans HPy3.out.b0;have h1:z4.heap[w.heap.size+2]? = some (.cells #[.slice none 0 0,.slice none 0 0] 25 (0,0)):=(hb4.block _ (by omega)).trans HPy3.out.b1;have hO1z:z4.ownsRow z1.heap.size 51 4 (.slice A1 n c1) n (pgs ps):=own_block HO1y.out (fun k hk=>hk4.block k (own_lt HO1y.out hk).2 (fun hm=>by
    have hm':(Value.slice A2 m2 c2).ownBlock=some k:=by simpa using hm
    exact own_apart2 HO1y.out HO2y.out hk hm'))
   obtain⟨y4,hy4⟩:∃y4,y4=z4.setCell ⟨w.heap.size,1,none⟩ v4:=⟨_,rfl⟩;have hB4:Below w.heap.size w y4:=(by rw[hy4];exact(HPy3.out.bel.trans (hb4.mono (by omega))).setCell (by simp) _);have hs4:y4.heap.size=z4.heap.size:=(by rw[hy4];simp);have hzs:=hb4.size;have ho1y:y4.ownsRow z1.heap.size 51 4 (.slice A1 n c1) n (pgs ps):=(by rw[hy4];exact own_far (p:=⟨w.heap.size,1,none⟩) hO1z (by simp only;omega) _);have ho4y:y4.ownsRow z1.heap.size 81 5 v4 (m2+1) (wgs (insW ws pos x)):=(by rw[hy4];exact own_far (p:=⟨w.heap.size,1,none⟩) ho4 (by simp only;omega) _);have h0y:y4.heap[w.heap.size]? = some (.cells #[.slice A1 n c1,v4] 25 (0,0)):=by
    rw[hy4];simp[World.setCell,Array.getElem?_modify,h0]
   have h1y:y4.heap[w.heap.size+2]? = some (.cells #[.slice none 0 0,.slice none 0 0] 25 (0,0)):=(by rw[hy4,Below.heap_setCell _ _ _ _ (by simp)];exact h1);have hLd:Laid y4:=HPy3.out.laid.below (B:=w.heap.size) (by rw[hy4];exact(hb4.mono (by omega)).setCell (by simp) _) HG0.out;subst hv4;have HCk4:=Lib.hid (Check_any A1 A4 n c1 (m2+1) c4 ps (insW ws pos x) y4 (Reads.of_own ho1y) (Reads.of_own ho4y) hLd);have HO1z:=Lib.hid ho1y;have HO4z:=Lib.hid ho4y;have HB4:=Lib.hid hB4;have H1y:=Lib.hid h1y;have HS4:Hid (w.heap.size+3≤y4.heap.size):=(by show _≤_;omega);obtain⟨p0,p1,q0,q1⟩:=two_facts h0;have Hy4:Hid (z4.setCell ⟨w.heap.size,1,none⟩ (.slice A4 (m2+1) c4)=y4):=(by show _=_;rw[hy4]);have H0y:=Lib.hid h0y;clear hk4 hb4 h0 h1 hO1z hB4 hs4 hzs ho1y ho4y h0y h1y hLd ho4 hy4 hD hyz hz3 hy3s x0 x1 x2 x3 x4;(go_wp2_with fail);rw[Hy4.out];clear p0 p1 q0 q1;refine HCk4.out.mono ?_;rintro e z5 ⟨rfl,hb5⟩;have hR5:=keepO hb5 H1y.out;have hP5:=keepO hb5 H0y.out;obtain⟨g0,g1,f0,f1⟩:=two_facts hR5;obtain⟨p0,p1,-,-⟩:=two_facts hP5;have HR5:=Lib.hid hR5;have hO1:=Lib.hid (own_below HO1z.out hb5);have hO2:=Lib.hid (own_below HO4z.out hb5);have HB5:=Lib.hid (below_via HB4.out (by have:=HS4.out;omega) hb5);have hz1':=HP1.out.size;clear hb5 hR5 hP5;cases hv2:validP ps (insW ws pos x)
   ·have hs:Hid (weighS ps ws x=(([],[]),21)):=(by show _=_;rw[HS.out,hv2];rfl);have hc2:checkS ps (insW ws pos x)=20:=(by unfold checkS;rw[hv2];rfl);rw[hc2];clear hv2 hc2;go_wp2;obtain⟨e0,e1⟩:=set_back HR5.out (.slice none 0 0) (.slice none 0 0);exact bodyPost_ret (v:=.tuple #[.agg #[.slice none 0 0,.slice none 0 0],.int .i64 21]) (by simp[results,Tryd.results44,go_sem,e0,e1]) rfl ⟨Res.nil hs.out,below_two HB5.out (by omega) _ _⟩
   ·have hs:Hid (weighS ps ws x=((ps,insW ws pos x),0)):=(by show _=_;rw[HS.out,hv2];rfl);have hc2:checkS ps (insW ws pos x)=0:=(by unfold checkS;rw[hv2];rfl);rw[hc2];clear hv2 hc2;go_wp2;obtain⟨e0,e1⟩:=set_back HR5.out (.slice A1 n c1) (.slice A4 (m2+1) c4);refine bodyPost_ret (v:=.tuple #[.agg #[.slice A1 n c1,.slice A4 (m2+1) c4],.int .i64 0]) (by simp[results,Tryd.results44,go_sem,e0,e1]) rfl ⟨?_,below_two HB5.out (by omega) _ _⟩;rw[hs.out]
    exact⟨_,_,_,_,_,_,rfl,own_mono (own_far (p:=⟨w.heap.size+2,1,none⟩) (own_far (p:=⟨w.heap.size+2,0,none⟩) hO1.out (by simp only;omega) _) (by simp only;omega) _) (by omega),
     own_mono (own_far (p:=⟨w.heap.size+2,1,none⟩) (own_far (p:=⟨w.heap.size+2,0,none⟩) hO2.out (by simp only;omega) _) (by simp only;omega) _) (by omega)⟩
end Go.Proofs.YtfplipbkjglmhaaDoor
namespace Go.Proofs.YtfplipbkjglmhaaDoor
open Go.RowKit Go.Maps
set_option linter.unusedVariables false
theorem lawI:Keyed Tryd.prog 3:=int_keyed Tryd.underlying3
def otherKey (p:Lit×DataW Unit):Bool:=match p.1 with|.int .i64 _=>false|_=>true
def noOther (D:DataW Unit):Prop:=∀es,D = .map es→es.any otherKey=false
theorem noOther_nil:noOther (.map []):=fun es e=>by cases e;rfl
theorem noOther_put{D:DataW Unit}(h:noOther D)(k:Int)(d:DataW Unit):noOther (D.put (.int .i64 k) d):=by
 intro es e;cases D with
 |map es0=>
  simp only[DataW.put,DataW.map.injEq] at e;subst e;rw[any_insert];have h0:=h es0 rfl;rw[List.any_eq_false] at h0;simp only[otherKey,Bool.false_or];rw[List.any_eq_false];intro x hx;exact h0 x ((List.mem_filter.1 hx).1)
 |_=>cases e
theorem noOther_del{D:DataW Unit}(h:noOther D)(k:Int):noOther (D.del (.int .i64 k)):=by
 intro es e;cases D with
 |map es0=>
  simp only[DataW.del,DataW.map.injEq] at e;subst e;have h0:=h es0 rfl;rw[List.any_eq_false] at h0 ⊢;intro x hx;exact h0 x ((List.mem_filter.1 hx).1)
 |_=>cases e
/-- Block b of w is a map of at most n numbers, those of which S says so. -/
def OwnsKeys (w:World) (b n:Nat) (S:Int→Bool):Prop:=
 ∃D:DataW Unit,w.ownsMap Tryd.prog 3 (plainElem Tryd.prog 4) b n D∧IsMap D∧noOther D∧∀k:Int,Maps.has D (.int .i64 k)=S k
theorem OwnsKeys.made(w:World):OwnsKeys (w.alloc (.map #[] 0)) w.heap.size 0 (fun _=>false):=
 ⟨.map [],World.ownsMap_made _ _ _ _,⟨[],rfl⟩,noOther_nil,fun _=>rfl⟩
theorem OwnsKeys.lt{w:World}{b n:Nat}{S:Int→Bool}(h:OwnsKeys w b n S):b<w.heap.size:=by
 obtain⟨D,h1,h2⟩:=h;exact h1.lt
theorem OwnsKeys.of_block{w w':World}{b n:Nat}{S:Int→Bool}(h:OwnsKeys w b n S)(hb:w'.heap[b]? = w.heap[b]?):OwnsKeys w' b n S:=by
 obtain⟨D,⟨es,clock,h1,h2⟩,h3⟩:=h;exact⟨D,⟨es,clock,hb.trans h1,h2⟩,h3⟩
theorem OwnsKeys.ext{w:World}{b n:Nat}{S T:Int→Bool}(h:OwnsKeys w b n S)(e:∀k,S k=T k):OwnsKeys w b n T:=by
 obtain⟨D,h1,h2,h3,h4⟩:=h;exact⟨D,h1,h2,h3,fun k=>by rw[h4,e]⟩
section
variable {w:World} {ops:Array Oper} {rest:List Oper} {o:Oper} {a:Act} {Q:Exit→Act→World→Prop}
theorem put_key(hg:o.guard=none)(m x v:Operand)(hop:o.op=Op.mapUpdate 138 m x v)(b n:Nat)(S:Int→Bool)(k:Int)
  (hm:a.eval m = .map (some b)) (hown:OwnsKeys w b n S) (hn:n<maxLen) (hx:a.eval x = .int .i64 k) (hk:(Lit.int .i64 k).wf=true) (hv:a.eval v = .bool true)
  (hK:∀w',OwnsKeys w' b (n+1) (fun j=>decide (j=k) || S j)→w.grownBy w' (some b)→wpList Tryd.prog ops Q rest (a.put o.dst undef) w'):wpList Tryd.prog ops Q (o::rest) a w:=by
 obtain⟨D,h1,h2,h3,h4⟩:=hown;refine wpList_mapUpdate_own w hg m x v 138 hop 3 4 lawI Tryd.underlying138 _ b n D hm h1 hn _ _ _ hx hv (keyOf_int_mk Tryd.underlying3 hk) (.lit (.bool true)) [] (plainElem_bool Tryd.underlying4 true) ?_;intro w' g1 g2;refine hK w' ⟨_,g1,h2.put _ _,noOther_put h3 _ _,fun j=>?_⟩ g2;by_cases hj:j=k
 ·subst hj;rw[has_put_same h2 (k:=.int .i64 j) (by simp[WideAt.IsKeyLit])];simp
 ·rw[has_put_other (by simpa using hj),h4];simp[hj]
theorem del_key(hg:o.guard=none)(m x:Operand)(hop:o.op=Op.call { callee:=Callee.builtin Builtin.delete,args:=#[m,x],argTypes:=#[138,3] })(b n:Nat)(S:Int→Bool)(k:Int)
  (hm:a.eval m = .map (some b)) (hown:OwnsKeys w b n S) (hx:a.eval x = .int .i64 k) (hk:(Lit.int .i64 k).wf=true)
  (hK:∀w',OwnsKeys w' b n (fun j=>!decide (j=k) && S j)→w.grownBy w' (some b)→wpList Tryd.prog ops Q rest (a.put o.dst (.tuple #[])) w'):wpList Tryd.prog ops Q (o::rest) a w:=by
 obtain⟨D,h1,h2,h3,h4⟩:=hown;refine wpList_delete_own w hg m x 138 3 hop 4 lawI Tryd.underlying138 _ b n D hm h1 _ _ hx (keyOf_int_mk Tryd.underlying3 hk) ?_;intro w' g1 g2;refine hK w' ⟨_,g1,h2.del _,noOther_del h3 _,fun j=>?_⟩ g2.grown;by_cases hj:j=k
 ·subst hj;rw[has_del_same];simp
 ·rw[has_del_other (by simpa using hj),h4];simp[hj]
theorem len_key(hg:o.guard=none)(m:Operand)(hop:o.op=Op.call { callee:=Callee.builtin Builtin.len,args:=#[m],argTypes:=#[138] })(b n:Nat)(S:Int→Bool)
  (hm:a.eval m = .map (some b)) (hown:OwnsKeys w b n S)
  (hK:∀c:Nat,c≤n→(c=0↔∀k,S k=false)→wpList Tryd.prog ops Q rest (a.put o.dst (.int .i64 c)) w):wpList Tryd.prog ops Q (o::rest) a w:=by
 obtain⟨D,h1,h2,h3,h4⟩:=hown;refine wpList_len_own w hg m 138 hop 3 4 Tryd.underlying138 _ b n D hm h1 (hK (Maps.size D) h1.size_le ?_);obtain⟨es,rfl⟩:=h2;simp only[size_eq,has_eq] at h4 ⊢;constructor
 ·intro h0 k;rw[←h4,List.eq_nil_of_length_eq_zero h0];rfl
 ·intro hS;cases es with
  |nil=>rfl
  |cons p r=>
   exfalso;have h0:=h3 _ rfl;rw[List.any_eq_false] at h0;have h5:=h0 p (by simp);obtain⟨l,d⟩:=p
   match l,h5 with
   |.int .i64 k,_=>
    have h6:=h4 k;rw[hS k] at h6;simp[Lit.sameKey] at h6
end
end Go.Proofs.YtfplipbkjglmhaaDoor
namespace Go.Proofs.YtfplipbkjglmhaaDoor
open Go.RowKit Go.Maps
set_option linter.unusedVariables false
set_option linter.unusedSimpArgs false
def numW (ws:List WE) (j:Int):Bool:=ws.any fun x=>decide (j=x.1)
def incB (l:List Int):Bool:=(List.range l.length).all fun i=>match i with|0=>true|i+1=>decide (l[i]?.getD 0<l[i+1]?.getD 0)
def strikeS (ps:List PR) (ws:List WE) (l:List Int):(List PR×List WE)×Int:=
 if validP ps ws then if incB l && l.all (numW ws) then((ps,lessW ws l),0) else(([],[]),21) else(([],[]),20)
def IncTo (l:List Int) (k:Nat):Prop:=∀i,i+1<k→l[i]?.getD 0<l[i+1]?.getD 0
theorem incB_true{l:List Int}(h:IncTo l l.length):incB l=true:=by
 unfold incB;rw[List.all_eq_true];intro i hi;rw[List.mem_range] at hi;cases i with
 |zero=>rfl
 |succ i=>simpa using h i hi
theorem incB_false{l:List Int}{k:Nat}(hk:k+1<l.length)(h:l[k+1]?.getD 0≤l[k]?.getD 0):incB l=false:=by
 unfold incB;rw[List.all_eq_false];exact⟨k+1,List.mem_range.2 hk,by simpa using h⟩
theorem hasI_snoc{l:List Int}{k:Nat}(hk:k<l.length)(j:Int):hasI (l.take (k+1)) j=(decide (j=l[k]?.getD 0) || hasI (l.take k) j):=by
 unfold hasI;rw[List.take_succ_eq_append_getElem hk,List.any_append,List.getElem?_eq_getElem hk,Bool.or_comm];congr 1;simp only[List.any_cons,List.any_nil,Bool.or_false,Option.getD_some];rw[Bool.eq_iff_iff];simp
theorem numW_snoc{ws:List WE}{k:Nat}{x:WE}(hx:ws[k]? = some x)(j:Int):numW (ws.take (k+1)) j=(decide (j=x.1) || numW (ws.take k) j):=by
 unfold numW;rw[List.take_add_one,hx,List.any_append,Bool.or_comm];simp
theorem strike_last{l:List Int}{ws:List WE}{c:Nat}(h:c=0↔∀k,(hasI l k && !numW ws k)=false):(c=0↔l.all (numW ws)=true):=by
 rw[h,List.all_eq_true];constructor
 ·intro H x hx;have h1:=H x;have h2:hasI l x=true:=(by unfold hasI;rw[List.any_eq_true];exact⟨x,hx,by simp⟩);rw[h2] at h1;simpa using h1
 ·intro H k;by_cases hk:hasI l k=true
  ·have h0:=hk;unfold hasI at hk;rw[List.any_eq_true] at hk;obtain⟨x,hx,hxk⟩:=hk;have:k=x:=(by simpa using hxk);subst this;rw[H k hx];simp
  ·simp at hk;rw[hk];rfl
theorem allW_num{ps:List PR}:∀{ws:List WE} {last:Int},allW ps last ws=true→∀(k:Nat) (x:WE),ws[k]? = some x→last<x.1∧1≤x.1∧x.1≤9999
 |[],last,_,k,x,hx=>by simp at hx
 |y::r,last,h,k,x,hx=>by
  simp only[allW,Bool.and_eq_true] at h;obtain⟨h1,h2⟩:=h;simp only[okW,rng,Bool.and_eq_true,decide_eq_true_eq] at h1;cases k with
  |zero=>simp at hx;subst hx;omega
  |succ k=>
   have:=allW_num h2 k x (by simpa using hx);omega
theorem valid_num{ps:List PR}{ws:List WE}(h:validP ps ws=true):∀(k:Nat) (x:WE),ws[k]? = some x→1≤x.1∧x.1≤9999:=by
 simp only[validP,Bool.and_eq_true] at h;intro k x hx;have:=allW_num h.2 k x hx;omega
set_option maxRecDepth 100000 in
set_option maxHeartbeats 2000000 in
theorem strike_any(A A':Option Addr)(n c n' c':Nat)(ps:List PR)(ws:List WE)(Al:Option Addr)(nl cl:Nat)(l:List Int)(w:World)(hnm:n≤maxLen)(hnm':n'≤maxLen)(hnl:nl≤4096)(hwf:∀x∈l,(Lit.int .i64 x).wf=true)
  (hR:Reads w w.heap.size 4 A n (pgs ps)) (hW:Reads w w.heap.size 5 A' n' (wgs ws)) (hLr:Reads w w.heap.size 1 Al nl (ints l)) (hL:Laid w) :
  Calls Tryd.prog 37 #[.agg #[.slice A n c,.slice A' n' c'],.slice Al nl cl] w fun e w'=>Res w.heap.size (strikeS ps ws l) e w'∧Below w.heap.size w w':=by
 have hl:=hR.pg_len;have hl':=hW.wg_len;have hll:l.length=nl:=by simpa using hLr.len
 obtain⟨wb,hwb⟩:∃wb,wb=(w.alloc (.cells #[.slice A n c,.slice A' n' c'] 25)).alloc (.cells #[.slice none 0 0,.slice none 0 0] 25):=⟨_,rfl⟩;have HP0:=Lib.hid (PB.start hwb hR hW hL);have HCk:=Lib.hid (fun z (hz:PB w wb A A' n c n' c' ps ws z)=>Check_any A A' n c n' c' ps ws z hz.rp hz.rw_ hz.laid);have HLr:=Lib.hid (fun z (hz:PB w wb A A' n c n' c' ps ws z)=>(hLr.below hz.bel).more hz.bel.size);clear hR hW hL hLr;cases hv:validP ps ws
 ·have hc:Hid (checkS ps ws=20):=(by show _=_;unfold checkS;rw[hv];rfl);have hs:Hid (strikeS ps ws l=(([],[]),20)):=(by show _=_;unfold strikeS;rw[hv];rfl);rw[hc.out] at HCk;clear hv hl hl' hll
  go_enter Tryd.func37,Tryd.ntmps37
  (go_wp2_with fail);rw[←hwb];clear hwb;refine(HCk.out _ HP0.out).mono ?_;rintro e z1 ⟨rfl,hb1⟩;have HP1:=Lib.hid (HP0.out.below hb1);clear hb1;obtain⟨g0,g1,f0,f1⟩:=two_facts HP1.out.b1;go_wp2;obtain⟨e0,e1⟩:=set_back HP1.out.b1 (.slice none 0 0) (.slice none 0 0);exact bodyPost_ret (v:=.tuple #[.agg #[.slice none 0 0,.slice none 0 0],.int .i64 20]) (by simp[results,Tryd.results37,go_sem,e0,e1]) rfl ⟨Res.nil hs.out,below_two HP1.out.bel (by omega) _ _⟩
 ·have hc:Hid (checkS ps ws=0):=(by show _=_;unfold checkS;rw[hv];rfl);rw[hc.out] at HCk;have hn:n≤10:=by
   have h:=hv;simp only[validP,Bool.and_eq_true,decide_eq_true_eq] at h;omega
  have hn':n'≤30:=by
   have h:=hv;simp only[validP,Bool.and_eq_true,decide_eq_true_eq] at h;omega
  have hwn:Hid (∀(k:Nat) (x:WE),ws[k]? = some x→1≤x.1∧x.1≤9999):=valid_num hv;have HS:Hid (strikeS ps ws l=if incB l && l.all (numW ws) then((ps,lessW ws l),0) else(([],[]),21)):=by
   show _=_;unfold strikeS;rw[hv,if_pos rfl]
  have HWo:=Lib.hid (fun z (hz:PB w wb A A' n c n' c' ps ws z)=>without_any A A' n c n' c' ps ws Al nl cl l z (by omega) (by omega) (by unfold maxLen;omega) hz.rp hz.rw_ (HLr.out z hz));have hmm:=@run_makeMap Tryd.prog;have HL:=Lib.hid hll;have HL':=Lib.hid hl';have HWF:=Lib.hid hwf;clear hv hl hl' hll hwf
  go_enter Tryd.func37,Tryd.ntmps37
  (go_wp2_with fail);rw[←hwb];clear hwb;refine(HCk.out _ HP0.out).mono ?_;rintro e z1 ⟨rfl,hb1⟩;have HP1:=Lib.hid (HP0.out.below hb1);clear hb1;have HM0:=Lib.hid (OwnsKeys.made z1);go_wp2;go_loopw [21] (fun x wr=>∃k:Nat,k≤nl∧x = .int .i64 k∧Hid (OwnsKeys wr z1.heap.size k (hasI (l.take k)))∧Hid (IncTo l k)∧Hid (Below z1.heap.size z1 wr)) (fun x _=>nl - (intOf x).toNat)
  case atStart=>exact⟨0,by omega,rfl,Lib.hid (HM0.out.ext (fun k=>rfl)),fun i hi=>absurd hi (by omega),Lib.hid ((Below.refl _ _).alloc (Nat.le_refl _) _)⟩
  case round=>
   obtain⟨k,hk,rfl,hK,hI,hB⟩:=hrel;have HPr:=Lib.hid (HP1.out.below hB.out);by_cases hlt:k<nl
   ·obtain⟨b,o,rfl,hbb,hc0⟩:=(HLr.out wr HPr.out).int hlt;have hwk:Hid ((Lit.int .i64 (l[k]?.getD 0)).wf=true):=HWF.out _ (by rw[List.getElem?_eq_getElem (by have:=HL.out;omega)];exact List.getElem_mem _);have hsn:=Lib.hid (hasI_snoc (l:=l) (k:=k) (by have:=HL.out;omega));rcases k with _|k
    ·rw[show ((0:Nat):Int)=0 from rfl];simp only[Nat.add_zero] at hc0;(go_wp2_with (at_mapUpdate;refine put_key rfl _ _ _ rfl z1.heap.size 0 (hasI (l.take 0)) _ rfl hK.out (by unfold maxLen;omega) rfl hwk.out rfl ?_;intro w1 hown1 hg1;replace hown1:=Lib.hid hown1;replace hg1:=Lib.hid hg1));go_roundw
     case rel=>exact⟨1,by omega,by go_num,Lib.hid (hown1.out.ext (fun j=>(hsn.out j).symm)),fun i hi=>absurd hi (by omega),Lib.hid (hB.out.grown hg1.out hB.out.size (fun j hj=>by cases hj;omega))⟩
     case measure=>simp[intOf];omega
    ·obtain⟨b',o',e2,hbb',hc1⟩:=(HLr.out wr HPr.out).int (k:=k) (by omega);simp only[Option.some.injEq,Addr.mk.injEq,and_true] at e2;obtain⟨rfl,rfl⟩:=e2;have hkp:(0:Int)<((k+1:Nat):Int):=(by omega);have hk0:k≤4096:=(by omega);have hw1:=pw1 hk0;have hw2:=pw2 hk0;have hkn:(k:Int)<(nl:Int):=(by omega);have hk9:(0:Int)≤(k:Int):=(by omega);by_cases hle:l[k+1]?.getD 0≤l[k]?.getD 0
     ·have hs:Hid (strikeS ps ws l=(([],[]),21)):=by
       show _=_;rw[HS.out,incB_false (by have:=HL.out;omega) hle];rfl
      have hle':decide (l[k+1]?.getD 0≤l[k]?.getD 0)=true:=(by simpa using hle);obtain⟨g0,g1,f0,f1⟩:=two_facts HPr.out.b1;clear hle;go_wp2;obtain⟨e0,e1⟩:=set_back HPr.out.b1 (.slice none 0 0) (.slice none 0 0);exact bodyPost_ret (v:=.tuple #[.agg #[.slice none 0 0,.slice none 0 0],.int .i64 21]) (by simp[results,Tryd.results37,go_sem,e0,e1]) rfl ⟨Res.nil hs.out,below_two HPr.out.bel (by omega) _ _⟩
     ·have hle':decide (l[k+1]?.getD 0≤l[k]?.getD 0)=false:=(by simpa using hle);have hI':Hid (IncTo l (k+2)):=fun i hi=>by
       by_cases hik:i=k
       ·subst hik;omega
       ·exact hI.out i (by omega)
      clear hle;(go_wp2_with (at_mapUpdate;refine put_key rfl _ _ _ rfl z1.heap.size (k+1) (hasI (l.take (k+1))) _ rfl hK.out (by unfold maxLen;omega) rfl hwk.out rfl ?_;intro w1 hown1 hg1;replace hown1:=Lib.hid hown1;replace hg1:=Lib.hid hg1));go_roundw
      case rel=>exact⟨k+1+1,by omega,by go_num,Lib.hid (hown1.out.ext (fun j=>(hsn.out j).symm)),hI',Lib.hid (hB.out.grown hg1.out hB.out.size (fun j hj=>by cases hj;omega))⟩
      case measure=>simp[intOf];omega
   ·obtain rfl:k=nl:=(by omega);have hinc:Hid (incB l=true):=incB_true (by rw[HL.out];exact hI.out);have hK':Hid (OwnsKeys wr z1.heap.size k (fun j=>hasI l j && !numW (ws.take 0) j)):=hK.out.ext (fun j=>by
     rw[List.take_of_length_le (by have:=HL.out;omega)];simp[numW])
    obtain⟨p0,p1,-,-⟩:=two_facts HPr.out.b0;clear hK hI hlt;have hlt:¬((k:Int)<(k:Int)):=(by omega);go_wp2;go_loopw [44] (fun x wq=>∃m:Nat,m≤n'∧x = .int .i64 m∧Hid (OwnsKeys wq z1.heap.size k (fun j=>hasI l j && !numW (ws.take m) j))∧Hid (Below z1.heap.size z1 wq)) (fun x _=>n' - (intOf x).toNat)
    case atStart=>exact⟨0,by omega,rfl,hK',hB⟩
    case round=>
     clear hK' hB;obtain⟨m,hm,rfl,hK,hB⟩:=hrel;have HPq:=Lib.hid (HP1.out.below hB.out);clear p0 p1;by_cases hmt:m<n'
     ·obtain⟨b,o,N,P,K,L,H,rfl,hbb,hx,c0,c1,c2,c3,c4⟩:=HPq.out.rw_.wg hmt;have hN:=hwn.out _ _ hx;have hns:=Lib.hid (numW_snoc hx);clear hx;simp only at hN;have hKa:=Lib.hid (hK.out.of_block (heap_lt_alloc' wr (.cells #[.int .i64 N,.int .i64 P,.int .i64 K,.int .i64 L,.int .i64 H] 81) _ hK.out.lt));(go_wp2_with (at_delete;refine del_key rfl _ _ rfl z1.heap.size k _ N rfl hKa.out rfl (WalkArith.wf_i64 (by omega)) ?_;intro w1 hown1 hg1;replace hown1:=Lib.hid hown1;replace hg1:=Lib.hid hg1));go_roundw
      case rel=>exact⟨m+1,by omega,by go_num,Lib.hid (hown1.out.ext (fun j=>by rw[hns.out j];cases decide (j=N)<;>simp)),Lib.hid ((hB.out.alloc hB.out.size _).grown hg1.out (by have:=hB.out.size;simp;omega) (fun j hj=>by cases hj;omega))⟩
      case measure=>simp[intOf];omega
     ·obtain rfl:m=n':=(by omega);have hKe:Hid (OwnsKeys wr z1.heap.size k (fun j=>hasI l j && !numW ws j)):=hK.out.ext (fun j=>by rw[List.take_of_length_le (by have:=HL'.out;omega)]);clear hK;obtain⟨g0,g1,f0,f1⟩:=two_facts HPq.out.b1;by_cases hall:l.all (numW ws)=true
      ·have hs:Hid (strikeS ps ws l=((ps,lessW ws l),0)):=(by show _=_;rw[HS.out,hinc.out,hall];rfl);have HA:=Lib.hid hall;obtain⟨p0,p1,-,-⟩:=two_facts HPq.out.b0;clear hall;(go_wp2_with (first|(at_len;refine len_key rfl _ rfl z1.heap.size k _ rfl hKe.out ?_;intro cc hcc hc0;obtain rfl:cc=0:=(strike_last hc0).2 HA.out;clear hc0 hcc)|fail));refine(HWo.out _ HPq.out).mono ?_;rintro e z4 ⟨A1,c1,A2,m2,c2,rfl,ho1,ho2,hb4⟩;have HP4:=Lib.hid (HPq.out.below hb4);have HO1:=Lib.hid ho1;have HO2:=Lib.hid ho2;clear hb4 ho1 ho2 g0 g1 f0 f1;obtain⟨g0,g1,f0,f1⟩:=two_facts HP4.out.b1;go_wp2;obtain⟨e0,e1⟩:=set_back HP4.out.b1 (.slice A1 n c1) (.slice A2 m2 c2);refine bodyPost_ret (v:=.tuple #[.agg #[.slice A1 n c1,.slice A2 m2 c2],.int .i64 0]) (by simp[results,Tryd.results37,go_sem,e0,e1]) rfl ⟨?_,below_two HP4.out.bel (by omega) _ _⟩;rw[hs.out];have hq:=HPq.out.size
       exact⟨_,_,_,_,_,_,rfl,own_mono (own_far (p:=⟨w.heap.size+1,1,none⟩) (own_far (p:=⟨w.heap.size+1,0,none⟩) HO1.out (by simp only;omega) _) (by simp only;omega) _) (by omega),
        own_mono (own_far (p:=⟨w.heap.size+1,1,none⟩) (own_far (p:=⟨w.heap.size+1,0,none⟩) HO2.out (by simp only;omega) _) (by simp only;omega) _) (by omega)⟩
      ·have hs:Hid (strikeS ps ws l=(([],[]),21)):=by
        show _=_;rw[HS.out,hinc.out];simp[hall]
       have HA:=Lib.hid hall;clear hall;(go_wp2_with (first|(at_len;refine len_key rfl _ rfl z1.heap.size k _ rfl hKe.out ?_;intro cc hcc hc0;have hcp:0<(cc:Int):=(by have:=mt (strike_last hc0).1 ;have:cc≠0:=fun e=>HA.out ((strike_last hc0).1 e);omega);clear hc0 hcc)|fail));obtain⟨e0,e1⟩:=set_back HPq.out.b1 (.slice none 0 0) (.slice none 0 0);exact bodyPost_ret (v:=.tuple #[.agg #[.slice none 0 0,.slice none 0 0],.int .i64 21]) (by simp[results,Tryd.results37,go_sem,e0,e1]) rfl ⟨Res.nil hs.out,below_two HPq.out.bel (by omega) _ _⟩
end Go.Proofs.YtfplipbkjglmhaaDoor
namespace Go.Proofs.YtfplipbkjglmhaaDoor
open Go.RowKit
set_option linter.unusedVariables false
set_option linter.unusedSimpArgs false
end Go.Proofs.YtfplipbkjglmhaaDoor
