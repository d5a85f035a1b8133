/-
 The walk of the first truth: the program's.
-/
import Derived.Test.YtfplipbkjglmhaaDoorYld
import Derived.Test.YtfplipbkjglmhaaDoorRAsk
import Derived.Test.YtfplipbkjglmhaaDoorHold
namespace Go.Proofs.YtfplipbkjglmhaaDoor
open Go.RowKit
set_option linter.unusedVariables false
set_option linter.unusedSimpArgs false
/-- A list of weights: the cells of one element. -/
def wdc (f:Nat→Int):List Value:=[.int .i64 (f 0),.int .i64 (f 1),.int .i64 (f 2),.int .i64 (f 3),.int .i64 (f 4),.int .i64 (f 5),.int .i64 (f 6),.int .i64 (f 7)]
def wds (l:List (Nat→Int)):List Value:=l.flatMap wdc
theorem wds_snoc(l:List (Nat→Int))(f:Nat→Int):wds (l ++ [f])=wds l++wdc f:=by simp[wds]
theorem wdc_one(f:Nat→Int):∀u∈wdc f,u.oneCell'=true:=by
 intro u hu;simp[wdc] at hu;rcases hu with rfl|rfl|rfl|rfl|rfl|rfl|rfl|rfl<;>rfl
theorem info_wd:(Tryd.prog.info? 43).map (fun i=>(i.zero,i.size,i.bytes))=some (some (.agg #[.int .i64 0,.int .i64 0,.int .i64 0,.int .i64 0,.int .i64 0,.int .i64 0,.int .i64 0,.int .i64 0]),8,64):=by kernel_rfl
theorem facts8{x:World}{b:Nat}{f:Nat→Int}(h:x.heap[b]? = some (.cells #[.int .i64 (f 0),.int .i64 (f 1),.int .i64 (f 2),.int .i64 (f 3),.int .i64 (f 4),.int .i64 (f 5),.int .i64 (f 6),.int .i64 (f 7)] 43 (0,0))):x.cell? ⟨b,0,none⟩=some (.int .i64 (f 0))∧x.cell? ⟨b,1,none⟩=some (.int .i64 (f 1))∧x.cell? ⟨b,2,none⟩=some (.int .i64 (f 2))∧x.cell? ⟨b,3,none⟩=some (.int .i64 (f 3))∧x.cell? ⟨b,4,none⟩=some (.int .i64 (f 4))∧x.cell? ⟨b,5,none⟩=some (.int .i64 (f 5))∧x.cell? ⟨b,6,none⟩=some (.int .i64 (f 6))∧x.cell? ⟨b,7,none⟩=some (.int .i64 (f 7)):=by
 refine⟨?_,?_,?_,?_,?_,?_,?_,?_⟩<;>simp[World.cell?,h]
theorem wd_step{w:World}{b j:Nat}{f:Nat→Int}(hj:j<8)(v:Int)(h:w.heap[b]? = some (.cells #[.int .i64 (f 0),.int .i64 (f 1),.int .i64 (f 2),.int .i64 (f 3),.int .i64 (f 4),.int .i64 (f 5),.int .i64 (f 6),.int .i64 (f 7)] 43 (0,0))) :
  (w.setCell ⟨b,j,none⟩ (.int .i64 v)).heap[b]? = some (.cells #[.int .i64 ((fun q=>if q=j then v else f q) 0),.int .i64 ((fun q=>if q=j then v else f q) 1),.int .i64 ((fun q=>if q=j then v else f q) 2),.int .i64 ((fun q=>if q=j then v else f q) 3),.int .i64 ((fun q=>if q=j then v else f q) 4),.int .i64 ((fun q=>if q=j then v else f q) 5),.int .i64 ((fun q=>if q=j then v else f q) 6),.int .i64 ((fun q=>if q=j then v else f q) 7)] 43 (0,0))∧(∃u,w.cell? ⟨b,j,none⟩=some u)∧w.frozen? ⟨b,j,none⟩=false:=by
 rcases (by omega:j=0∨j=1∨j=2∨j=3∨j=4∨j=5∨j=6∨j=7) with rfl|rfl|rfl|rfl|rfl|rfl|rfl|rfl <;>
 exact⟨by simp[World.setCell,Array.getElem?_modify,h],⟨_,by simp[World.cell?,h];rfl⟩,by simp[World.frozen?,h]⟩
theorem rd_wd{w:World}{b:Nat}{f:Nat→Int}(h:w.heap[b]? = some (.cells #[.int .i64 (f 0),.int .i64 (f 1),.int .i64 (f 2),.int .i64 (f 3),.int .i64 (f 4),.int .i64 (f 5),.int .i64 (f 6),.int .i64 (f 7)] 43 (0,0))):Reads w w.heap.size 8 (some ⟨b,0,none⟩) 1 (wdc f):=by
 refine⟨rfl,fun _=>⟨b,0,rfl,(Array.getElem?_eq_some_iff.1 h).1,fun j u hu=>?_⟩⟩;have hj:j<8:=(List.getElem?_eq_some_iff.1 hu).1;rcases (by omega:j=0∨j=1∨j=2∨j=3∨j=4∨j=5∨j=6∨j=7) with rfl|rfl|rfl|rfl|rfl|rfl|rfl|rfl <;>
 ·simp[wdc] at hu;subst hu;simp[World.cell?,h]
/-- The weights of place i, as far as they are laid. -/
def wF (n:Nat) (t:Nat→Option Nat) (R:Nat→Nat→Sp) (id:Int) (i k:Nat):Nat→Int:=fun q=>if q=0 then id else if 2≤q∧q<k+2 then valF n t R i (q - 2) else 0
theorem wF_step(n:Nat)(t:Nat→Option Nat)(R:Nat→Nat→Sp)(id:Int)(i k:Nat):(fun q=>if q=1+(k+1) then valF n t R i k else wF n t R id i k q)=wF n t R id i (k+1):=by
 funext q
 unfold wF;by_cases h:q=1+(k+1)
 ·subst h;rw[if_pos rfl,if_neg (by omega),if_pos (by omega),show 1+(k+1) - 2=k by omega]
 ·rw[if_neg h];by_cases h0:q=0
  ·rw[if_pos h0,if_pos h0]
  ·rw[if_neg h0,if_neg h0];by_cases h2:2≤q∧q<k+2
   ·rw[if_pos h2,if_pos (by omega)]
   ·rw[if_neg h2,if_neg (by omega)]
def idO (ps:List PR) (i:Nat):Int:=match ps[i]? with|some x=>x.1|none=>0
def firL (ps:List PR) (ws:List WE) (m:Nat):List (Nat→Int):=(List.range m).map fun i=>wF ps.length (toT ps) (rowsT ps ws) (idO ps i) i 6
theorem firL_succ(ps:List PR)(ws:List WE)(m:Nat):firL ps ws (m+1)=firL ps ws m ++ [wF ps.length (toT ps) (rowsT ps ws) (idO ps m) m 6]:=by
 simp[firL,List.range_succ]
def firE (ps:List PR) (ws:List WE):Int:=if validP ps ws then if hasT ps ws then 0 else 8 else 20
def firS (ps:List PR) (ws:List WE):List (Nat→Int):=if validP ps ws then if hasT ps ws then firL ps ws ps.length else [] else []
def FirR (base:Nat) (l:List (Nat→Int)) (er:Int) (e:Ending) (w':World):Prop:=∃A m c,e = .returned (.tuple #[.slice A m c,.int .i64 er])∧w'.ownsRow base 43 8 (.slice A m c) m (wds l)
theorem FirR.nil{base:Nat}{l:List (Nat→Int)}{er er':Int}{w':World}(h:l = [])(h':er=er'):FirR base l er (.returned (.tuple #[.slice none 0 0,.int .i64 er'])) w':=by
 subst h;subst h';exact⟨none,0,0,rfl,World.ownsRow_nil _ _ _ _⟩
section
variable {z y:World} {mb n:Nat} {vp vw:Value} {t:Nat→Option Nat} {R:Nat→Nat→Sp} {At Ar Au:Option Addr} {ct cr cu gI:Nat}
theorem MO.below(h:MO z mb n vp vw t R At Ar Au ct cr cu gI)(hb:Below z.heap.size z y):MO y mb n vp vw t R At Ar Au ct cr cu gI:=
 ⟨keepO hb h.m,ownR_below h.to_ hb,ownR_below h.rows hb,ownR_below h.up hb,h.into.of_block (hb.block _ h.into.lt),h.g⟩
/-- Stores into a block that is none of the press's own. -/
theorem MO.block(h:MO z mb n vp vw t R At Ar Au ct cr cu gI){b:Nat}(hb:b≠mb)(h1:∀q,Value.ownBlock (.slice At n ct)=some q→q≠b)(h2:∀q,Value.ownBlock (.slice Ar n cr)=some q→q≠b)(h3:∀q,Value.ownBlock (.slice Au n cu)=some q→q≠b)(h4:gI≠b)
  (hy:∀q:Nat,q≠b→y.heap[q]? = z.heap[q]?):MO y mb n vp vw t R At Ar Au ct cr cu gI:=
 ⟨(hy mb (fun e=>hb e.symm)).trans h.m,ownR_block h.to_ (fun q hq=>hy q (h1 q hq)),ownR_block h.rows (fun q hq=>hy q (h2 q hq)),ownR_block h.up (fun q hq=>hy q (h3 q hq)),h.into.of_block (hy gI h4),h.g⟩
theorem MO.at_{g:Nat}(h:MO z mb n vp vw t R At (some ⟨g,0,none⟩) Au ct cr cu gI){i k:Nat}(hi:i<n)(hk:k<7) :
  z.cell? ⟨g,i*14+k*2,none⟩=some (.int .i64 (R i k).1)∧z.cell? ⟨g,i*14+k*2+1,none⟩=some (.int .i64 (R i k).2)∧z.frozen? ⟨g,i*14+k*2,none⟩=false∧z.frozen? ⟨g,i*14+k*2+1,none⟩=false:=by
 have ho:=h.rows;exact⟨(ho.cellAt _ (by omega)).trans (rws_g2 R hi hk (t:=0) (by omega)),(ho.cellAt _ (by omega)).trans (rws_g2 R hi hk (t:=1) (by omega)),ho.frozenAt _,ho.frozenAt _⟩
/-- Behind a store into its rows the press is carried on. -/
theorem MO.again{g:Nat}{x x':World}{vU:Value}{gJ:Nat}{R':Nat→Nat→Sp}(h:MO z mb n vp vw t R At (some ⟨g,0,none⟩) Au ct cr cu gI)(hto:x.ownsRow (mb+1) 3 1 (.slice At n ct) n (ints (tos t n)))(hro:x.ownsRow (mb+1) 107 14 (.slice (some ⟨g,0,none⟩) n cr) n (rws R' n))
  (hK:CSt x x' mb gJ n vp vw (.slice At n ct) (.slice (some ⟨g,0,none⟩) n cr) vU n (upP t R') (intoP t R')):∃Au' cu',MO x' mb n vp vw t R' At (some ⟨g,0,none⟩) Au' ct cr cu' gJ:=by
 obtain⟨Au',cu',rfl⟩:=ownR_val hK.own;have hg:=hK.g;have hlt:=hK.lt;have h1:=ownR_block hto fun q hq=>hK.kp.block q (ownR_lt hto hq).2 (by have:=(ownR_lt hto hq).1;simp;omega);have h2:=ownR_block hro fun q hq=>hK.kp.block q (ownR_lt hro hq).2 (by have:=(ownR_lt hro hq).1;simp;omega);exact⟨Au',cu',hK.m,h1,h2,Go.Joins.ownsRow_le hK.own (by omega),hK.into,by omega⟩
end
theorem FSt.start{ps:List PR}{ws:List WE}(h:ValidF ps ws)(hH:Holds ps.length (rowsT ps ws) (upP (toT ps) (rowsT ps ws))):FSt ps.length (toT ps) (rowsT ps ws):=
 ⟨hH,fun i k=>by have:=h.inr ws.length i k;rwa [List.take_length] at this⟩
theorem FSt.smr{n:Nat}{t:Nat→Option Nat}{R:Nat→Nat→Sp}(h:FSt n t R):SmR R n:=fun i k _ _=>by have:=h.hI i k;omega
theorem spanS_P(t:Nat→Option Nat)(R:Nat→Nat→Sp)(n i k:Nat):spanS t R (upP t R) (intoP t R) n i k=spanP t R n i k:=rfl
/-- The state while the first truth is laid. -/
structure FI (w:World) (A A':Option Addr) (n c n' c':Nat) (t:Nat→Option Nat) (mb:Nat) (At:Option Addr) (ct g cr:Nat) (R:Nat→Nat→Sp) (vL:Value) (m:Nat) (xs:List Value) (z:World):Prop where
 b0:z.heap[w.heap.size]? = some (.cells #[.slice A n c,.slice A' n' c'] 25 (0,0))
 mo:∃Au cu gI,MO z mb n (.slice A n c) (.slice A' n' c') t R At (some ⟨g,0,none⟩) Au ct cr cu gI
 own:z.ownsRow (mb+1) 43 8 vL m xs
 bel:Below w.heap.size w z
 l1:w.heap.size<mb
section
variable {w z y:World} {A A':Option Addr} {n c n' c':Nat} {t:Nat→Option Nat} {mb:Nat} {At:Option Addr} {ct g cr:Nat} {R:Nat→Nat→Sp} {vL:Value} {m:Nat} {xs:List Value}
theorem RowOf.blk{w:World}{gb:Nat}{ty:TypeId}{m cap n:Nat}{f:Sp→List Value}{F:Nat→Sp}(h:RowOf w gb ty m cap f n F){b:Nat}{cs:Array Value}{t:TypeId}{fz:Nat×Nat}(hb:w.heap[b]? = some (.cells cs t fz))(ht:t≠ty:=by decide):gb≠b:=by
 obtain⟨g,⟨cur,h1,-⟩,-⟩:=h;rintro rfl;rw[h1] at hb;injection hb with hb;injection hb with _ h5;exact ht h5.symm
theorem MO.kept{Ar Au:Option Addr}{cu gI:Nat}(h:MO z mb n (.slice A n c) (.slice A' n' c') t R At Ar Au ct cr cu gI){b:Nat}{cs:Array Value}(hb:z.heap[b]? = some (.cells cs 43 (0,0)))(hy:∀q:Nat,q≠b→y.heap[q]? = z.heap[q]?):MO y mb n (.slice A n c) (.slice A' n' c') t R At Ar Au ct cr cu gI:=
 h.block (fun e=>by have h1:=h.m;subst e;rw[h1] at hb;injection hb with hb;injection hb with _ h5;exact absurd h5 (by decide)) (ownR_ne h.to_ hb) (ownR_ne h.rows hb) (ownR_ne h.up hb) (h.into.blk hb) hy
theorem ap_or{u v:Value}(h:∀k,v.ownBlock=some k→u.ownBlock≠some k):v.ownBlock=none∨v.ownBlock≠u.ownBlock:=by
 cases hv:v.ownBlock with
 |none=>exact Or.inl rfl
 |some k=>exact Or.inr (fun e=>h k hv e.symm)
theorem FI.grew{vL':Value}{m':Nat}{xs':List Value}(h:FI w A A' n c n' c' t mb At ct g cr R vL m xs z)(hg:z.grownBy y vL.ownBlock)(ho:y.ownsRow (mb+1) 43 8 vL' m' xs'):FI w A A' n c n' c' t mb At ct g cr R vL' m' xs' y:=by
 obtain⟨Au,cu,gI,hM⟩:=h.mo;have hl:=h.l1
 refine⟨(hg.block _ (Array.getElem?_eq_some_iff.1 h.b0).1 (fun e=>by have:=(ownR_lt h.own e.symm).1;omega)).trans h.b0,
  ⟨Au,cu,gI,(hg.block _ (Array.getElem?_eq_some_iff.1 hM.m).1 (fun e=>by have:=(ownR_lt h.own e.symm).1;omega)).trans hM.m,hM.to_.kept hg (ap_or (own_ap1 h.own hM.to_)),hM.rows.kept hg (ap_or (own_ap1 h.own hM.rows)),hM.up.kept hg (ap_or (own_ap1 h.own hM.up)),
   hM.into.of_block (hg.block _ hM.into.lt (fun e=>?_)),hM.g⟩,ho,h.bel.grown hg h.bel.size (fun q hq=>by have:=(ownR_lt h.own hq).1;omega),hl⟩
 rcases h.own.2 with ⟨h0,-⟩|⟨g1,cap1,cur1,h4,-,h5,-⟩
 ·rw[h0] at e;cases e
 ·rw[h4] at e;simp only[Value.ownBlock,Option.some.injEq] at e;subst e;exact hM.into.blk (ht:=by decide) h5 rfl
/-- A store into the weights that are gathered. -/
theorem FI.setW(h:FI w A A' n c n' c' t mb At ct g cr R vL m xs z){b:Nat}{cs:Array Value}(hb:z.heap[b]? = some (.cells cs 43 (0,0)))(hL:∀q,vL.ownBlock=some q→q≠b)(hw:w.heap.size<b)(j:Nat)(v:Value) :
  FI w A A' n c n' c' t mb At ct g cr R vL m xs (z.setCell ⟨b,j,none⟩ v):=by
 obtain⟨Au,cu,gI,hM⟩:=h.mo;have hy:∀q:Nat,q≠b→(z.setCell ⟨b,j,none⟩ v).heap[q]? = z.heap[q]?:=fun q hq=>Below.heap_setCell _ _ _ _ hq;exact⟨(hy _ (by omega)).trans h.b0,⟨Au,cu,gI,hM.kept hb hy⟩,ownR_block h.own (fun q hq=>hy q (hL q hq)),h.bel.setCell (by simp only;omega) _,h.l1⟩
/-- Behind a store into the rows, ahead of the carrying on. -/
structure FJ (w:World) (A A':Option Addr) (n c n' c':Nat) (t:Nat→Option Nat) (mb:Nat) (At:Option Addr) (ct g cr:Nat) (R:Nat→Nat→Sp) (vL:Value) (m:Nat) (xs:List Value) (z:World):Prop where
 b0:z.heap[w.heap.size]? = some (.cells #[.slice A n c,.slice A' n' c'] 25 (0,0))
 m_:∃vU vI,z.heap[mb]? = some (.cells #[.slice A n c,.slice A' n' c',.slice At n ct,.slice (some ⟨g,0,none⟩) n cr,vU,vI] 111 (0,0))
 to_:z.ownsRow (mb+1) 3 1 (.slice At n ct) n (ints (tos t n))
 rows:z.ownsRow (mb+1) 107 14 (.slice (some ⟨g,0,none⟩) n cr) n (rws R n)
 own:z.ownsRow (mb+1) 43 8 vL m xs
 bel:Below w.heap.size w z
 l1:w.heap.size<mb
theorem FI.putR(h:FI w A A' n c n' c' t mb At ct g cr R vL m xs z){i k:Nat}(hi:i<n)(hk:k<7)(s:Sp) :
  FJ w A A' n c n' c' t mb At ct g cr (putR R i k s) vL m xs ((z.setCell ⟨g,i*14+k*2,none⟩ (.int .i64 s.1)).setCell ⟨g,i*14+k*2+1,none⟩ (.int .i64 s.2))∧mb<g:=by
 obtain⟨Au,cu,gI,hM⟩:=h.mo;have hg:mb+1≤g:=(ownR_lt hM.rows rfl).1;have hl:=h.l1;have ho:=((hM.rows.stored (i*14+k*2) (.int .i64 s.1)).1.stored (i*14+k*2+1) (.int .i64 s.2)).1;rw[rws_put R hi hk s] at ho;have h1:=own_ap1 hM.to_ hM.rows (ht:=by decide) g rfl;have h2:=own_ap1 h.own hM.rows (ht:=by decide) g rfl;have hy:∀q:Nat,q≠g→((z.setCell ⟨g,i*14+k*2,none⟩ (.int .i64 s.1)).setCell ⟨g,i*14+k*2+1,none⟩ (.int .i64 s.2)).heap[q]? = z.heap[q]?:=fun q hq=>by
  rw[Below.heap_setCell _ _ _ _ hq,Below.heap_setCell _ _ _ _ hq]
 exact⟨⟨(hy _ (by omega)).trans h.b0,⟨_,_,(hy _ (by omega)).trans hM.m⟩,ownR_block hM.to_ (fun q hq=>hy q (fun e=>h1 (by rw[hq,e]))),ho,ownR_block h.own (fun q hq=>hy q (fun e=>h2 (by rw[hq,e]))),(h.bel.setCell (by simp only;omega) _).setCell (by simp only;omega) _,hl⟩,by omega⟩
theorem FJ.carried{vU:Value}{gJ:Nat}(h:FJ w A A' n c n' c' t mb At ct g cr R vL m xs z)(hK:CSt z y mb gJ n (.slice A n c) (.slice A' n' c') (.slice At n ct) (.slice (some ⟨g,0,none⟩) n cr) vU n (upP t R) (intoP t R)):FI w A A' n c n' c' t mb At ct g cr R vL m xs y:=by
 obtain⟨Au',cu',rfl⟩:=ownR_val hK.own;have hg:=hK.g;have hlt:=hK.lt;have hl:=h.l1;have hk:∀{base size k:Nat} {e:TypeId} {v:Value} {xs:List Value},z.ownsRow base e size v k xs→mb<base→y.ownsRow base e size v k xs:=fun ho hb=>ownR_block ho fun q hq=>hK.kp.block q (ownR_lt ho hq).2 (by have:=(ownR_lt ho hq).1;simp;omega);exact⟨(hK.kp.block _ (Array.getElem?_eq_some_iff.1 h.b0).1 (by simp;omega)).trans h.b0,⟨Au',cu',gJ,hK.m,hk h.to_ (by omega),hk h.rows (by omega),Go.Joins.ownsRow_le hK.own (by omega),hK.into,by omega⟩,hk h.own (by omega),h.bel.trans (hK.kp.below h.bel.size (by simp;omega)),hl⟩
theorem FI.below(h:FI w A A' n c n' c' t mb At ct g cr R vL m xs z)(hb:Below z.heap.size z y):FI w A A' n c n' c' t mb At ct g cr R vL m xs y:=by
 obtain⟨Au,cu,gI,hM⟩:=h.mo;exact⟨keepO hb h.b0,⟨Au,cu,gI,hM.below hb⟩,ownR_below h.own hb,below_via h.bel h.bel.size hb,h.l1⟩
end
set_option maxRecDepth 100000 in
set_option maxHeartbeats 8000000 in
theorem pFirst_any(A A':Option Addr)(n c n' c':Nat)(ps:List PR)(ws:List WE)(w:World)(hnm:n≤maxLen)(hR:Reads w w.heap.size 4 A n (pgs ps))(hW:Reads w w.heap.size 5 A' n' (wgs ws))(hL:Laid w) :
  Calls Tryd.prog 16 #[.agg #[.slice A n c,.slice A' n' c']] w fun e w'=>FirR w.heap.size (firS ps ws) (firE ps ws) e w'∧Below w.heap.size w w':=by
 have hl:ps.length=n:=hR.pg_len;have HRd:=Lib.hid (fun z (hz:Below w.heap.size w z)=>(hR.below hz).more hz.size);have HP0:=Lib.hid (PX.start (c:=c) (c':=c') hR hW hL);have HCk:=Lib.hid (fun z (hz:PX w A A' n c n' c' ps ws z)=>Check_any A A' n c n' c' ps ws z hz.rp hz.rw_ hz.laid);have HSt:=Lib.hid (fun z (hz:PX w A A' n c n' c' ps ws z) hv=>started_any A A' n c n' c' ps ws z hz.rp hz.rw_ hv);obtain⟨iw,hiw,hw0,hw1,hw2⟩:=info_parts info_wd;have hfd:∀(x y:Int) (w:World),(Instr.field 36 (.agg #[.int .i64 x,.int .i64 y]) 0).run Tryd.prog w = .ok (.int .i64 x) w:=fun _ _ _=>by kernel_rfl
 clear hR hW hL
 go_enter Tryd.func16,Tryd.ntmps16
 go_wp2_with fail
 refine(HCk.out _ HP0.out).mono ?_;rintro e z1 ⟨rfl,hb1⟩;have HP1:=Lib.hid (HP0.out.below hb1);clear hb1;cases hv:validP ps ws
 ·have hs:Hid (firS ps ws = []∧firE ps ws=20):=(by show _∧_;unfold firS firE;rw[hv];exact⟨rfl,rfl⟩);rw[show checkS ps ws=20 by unfold checkS;rw[hv];rfl];clear hv hl;go_wp2;exact bodyPost_ret (v:=.tuple #[.slice none 0 0,.int .i64 20]) (by simp[results,Tryd.results16,go_sem]) rfl ⟨FirR.nil hs.out.1 hs.out.2,HP1.out.bel⟩
 ·rw[show checkS ps ws=0 by unfold checkS;rw[hv];rfl];have hVF:=valid_facts hv;have hn:n≤10:=(by have:=hVF.n10;omega);have hFw:=hVF.fwd;rw[hl] at hFw;have hvh:=Lib.hid hv;have hFh:=Lib.hid hFw;have hVh:=Lib.hid hVF;obtain⟨p0,p1⟩:=HP1.out.cells;clear hFw hVF hv;(go_wp2_with fail);refine(HSt.out _ HP1.out hvh.out).mono ?_;rintro e z5 ⟨rfl,hb5,At,Ar,Au,ct,cr,cu,gI,hMO⟩;have HP5:=Lib.hid (HP1.out.below hb5);have hlt1:w.heap.size<z1.heap.size+1:=(by have:=(Array.getElem?_eq_some_iff.1 HP1.out.b0).1;omega);have HMO:=Lib.hid hMO;have HM:=Lib.hid hMO.mr;clear hb5 hMO p0 p1;generalize z1.heap.size+1=mb at *;(go_wp2_with fail);refine(holds_any mb n _ _ _ _ _ _ _ _ _ _ _ _ hn z5 HM.out).mono ?_;rintro e z6 ⟨rfl,hb6⟩;have HMO6:=Lib.hid (HMO.out.below hb6);have HP6:=Lib.hid (HP5.out.below hb6);have hh:holdsB (rowsT ps ws) (upP (toT ps) (rowsT ps ws)) n=hasT ps ws:=(by unfold hasT;rw[hl]);rw[hh];clear hb6 hh HM HMO;cases ht:hasT ps ws
  ·have hs:Hid (firS ps ws = []∧firE ps ws=8):=(by show _∧_;unfold firS firE;rw[hvh.out,ht];exact⟨rfl,rfl⟩);clear ht hl;go_wp2;exact bodyPost_ret (v:=.tuple #[.slice none 0 0,.int .i64 8]) (by simp[results,Tryd.results16,go_sem]) rfl ⟨FirR.nil hs.out.1 hs.out.2,HP6.out.bel⟩
  ·have hs:Hid (firS ps ws=firL ps ws n∧firE ps ws=0):=(by show _∧_;unfold firS firE;rw[hvh.out,ht,hl];exact⟨rfl,rfl⟩);have hF0:Hid (FSt n (toT ps) (rowsT ps ws)):=by
    show FSt _ _ _;have h2:=has_Holds hVh.out ht;rw[←hl];exact FSt.start hVh.out h2
   have hlh:=Lib.hid hl;clear ht hl;by_cases hn0:n=0
   ·subst hn0;obtain⟨p0,p1⟩:=HP6.out.cells;(go_wp2_with fail);go_loopw [6,25] (fun v u wq=>v = .slice none 0 0∧u = .int .i64 0∧Hid (Below w.heap.size w wq)) (fun _ u _=>0)
    case atStart=>exact⟨rfl,rfl,HP6.out.bel⟩
    case round=>
     obtain⟨rfl,rfl,hB0⟩:=hrel;go_wp2;exact bodyPost_ret (v:=.tuple #[.slice none 0 0,.int .i64 0]) (by simp[results,Tryd.results16,go_sem]) rfl ⟨FirR.nil (by rw[hs.out.1];rfl) hs.out.2,hB0.out⟩
   obtain⟨g,cr',he,-,-⟩:=World.ownsRow.form HMO6.out.rows (by omega);simp only[Value.slice.injEq,true_and] at he;obtain⟨rfl,rfl⟩:=he;have hI0:Hid (FI w A A' n c n' c' (toT ps) mb At ct g cr (layI n (toT ps) (rowsT ps ws) 0) (.slice none 0 0) 0 (wds (firL ps ws 0)) z6):=⟨HP6.out.b0,⟨_,_,_,HMO6.out⟩,World.ownsRow_nil _ _ _ _,HP6.out.bel,hlt1⟩;obtain⟨p0,p1⟩:=HP6.out.cells;clear HMO6 HP6;(go_wp2_with fail);clear p0 p1;go_loopw [6,25] (fun v u wq=>∃wl,wl=wq∧∃i:Nat,i≤n∧u = .int .i64 i∧Hid (FI w A A' n c n' c' (toT ps) mb At ct g cr (layI n (toT ps) (rowsT ps ws) i) v i (wds (firL ps ws i)) wl)) (fun _ u _=>n - (intOf u).toNat)
   case atStart=>exact⟨_,rfl,0,by omega,rfl,hI0⟩
   case round=>
    clear hI0;obtain⟨wq,rfl,i,hin',rfl,hIr⟩:=hrel;obtain⟨AL,cL,rfl⟩:=ownR_val hIr.out.own;by_cases hin:i<n
    ·have hii:(i:Int)<(n:Int):=(by omega);have ii0:(0:Int)≤(i:Int):=(by omega);obtain⟨bp,op,I,D,P,T,rfl,hbp,hx,x0,x1,x2,x3⟩:=(HRd.out _ hIr.out.bel).pg hin;have hid_:Hid (idO ps i=I):=(by show _=_;unfold idO;rw[hx]);obtain⟨za,hza⟩:∃za,za=wq.alloc (.cells #[.int .i64 I,.int .i64 D,.int .i64 P,.int .i64 T] 51):=⟨_,rfl⟩;obtain⟨zb,hzb⟩:∃zb,zb=za.alloc (.cells #[.int .i64 I,.int .i64 0,.int .i64 0,.int .i64 0,.int .i64 0,.int .i64 0,.int .i64 0,.int .i64 0] 43):=⟨_,rfl⟩;have hba:Below wq.heap.size wq za:=(by rw[hza];exact(Below.refl _ _).alloc (Nat.le_refl _) _);have hbb:Below za.heap.size za zb:=(by rw[hzb];exact(Below.refl _ _).alloc (Nat.le_refl _) _);have hXB:za.heap[wq.heap.size]? = some (.cells #[.int .i64 I,.int .i64 D,.int .i64 P,.int .i64 T] 51 (0,0)):=(by rw[hza];exact heap_alloc_new _ _);have hWB:zb.heap[za.heap.size]? = some (.cells #[.int .i64 I,.int .i64 0,.int .i64 0,.int .i64 0,.int .i64 0,.int .i64 0,.int .i64 0,.int .i64 0] 43 (0,0)):=(by rw[hzb];exact heap_alloc_new _ _);have hIb:=Lib.hid ((hIr.out.below hba).below hbb);obtain⟨a0,-,-,-⟩:=facts4 hXB;rw[hza] at a0;have hws:za.heap.size=wq.heap.size+1:=(by rw[hza];simp);rw[hza] at hzb;clear hba hbb hXB hx;(go_wp2_with fail);clear x0 x1 x2 x3 a0;rw[←hzb];have hW0:Hid (zb.heap[za.heap.size]? = some (.cells #[.int .i64 (wF n (toT ps) (rowsT ps ws) (idO ps i) i 0 0),.int .i64 (wF n (toT ps) (rowsT ps ws) (idO ps i) i 0 1),.int .i64 (wF n (toT ps) (rowsT ps ws) (idO ps i) i 0 2),.int .i64 (wF n (toT ps) (rowsT ps ws) (idO ps i) i 0 3),.int .i64 (wF n (toT ps) (rowsT ps ws) (idO ps i) i 0 4),.int .i64 (wF n (toT ps) (rowsT ps ws) (idO ps i) i 0 5),.int .i64 (wF n (toT ps) (rowsT ps ws) (idO ps i) i 0 6),.int .i64 (wF n (toT ps) (rowsT ps ws) (idO ps i) i 0 7)] 43 (0,0))):=by show _=_;rw[hWB];simp[wF,hid_.out]
     rw[←hws];clear hzb hza hWB;generalize za.heap.size=wb at *;have hwlt:wq.heap.size<wb:=(by omega);clear hws;have hLw:Hid (∀q,Value.ownBlock (.slice AL i cL)=some q→q≠wb):=fun q hq=>(by have:=(ownR_lt hIr.out.own hq).2;omega);have hww:w.heap.size<wb:=(by have:=(Array.getElem?_eq_some_iff.1 hIr.out.b0).1;omega);clear hIr;go_loopw [10] (fun v wq=>∃wl,wl=wq∧∃k:Nat,k≤6∧v = .int .i64 ((k:Int)+1)∧Hid (FI w (some ⟨bp,op,none⟩) A' n c n' c' (toT ps) mb At ct g cr (layK n (toT ps) (layI n (toT ps) (rowsT ps ws) i) i k) (.slice AL i cL) i (wds (firL ps ws i)) wl)∧Hid (wl.heap[wb]? = some (.cells #[.int .i64 (wF n (toT ps) (rowsT ps ws) (idO ps i) i k 0),.int .i64 (wF n (toT ps) (rowsT ps ws) (idO ps i) i k 1),.int .i64 (wF n (toT ps) (rowsT ps ws) (idO ps i) i k 2),.int .i64 (wF n (toT ps) (rowsT ps ws) (idO ps i) i k 3),.int .i64 (wF n (toT ps) (rowsT ps ws) (idO ps i) i k 4),.int .i64 (wF n (toT ps) (rowsT ps ws) (idO ps i) i k 5),.int .i64 (wF n (toT ps) (rowsT ps ws) (idO ps i) i k 6),.int .i64 (wF n (toT ps) (rowsT ps ws) (idO ps i) i k 7)] 43 (0,0)))) (fun v _=>7 - (intOf v).toNat)
     case atStart=>exact⟨_,rfl,0,by omega,by simp,hIb,hW0⟩
     case round=>
      clear hIb hW0;obtain⟨wq,rfl,k,hk6,rfl,hIk,hWk⟩:=hrel;by_cases hk5:k<6
      ·have hki:((k:Int)+1)≤6:=(by omega);have k0:(0:Int)≤(k:Int)+1:=(by omega);have k7:((k:Int)+1)<7:=(by omega);have kw:IntKind.i64.wrap ((k:Int)+1+1)=((k+1:Nat):Int)+1:=(by rw[IntWalk.i64_in _ (by omega)];omega);have ekk:((k:Int)+1)=((k+1:Nat):Int):=(by omega);rw[ekk] at hki k0 k7 kw ⊢;obtain⟨Au,cu,gI,hM⟩:=hIk.out.mo;have hFS:=(hF0.out.layI hFh.out i (by omega)).layK hFh.out hin k (by omega);have hFS2:=hFS.lay hFh.out hin (i:=i) (k:=k+1) (by omega) (by omega);have HSp:=span_any mb n (toT ps) (layK n (toT ps) (layI n (toT ps) (rowsT ps ws) i) i k) _ _ At (some ⟨g,0,none⟩) Au (some ⟨gI,0,none⟩) ct cr cu n hFh.out hFS.smr (up_smu hFS.smr hn) (into_smu hFS.smr hn) hn i (k+1) hin (by omega) (by omega) wq hM.mr;rw[spanS_P] at HSp;have HS1:=Lib.hid HSp;have HF2:=Lib.hid hFS2;clear HSp hM hFS hFS2 ekk;(go_wp2_with fail);refine HS1.out.mono ?_;rintro e z2 ⟨rfl,hb2⟩;have hI2:=hIk.out.below hb2;have hW2:=keepO hb2 hWk.out;clear hb2 hIk hWk HS1;obtain⟨v,hv_⟩:∃v,v=valF n (toT ps) (rowsT ps ws) i k:=⟨_,rfl⟩;rw[show (spanP (toT ps) (layK n (toT ps) (layI n (toT ps) (rowsT ps ws) i) i k) n i (k+1)).1=v from hv_.symm];obtain⟨hW3,⟨u0,c0⟩,f0⟩:=wd_step (j:=1+(k+1)) (by omega) v hW2;have hI3:=hI2.setW hW2 hLw.out hww (1+(k+1)) (.int .i64 v);obtain⟨z3,hz3⟩:∃z3,z3=z2.setCell ⟨wb,1+(k+1),none⟩ (.int .i64 v):=⟨_,rfl⟩;rw[←hz3] at hW3 hI3;obtain⟨Au3,cu3,gI3,hM3⟩:=hI3.mo;obtain⟨j0,j1,jf0,jf1⟩:=hM3.at_ hin (show k+1<7 by omega);have hm3:z3.cell? ⟨mb,3,none⟩=some (.slice (some ⟨g,0,none⟩) n cr):=by simp[World.cell?,hM3.m]
       obtain⟨hJ,hmg⟩:=hI3.putR hin (show k+1<7 by omega) (v,v);have hne:wb≠g:=(ownR_ne hM3.rows hW3 (by decide) g rfl).symm;have hW4:=((Below.heap_setCell (z3.setCell ⟨g,i*14+(k+1)*2,none⟩ (.int .i64 v)) ⟨g,i*14+(k+1)*2+1,none⟩ (.int .i64 v) wb hne).trans (Below.heap_setCell z3 ⟨g,i*14+(k+1)*2,none⟩ (.int .i64 v) wb hne)).trans hW3;obtain⟨z4,hz4⟩:∃z4,z4=(z3.setCell ⟨g,i*14+(k+1)*2,none⟩ (.int .i64 v)).setCell ⟨g,i*14+(k+1)*2+1,none⟩ (.int .i64 v):=⟨_,rfl⟩;have hJ4:Hid (FJ w (some ⟨bp,op,none⟩) A' n c n' c' (toT ps) mb At ct g cr (layK n (toT ps) (layI n (toT ps) (rowsT ps ws) i) i (k+1)) (.slice AL i cL) i (wds (firL ps ws i)) z4):=by
        show FJ _ _ _ _ _ _ _ _ _ _ _ _ _ _ _ _ _ _;rw[hz4,hv_] at *;exact hJ
       rw[←hz4] at hW4;have hW5:Hid (z4.heap[wb]? = some (.cells #[.int .i64 (wF n (toT ps) (rowsT ps ws) (idO ps i) i (k+1) 0),.int .i64 (wF n (toT ps) (rowsT ps ws) (idO ps i) i (k+1) 1),.int .i64 (wF n (toT ps) (rowsT ps ws) (idO ps i) i (k+1) 2),.int .i64 (wF n (toT ps) (rowsT ps ws) (idO ps i) i (k+1) 3),.int .i64 (wF n (toT ps) (rowsT ps ws) (idO ps i) i (k+1) 4),.int .i64 (wF n (toT ps) (rowsT ps ws) (idO ps i) i (k+1) 5),.int .i64 (wF n (toT ps) (rowsT ps ws) (idO ps i) i (k+1) 6),.int .i64 (wF n (toT ps) (rowsT ps ws) (idO ps i) i (k+1) 7)] 43 (0,0))):=(by show _=_;rw[hW4,hv_,wF_step]);have hms:g≠wb:=fun e=>ownR_ne hM3.rows hW3 (by decide) g rfl e;rw[hz3] at hm3 j0 j1 jf0 jf1;have hz3h:=Lib.hid hz3;have hz4h:=Lib.hid hz4;rw[hz3] at hz4;have hz4s:=Lib.hid hz4;have hvh_:=Lib.hid hv_;clear hJ hW4 hW3 hI3 hI2 hW2 hM3 hz3 hz4 hv_ hne hms hmg;(go_wp2_with fail);rw[←hz4s.out];clear hz4s hz3h hz4h hm3 j0 j1 jf0 jf1 c0 f0;obtain⟨vU,vI,hm⟩:=hJ4.out.m_;refine(carry_any mb n (toT ps) (layK n (toT ps) (layI n (toT ps) (rowsT ps ws) i) i (k+1)) hFh.out HF2.out.smr hn _ _ vU vI At (some ⟨g,0,none⟩) ct cr z4 hm (.of_own hJ4.out.to_ (by simp)) (.of_own hJ4.out.rows (by simp))).mono ?_;rintro e z5 ⟨⟨ve,rfl⟩,vU',gJ,hK⟩;have hI5:=Lib.hid (hJ4.out.carried hK);have hwm:wb≠mb:=fun e=>by
        subst e;have:=hW5.out;rw[hm] at this;injection this with this;injection this with _ h5;exact absurd h5 (by decide)
       have hW6:=Lib.hid ((hK.kp.block wb (Array.getElem?_eq_some_iff.1 hW5.out).1 (by simp;exact hwm)).trans hW5.out);clear hm hK hJ4 hW5;go_wp2;go_roundw
       case rel=>exact⟨_,rfl,k+1,by omega,by go_num,hI5,hW6⟩
       case measure=>simp[intOf]<;>omega
      ·obtain rfl:k=6:=(by omega);rw[show ((6:Nat):Int)+1=7 from rfl];obtain⟨q0,q1,q2,q3,q4,q5,q6,q7⟩:=facts8 hWk.out;have hL:=heap_alloc_new wq (.cells #[.int .i64 ((wF n (toT ps) (rowsT ps ws) (idO ps i) i 6) 0),.int .i64 ((wF n (toT ps) (rowsT ps ws) (idO ps i) i 6) 1),.int .i64 ((wF n (toT ps) (rowsT ps ws) (idO ps i) i 6) 2),.int .i64 ((wF n (toT ps) (rowsT ps ws) (idO ps i) i 6) 3),.int .i64 ((wF n (toT ps) (rowsT ps ws) (idO ps i) i 6) 4),.int .i64 ((wF n (toT ps) (rowsT ps ws) (idO ps i) i 6) 5),.int .i64 ((wF n (toT ps) (rowsT ps ws) (idO ps i) i 6) 6),.int .i64 ((wF n (toT ps) (rowsT ps ws) (idO ps i) i 6) 7)] 43);have hbA:=(Below.refl wq.heap.size wq).alloc (Nat.le_refl _) (.cells #[.int .i64 ((wF n (toT ps) (rowsT ps ws) (idO ps i) i 6) 0),.int .i64 ((wF n (toT ps) (rowsT ps ws) (idO ps i) i 6) 1),.int .i64 ((wF n (toT ps) (rowsT ps ws) (idO ps i) i 6) 2),.int .i64 ((wF n (toT ps) (rowsT ps ws) (idO ps i) i 6) 3),.int .i64 ((wF n (toT ps) (rowsT ps ws) (idO ps i) i 6) 4),.int .i64 ((wF n (toT ps) (rowsT ps ws) (idO ps i) i 6) 5),.int .i64 ((wF n (toT ps) (rowsT ps ws) (idO ps i) i 6) 6),.int .i64 ((wF n (toT ps) (rowsT ps ws) (idO ps i) i 6) 7)] 43);have hI3:=Lib.hid (hIk.out.below hbA);have HL:=Lib.hid (rd_wd hL);clear hIk hWk hL hbA
       go_wp2_with (first
        |(at_builtin;refine wpList_app _ rfl _ _ 29 rfl (mb+1) 43 iw _ 8 64 Tryd.underlying29 hiw hw0 hw1 hw2 rfl (by decide) (.slice AL i cL) i (wds (firL ps ws i)) rfl hI3.out.own _ (some ⟨wq.heap.size,0,none⟩) 1 1 (wdc (wF n (toT ps) (rowsT ps ws) (idO ps i) i 6)) rfl HL.out (wdc_one _) ?c3 ?c4 ?c5 ?_))
       case c3=>unfold maxLen;omega
       case c4=>omega
       case c5=>have:=(ownR_lt (hI3.out.mo.choose_spec.choose_spec.choose_spec).rows rfl);omega
       intro v' z4 hown hgr hatv;have hxs:z4.ownsRow (mb+1) 43 8 v' (i+1) (wds (firL ps ws (i+1))):=by
        rw[firL_succ,wds_snoc,hlh.out];exact hown
       have hI4:=Lib.hid (hI3.out.grew hgr hxs);clear hown hgr hatv hxs HL hI3 q0 q1 q2 q3 q4 q5 q6 q7;obtain⟨A4,c4,rfl⟩:=ownR_val hI4.out.own;go_wp2;go_roundw
       case rel=>exact⟨_,rfl,i+1,by omega,by go_num,hI4⟩
       case measure=>simp[intOf]<;>omega
    ·obtain rfl:i=n:=(by omega);have hnn:¬((i:Int)<(i:Int)):=(by omega);go_wp2;exact bodyPost_ret (v:=.tuple #[.slice AL i cL,.int .i64 0]) (by simp[results,Tryd.results16,go_sem]) rfl ⟨⟨AL,i,cL,by rw[hs.out.2],by rw[hs.out.1];exact Go.Joins.ownsRow_le hIr.out.own (by have:=hIr.out.l1;omega)⟩,hIr.out.bel⟩
end Go.Proofs.YtfplipbkjglmhaaDoor
