/-
 The walk of what proves that there is no more of a kind: the program's.
-/
import Derived.Test.YtfplipbkjglmhaaDoorTk
import Derived.Test.YtfplipbkjglmhaaDoorPAll
import Derived.Test.YtfplipbkjglmhaaDoorGonD
namespace Go.Proofs.YtfplipbkjglmhaaDoor
open Go.RowKit
set_option linter.unusedVariables false
set_option linter.unusedSimpArgs false
theorem info_is:(Tryd.prog.info? 46).map (fun i=>(i.zero,i.size,i.bytes))=some (some (.slice none 0 0),1,24):=by kernel_rfl
theorem rd_obj{z:World}{b:Nat}{v:Value}{t:TypeId}(h:z.heap[b]? = some (.cells #[v] t (0,0))):Reads z z.heap.size 1 (some ⟨b,0,none⟩) 1 [v]:=
 ⟨rfl,fun _=>⟨b,0,rfl,(Array.getElem?_eq_some_iff.1 h).1,fun j u hu=>by
  cases j with
  |zero=>simp at hu;subst hu;simp[World.cell?,h]
  |succ j=>simp at hu⟩⟩
theorem one_factsT{z:World}{b:Nat}{v:Value}{t:TypeId}(h:z.heap[b]? = some (.cells #[v] t (0,0))):z.cell? ⟨b,0,none⟩=some v∧z.frozen? ⟨b,0,none⟩=false:=⟨by simp[World.cell?,h],by simp[World.frozen?,h]⟩
theorem set_oneT{z:World}{b:Nat}{v u:Value}{t:TypeId}(h:z.heap[b]? = some (.cells #[v] t (0,0))):(z.setCell ⟨b,0,none⟩ u).heap[b]? = some (.cells #[u] t (0,0)):=by simp[World.setCell,Array.getElem?_modify,h]
/-- A row of numbers that lies in no block of some others. -/
def Apt (vs:List Value) (v:Value):Prop:=∀u∈vs,∀q,u.ownBlock=some q→v.ownBlock≠some q
/-- The blocks of the search: the argument's copy and kind, the press, the greatest, the price, the lists, the prices, the closure. -/
structure TP (W:World) (b0 bk bm bo b1 bl bp bf ga n K:Nat) (A A':Option Addr) (c n' c' mb:Nat) (most one:Int) (y:Nat→Int) (vl:Value) (vs:List Value) (Ls:List (List Int)) (z:World):Prop where
 o:b0<W.heap.size∧bk<W.heap.size∧W.heap.size≤bm∧bm<bo∧bo<b1∧b1<bl∧bl<ga∧ga<bp∧bp<bf
 bel:Below W.heap.size W z
 c0:z.heap[b0]? = some (.cells #[.slice A n c,.slice A' n' c'] 25 (0,0))
 ck:z.heap[bk]? = some (.cells #[.int .i64 K] 3 (0,0))
 cm:z.heap[bm]? = some (.cells #[.pointer (some ⟨mb,0,none⟩)] 104 (0,0))
 co:z.heap[bo]? = some (.cells #[.int .i64 most] 3 (0,0))
 c1:z.heap[b1]? = some (.cells #[.int .i64 one] 3 (0,0))
 cl:z.heap[bl]? = some (.cells #[vl] 121 (0,0))
 cp:z.heap[bp]? = some (.cells #[.slice (some ⟨ga,0,none⟩) n n] 46 (0,0))
 cf:z.heap[bf]? = some (.cells #[.func (.func 64) #[] #[.pointer (some ⟨bp,0,none⟩),.pointer (some ⟨bm,0,none⟩),.pointer (some ⟨bk,0,none⟩),.pointer (some ⟨bo,0,none⟩),.pointer (some ⟨bl,0,none⟩),.pointer (some ⟨bf,0,none⟩),.pointer (some ⟨b1,0,none⟩),.pointer (some ⟨b0,0,none⟩)]] 122 (0,0))
 pr:z.rowIs ga 3 n (fun j=>.int .i64 (y j))
 lo:z.ownsRow (bf+1) 46 1 vl Ls.length vs
 le:∀(j:Nat) (L:List Int),Ls[j]? = some L→∃(B:Option Addr) (m d:Nat),vs[j]? = some (Value.slice B m d)∧m≤10∧z.ownsRow (bf+1) 3 1 (.slice B m d) m (ints L)
section
variable {W:World} {b0 bk bm bo b1 bl bp bf ga n K:Nat} {A A':Option Addr} {c n' c' mb:Nat} {most one:Int} {y y':Nat→Int} {vl:Value} {vs:List Value} {Ls:List (List Int)} {z z':World}
theorem TP.size(h:TP W b0 bk bm bo b1 bl bp bf ga n K A A' c n' c' mb most one y vl vs Ls z):bf<z.heap.size:=(Array.getElem?_eq_some_iff.1 h.cf).1
theorem TP.len(h:TP W b0 bk bm bo b1 bl bp bf ga n K A A' c n' c' mb most one y vl vs Ls z):vs.length=Ls.length:=by have:=h.lo.1;omega
/-- All that matters is kept. -/
theorem TP.kept(h:TP W b0 bk bm bo b1 bl bp bf ga n K A A' c n' c' mb most one y vl vs Ls z)(hb:Below W.heap.size W z')(hk:∀b,b≤bf→z'.heap[b]? = z.heap[b]?)(hl:∀q,vl.ownBlock=some q→z'.heap[q]? = z.heap[q]?)(hu:∀u∈vs,∀q,u.ownBlock=some q→z'.heap[q]? = z.heap[q]?):TP W b0 bk bm bo b1 bl bp bf ga n K A A' c n' c' mb most one y vl vs Ls z':=by
 obtain⟨o1,o2,o3,o4,o5,o6,o7,o8,o9⟩:=h.o;refine⟨h.o,hb,(hk _ (by omega)).trans h.c0,(hk _ (by omega)).trans h.ck,(hk _ (by omega)).trans h.cm,(hk _ (by omega)).trans h.co,(hk _ (by omega)).trans h.c1,(hk _ (by omega)).trans h.cl,(hk _ (by omega)).trans h.cp,(hk _ (by omega)).trans h.cf,h.pr.of_block (hk _ (by omega)),ownR_block h.lo hl,fun j L hL=>?_⟩;obtain⟨B,m,d,e1,e2,e3⟩:=h.le j L hL;exact⟨B,m,d,e1,e2,ownR_block e3 (hu _ (List.mem_of_getElem? e1))⟩
theorem TP.ulen(h:TP W b0 bk bm bo b1 bl bp bf ga n K A A' c n' c' mb most one y vl vs Ls z){u:Value}(hu:u∈vs):∃m xs,z.ownsRow (bf+1) 3 1 u m xs:=by
 obtain⟨j,hj,rfl⟩:=List.getElem_of_mem hu;have hl:j<Ls.length:=by rw[←h.len];exact hj
 obtain⟨B,m,d,e1,e2,e3⟩:=h.le j _ (List.getElem?_eq_getElem hl);rw[List.getElem?_eq_getElem hj] at e1;rw[Option.some.inj e1];exact⟨m,_,e3⟩
theorem TP.below(h:TP W b0 bk bm bo b1 bl bp bf ga n K A A' c n' c' mb most one y vl vs Ls z)(hb:Below z.heap.size z z'):TP W b0 bk bm bo b1 bl bp bf ga n K A A' c n' c' mb most one y vl vs Ls z':=
 h.kept (below_via h.bel h.bel.size hb) (fun b hb'=>hb.block b (by have:=h.size;omega)) (fun q hq=>hb.block q (ownR_lt h.lo hq).2) (fun u hu q hq=>by
  obtain⟨m,xs,ho⟩:=h.ulen hu
  exact hb.block q (ownR_lt ho hq).2)
theorem TP.drew(h:TP W b0 bk bm bo b1 bl bp bf ga n K A A' c n' c' mb most one y vl vs Ls z):TP W b0 bk bm bo b1 bl bp bf ga n K A A' c n' c' mb most one y vl vs Ls z.drew:=h.below (Below.refl _ _).drew
/-- A row of numbers grows that lies in no block of the lists. -/
theorem TP.grow(h:TP W b0 bk bm bo b1 bl bp bf ga n K A A' c n' c' mb most one y vl vs Ls z){v:Value}{k:Nat}{xs:List Value}(hv:z.ownsRow (bf+1) 3 1 v k xs)(ha:Apt vs v){row:Option Nat}(hr:row=v.ownBlock∨row=none)(hg:z.grownBy z' row):TP W b0 bk bm bo b1 bl bp bf ga n K A A' c n' c' mb most one y vl vs Ls z':=by
 have hs:=h.size;obtain⟨o1,o2,o3,o4,o5,o6,o7,o8,o9⟩:=h.o;have hne:∀b,b<z.heap.size→v.ownBlock≠some b→z'.heap[b]? = z.heap[b]?:=fun b hb hn=>hg.block b hb (by
  rcases hr with e|e<;>rw[e]
  ·exact fun e=>hn e.symm
  ·simp)
 refine h.kept (h.bel.grown hg h.bel.size (fun q hq=>?_)) (fun b hb=>hne b (by omega) (fun e=>by have:=(ownR_lt hv e).1;omega)) (fun q hq=>hne q (ownR_lt h.lo hq).2 (fun e=>own_ne h.lo hv (by decide) q hq e)) (fun u hu q hq=>?_)
 ·rcases hr with e|e<;>rw[e] at hq
  ·have:=(ownR_lt hv hq).1;omega
  ·cases hq
 ·obtain⟨m,xs,ho⟩:=h.ulen hu;exact hne q (ownR_lt ho hq).2 (ha u hu q hq)
/-- A price is stored. -/
theorem TP.put(h:TP W b0 bk bm bo b1 bl bp bf ga n K A A' c n' c' mb most one y vl vs Ls z)(i:Nat)(v:Int):TP W b0 bk bm bo b1 bl bp bf ga n K A A' c n' c' mb most one (putY y i v) vl vs Ls (z.setCell ⟨ga,i,none⟩ (.int .i64 v)):=by
 obtain⟨o1,o2,o3,o4,o5,o6,o7,o8,o9⟩:=h.o;have hne:∀b,b≠ga→(z.setCell ⟨ga,i,none⟩ (.int .i64 v)).heap[b]? = z.heap[b]?:=fun b hb=>Below.heap_setCell _ _ _ _ hb
 refine⟨h.o,h.bel.setCell (by simp only;omega) _,(hne _ (by omega)).trans h.c0,(hne _ (by omega)).trans h.ck,(hne _ (by omega)).trans h.cm,(hne _ (by omega)).trans h.co,(hne _ (by omega)).trans h.c1,(hne _ (by omega)).trans h.cl,(hne _ (by omega)).trans h.cp,(hne _ (by omega)).trans h.cf,
  (h.pr.set i (.int .i64 v)).congr (fun j _=>by unfold putY;split<;>rfl),ownR_block h.lo (fun q hq=>hne q (by have:=(ownR_lt h.lo hq).1;omega)),fun j L hL=>?_⟩
 obtain⟨B,m,d,e1,e2,e3⟩:=h.le j L hL;exact⟨B,m,d,e1,e2,ownR_block e3 (fun q hq=>hne q (by have:=(ownR_lt e3 hq).1;omega))⟩
theorem TP.yc(h:TP W b0 bk bm bo b1 bl bp bf ga n K A A' c n' c' mb most one y vl vs Ls z)(e:∀j,j<n→y' j=y j):TP W b0 bk bm bo b1 bl bp bf ga n K A A' c n' c' mb most one y' vl vs Ls z:=
 ⟨h.o,h.bel,h.c0,h.ck,h.cm,h.co,h.c1,h.cl,h.cp,h.cf,h.pr.congr (fun j hj=>by simp only[e j hj]),h.lo,h.le⟩
theorem TP.ln(h:TP W b0 bk bm bo b1 bl bp bf ga n K A A' c n' c' mb most one y vl vs Ls z){b:Nat}(hb:b≤bf):vl.ownBlock≠some b:=fun e=>by have:=(ownR_lt h.lo e).1;omega
theorem TP.block_l(h:TP W b0 bk bm bo b1 bl bp bf ga n K A A' c n' c' mb most one y vl vs Ls z)(hg:z.grownBy z' vl.ownBlock){b:Nat}(hb:b≤bf):z'.heap[b]? = z.heap[b]?:=
 hg.block b (by have:=h.size;omega) (fun e=>h.ln hb e.symm)
theorem TP.add(h:TP W b0 bk bm bo b1 bl bp bf ga n K A A' c n' c' mb most one y vl vs Ls z){v':Value}{B:Option Addr}{k d:Nat}{vi:Value}{ids:List Int}(ho:z'.ownsRow (bf+1) 46 1 v' (Ls.length+1) (vs ++ [.slice B k d]))(hg:z.grownBy z' vl.ownBlock)(hi:z.ownsRow (bf+1) 3 1 vi k (ints ids))(hc:z.ownsRow (bf+1) 3 1 (.slice B k d) k (ints ids))(hk:k≤10) :
  TP W b0 bk bm bo b1 bl bp bf ga n K A A' c n' c' mb most one y v' (vs ++ [.slice B k d]) (Ls ++ [ids]) (z'.setCell ⟨bl,0,none⟩ v'):=by
 obtain⟨o1,o2,o3,o4,o5,o6,o7,o8,o9⟩:=h.o;have hne:∀b,b≠bl→(z'.setCell ⟨bl,0,none⟩ v').heap[b]? = z'.heap[b]?:=fun b hb=>Below.heap_setCell _ _ _ _ hb;have hf:∀b,b≤bf→b≠bl→(z'.setCell ⟨bl,0,none⟩ v').heap[b]? = z.heap[b]?:=fun b hb hn=>(hne b hn).trans (h.block_l hg hb)
 have hrow:∀(u:Value) m xs,z.ownsRow (bf+1) 3 1 u m xs→(z'.setCell ⟨bl,0,none⟩ v').ownsRow (bf+1) 3 1 u m xs:=fun u m xs hu=>ownR_block hu (fun q hq=>(hne q (by have:=(ownR_lt hu hq).1;omega)).trans (hg.block q (ownR_lt hu hq).2 (fun e=>own_ne h.lo hu (by decide) q e.symm hq)))
 refine⟨h.o,(h.bel.grown hg h.bel.size (fun q hq=>by have:=(ownR_lt h.lo hq).1;omega)).setCell (by simp only;omega) _,(hf _ (by omega) (by omega)).trans h.c0,(hf _ (by omega) (by omega)).trans h.ck,(hf _ (by omega) (by omega)).trans h.cm,(hf _ (by omega) (by omega)).trans h.co,(hf _ (by omega) (by omega)).trans h.c1,set_oneT ((h.block_l hg (by omega)).trans h.cl),(hf _ (by omega) (by omega)).trans h.cp,(hf _ (by omega) (by omega)).trans h.cf,
  h.pr.of_block (hf _ (by omega) (by omega)),?_,fun j L hL=>?_⟩
 ·rw[List.length_append,List.length_singleton];exact ownR_block ho (fun q hq=>hne q (by have:=(ownR_lt ho hq).1;omega))
 ·by_cases hj:j<Ls.length
  ·rw[List.getElem?_append_left hj] at hL;obtain⟨B,m,d,e1,e2,e3⟩:=h.le j L hL;exact⟨B,m,d,by rw[List.getElem?_append_left (by rw[h.len];exact hj)];exact e1,e2,hrow _ _ _ e3⟩
  ·rw[List.getElem?_append_right (by omega)] at hL;have hj0:j - Ls.length=0:=by
    rcases Nat.eq_zero_or_pos (j - Ls.length) with e|e
    ·exact e
    ·rw[List.getElem?_eq_none (by simp;omega)] at hL;cases hL
   rw[hj0] at hL;simp at hL;subst hL;exact⟨B,k,d,by rw[List.getElem?_append_right (by rw[h.len];omega),h.len,hj0];rfl,hk,hrow _ _ _ hc⟩
theorem ids_kept{vi:Value}{k:Nat}{xs:List Value}(hi:z.ownsRow (bf+1) 3 1 vi k xs)(h:TP W b0 bk bm bo b1 bl bp bf ga n K A A' c n' c' mb most one y vl vs Ls z)(hg:z.grownBy z' vl.ownBlock)(v':Value):(z'.setCell ⟨bl,0,none⟩ v').ownsRow (bf+1) 3 1 vi k xs:=by
 obtain⟨o1,o2,o3,o4,o5,o6,o7,o8,o9⟩:=h.o;exact ownR_block hi (fun q hq=>(Below.heap_setCell _ _ _ _ (by simp only;have:=(ownR_lt hi hq).1;omega)).trans (hg.block q (ownR_lt hi hq).2 (fun e=>own_ne h.lo hi (by decide) q e.symm hq)))
theorem kept_l{w0:World}{vi:Value}(hg:z.grownBy z' vl.ownBlock)(hk:∀b,b<w0.heap.size→z.heap[b]? = w0.heap[b]?)(hs:w0.heap.size≤z.heap.size)(v':Value):∀b,b<w0.heap.size→b≠ga→b≠bl→vl.ownBlock≠some b→vi.ownBlock≠some b→(z'.setCell ⟨bl,0,none⟩ v').heap[b]? = w0.heap[b]?:=
 fun b hb h1 h2 h3 h4=>(Below.heap_setCell _ _ _ _ h2).trans ((hg.block b (by omega) (fun e=>h3 e.symm)).trans (hk b hb))
/-- What a call of the closure leaves. -/
def TPost (W:World) (b0 bk bm bo b1 bl bp bf ga n K:Nat) (A A':Option Addr) (c n' c' mb:Nat) (most one:Int) (y:Nat→Int) (vl:Value) (vs:List Value) (Ls new:List (List Int)) (vi:Value) (k:Nat) (ids:List Int) (z:World) (e:Ending) (z':World):Prop:=
 e = .returned (.tuple #[])∧(∃vl' vsn,TP W b0 bk bm bo b1 bl bp bf ga n K A A' c n' c' mb most one y vl' (vs++vsn) (Ls++new) z'∧(vl'.ownBlock=vl.ownBlock∨∃q,vl'.ownBlock=some q∧z.heap.size≤q)∧(∀u∈vsn,∀q,u.ownBlock=some q→z.heap.size≤q))∧
 z'.ownsRow (bf+1) 3 1 vi k (ints ids)∧z.heap.size≤z'.heap.size∧(∀b,b<z.heap.size→b≠ga→b≠bl→vl.ownBlock≠some b→vi.ownBlock≠some b→z'.heap[b]? = z.heap[b]?)
/-- The row of numbers with one more: what it leaves of the search, and how the shorter one comes back. -/
theorem app_case(h:TP W b0 bk bm bo b1 bl bp bf ga n K A A' c n' c' mb most one y vl vs Ls z){vi v':Value}{k:Nat}{ids:List Int}{I:Int}(hi:z.ownsRow (bf+1) 3 1 vi k (ints ids))(ha:Apt vs vi)(ho:z'.ownsRow (bf+1) 3 1 v' (k+1) (ints ids ++ [.int .i64 I]))
  (hc:(∃A q,vi = .slice A k q∧v' = .slice A (k+1) q∧z.grownBy z' vi.ownBlock)∨(v'.ownBlock=some z.heap.size∧z.grownBy z' none)) :
  TP W b0 bk bm bo b1 bl bp bf ga n K A A' c n' c' mb most one y vl vs Ls z'∧Apt vs v'∧z.heap.size≤z'.heap.size∧(∀b,b<z.heap.size→vi.ownBlock≠some b→z'.heap[b]? = z.heap[b]?)∧
  (∀(zc:World),zc.ownsRow (bf+1) 3 1 v' (k+1) (ints (ids ++ [I]))→(∀b,b<z'.heap.size→b≠ga→b≠bl→vl.ownBlock≠some b→v'.ownBlock≠some b→zc.heap[b]? = z'.heap[b]?)→zc.ownsRow (bf+1) 3 1 vi k (ints ids)∧(∀b,b<z.heap.size→b≠ga→b≠bl→vl.ownBlock≠some b→vi.ownBlock≠some b→zc.heap[b]? = z.heap[b]?)):=by
 have hn:∀u∈vs,∀q,u.ownBlock=some q→q<z.heap.size:=fun u hu q hq=>by
  obtain⟨m,xs,ho⟩:=h.ulen hu;exact(ownR_lt ho hq).2
 obtain⟨o1,o2,o3,o4,o5,o6,o7,o8,o9⟩:=h.o;rcases hc with ⟨B,q,rfl,rfl,hg⟩|⟨hv,hg⟩
 ·refine⟨h.grow hi ha (.inl rfl) hg,?_,hg.size,fun b hb hn=>hg.block b hb (fun e=>hn e.symm),fun zc h1 h2=>⟨own_short (x:=.int .i64 I) (by simpa [ints] using h1),fun b hb e1 e2 e3 e4=>(h2 b (by have:=hg.size;omega) e1 e2 e3 ?_).trans (hg.block b hb (fun e=>e4 e.symm))⟩⟩
  ·intro u hu p hp e;refine ha u hu p hp ?_;cases B with
   |none=>simp[Value.ownBlock] at e
   |some a=>simpa [Value.ownBlock] using e
  ·intro e
   apply e4
   cases B with
   |none=>simp[Value.ownBlock] at e
   |some a=>simpa [Value.ownBlock] using e
 ·refine⟨h.grow hi ha (.inr rfl) hg,?_,hg.size,fun b hb hn=>hg.block b hb (by simp),fun zc h1 h2=>?_⟩
  ·intro u hu p hp e;rw[hv] at e;have:=hn u hu p hp;simp at e;omega
  ·have hkk:∀b,b<z.heap.size→b≠ga→b≠bl→vl.ownBlock≠some b→zc.heap[b]? = z.heap[b]?:=fun b hb e1 e2 e3=>(h2 b (by have:=hg.size;omega) e1 e2 e3 (by rw[hv];simp;omega)).trans (hg.block b hb (by simp))
   exact⟨ownR_block hi (fun q hq=>hkk q (ownR_lt hi hq).2 (by have:=(ownR_lt hi hq).1;omega) (by have:=(ownR_lt hi hq).1;omega) (fun e=>own_ne h.lo hi (by decide) q e hq)),fun b hb e1 e2 e3 _=>hkk b hb e1 e2 e3⟩
end
theorem rd_price{z:World}{ga n:Nat}{y:Nat→Int}(h:z.rowIs ga 3 n (fun j=>.int .i64 (y j))):Reads z z.heap.size 1 (some ⟨ga,0,none⟩) n (ints (ysL y n)):=
 ⟨by simp[ints,ysL],fun hn=>⟨ga,0,rfl,h.lt,fun j u hu=>by
  have hj:j<n:=(by have:=(List.getElem?_eq_some_iff.1 hu).1;simpa [ints,ysL] using this);rw[ints_get] at hu;simp[ysL,hj] at hu;subst hu;rw[Nat.zero_add]
  exact h.cell hj⟩⟩
theorem trS_len{T:Nat→Option Nat}{R:Nat→Nat→Sp}{K:Nat}{price most:Int}{ids:Nat→Int}{n:Nat}:∀(d:Nat) (y:Nat→Int) (l:List Int),(trS T R K price most ids n d y l).length≤2^d
 |0,y,l=>by unfold trS;split<;>simp
 |d+1,y,l=>by
  have h1:=trS_len (T:=T) (R:=R) (K:=K) (price:=price) (most:=most) (ids:=ids) (n:=n) d y l;have h2:=trS_len (T:=T) (R:=R) (K:=K) (price:=price) (most:=most) (ids:=ids) (n:=n) d (putY y (n - (d+1)) price) (l ++ [ids (n - (d+1))]);unfold trS;rw[List.length_append,Nat.pow_succ];omega
theorem Apt.app{vs vsn:List Value}{v:Value}{z:World}{base k:Nat}{xs:List Value}(h:Apt vs v)(hv:z.ownsRow base 3 1 v k xs)(hn:∀u∈vsn,∀q,u.ownBlock=some q→z.heap.size≤q):Apt (vs++vsn) v:=by
 intro u hu q hq e;rcases List.mem_append.1 hu with h1|h1
 ·exact h u h1 q hq e
 ·have:=hn u h1 q hq;have:=(ownR_lt hv e).2;omega
theorem cloneJ_any(A:Option Addr)(n c:Nat)(xs:List Int)(w:World)(hn:n≤4096)(hR:Reads w w.heap.size 1 A n (ints xs)) :
  Calls Tryd.prog 66 #[.slice A n c] w fun e w'=>∃v,e = .returned v∧w'.ownsRow w.heap.size 3 1 v n (ints xs)∧Below w.heap.size w w':=by
 have he:=fun w=>Lib.run_eql_slice_nil (P:=Tryd.prog) w 46 3 A n c 0 0 Tryd.underlying46;cases A with
 |none=>
  have hn0:n=0:=by
   rcases Nat.eq_zero_or_pos n with h|h
   ·exact h
   ·obtain⟨b,o,h',_⟩:=hR.2 h;cases h'
  subst hn0;have hx:xs = []:=(by have:=hR.1;simpa using this);subst hx;clear hR
  go_enter Tryd.func66,Tryd.ntmps66
  go_wp2;go_ret;exact⟨_,rfl,World.ownsRow_nil _ _ _ _,Below.refl _ _⟩
 |some ad=>
  obtain⟨i0,hi,hz0,hz1,hz2⟩:=info_parts info_int
  go_enter Tryd.func66,Tryd.ntmps66
  go_wp2_with (first
   |(at_builtin;refine wpList_app _ rfl _ _ 46 rfl w.heap.size 3 i0 _ 1 8 Tryd.underlying46 hi hz0 hz1 hz2 rfl (by decide) _ _ _ rfl (World.ownsRow_lit w #[] 0 (Nat.le_refl _) (by unfold maxLen;omega) rfl) w.heap.size (some ad) n c _ rfl (hR.alloc (Nat.le_refl _) _) (ints_one _) ?c3 ?c4 ?c5 ?_))
  case c3=>unfold maxLen;omega
  case c4=>omega
  case c5=>simp
  intro v' w' hown hgr hat;go_wp2;go_ret;refine⟨_,rfl,by simpa using hown,((Below.refl _ _).alloc (Nat.le_refl _) _).grown hgr (by simp) (fun k hk=>?_)⟩;simp[Value.ownBlock] at hk;omega
set_option maxRecDepth 100000 in
set_option maxHeartbeats 4000000 in
theorem try_any(W:World)(b0 bk bm bo b1 bl bp bf ga n K:Nat)(A A':Option Addr)(c n' c' mb:Nat)(most one:Int)(At Ar Au Ai:Option Addr)(ct cr cu ci':Nat)(ps:List PR)(T:Nat→Option Nat)(R:Nat→Nat→Sp)(Uu I':Nat→Sp)(hn:n≤10)(hF:Fwd n T)(hSm:SmR R n)(hK:K≤5)(hone:one=1∨one = -1)
  (hM:MR W mb n T R Uu I' At Ar Au Ai ct cr cu ci') (hRp:Reads W W.heap.size 4 A n (pgs ps)) :
  ∀(d i k:Nat) (y:Nat→Int) (Ai:Option Addr) (ci:Nat) (ids:List Int) (vl:Value) (vs:List Value) (Ls:List (List Int)) (z:World),d≤n→i=n - d→(∀j,i≤j→y j=0)→(∀j,j<n→-1≤y j∧y j≤1)→k≤i→Ls.length+2^d≤2048→
   TP W b0 bk bm bo b1 bl bp bf ga n K A A' c n' c' mb most one y vl vs Ls z→z.ownsRow (bf+1) 3 1 (.slice Ai k ci) k (ints ids)→Apt vs (.slice Ai k ci)→
   Calls Tryd.prog 64 #[.int .i64 i,.slice Ai k ci,.pointer (some ⟨bp,0,none⟩),.pointer (some ⟨bm,0,none⟩),.pointer (some ⟨bk,0,none⟩),.pointer (some ⟨bo,0,none⟩),.pointer (some ⟨bl,0,none⟩),.pointer (some ⟨bf,0,none⟩),.pointer (some ⟨b1,0,none⟩),.pointer (some ⟨b0,0,none⟩)] z fun e z'=>TPost W b0 bk bm bo b1 bl bp bf ga n K A A' c n' c' mb most one y vl vs Ls (trS T R K one most (idQ ps) n d y ids) (.slice Ai k ci) k ids z e z'
 |0,i,k,y,Ai,ci,ids,vl,vs,Ls,z,hd,hi_,hy0,hyb,hki,hlen,hTz,hIz,hAz=>by
  obtain rfl:i=n:=(by omega);obtain⟨j0,hj,hj0,hj1,hj2⟩:=info_parts info_is;have hll:Ls.length≤2048:=(by omega);have hk10:k≤10:=(by omega);have hib:((i:Int)==(i:Int))=true:=(by simp);have HPr:=Lib.hid (fun vs Ls z (h:TP W b0 bk bm bo b1 bl bp bf ga i K A A' c n' c' mb most one y vl vs Ls z)=>pprices_any mb i T R Uu I' At Ar Au _ ct cr cu ci' hn hF hSm K hK y hyb (some ⟨ga,0,none⟩) i z (hM.below h.bel) (rd_price h.pr));have hT:=Lib.hid hTz;have hI:=Lib.hid hIz;have hTr:trS T R K one most (idQ ps) i 0 y ids=if priS T R K 1 y i=most then [ids] else []:=rfl;obtain⟨q0,-⟩:=one_factsT hTz.cp;obtain⟨S,hSd⟩:∃S:World→Prop,S=fun z=>(z.cell? ⟨bm,0,none⟩=some (.pointer (some ⟨mb,0,none⟩))∧z.cell? ⟨bk,0,none⟩=some (.int .i64 K)∧z.cell? ⟨bp,0,none⟩=some (.slice (some ⟨ga,0,none⟩) i i)∧z.cell? ⟨bo,0,none⟩=some (.int .i64 most)):=⟨_,rfl⟩
  have HSt:=Lib.hid (fun vs Ls z (h:TP W b0 bk bm bo b1 bl bp bf ga i K A A' c n' c' mb most one y vl vs Ls z)=>(by rw[hSd];exact⟨(one_factsT h.cm).1,(one_factsT h.ck).1,(one_factsT h.cp).1,(one_factsT h.co).1⟩:S z));have hTrh:=Lib.hid hTr;clear hM hRp hF hSm hTz hIz hi_ hd hTr
  go_enter Tryd.func64,Tryd.ntmps64
  (go_wp2_with fail);refine wp_region_held_drew (S:=S) (by kernel_rfl) ?_ (fun hHeld=>?_)
  ·exact HSt.out _ _ _ hT.out.drew
  have hTd:=Lib.hid hT.out.drew;have hId:=Lib.hid (ownR_below hI.out (Below.refl _ _).drew);have hsz:=Nat.le_refl z.heap.size;change z.heap.size≤z.drew.heap.size at hsz;have hkd:Hid (∀b,b<z.heap.size→z.drew.heap[b]? = z.heap[b]?):=Lib.hid (fun _ _=>rfl);generalize z.drew=yd at *;refine tY (v:=?_) 0 16 ?_ ?_;rotate_left
  ·intro w hSw;rw[hSd] at hSw;obtain⟨q0,q1,q2,q3⟩:=hSw;go_simp;(try with_reducible rfl)
  (try simp only[N0]);refine tY (v:=?_) 1 17 ?_ ?_;rotate_left
  ·intro w hSw;rw[hSd] at hSw;obtain⟨q0,q1,q2,q3⟩:=hSw;go_simp;(try with_reducible rfl)
  (try simp only[N0]);refine tY (v:=?_) 2 18 ?_ ?_;rotate_left
  ·intro w hSw;rw[hSd] at hSw;obtain⟨q0,q1,q2,q3⟩:=hSw;go_simp;(try with_reducible rfl)
  (try simp only[N0]);refine tY (v:=?_) 4 20 ?_ ?_;rotate_left
  ·intro w hSw;rw[hSd] at hSw;obtain⟨q0,q1,q2,q3⟩:=hSw;go_simp;(try with_reducible rfl)
  (try simp only[N0]);refine wpAnyH_ready (rs:=[3]) (by kernel_rfl) (by simp) ?_;refine AllReadyH.cons (o:=_) rfl (fun Kq hK=>?_) AllReadyH.nil;go_simp;refine(HPr.out _ _ _ hTd.out).mono ?_;rintro e zp ⟨rfl,hb⟩;have hTp:=Lib.hid (hTd.out.below hb);have hIp:=Lib.hid (ownR_below hId.out hb);have hszp:=Nat.le_trans hsz hb.size;have hkp:=Lib.hid (fun b (hb':b<z.heap.size)=>(hb.block b (Nat.lt_of_lt_of_le hb' hsz)).trans (hkd.out b hb'));clear hb;(try go_simp);refine hK.out _ _ ?_ (fun hHeld=>?_)
  ·exact HSt.out _ _ _ hTp.out
  clear hK Kq;(try simp only[N0]);refine tY (v:=?_) 5 21 ?_ ?_;rotate_left
  ·intro w hSw;go_simp;(try with_reducible rfl)
  (try simp only[N0]);refine wpAnyH_done (by kernel_rfl) ?_ _;by_cases hpm:priS T R K 1 y i=most
  ·have hnew:=Lib.hid (hTrh.out.trans (if_pos hpm));have hpb:(priS T R K 1 y i==most)=true:=(by simpa using hpm);generalize priS T R K 1 y i=pv at *;clear hpm HSt HPr hTrh;(go_wp2_with fail);clear hSd hHeld;obtain⟨S,hSd⟩:∃S:World→Prop,S=fun _=>True:=⟨_,rfl⟩;have HST:Hid (∀z:World,S z):=(by intro z;rw[hSd];trivial);refine wp_region_held_drew (S:=S) (by kernel_rfl) ?_ (fun hHeld=>?_)
   ·exact HST.out _
   have hTd:=Lib.hid hTp.out.drew;have hId:=Lib.hid (ownR_below hIp.out (Below.refl _ _).drew);have hsd:z.heap.size≤zp.drew.heap.size:=hszp;have hkd:Hid (∀b,b<z.heap.size→zp.drew.heap[b]? = z.heap[b]?):=Lib.hid (fun b hb=>hkp.out b hb);generalize zp.drew=yd at *;refine tY (v:=?_) 1 23 ?_ ?_;rotate_left
   ·intro w hSw;go_simp;(try with_reducible rfl)
   (try simp only[N0]);refine wpAnyH_ready (rs:=[0,2]) (by kernel_rfl) (by simp) ?_;refine AllReadyH.cons (o:=_) rfl (fun Kq hK=>?_) ?_
   ·obtain⟨l0,-⟩:=one_factsT hTd.out.cl;go_simp;clear l0;refine hK.out _ _ ?_ (fun hHeld=>?_)
    ·exact HST.out _
    clear hK Kq;(try simp only[N0]);refine wpAnyH_ready (rs:=[2]) (by kernel_rfl) (by simp) ?_;refine AllReadyH.cons (o:=_) rfl (fun Kq hK=>?_) AllReadyH.nil;go_simp;refine(cloneJ_any Ai k ci ids yd (by omega) (Reads.of_own hId.out)).mono ?_;rintro e ye ⟨v2,rfl,hown2,hb⟩;have hTe:=Lib.hid (hTd.out.below hb);have hIe:=Lib.hid (ownR_below hId.out hb);have hse:=Nat.le_trans hsd hb.size;have hke:=Lib.hid (fun b (hb':b<z.heap.size)=>(hb.block b (Nat.lt_of_lt_of_le hb' hsd)).trans (hkd.out b hb'));obtain⟨A2,c2,rfl⟩:=ownR_val hown2;have hC2:=Lib.hid (own_mono hown2 (base':=bf+1) (by have:=hTd.out.size;omega));have hCz:=Lib.hid (fun q (hq:Value.ownBlock (.slice A2 k c2)=some q)=>Nat.le_trans hsd (ownR_lt hown2 hq).1);clear hb hown2;(try go_simp);refine hK.out _ _ ?_ (fun hHeld=>?_)
    ·exact HST.out _
    clear hK Kq;(try simp only[N0]);refine wpAnyH_ready (rs:=[3]) (by kernel_rfl) (by simp) ?_;refine AllReadyH.cons (o:=_) rfl (fun Kq hK=>?_) AllReadyH.nil;go_simp;have hbA:=(Below.refl ye.heap.size ye).alloc (Nat.le_refl _) (.cells #[.slice A2 k c2] 46);have hOn:=heap_alloc_new ye (.cells #[.slice A2 k c2] 46);have hTf:=Lib.hid (hTe.out.below hbA);have hIf:=Lib.hid (ownR_below hIe.out hbA);have hCf:=Lib.hid (ownR_below hC2.out hbA);have hsf:=Nat.le_trans hse hbA.size;have hkf:=Lib.hid (fun b (hb':b<z.heap.size)=>(hbA.block b (Nat.lt_of_lt_of_le hb' hse)).trans (hke.out b hb'));obtain⟨yf,hyf⟩:∃yf,yf=ye.alloc (.cells #[.slice A2 k c2] 46):=⟨_,rfl⟩;rw[←hyf] at hOn hTf hIf hCf hsf hkf;rw[←hyf];clear hbA hyf;refine hK.out _ _ ?_ (fun hHeld=>?_)
    ·exact HST.out _
    clear hK Kq;(try simp only[N0]);refine wpAnyH_ready (rs:=[4]) (by kernel_rfl) (by simp) ?_;refine AllReadyH.cons (o:=_) rfl (fun Kq hK=>?_) AllReadyH.nil;refine step_app _ rfl _ _ 121 rfl (bf+1) 46 j0 _ 1 24 Tryd.underlying121 hj hj0 hj1 hj2 rfl (by decide) vl Ls.length vs rfl hTf.out.lo yf.heap.size (some ⟨ye.heap.size,0,none⟩) 1 1 [.slice A2 k c2] rfl (rd_obj hOn) (by intro u hu;simp at hu;subst hu;rfl) (by unfold maxLen;omega) (by omega) (by have:=hTf.out.size;omega) ?_;intro v' yg hown hgr hat;refine hK.out _ _ ?_ (fun hHeld=>?_)
    ·exact HST.out _
    clear hK Kq;(try simp only[N0]);refine wpAnyH_ready (rs:=[5]) (by kernel_rfl) (by simp) ?_;refine AllReadyH.cons (o:=_) rfl (fun Kq hK=>?_) AllReadyH.nil;obtain⟨A9,c9,rfl⟩:=ownR_val hown;obtain⟨l0,l0f⟩:=one_factsT ((hTf.out.block_l hgr (b:=bl) (by have:=hTf.out.o;omega)).trans hTf.out.cl);go_simp;clear l0 l0f;refine hK.out _ _ ?_ (fun hHeld=>?_)
    ·exact HST.out _
    clear hK Kq;(try simp only[N0]);refine wpAnyH_done (by kernel_rfl) ?_ _;have hFin:=Lib.hid (hTf.out.add hown hgr hIf.out hCf.out hk10);have hIz:=Lib.hid (ids_kept hIf.out hTf.out hgr (.slice A9 (Ls.length+1) c9));have hkz:=Lib.hid (kept_l (bl:=bl) (ga:=ga) (vi:=.slice Ai k ci) hgr hkf.out hsf (.slice A9 (Ls.length+1) c9));have hyz:=Lib.hid (show z.heap.size≤(yg.setCell ⟨bl,0,none⟩ (.slice A9 (Ls.length+1) c9)).heap.size by simp;exact Nat.le_trans hsf hgr.size);have hatz:=Lib.hid (hat.imp id (fun h=>(⟨yf.heap.size,h,hsf⟩:∃q,Value.ownBlock (.slice A9 (Ls.length+1) c9)=some q∧z.heap.size≤q)));clear hgr hown hat hTf hIf hCf hkf hTe hIe hke hTd hId hkd hTp hIp hkp hOn;go_wp2;refine bodyPost_ret (results_none rfl _ _ _) rfl ?_;exact⟨rfl,⟨.slice A9 (Ls.length+1) c9,[.slice A2 k c2],by rw[hnew.out];exact hFin.out,hatz.out,fun u hu q hq=>by simp at hu;subst hu;exact hCz.out q hq⟩,hIz.out,hyz.out,hkz.out⟩
   refine AllReadyH.cons (o:=_) rfl (fun Kq hK=>?_) AllReadyH.nil;go_simp;refine(cloneJ_any Ai k ci ids yd (by omega) (Reads.of_own hId.out)).mono ?_;rintro e ye ⟨v2,rfl,hown2,hb⟩;have hTe:=Lib.hid (hTd.out.below hb);have hIe:=Lib.hid (ownR_below hId.out hb);have hse:=Nat.le_trans hsd hb.size;have hke:=Lib.hid (fun b (hb':b<z.heap.size)=>(hb.block b (Nat.lt_of_lt_of_le hb' hsd)).trans (hkd.out b hb'));obtain⟨A2,c2,rfl⟩:=ownR_val hown2;have hC2:=Lib.hid (own_mono hown2 (base':=bf+1) (by have:=hTd.out.size;omega));have hCz:=Lib.hid (fun q (hq:Value.ownBlock (.slice A2 k c2)=some q)=>Nat.le_trans hsd (ownR_lt hown2 hq).1);clear hb hown2;(try go_simp);refine hK.out _ _ ?_ (fun hHeld=>?_)
   ·exact HST.out _
   clear hK Kq;(try simp only[N0]);refine wpAnyH_ready (rs:=[0,3]) (by kernel_rfl) (by simp) ?_;refine AllReadyH.cons (o:=_) rfl (fun Kq hK=>?_) ?_
   ·obtain⟨l0,-⟩:=one_factsT hTe.out.cl;go_simp;clear l0;refine hK.out _ _ ?_ (fun hHeld=>?_)
    ·exact HST.out _
    clear hK Kq;(try simp only[N0]);refine wpAnyH_ready (rs:=[3]) (by kernel_rfl) (by simp) ?_;refine AllReadyH.cons (o:=_) rfl (fun Kq hK=>?_) AllReadyH.nil;go_simp;have hbA:=(Below.refl ye.heap.size ye).alloc (Nat.le_refl _) (.cells #[.slice A2 k c2] 46);have hOn:=heap_alloc_new ye (.cells #[.slice A2 k c2] 46);have hTf:=Lib.hid (hTe.out.below hbA);have hIf:=Lib.hid (ownR_below hIe.out hbA);have hCf:=Lib.hid (ownR_below hC2.out hbA);have hsf:=Nat.le_trans hse hbA.size;have hkf:=Lib.hid (fun b (hb':b<z.heap.size)=>(hbA.block b (Nat.lt_of_lt_of_le hb' hse)).trans (hke.out b hb'));obtain⟨yf,hyf⟩:∃yf,yf=ye.alloc (.cells #[.slice A2 k c2] 46):=⟨_,rfl⟩;rw[←hyf] at hOn hTf hIf hCf hsf hkf;rw[←hyf];clear hbA hyf;refine hK.out _ _ ?_ (fun hHeld=>?_)
    ·exact HST.out _
    clear hK Kq;(try simp only[N0]);refine wpAnyH_ready (rs:=[4]) (by kernel_rfl) (by simp) ?_;refine AllReadyH.cons (o:=_) rfl (fun Kq hK=>?_) AllReadyH.nil;refine step_app _ rfl _ _ 121 rfl (bf+1) 46 j0 _ 1 24 Tryd.underlying121 hj hj0 hj1 hj2 rfl (by decide) vl Ls.length vs rfl hTf.out.lo yf.heap.size (some ⟨ye.heap.size,0,none⟩) 1 1 [.slice A2 k c2] rfl (rd_obj hOn) (by intro u hu;simp at hu;subst hu;rfl) (by unfold maxLen;omega) (by omega) (by have:=hTf.out.size;omega) ?_;intro v' yg hown hgr hat;refine hK.out _ _ ?_ (fun hHeld=>?_)
    ·exact HST.out _
    clear hK Kq;(try simp only[N0]);refine wpAnyH_ready (rs:=[5]) (by kernel_rfl) (by simp) ?_;refine AllReadyH.cons (o:=_) rfl (fun Kq hK=>?_) AllReadyH.nil;obtain⟨A9,c9,rfl⟩:=ownR_val hown;obtain⟨l0,l0f⟩:=one_factsT ((hTf.out.block_l hgr (b:=bl) (by have:=hTf.out.o;omega)).trans hTf.out.cl);go_simp;clear l0 l0f;refine hK.out _ _ ?_ (fun hHeld=>?_)
    ·exact HST.out _
    clear hK Kq;(try simp only[N0]);refine wpAnyH_done (by kernel_rfl) ?_ _;have hFin:=Lib.hid (hTf.out.add hown hgr hIf.out hCf.out hk10);have hIz:=Lib.hid (ids_kept hIf.out hTf.out hgr (.slice A9 (Ls.length+1) c9));have hkz:=Lib.hid (kept_l (bl:=bl) (ga:=ga) (vi:=.slice Ai k ci) hgr hkf.out hsf (.slice A9 (Ls.length+1) c9));have hyz:=Lib.hid (show z.heap.size≤(yg.setCell ⟨bl,0,none⟩ (.slice A9 (Ls.length+1) c9)).heap.size by simp;exact Nat.le_trans hsf hgr.size);have hatz:=Lib.hid (hat.imp id (fun h=>(⟨yf.heap.size,h,hsf⟩:∃q,Value.ownBlock (.slice A9 (Ls.length+1) c9)=some q∧z.heap.size≤q)));clear hgr hown hat hTf hIf hCf hkf hTe hIe hke hTd hId hkd hTp hIp hkp hOn;go_wp2;refine bodyPost_ret (results_none rfl _ _ _) rfl ?_;exact⟨rfl,⟨.slice A9 (Ls.length+1) c9,[.slice A2 k c2],by rw[hnew.out];exact hFin.out,hatz.out,fun u hu q hq=>by simp at hu;subst hu;exact hCz.out q hq⟩,hIz.out,hyz.out,hkz.out⟩
   refine AllReadyH.cons (o:=_) rfl (fun Kq hK=>?_) AllReadyH.nil;go_simp;have hbA:=(Below.refl ye.heap.size ye).alloc (Nat.le_refl _) (.cells #[.slice A2 k c2] 46);have hOn:=heap_alloc_new ye (.cells #[.slice A2 k c2] 46);have hTf:=Lib.hid (hTe.out.below hbA);have hIf:=Lib.hid (ownR_below hIe.out hbA);have hCf:=Lib.hid (ownR_below hC2.out hbA);have hsf:=Nat.le_trans hse hbA.size;have hkf:=Lib.hid (fun b (hb':b<z.heap.size)=>(hbA.block b (Nat.lt_of_lt_of_le hb' hse)).trans (hke.out b hb'));obtain⟨yf,hyf⟩:∃yf,yf=ye.alloc (.cells #[.slice A2 k c2] 46):=⟨_,rfl⟩;rw[←hyf] at hOn hTf hIf hCf hsf hkf;rw[←hyf];clear hbA hyf;refine hK.out _ _ ?_ (fun hHeld=>?_)
   ·exact HST.out _
   clear hK Kq;(try simp only[N0]);refine wpAnyH_ready (rs:=[0]) (by kernel_rfl) (by simp) ?_;refine AllReadyH.cons (o:=_) rfl (fun Kq hK=>?_) AllReadyH.nil;obtain⟨l0,-⟩:=one_factsT hTf.out.cl;go_simp;clear l0;refine hK.out _ _ ?_ (fun hHeld=>?_)
   ·exact HST.out _
   clear hK Kq;(try simp only[N0]);refine wpAnyH_ready (rs:=[4]) (by kernel_rfl) (by simp) ?_;refine AllReadyH.cons (o:=_) rfl (fun Kq hK=>?_) AllReadyH.nil;refine step_app _ rfl _ _ 121 rfl (bf+1) 46 j0 _ 1 24 Tryd.underlying121 hj hj0 hj1 hj2 rfl (by decide) vl Ls.length vs rfl hTf.out.lo yf.heap.size (some ⟨ye.heap.size,0,none⟩) 1 1 [.slice A2 k c2] rfl (rd_obj hOn) (by intro u hu;simp at hu;subst hu;rfl) (by unfold maxLen;omega) (by omega) (by have:=hTf.out.size;omega) ?_;intro v' yg hown hgr hat;refine hK.out _ _ ?_ (fun hHeld=>?_)
   ·exact HST.out _
   clear hK Kq;(try simp only[N0]);refine wpAnyH_ready (rs:=[5]) (by kernel_rfl) (by simp) ?_;refine AllReadyH.cons (o:=_) rfl (fun Kq hK=>?_) AllReadyH.nil;obtain⟨A9,c9,rfl⟩:=ownR_val hown;obtain⟨l0,l0f⟩:=one_factsT ((hTf.out.block_l hgr (b:=bl) (by have:=hTf.out.o;omega)).trans hTf.out.cl);go_simp;clear l0 l0f;refine hK.out _ _ ?_ (fun hHeld=>?_)
   ·exact HST.out _
   clear hK Kq;(try simp only[N0]);refine wpAnyH_done (by kernel_rfl) ?_ _;have hFin:=Lib.hid (hTf.out.add hown hgr hIf.out hCf.out hk10);have hIz:=Lib.hid (ids_kept hIf.out hTf.out hgr (.slice A9 (Ls.length+1) c9));have hkz:=Lib.hid (kept_l (bl:=bl) (ga:=ga) (vi:=.slice Ai k ci) hgr hkf.out hsf (.slice A9 (Ls.length+1) c9));have hyz:=Lib.hid (show z.heap.size≤(yg.setCell ⟨bl,0,none⟩ (.slice A9 (Ls.length+1) c9)).heap.size by simp;exact Nat.le_trans hsf hgr.size);have hatz:=Lib.hid (hat.imp id (fun h=>(⟨yf.heap.size,h,hsf⟩:∃q,Value.ownBlock (.slice A9 (Ls.length+1) c9)=some q∧z.heap.size≤q)));clear hgr hown hat hTf hIf hCf hkf hTe hIe hke hTd hId hkd hTp hIp hkp hOn;go_wp2;refine bodyPost_ret (results_none rfl _ _ _) rfl ?_;exact⟨rfl,⟨.slice A9 (Ls.length+1) c9,[.slice A2 k c2],by rw[hnew.out];exact hFin.out,hatz.out,fun u hu q hq=>by simp at hu;subst hu;exact hCz.out q hq⟩,hIz.out,hyz.out,hkz.out⟩
  ·have hnew:=Lib.hid (hTrh.out.trans (if_neg hpm));have hpb:(priS T R K 1 y i==most)=false:=(by simpa using hpm);generalize priS T R K 1 y i=pv at *;clear hpm HSt HPr hTrh;go_wp2;refine bodyPost_ret (results_none rfl _ _ _) rfl ?_;exact⟨rfl,⟨vl,[],by rw[hnew.out,List.append_nil,List.append_nil];exact hTp.out,.inl rfl,fun u hu=>by cases hu⟩,hIp.out,hszp,fun b hb _ _ _ _=>hkp.out b hb⟩
 |d+1,i,k,y,Ai,ci,ids,vl,vs,Ls,z,hd,hi_,hy0,hyb,hki,hlen,hTz,hIz,hAz=>by
  have hin:i<n:=(by omega);have hib:((i:Int)==(n:Int))=false:=(by simp;omega);have hii:(i:Int)<(n:Int):=(by omega);have ii0:(0:Int)≤(i:Int):=(by omega);have hk10:k≤10:=(by omega);have e2:IntKind.i64.wrap ((i:Int)+1)=((i+1:Nat):Int):=(by rw[IntWalk.i64_in _ (by omega)];omega);obtain⟨br,or_,I,D,P_,T_,rfl,hbr,hx,y0,y1,y2,y3⟩:=hRp.pg hin;have hI_:idQ ps i=I:=(by unfold idQ;rw[hx]);have hpow:2^(d+1)=2^d+2^d:=(by rw[Nat.pow_succ];omega);have hTr:trS T R K one most (idQ ps) n (d+1) y ids=trS T R K one most (idQ ps) n d y ids++trS T R K one most (idQ ps) n d (putY y i one) (ids ++ [I]):=by
   rw[←hI_,hi_];rfl
  have hl1:=trS_len (T:=T) (R:=R) (K:=K) (price:=one) (most:=most) (ids:=idQ ps) (n:=n) d y ids;have hob:-1≤one∧one≤1:=(by omega);have hyb2:∀j,j<n→-1≤putY y i one j∧putY y i one j≤1:=fun j hj=>by
   unfold putY;by_cases e:j=i
   ·rw[if_pos e];exact hob
   ·rw[if_neg e];exact hyb j hj
  have HI1:=Lib.hid (try_any W b0 bk bm bo b1 bl bp bf ga n K (some ⟨br,or_,none⟩) A' c n' c' mb most one At Ar Au _ ct cr cu ci' ps T R Uu I' hn hF hSm hK hone hM hRp d (i+1) k y Ai ci ids vl vs Ls z (by omega) (by omega) (fun j hj=>hy0 j (by omega)) hyb (by omega) (by omega) hTz hIz hAz)
  have HI2:=Lib.hid (fun(A5:Option Addr) (c5:Nat) (zz:World) vl vs (h1:TP W b0 bk bm bo b1 bl bp bf ga n K (some ⟨br,or_,none⟩) A' c n' c' mb most one (putY y i one) vl vs (Ls++trS T R K one most (idQ ps) n d y ids) zz) (h2:zz.ownsRow (bf+1) 3 1 (.slice A5 (k+1) c5) (k+1) (ints (ids ++ [I]))) (h3:Apt vs (.slice A5 (k+1) c5))=>
   try_any W b0 bk bm bo b1 bl bp bf ga n K (some ⟨br,or_,none⟩) A' c n' c' mb most one At Ar Au _ ct cr cu ci' ps T R Uu I' hn hF hSm hK hone hM hRp d (i+1) (k+1) (putY y i one) A5 c5 (ids ++ [I]) vl vs _ zz (by omega) (by omega) (fun j hj=>by unfold putY;rw[if_neg (by omega)];exact hy0 j (by omega)) hyb2 (by omega) (by rw[List.length_append];omega) h1 h2 h3)
  have hTrh:=Lib.hid hTr;have hy0h:=Lib.hid (hy0 i (Nat.le_refl _));have hRh:=Lib.hid (fun z (h:Below W.heap.size W z)=>((h.cell (p:=⟨br,or_+i*4,none⟩) hbr).trans y0:z.cell? ⟨br,or_+i*4,none⟩=some (.int .i64 I)));have hIzh:=Lib.hid hIz;have hAzh:=Lib.hid hAz;have hoo:=Lib.hid hTz.o;obtain⟨q0,-⟩:=one_factsT hTz.cp;obtain⟨q1,-⟩:=one_factsT hTz.cf;clear hTr hI_ hx y0 y1 y2 y3 hRp hM hF hSm hTz hIz hAz hyb hyb2 hpow hl1 hy0 hi_ hone
  go_enter Tryd.func64,Tryd.ntmps64
  (go_wp2_with fail);refine HI1.out.mono ?_;rintro e z1 ⟨rfl,⟨vl1,vsn1,hT1,ho1,hn1⟩,hid1,hsz1,hk1⟩;have hA1:=Lib.hid (hAzh.out.app hIzh.out hn1);have hI1:=Lib.hid hid1;have hT1h:=Lib.hid hT1;have hrest1:=Lib.hid (And.intro ho1 (And.intro hn1 (And.intro hsz1 hk1)));have hga:z1.cell? ⟨ga,i,none⟩=some (.int .i64 (y i)):=hT1.pr.cell hin;have hgf:=hT1.pr.frozen i;obtain⟨p0,-⟩:=one_factsT hT1.cp;obtain⟨p1,-⟩:=one_factsT hT1.c1;clear hT1 ho1 hn1 hid1 hsz1 hk1 q0 q1 HI1;have hT2:=Lib.hid (hT1h.out.put i one);have hI2:Hid ((z1.setCell ⟨ga,i,none⟩ (.int .i64 one)).ownsRow (bf+1) 3 1 (.slice Ai k ci) k (ints ids)):=Lib.hid (ownR_block hI1.out (fun q hq=>Below.heap_setCell _ _ _ _ (by simp only;have:=(ownR_lt hI1.out hq).1;have:=hoo.out;omega)));have hk2:Hid (∀b,b≠ga→(z1.setCell ⟨ga,i,none⟩ (.int .i64 one)).heap[b]? = z1.heap[b]?):=Lib.hid (fun b hb=>Below.heap_setCell _ _ _ _ hb);have hs2:Hid ((z1.setCell ⟨ga,i,none⟩ (.int .i64 one)).heap.size=z1.heap.size):=Lib.hid (by simp);have hApt2:=hA1;obtain⟨z2,hz2⟩:∃z2,z2=z1.setCell ⟨ga,i,none⟩ (.int .i64 one):=⟨_,rfl⟩;rw[←hz2] at hT2 hI2 hk2 hs2;have hz2h:=Lib.hid hz2;clear hz2 hI1;(go_wp2_with fail);rw[←hz2h.out];clear hga hgf p0 p1 hz2h;obtain⟨S,hSd⟩:∃S:World→Prop,S=fun z=>(z.cell? ⟨bf,0,none⟩=some (.func (.func 64) #[] #[.pointer (some ⟨bp,0,none⟩),.pointer (some ⟨bm,0,none⟩),.pointer (some ⟨bk,0,none⟩),.pointer (some ⟨bo,0,none⟩),.pointer (some ⟨bl,0,none⟩),.pointer (some ⟨bf,0,none⟩),.pointer (some ⟨b1,0,none⟩),.pointer (some ⟨b0,0,none⟩)])∧z.cell? ⟨b0,0,none⟩=some (.slice (some ⟨br,or_,none⟩) n c)∧z.cell? ⟨br,or_+i*4,none⟩=some (.int .i64 I)):=⟨_,rfl⟩
  have HSt:=Lib.hid (fun y vl vs Ls z (h:TP W b0 bk bm bo b1 bl bp bf ga n K (some ⟨br,or_,none⟩) A' c n' c' mb most one y vl vs Ls z)=>(by rw[hSd];exact⟨(one_factsT h.cf).1,(two_facts h.c0).1,hRh.out z h.bel⟩:S z));refine wp_region_held_drew (S:=S) (by kernel_rfl) ?_ (fun hHeld=>?_)
  ·exact HSt.out _ _ _ _ _ hT2.out.drew
  have hTd:=Lib.hid hT2.out.drew;have hId:=Lib.hid (ownR_below hI2.out (Below.refl _ _).drew);have hsd:z2.heap.size≤z2.drew.heap.size:=Nat.le_refl _;have hkd:Hid (∀b,b<z2.heap.size→z2.drew.heap[b]? = z2.heap[b]?):=Lib.hid (fun _ _=>rfl);generalize z2.drew=yd at *;refine tY (v:=?_) 0 36 ?_ ?_;rotate_left
  ·intro w hSw;rw[hSd] at hSw;obtain⟨q0,q1,q2⟩:=hSw;go_simp;(try with_reducible rfl)
  (try simp only[N0]);refine tY (v:=?_) 1 37 ?_ ?_;rotate_left
  ·intro w hSw;rw[hSd] at hSw;obtain⟨q0,q1,q2⟩:=hSw;go_simp;(try with_reducible rfl)
  (try simp only[N0]);refine tY (v:=?_) 2 38 ?_ ?_;rotate_left
  ·intro w hSw;rw[hSd] at hSw;obtain⟨q0,q1,q2⟩:=hSw;go_simp;(try with_reducible rfl)
  (try simp only[N0]);refine tY (v:=?_) 3 39 ?_ ?_;rotate_left
  ·intro w hSw;rw[hSd] at hSw;obtain⟨q0,q1,q2⟩:=hSw;go_simp;(try with_reducible rfl)
  (try simp only[N0]);refine tY (v:=?_) 4 40 ?_ ?_;rotate_left
  ·intro w hSw;rw[hSd] at hSw;obtain⟨q0,q1,q2⟩:=hSw;go_simp;(try with_reducible rfl)
  (try simp only[N0]);refine tY (v:=?_) 5 41 ?_ ?_;rotate_left
  ·intro w hSw;rw[hSd] at hSw;obtain⟨q0,q1,q2⟩:=hSw;go_simp;(try with_reducible rfl)
  (try simp only[N0]);refine tY (v:=?_) 6 42 ?_ ?_;rotate_left
  ·intro w hSw;rw[hSd] at hSw;obtain⟨q0,q1,q2⟩:=hSw;go_simp;(try with_reducible rfl)
  (try simp only[N0]);refine tY (v:=?_) 7 43 ?_ ?_;rotate_left
  ·intro w hSw;rw[hSd] at hSw;obtain⟨q0,q1,q2⟩:=hSw;go_simp;(try with_reducible rfl)
  (try simp only[N0]);refine tY (v:=?_) 8 44 ?_ ?_;rotate_left
  ·intro w hSw;rw[hSd] at hSw;obtain⟨q0,q1,q2⟩:=hSw;go_simp;(try with_reducible rfl)
  (try simp only[N0]);refine tY (v:=?_) 9 45 ?_ ?_;rotate_left
  ·intro w hSw;rw[hSd] at hSw;obtain⟨q0,q1,q2⟩:=hSw;go_simp;(try with_reducible rfl)
  (try simp only[N0]);refine wpAnyH_ready (rs:=[10]) (by kernel_rfl) (by simp) ?_;refine AllReadyH.cons (o:=_) rfl (fun Kq hK=>?_) AllReadyH.nil;go_simp;have hbA:=(Below.refl yd.heap.size yd).alloc (Nat.le_refl _) (.cells #[.int .i64 I] 3);have hOn:=heap_alloc_new yd (.cells #[.int .i64 I] 3);have hTe:=Lib.hid (hTd.out.below hbA);have hIe:=Lib.hid (ownR_below hId.out hbA);have hse:=Nat.le_trans hsd hbA.size;have hke:=Lib.hid (fun b (hb':b<z2.heap.size)=>(hbA.block b (Nat.lt_of_lt_of_le hb' hsd)).trans (hkd.out b hb'));obtain⟨ye,hye⟩:∃ye,ye=yd.alloc (.cells #[.int .i64 I] 3):=⟨_,rfl⟩;rw[←hye] at hOn hTe hIe hse hke;rw[←hye];clear hbA hye;obtain⟨hcn,-⟩:=one_factsT hOn;have hcnh:=Lib.hid hcn;clear hcn;refine hK.out _ _ ?_ (fun hHeld=>?_)
  ·exact HSt.out _ _ _ _ _ hTe.out
  clear hK Kq;(try simp only[N0]);refine wpAnyH_ready (rs:=[11]) (by kernel_rfl) (by simp) ?_;refine AllReadyH.cons (o:=_) rfl (fun Kq hK=>?_) AllReadyH.nil;refine step_app1 rfl _ _ rfl (bf+1) (.slice Ai k ci) k (ints ids) rfl hIe.out (by have:=hTe.out.size;omega) (by omega) ⟨yd.heap.size,0,none⟩ 1 I rfl hcnh.out ?_;intro v' yg hown hcase;have hown':yg.ownsRow (bf+1) 3 1 v' (k+1) (ints (ids ++ [I])):=(by simpa [ints] using hown);obtain⟨hTg,hAg,hsg,hkg,hback⟩:=app_case hTe.out hIe.out hApt2.out hown hcase;have hTgh:=Lib.hid hTg;have hAgh:=Lib.hid hAg;have hbk:=Lib.hid hback;have hkgh:=Lib.hid hkg;have hIg:=Lib.hid hown';obtain⟨A5,c5,rfl⟩:=ownR_val hown';have hseg:=Nat.le_trans hse hsg;clear hTg hAg hkg hback hown hown' hcase;refine hK.out _ _ ?_ (fun hHeld=>?_)
  ·exact HSt.out _ _ _ _ _ hTgh.out
  clear hK Kq;(try simp only[N0]);refine wpAnyH_ready (rs:=[12]) (by kernel_rfl) (by simp) ?_;refine AllReadyH.cons (o:=_) rfl (fun Kq hK=>?_) AllReadyH.nil;have hC2:=Lib.hid (HI2.out A5 c5 yg _ _ hTgh.out hIg.out hAgh.out);go_simp;refine hC2.out.mono ?_;rintro e zc ⟨rfl,⟨vl3,vsn3,hT3,ho3,hn3⟩,hid3,hsz3,hk3⟩;have hT3h:=Lib.hid hT3;have hrest:=Lib.hid (And.intro ho3 (And.intro hn3 (And.intro hid3 (And.intro hsz3 hk3))));clear hT3 ho3 hn3 hid3 hsz3 hk3 hC2;(try go_simp);refine hK.out _ _ ?_ (fun hHeld=>?_)
  ·exact HSt.out _ _ _ _ _ hT3h.out
  clear hK Kq;(try simp only[N0]);refine wpAnyH_done (by kernel_rfl) ?_ _;obtain⟨ho3,hn3,hid3,hsz3,hk3⟩:=hrest.out;obtain⟨hidz,hkz⟩:=hbk.out zc hid3 hk3;obtain⟨ho1,hn1,hsz1,hk1⟩:=hrest1.out;have hs2':=hs2.out;have hze:z.heap.size≤ye.heap.size:=(by omega);have hvl1:∀b,b<z.heap.size→vl.ownBlock≠some b→vl1.ownBlock≠some b:=fun b hb hn e=>by
   rcases ho1 with h|⟨q,h,hq⟩
   ·exact hn (h ▸ e)
   ·rw[h] at e;have:=Option.some.inj e;omega
  have hFin:=Lib.hid (TP.yc (hT3h.out.put i 0) (y':=y) (fun j _=>by
   unfold putY;by_cases e:j=i
   ·rw[if_pos e,e,hy0h.out]
   ·rw[if_neg e,if_neg e]))
  have hIf:=Lib.hid (show (zc.setCell ⟨ga,i,none⟩ (.int .i64 0)).ownsRow (bf+1) 3 1 (.slice Ai k ci) k (ints ids) from ownR_block hidz (fun q hq=>Below.heap_setCell _ _ _ _ (by simp only;have:=(ownR_lt hidz hq).1;have:=hoo.out;omega)))
  have hkf:=Lib.hid (show ∀b,b<z.heap.size→b≠ga→b≠bl→vl.ownBlock≠some b→Value.ownBlock (.slice Ai k ci)≠some b→(zc.setCell ⟨ga,i,none⟩ (.int .i64 0)).heap[b]? = z.heap[b]? from fun b hb e1 e2 e3 e4=>
   (Below.heap_setCell _ _ _ _ e1).trans ((hkz b (by omega) e1 e2 (hvl1 b hb e3) e4).trans ((hke.out b (by omega)).trans ((hk2.out b e1).trans (hk1 b hb e1 e2 e3 e4)))))
  have hsf:=Lib.hid (show z.heap.size≤(zc.setCell ⟨ga,i,none⟩ (.int .i64 0)).heap.size by simp;omega);have hvf:=Lib.hid (show vl3.ownBlock=vl.ownBlock∨∃q,vl3.ownBlock=some q∧z.heap.size≤q by
   rcases ho3 with h|⟨q,h,hq⟩
   ·rw[h];exact ho1
   ·exact .inr ⟨q,h,by omega⟩)
  have hnf:=Lib.hid (show ∀u∈vsn1++vsn3,∀q,u.ownBlock=some q→z.heap.size≤q from fun u hu q hq=>by
   rcases List.mem_append.1 hu with h|h
   ·exact hn1 u h q hq
   ·have:=hn3 u h q hq;omega)
  have hga:zc.cell? ⟨ga,i,none⟩=some (.int .i64 (putY y i one i)):=hT3h.out.pr.cell hin;have hgf:=hT3h.out.pr.frozen i;obtain⟨p0,-⟩:=one_factsT hT3h.out.cp;clear ho3 hn3 hid3 hsz3 hk3 hidz hkz ho1 hn1 hsz1 hk1 hs2' hze hvl1 hrest hrest1 hbk hT3h hTgh hTe hTd hke hkd hk2 hs2 hIg hIe hId hAgh hkgh;go_wp2;refine bodyPost_ret (results_none rfl _ _ _) rfl ?_;refine⟨rfl,⟨vl3,vsn1++vsn3,?_,hvf.out,hnf.out⟩,hIf.out,hsf.out,hkf.out⟩;rw[hTrh.out,←List.append_assoc,←List.append_assoc];exact hFin.out
end Go.Proofs.YtfplipbkjglmhaaDoor

namespace Go.Proofs.YtfplipbkjglmhaaDoor
open Go.RowKit
set_option linter.unusedVariables false
set_option linter.unusedSimpArgs false
def cmpJ (x y:Int):Int:=if x<y then -1 else if y<x then 1 else 0
theorem nanJ_any(x:Int)(w:World):Calls Tryd.prog 112 #[.int .i64 x] w fun e w'=>e = .returned (.bool false)∧w=w':=by
 go_enter Tryd.func112,Tryd.ntmps112
 go_wp2;go_ret;exact⟨ret_bool (by simp),rfl⟩
theorem compareJ_any(x y:Int)(w:World):Calls Tryd.prog 89 #[.int .i64 x,.int .i64 y] w fun e w'=>e = .returned (.int .i64 (cmpJ x y))∧w=w':=by
 by_cases h1:x<y
 ·have hr:Hid (cmpJ x y = -1):=by show _=_;unfold cmpJ;rw[if_pos h1]
  go_enter Tryd.func89,Tryd.ntmps89
  (go_wp2_with (first|(go_at_call 112;refine(nanJ_any _ _).mono ?_;rintro e w' ⟨rfl,rfl⟩)|fail));go_ret;exact⟨ret_int hr.out.symm,rfl⟩
 ·by_cases h2:y<x
  ·have hr:Hid (cmpJ x y=1):=by show _=_;unfold cmpJ;rw[if_neg h1,if_pos h2]
   go_enter Tryd.func89,Tryd.ntmps89
   (go_wp2_with (first|(go_at_call 112;refine(nanJ_any _ _).mono ?_;rintro e w' ⟨rfl,rfl⟩)|fail));go_ret;exact⟨ret_int hr.out.symm,rfl⟩
  ·have hr:Hid (cmpJ x y=0):=by show _=_;unfold cmpJ;rw[if_neg h1,if_neg h2]
   go_enter Tryd.func89,Tryd.ntmps89
   (go_wp2_with (first|(go_at_call 112;refine(nanJ_any _ _).mono ?_;rintro e w' ⟨rfl,rfl⟩)|fail));go_ret;exact⟨ret_int hr.out.symm,rfl⟩
def cmL:List Int→List Int→Int
 |[],[]=>0
 |[],_::_=>-1
 |_::_,[]=>1
 |x::a,y::b=>if x=y then cmL a b else cmpJ x y
def orS (x y:Int):Int:=if x=0 then y else x
def shI (a b:List Int):Int:=orS (cmpJ a.length b.length) (cmL a b)
theorem cmL_lex:∀(a b:List Int),a.length=b.length→decide (cmL a b<0)=lexB a b
 |[],[],_=>rfl
 |x::a,y::b,h=>by
  unfold cmL lexB;by_cases e:x=y
  ·rw[if_pos e,if_pos e];exact cmL_lex a b (by simpa using h)
  ·rw[if_neg e,if_neg e];unfold cmpJ;rw[Bool.eq_iff_iff];simp only[decide_eq_true_iff];split
   ·constructor
    ·intro _;assumption
    ·intro _;decide
   ·split
    ·constructor
     ·intro h;exact absurd h (by decide)
     ·intro h;contradiction
    ·omega
 |[],_::_,h=>by simp at h
 |_::_,[],h=>by simp at h
theorem shI_shB(a b:List Int):decide (shI a b<0)=shB a b:=by
 unfold shI orS shB cmpJ;by_cases e:a.length=b.length
 ·rw[if_pos e,if_pos (by rw[e];simp),cmL_lex a b e]
 ·rw[if_neg e];by_cases h:a.length<b.length
  ·rw[if_pos (by omega:(a.length:Int)<b.length),if_neg (by decide)];rw[Bool.eq_iff_iff];simp[h]
  ·rw[if_neg (by omega:¬(a.length:Int)<b.length),if_pos (by omega:(b.length:Int)<a.length),if_neg (by decide)];rw[Bool.eq_iff_iff];simp[h]
theorem cmL_drop:∀(k:Nat) (a b:List Int),a.take k=b.take k→k≤a.length→k≤b.length→cmL a b=cmL (a.drop k) (b.drop k)
 |0,_,_,_,_,_=>rfl
 |k+1,x::a,y::b,h,h1,h2=>by
  simp only[List.take_succ_cons,List.cons.injEq] at h;obtain⟨rfl,h⟩:=h;show (if x=x then _ else _)=_;rw[if_pos rfl,List.drop_succ_cons,List.drop_succ_cons];exact cmL_drop k a b h (by simpa using h1) (by simpa using h2)
 |_+1,[],_,_,h,_=>by simp at h
 |_+1,_::_,[],_,_,h=>by simp at h
theorem cmL_at{a b:List Int}{k:Nat}(h:a.take k=b.take k){x y:Int}(hx:a[k]? = some x)(hy:b[k]? = some y):cmL a b=if x=y then cmL (a.drop (k+1)) (b.drop (k+1)) else cmpJ x y:=by
 have h1:=(List.getElem?_eq_some_iff.1 hx).1;have h2:=(List.getElem?_eq_some_iff.1 hy).1;rw[cmL_drop k a b h (by omega) (by omega),List.drop_eq_getElem_cons h1,List.drop_eq_getElem_cons h2];rw[List.getElem?_eq_getElem h1] at hx;rw[List.getElem?_eq_getElem h2] at hy;rw[Option.some.inj hx,Option.some.inj hy];rfl
theorem cmL_long{a b:List Int}{k:Nat}(h:a.take k=b.take k)(h1:k<a.length)(h2:k=b.length):cmL a b=1:=by
 rw[cmL_drop k a b h (by omega) (by omega),List.drop_eq_getElem_cons h1,List.drop_of_length_le (l:=b) (i:=k) (by omega)];rfl
theorem cmL_end{a b:List Int}(h:a=b.take a.length)(h2:a.length≤b.length):cmL a b=if a.length<b.length then -1 else 0:=by
 rw[cmL_drop a.length a b (by rw[List.take_of_length_le (Nat.le_refl _)];exact h) (Nat.le_refl _) h2,List.drop_of_length_le (Nat.le_refl _)];by_cases e:a.length<b.length
 ·rw[if_pos e,List.drop_eq_getElem_cons e];rfl
 ·rw[if_neg e,List.drop_of_length_le (by omega)];rfl
set_option maxRecDepth 100000 in
theorem compareL_any(A A':Option Addr)(n m c c':Nat)(l l':List Int)(w:World)(hn:n≤100)(hm:m≤100)
  (h:Reads w w.heap.size 1 A n (ints l)) (h':Reads w w.heap.size 1 A' m (ints l')) :
  Calls Tryd.prog 98 #[.slice A n c,.slice A' m c'] w fun e w'=>e = .returned (.int .i64 (cmL l l'))∧w=w':=by
 have hl:l.length=n:=by simpa using h.len
 have hl':l'.length=m:=by simpa using h'.len
 have hC:=Lib.hid (fun x y w=>compareJ_any x y w);have hh:=Lib.hid h;have hh':=Lib.hid h';have hlh:=Lib.hid hl;have hlh':=Lib.hid hl';clear h h' hl hl'
 go_enter Tryd.func98,Tryd.ntmps98
 go_wp2;go_loopw [11] (fun v wr=>∃k:Nat,k≤n∧k≤m∧v = .int .i64 k∧Hid (l.take k=l'.take k)∧w=wr) (fun v _=>n - (intOf v).toNat)
 case atStart=>exact⟨0,by omega,by omega,rfl,Lib.hid rfl,rfl⟩
 case round=>
  obtain⟨k,hk,hkm,rfl,ht,rfl⟩:=hrel;by_cases hlt:k<n
  ·have hki:(k:Int)<(n:Int):=(by omega);have k0:(0:Int)≤(k:Int):=(by omega);obtain⟨b,o,rfl,hbb,hc⟩:=hh.out.int hlt;by_cases hlm:k<m
   ·have hkj:¬(m:Int)≤(k:Int):=(by omega);have hkj2:(k:Int)<(m:Int):=(by omega);obtain⟨b',o',rfl,hbb',hc'⟩:=hh'.out.int hlm;have hlk:l[k]? = some (l[k]?.getD 0):=(by rw[List.getElem?_eq_getElem (by have:=hlh.out;omega)];rfl);have hlk':l'[k]? = some (l'[k]?.getD 0):=(by rw[List.getElem?_eq_getElem (by have:=hlh'.out;omega)];rfl);have hat:=cmL_at ht.out hlk hlk';have hnx:=Lib.hid (fun(e:l[k]?.getD 0=l'[k]?.getD 0)=>(show l.take (k+1)=l'.take (k+1) by rw[List.take_add_one,List.take_add_one,ht.out,hlk,hlk',e]));clear hlk hlk';generalize l[k]?.getD 0=x at *;generalize l'[k]?.getD 0=y at *;by_cases he:x=y
    ·have hz:cmpJ x y=0:=(by unfold cmpJ;rw[if_neg (by omega),if_neg (by omega)]);have hCx:=hC.out x y w;rw[hz] at hCx;have hCxh:=Lib.hid hCx;have hn1:=Lib.hid (hnx.out he);clear hat hnx he hz hCx ht;(go_wp2_with fail);refine hCxh.out.mono ?_;rintro e w' ⟨rfl,rfl⟩;go_wp2;go_roundw
     case rel=>exact⟨k+1,by omega,by omega,by go_num,hn1,by simp⟩
     case measure=>simp[intOf];omega
    ·have hz:cmpJ x y≠0:=(by unfold cmpJ;split<;>(try split)<;>omega);rw[if_neg he] at hat;have hath:=Lib.hid hat;have hCx:=Lib.hid (hC.out x y w);clear hat hnx he ht;generalize cmpJ x y=r at *;have hzb:(r != 0)=true:=(by simpa using hz);(go_wp2_with fail);refine hCx.out.mono ?_;rintro e w' ⟨rfl,rfl⟩;go_wp2;go_ret;exact⟨by rw[hath.out];rfl,rfl⟩
   ·have hkj:(m:Int)≤(k:Int):=(by omega);have hr:=Lib.hid (cmL_long ht.out (by have:=hlh.out;omega) (by have:=hlh'.out;omega));clear ht;go_wp2;go_ret;exact⟨by rw[hr.out];rfl,rfl⟩
  ·obtain rfl:k=n:=(by omega);have hki:¬(k:Int)<(k:Int):=(by omega);have hr:=cmL_end (a:=l) (b:=l') (by have:=ht.out;rw[List.take_of_length_le (by have:=hlh.out;omega)] at this;rw[hlh.out];exact this) (by have:=hlh.out;have:=hlh'.out;omega);rw[hlh.out,hlh'.out] at hr;by_cases hkm':k<m
   ·rw[if_pos hkm'] at hr;have hrh:=Lib.hid hr;have hki2:(k:Int)<(m:Int):=(by omega);clear hr ht;go_wp2;go_ret;exact⟨by rw[hrh.out];rfl,rfl⟩
   ·rw[if_neg hkm'] at hr;have hrh:=Lib.hid hr;have hki2:¬(k:Int)<(m:Int):=(by omega);clear hr ht;go_wp2;go_ret;exact⟨by rw[hrh.out];rfl,rfl⟩
set_option maxRecDepth 100000 in
theorem orJ_any(x y:Int)(g:Nat)(w:World)(h0:w.cell? ⟨g,0,none⟩=some (.int .i64 x))(h1:w.cell? ⟨g,1,none⟩=some (.int .i64 y)) :
  Calls Tryd.prog 97 #[.slice (some ⟨g,0,none⟩) 2 2] w fun e w'=>e = .returned (.int .i64 (orS x y))∧w=w':=by
 go_enter Tryd.func97,Tryd.ntmps97
 go_wp2;go_loopw [8] (fun v wr=>w=wr∧∃k:Nat,k≤2∧v = .int .i64 k∧(0<k→x=0)∧(1<k→y=0)) (fun v _=>2 - (intOf v).toNat)
 case atStart=>exact⟨rfl,0,by omega,rfl,fun h=>absurd h (by omega),fun h=>absurd h (by omega)⟩
 case round=>
  obtain⟨rfl,k,hk,rfl,hx,hy⟩:=hrel;rcases (by omega:k=0∨k=1∨k=2) with rfl|rfl|rfl
  ·rw[show ((0:Nat):Int)=0 from rfl];clear hx hy;by_cases e:x=0
   ·have eb:(x != 0)=false:=(by simpa using e);have eh:=Lib.hid e;clear e;go_wp2;go_roundw
    case rel=>exact⟨by simp,1,by omega,by go_num,fun _=>eh.out,fun h=>absurd h (by omega)⟩
    case measure=>simp[intOf]
   ·have eb:(x != 0)=true:=(by simpa using e);have eh:=Lib.hid (show orS x y=x from if_neg e);clear e;go_wp2;go_ret;exact⟨by rw[eh.out];rfl,rfl⟩
  ·rw[show ((1:Nat):Int)=1 from rfl];have hx0:=hx (by omega);have eh:=Lib.hid (show orS x y=y from if_pos hx0);have hx0h:=Lib.hid hx0;clear hx hy hx0;by_cases e:y=0
   ·have eb:(y != 0)=false:=(by simpa using e);have e2:=Lib.hid e;clear e;go_wp2;go_roundw
    case rel=>exact⟨by simp,2,by omega,by go_num,fun _=>hx0h.out,fun _=>e2.out⟩
    case measure=>simp[intOf]
   ·have eb:(y != 0)=true:=(by simpa using e);clear e;go_wp2;go_ret;exact⟨by rw[eh.out];rfl,rfl⟩
  ·rw[show ((2:Nat):Int)=2 from rfl];have hx0:=hx (by omega);have hy0:=hy (by omega);have eh:=Lib.hid (show orS x y=0 by unfold orS;rw[if_pos hx0,hy0]);clear hx hy hx0 hy0;go_wp2;go_ret;exact⟨by rw[eh.out];rfl,rfl⟩
set_option maxRecDepth 100000 in
theorem shorterP_any(A A':Option Addr)(n m c c':Nat)(l l':List Int)(w:World)(hn:n≤100)(hm:m≤100)
  (h:Reads w w.heap.size 1 A n (ints l)) (h':Reads w w.heap.size 1 A' m (ints l')) :
  Calls Tryd.prog 68 #[.slice A n c,.slice A' m c'] w fun e w'=>e = .returned (.int .i64 (shI l l'))∧Below w.heap.size w w':=by
 have hl:l.length=n:=by simpa using h.len
 have hl':l'.length=m:=by simpa using h'.len
 have hC:=Lib.hid (fun w=>compareJ_any n m w);have hL:=Lib.hid (compareL_any A A' n m c c' l l' w hn hm h h');have hsh:=Lib.hid (show shI l l'=orS (cmpJ n m) (cmL l l') by unfold shI;rw[hl,hl']);clear h h' hl hl';generalize cmpJ n m=x at *;generalize cmL l l'=y at *
 go_enter Tryd.func68,Tryd.ntmps68
 go_wp2_with fail
 refine(hC.out w).mono ?_;rintro e w1 ⟨rfl,rfl⟩;go_wp2_with fail
 refine hL.out.mono ?_;rintro e w2 ⟨rfl,rfl⟩;have hO:=heap_alloc_new w (.cells #[.int .i64 x,.int .i64 y] 3);obtain⟨o0,o1,-,-⟩:=two_facts hO;have hor:=Lib.hid (orJ_any x y w.heap.size (w.alloc (.cells #[.int .i64 x,.int .i64 y] 3)) o0 o1);clear hO o0 o1;go_wp2_with fail
 refine hor.out.mono ?_;rintro e w3 ⟨rfl,rfl⟩;go_wp2;go_ret;exact⟨by rw[hsh.out];rfl,(Below.refl _ _).alloc (Nat.le_refl _) _⟩
/-- A list of lists reads so. -/
def RdL (w:World) (A:Option Addr) (n:Nat) (Ls:List (List Int)):Prop:=
 ∃vs:List Value,Reads w w.heap.size 1 A n vs∧Ls.length=n∧∀(j:Nat) (L:List Int),Ls[j]? = some L→∃(B:Option Addr) (m d:Nat),vs[j]? = some (Value.slice B m d)∧m≤10∧Reads w w.heap.size 1 B m (ints L)
theorem RdL.below{w w':World}{A:Option Addr}{n:Nat}{Ls:List (List Int)}(h:RdL w A n Ls)(hb:Below w.heap.size w w'):RdL w' A n Ls:=by
 obtain⟨vs,h1,h2,h3⟩:=h;refine⟨vs,(h1.below hb).more hb.size,h2,fun j L hL=>?_⟩;obtain⟨B,m,d,e1,e2,e3⟩:=h3 j L hL;exact⟨B,m,d,e1,e2,(e3.below hb).more hb.size⟩
theorem RdL.at_{w:World}{A:Option Addr}{n j:Nat}{Ls:List (List Int)}(h:RdL w A n Ls)(hj:j<n):∃(b o:Nat) (B:Option Addr) (m d:Nat) (L:List Int),A=some ⟨b,o,none⟩∧Ls[j]? = some L∧w.cell? ⟨b,o+j,none⟩=some (.slice B m d)∧m≤10∧Reads w w.heap.size 1 B m (ints L):=by
 obtain⟨vs,h1,h2,h3⟩:=h;obtain⟨b,o,u,e,hb,hu,hc⟩:=h1.at_ hj;have hL:=List.getElem?_eq_getElem (l:=Ls) (i:=j) (by omega);obtain⟨B,m,d,e1,e2,e3⟩:=h3 j _ hL;rw[hu] at e1;rw[Option.some.inj e1] at hc;exact⟨b,o,B,m,d,_,e,hL,hc,e2,e3⟩
set_option maxRecDepth 100000 in
set_option maxHeartbeats 1000000 in
theorem minF_any(A:Option Addr)(n c:Nat)(M:List Int)(Ls:List (List Int))(w:World)(hn:n≤4096)(h:RdL w A n (M::Ls))(eg:∀args w,(callFunc 68 args).run Tryd.prog w = .ok (.enter 68 args) w) :
  Calls Tryd.prog 96 #[.slice A n c,.func (.func 68) #[] #[]] w fun e w'=>(∃B m d,e = .returned (.slice B m d)∧m≤10∧Reads w' w'.heap.size 1 B m (ints (minL M Ls)))∧Below w.heap.size w w':=by
 have hl:Ls.length+1=n:=by obtain⟨vs,h1,h2,h3⟩:=h;simpa using h2
 obtain⟨b,o,B0,m0,d0,L0,rfl,hL0,hc0,hm0,hR0⟩:=h.at_ (j:=0) (by omega);simp at hL0;subst hL0;have hn1:¬(n:Int)<1:=by omega
 have hn0:(0:Int)<(n:Int):=by omega
 have hR0h:=Lib.hid hR0;have HR:=Lib.hid (fun z (hz:Below w.heap.size w z)=>h.below hz);have hlh:=Lib.hid hl;have c0:w.cell? ⟨b,o,none⟩=some (.slice B0 m0 d0):=by simpa using hc0
 clear h hR0 hl hc0
 go_enter Tryd.func96,Tryd.ntmps96
 go_wp2;go_loopw [5,6] (fun v u wr=>∃wl,wl=wr∧∃k:Nat,1≤k∧k≤n∧u = .int .i64 k∧(∃B m d X,v = .slice B m d∧m≤10∧Hid (Reads wl wl.heap.size 1 B m (ints X))∧Hid (minL X (Ls.drop (k - 1))=minL M Ls))∧Hid (Below w.heap.size w wl)) (fun _ u _=>n - (intOf u).toNat)
 case atStart=>exact⟨_,rfl,1,by omega,by omega,rfl,⟨B0,m0,d0,_,rfl,hm0,hR0h,Lib.hid rfl⟩,Lib.hid (Below.refl _ _)⟩
 case round=>
  clear c0 hR0h;obtain⟨wq,rfl,k,hk1,hkn,rfl,⟨B,m,d,X,rfl,hm,HX,hmin⟩,HB⟩:=hrel;by_cases hlt:k<n
  ·have hki:(k:Int)<(n:Int):=(by omega);have k0:(0:Int)≤(k:Int):=(by omega);obtain⟨b',o',B1,m1,d1,L1,e,hL1,hc1,hm1,hR1⟩:=(HR.out _ HB.out).at_ hlt;simp only[Option.some.injEq,Addr.mk.injEq,and_true] at e;obtain⟨rfl,rfl⟩:=e;have hd:Ls.drop (k - 1)=L1::Ls.drop k:=by
    obtain⟨k',rfl⟩:∃k',k=k'+1:=⟨k - 1,by omega⟩;simp only[Nat.add_sub_cancel,List.getElem?_cons_succ] at hL1 ⊢;have hlt':=(List.getElem?_eq_some_iff.1 hL1).1;rw[List.drop_eq_getElem_cons hlt'];rw[List.getElem?_eq_getElem hlt'] at hL1;rw[Option.some.inj hL1]
   have hmin2:=hmin.out;rw[hd] at hmin2;have hst:minL (if shB L1 X=true then L1 else X) (Ls.drop k)=minL M Ls:=hmin2;have hcall:=Lib.hid (shorterP_any B1 B m1 m d1 d L1 X wq (by omega) (by omega) hR1 HX.out);have hR1h:=Lib.hid hR1;have hsb:=shI_shB L1 X;clear hmin2 hd hmin hR1 hL1;cases hs:shB L1 X
   ·rw[hs] at hsb hst;have hneg:¬shI L1 X<0:=of_decide_eq_false hsb;have hsth:=Lib.hid (show minL X (Ls.drop (k+1 - 1))=minL M Ls by simpa using hst);clear hsb hst hs;generalize shI L1 X=r at *;(go_wp2_with fail);refine hcall.out.mono ?_;rintro e wz ⟨rfl,hb⟩;have HBz:=Lib.hid (below_via HB.out HB.out.size hb);have HXz:=Lib.hid ((HX.out.below hb).more hb.size);clear hb hcall;go_wp2;go_roundw
    case rel=>exact⟨_,rfl,k+1,by omega,by omega,by go_num,⟨B,m,d,X,rfl,hm,HXz,hsth⟩,HBz⟩
    case measure=>simp[intOf];omega
   ·rw[hs] at hsb hst;have hneg:shI L1 X<0:=of_decide_eq_true hsb;have hsth:=Lib.hid (show minL L1 (Ls.drop (k+1 - 1))=minL M Ls by simpa using hst);clear hsb hst hs;generalize shI L1 X=r at *;(go_wp2_with fail);refine hcall.out.mono ?_;rintro e wz ⟨rfl,hb⟩;have HBz:=Lib.hid (below_via HB.out HB.out.size hb);have HRz:=Lib.hid ((hR1h.out.below hb).more hb.size);obtain⟨b',o',B2,m2,d2,L2,e,-,hc2,-,-⟩:=(HR.out _ HBz.out).at_ hlt;simp only[Option.some.injEq,Addr.mk.injEq,and_true] at e;obtain⟨rfl,rfl⟩:=e;have hcz:wz.cell? ⟨b,o+k,none⟩=some (.slice B1 m1 d1):=(hb.cell (p:=⟨b,o+k,none⟩) (World.block_lt_of_cell? _ _ hc1)).trans hc1;clear hb hcall hc2 hc1;go_wp2;go_roundw
    case rel=>exact⟨_,rfl,k+1,by omega,by omega,by go_num,⟨B1,m1,d1,L1,rfl,hm1,HRz,hsth⟩,HBz⟩
    case measure=>simp[intOf];omega
  ·obtain rfl:k=n:=(by omega);have hki:¬(k:Int)<(k:Int):=(by omega);have hX:X=minL M Ls:=by
    have:=hmin.out;rw[List.drop_of_length_le (by have:=hlh.out;omega)] at this;exact this
   have hXh:=Lib.hid hX;clear hX hmin;go_wp2;go_ret;have hrd:Reads wq wq.heap.size 1 B m (ints (minL M Ls)):=by rw[←hXh.out];exact HX.out
   first|exact⟨⟨B,m,d,rfl,hm,hrd⟩,HB.out⟩|exact⟨⟨B,m,⟨d,rfl⟩,hm,hrd⟩,HB.out⟩
set_option maxRecDepth 100000 in
theorem first_any(A:Option Addr)(n c:Nat)(M:List Int)(Ls:List (List Int))(w:World)(hn:n≤4096)(h:RdL w A n (M::Ls)) :
  Calls Tryd.prog 67 #[.slice A n c,.func (.func 68) #[] #[]] w fun e w'=>(∃B m d,e = .returned (.slice B m d)∧m≤10∧Reads w' w'.heap.size 1 B m (ints (minL M Ls)))∧Below w.heap.size w w':=by
 have H:=Lib.hid (minF_any A n c M Ls w hn h (fun args w=>rfl));clear h
 go_enter Tryd.func67,Tryd.ntmps67
 go_wp2_with fail
 refine H.out.mono ?_;rintro e w' ⟨⟨B,m,d,rfl,hm,hr⟩,hb⟩;have hrh:=Lib.hid hr;have hbh:=Lib.hid hb;clear hr hb H;go_wp2;go_ret
 first|exact⟨⟨B,m,d,rfl,hm,hrh.out⟩,hbh.out⟩|exact⟨⟨B,m,⟨d,rfl⟩,hm,hrh.out⟩,hbh.out⟩
end Go.Proofs.YtfplipbkjglmhaaDoor

namespace Go.Proofs.YtfplipbkjglmhaaDoor
open Go.RowKit
set_option linter.unusedVariables false
set_option linter.unusedSimpArgs false
/-- What proves it, by the program. -/
def prpL (ps:List PR) (ws:List WE) (k:Int):List Int:=if allE ps ws k=0 then(match proofsL (toT ps) (rowsT ps ws) k.toNat (idQ ps) ps.length with | []=>[]|m::l=>minL m l) else []
theorem make_nums(n:Nat)(hn:n≤10)(w:World):(Instr.makeSlice 46 (.int .i64 n) (.int .i64 n)).run Tryd.prog w = .ok (.slice (some ⟨w.heap.size,0,none⟩) n n) (w.alloc (.cells (madeCells #[.int .i64 0] n) 3)):=by
 obtain⟨i0,hi,hz0,hz1,hz2⟩:=info_parts info_int;have:=run_make w 46 3 i0 _ Tryd.underlying46 hi hz0 .i64 .i64 n n (by omega) (by omega) (by rw[hz2];omega) (by omega);rw[this,hz1,Nat.mul_one];rfl
/-- The argument's copy, and the kind's. -/
structure PKd (w:World) (A A':Option Addr) (n c n' c':Nat) (k:Int) (z:World):Prop where
 b0:z.heap[w.heap.size]? = some (.cells #[.slice A n c,.slice A' n' c'] 25 (0,0))
 b1:z.heap[w.heap.size+1]? = some (.cells #[.int .i64 k] 3 (0,0))
 bel:Below w.heap.size w z
section
variable {w z y:World} {A A':Option Addr} {n c n' c':Nat} {k:Int}
theorem PKd.size(h:PKd w A A' n c n' c' k z):w.heap.size+2≤z.heap.size:=(Array.getElem?_eq_some_iff.1 h.b1).1
theorem PKd.below(h:PKd w A A' n c n' c' k z)(hb:Below z.heap.size z y):PKd w A A' n c n' c' k y:=
 ⟨keepO hb h.b0,keepO hb h.b1,below_via h.bel (by have:=h.size;omega) hb⟩
theorem PKd.cells(h:PKd w A A' n c n' c' k z):z.cell? ⟨w.heap.size,0,none⟩=some (.slice A n c)∧z.cell? ⟨w.heap.size,1,none⟩=some (.slice A' n' c')∧z.cell? ⟨w.heap.size+1,0,none⟩=some (.int .i64 k):=by
 obtain⟨a,b,-,-⟩:=two_facts h.b0;exact⟨a,b,(one_factsT h.b1).1⟩
theorem PKd.start(w:World)(A A':Option Addr)(n c n' c':Nat)(k:Int):PKd w A A' n c n' c' k ((w.alloc (.cells #[.slice A n c,.slice A' n' c'] 25)).alloc (.cells #[.int .i64 k] 3)):=by
 have h1:=heap_alloc_new (w.alloc (.cells #[.slice A n c,.slice A' n' c'] 25)) (.cells #[.int .i64 k] 3);simp only[World.size_alloc] at h1;refine⟨?_,h1,((Below.refl _ _).alloc (Nat.le_refl _) _).alloc (by simp) _⟩;rw[heap_lt_alloc' _ _ _ (by simp)];exact heap_alloc_new w _
end
theorem rdl_of{W:World}{b0 bk bm bo b1 bl bp bf ga n K:Nat}{A A':Option Addr}{c n' c' mb:Nat}{most one:Int}{y:Nat→Int}{q:Option Addr}{N e:Nat}{vs:List Value}{Ls:List (List Int)}{z:World}(h:TP W b0 bk bm bo b1 bl bp bf ga n K A A' c n' c' mb most one y (.slice q N e) vs Ls z):RdL z q Ls.length Ls:=by
 have hlo:=h.lo;obtain⟨B,d,hd⟩:=ownR_val hlo;injection hd with e1 e2 e3;subst e1;subst e2;refine⟨vs,Reads.of_own hlo,rfl,fun j L hL=>?_⟩;obtain⟨B,m,d,e1,e2,e3⟩:=h.le j L hL;exact⟨B,m,d,e1,e2,Reads.of_own e3⟩
theorem below_of{a b c:World}(h:Below a.heap.size a b)(h':Below b.heap.size b c):Below a.heap.size a c:=below_via h h.size h'
theorem mem_old{w:World}{o:Obj}{b:Nat}{v:Obj}(h:w.heap[b]? = some v):(w.alloc o).heap[b]? = some v:=(heap_lt_alloc' _ _ _ (Array.getElem?_eq_some_iff.1 h).1).trans h
set_option maxHeartbeats 1000000 in
theorem tp_start{W zg:World}{b0 bk n K mb:Nat}{A A':Option Addr}{c n' c':Nat}{most one:Int}(h0:W.heap[b0]? = some (.cells #[.slice A n c,.slice A' n' c'] 25 (0,0)))(hk:W.heap[bk]? = some (.cells #[.int .i64 K] 3 (0,0)))(hb:Below (W.alloc (.cells #[.pointer (some ⟨mb,0,none⟩)] 104)).heap.size (W.alloc (.cells #[.pointer (some ⟨mb,0,none⟩)] 104)) zg) :
  TP W b0 bk W.heap.size zg.heap.size (zg.heap.size+1) (zg.heap.size+1+1) (zg.heap.size+1+1+1+1) (zg.heap.size+1+1+1+1+1) (zg.heap.size+1+1+1) n K A A' c n' c' mb most one (fun _=>0) (.slice none 0 0) [] [] ((((((((((((zg.alloc (.cells #[.int .i64 most] 3)).alloc (.cells #[.int .i64 one] 3)).alloc (.cells #[.slice none 0 0] 121)).alloc (.cells (madeCells #[.int .i64 0] n) 3)).alloc (.cells #[.slice (some ⟨zg.heap.size+1+1+1,0,none⟩) n n] 46)).alloc (.cells #[.func (.func 64) #[] #[.pointer (some ⟨zg.heap.size+1+1+1+1,0,none⟩),.pointer (some ⟨W.heap.size,0,none⟩),.pointer (some ⟨bk,0,none⟩),.pointer (some ⟨zg.heap.size,0,none⟩),.pointer (some ⟨zg.heap.size+1+1,0,none⟩),.pointer (some ⟨zg.heap.size+1+1+1+1+1,0,none⟩),.pointer (some ⟨zg.heap.size+1,0,none⟩),.pointer (some ⟨b0,0,none⟩)]] 122)))))))):=by
 have hs:=hb.size;simp only[World.size_alloc] at hs;have hWz:Below W.heap.size W zg:=((Below.refl _ _).alloc (Nat.le_refl _) _).trans (hb.mono (by simp));have e0:=(Array.getElem?_eq_some_iff.1 h0).1;have ek:=(Array.getElem?_eq_some_iff.1 hk).1;have o:∀(b:Nat) (v:Obj),W.heap[b]? = some v→zg.heap[b]? = some v:=fun b v hv=>(hWz.block b (Array.getElem?_eq_some_iff.1 hv).1).trans hv
 have hm:zg.heap[W.heap.size]? = some (.cells #[.pointer (some ⟨mb,0,none⟩)] 104 (0,0)):=(hb.block _ (by simp)).trans (heap_alloc_new W _);have n1:=heap_alloc_new zg (.cells #[.int .i64 most] 3);have n2:=heap_alloc_new (zg.alloc (.cells #[.int .i64 most] 3)) (.cells #[.int .i64 one] 3);have n3:=heap_alloc_new ((zg.alloc (.cells #[.int .i64 most] 3)).alloc (.cells #[.int .i64 one] 3)) (.cells #[.slice none 0 0] 121);have n4:=World.rowIs_made (((zg.alloc (.cells #[.int .i64 most] 3)).alloc (.cells #[.int .i64 one] 3)).alloc (.cells #[.slice none 0 0] 121)) (.int .i64 0) n 3;have n5:=heap_alloc_new ((((zg.alloc (.cells #[.int .i64 most] 3)).alloc (.cells #[.int .i64 one] 3)).alloc (.cells #[.slice none 0 0] 121)).alloc (.cells (madeCells #[.int .i64 0] n) 3)) (.cells #[.slice (some ⟨zg.heap.size+1+1+1,0,none⟩) n n] 46);have n6:=heap_alloc_new (((((zg.alloc (.cells #[.int .i64 most] 3)).alloc (.cells #[.int .i64 one] 3)).alloc (.cells #[.slice none 0 0] 121)).alloc (.cells (madeCells #[.int .i64 0] n) 3)).alloc (.cells #[.slice (some ⟨zg.heap.size+1+1+1,0,none⟩) n n] 46)) (.cells #[.func (.func 64) #[] #[.pointer (some ⟨zg.heap.size+1+1+1+1,0,none⟩),.pointer (some ⟨W.heap.size,0,none⟩),.pointer (some ⟨bk,0,none⟩),.pointer (some ⟨zg.heap.size,0,none⟩),.pointer (some ⟨zg.heap.size+1+1,0,none⟩),.pointer (some ⟨zg.heap.size+1+1+1+1+1,0,none⟩),.pointer (some ⟨zg.heap.size+1,0,none⟩),.pointer (some ⟨b0,0,none⟩)]] 122)
 simp only[World.size_alloc] at n2 n3 n4 n5 n6
 refine⟨⟨e0,ek,Nat.le_refl _,by omega,by omega,by omega,by omega,by omega,by omega⟩,?_,mem_old (mem_old (mem_old (mem_old (mem_old (mem_old (o _ _ h0)))))),mem_old (mem_old (mem_old (mem_old (mem_old (mem_old (o _ _ hk)))))),mem_old (mem_old (mem_old (mem_old (mem_old (mem_old hm))))),
  mem_old (mem_old (mem_old (mem_old (mem_old n1)))),mem_old (mem_old (mem_old (mem_old n2))),mem_old (mem_old (mem_old n3)),mem_old n5,n6,(n4.alloc _).alloc _,World.ownsRow_nil _ _ _ _,fun j L hL=>by cases hL⟩
 exact(((((hWz.alloc (by omega) _).alloc (by simp;omega) _).alloc (by simp;omega) _).alloc (by simp;omega) _).alloc (by simp;omega) _).alloc (by simp;omega) _
set_option maxRecDepth 100000 in
set_option maxHeartbeats 4000000 in
theorem pProof_any(A A':Option Addr)(n c n' c':Nat)(ps:List PR)(ws:List WE)(k:Int)(w:World)(hnm:n≤maxLen)(hR:Reads w w.heap.size 4 A n (pgs ps))(hW:Reads w w.heap.size 5 A' n' (wgs ws))(hL:Laid w) :
  Calls Tryd.prog 19 #[.agg #[.slice A n c,.slice A' n' c'],.int .i64 k] w fun e w'=>(∃A1 m c1,e = .returned (.tuple #[.slice A1 m c1,.int .i64 (allE ps ws k)])∧m≤10∧Reads w' w'.heap.size 1 A1 m (ints (prpL ps ws k)))∧Below w.heap.size w w':=by
 have hl:ps.length=n:=hR.pg_len;have HA:=Lib.hid (fun z (hz:Below w.heap.size w z)=>askedAll_any A A' n c n' c' ps ws k z hnm ((hR.below hz).more hz.size) ((hW.below hz).more hz.size) (hL.below hz hL.2.2.2));have HRd:=Lib.hid (fun z (hz:Below w.heap.size w z)=>(hR.below hz).more hz.size);have hP0:=Lib.hid (PKd.start w A A' n c n' c' k);clear hR hW hL
 go_enter Tryd.func19,Tryd.ntmps19
 go_wp2_with fail
 refine(HA.out _ hP0.out.bel).mono ?_;rintro e wq ⟨hb1,hbad,hok⟩;have HPq:=Lib.hid (hP0.out.below hb1);clear hb1 hP0;by_cases h0:allE ps ws k=0
 ·obtain⟨mb,At,Ar,Au,Ai,ct,cr,cu,ci,rfl,hM⟩:=hok h0;obtain⟨hv,hk1,hk5,ht⟩:=allE_ok h0;obtain⟨K,rfl⟩:∃K:Nat,k=K:=⟨k.toNat,by omega⟩;have hVF:=valid_facts hv;have hn:n≤10:=(by have h:=hVF.n10;omega);have hFw:=hVF.fwd;have hHo:=hasHolds hVF ht;have hSm:=hVF.smr ws.length;rw[List.take_length,hl] at hSm;have hps:=proofs_some (kind:=K) hFw (by omega) hHo (idQ ps);rw[hl] at hFw hHo hps;have hIn:∀i,i<n→In1 (rowsT ps ws i):=fun i _=>rows_In1 hVF i;have hK5:1≤K∧K≤5:=(by omega);have HG:=Lib.hid (fun z (hz:MR z mb n (toT ps) (rowsT ps ws) (upP (toT ps) (rowsT ps ws)) (intoP (toT ps) (rowsT ps ws)) At Ar Au Ai ct cr cu ci)=>greatest_any mb n (toT ps) (rowsT ps ws) _ _ At Ar Au Ai ct cr cu ci hn hFw hHo hIn K hK5 1 (.inl rfl) z hz);obtain⟨M,Ls,hML⟩:∃M Ls,proofsL (toT ps) (rowsT ps ws) K (idQ ps) n=M::Ls:=by
   cases h:proofsL (toT ps) (rowsT ps ws) K (idQ ps) n with
   |nil=>exact absurd h hps
   |cons M Ls=>exact⟨M,Ls,rfl⟩
  have hsp:Hid (prpL ps ws (K:Int)=minL M Ls):=by
   show _=_;unfold prpL;rw[if_pos h0,Int.toNat_natCast,hl,hML]
  unfold proofsL at hML;have hask:=Lib.hid h0;have HM:=Lib.hid hM;have hbm:Below wq.heap.size wq (wq.alloc (.cells #[.pointer (some ⟨mb,0,none⟩)] 104)):=(Below.refl _ _).alloc (Nat.le_refl _) _;have hMm:=Lib.hid (hM.below hbm);obtain⟨p0,p1,p2⟩:=HPq.out.cells;have c3:=hM.c3;have hml:=hM.lt;have hmk:=fun w=>make_nums n hn w;have p2a:∀o,(wq.alloc o).cell? ⟨w.heap.size+1,0,none⟩=some (.int .i64 K):=fun o=>(((Below.refl wq.heap.size wq).alloc (Nat.le_refl _) o).cell (by have:=HPq.out.size;simp only;omega)).trans p2
  have hFh:=Lib.hid hFw;have hSmh:=Lib.hid hSm;clear hFw hSm;generalize hgv:grt (toT ps) (rowsT ps ws) K 1 n=gv at *;have hgvh:=Lib.hid hgv;clear hv ht h0 hVF hHo hIn hM hok hbad HA hps hbm hgv hk1 hk5 hl;by_cases hc1:K=1
  ·have hk1b:((K:Int)==1)=true:=(by simp[hc1]);have hone:sgP K 1 = -1:=(by unfold sgP;simp[hc1]);rw[hone] at hML;have hMLh:=Lib.hid hML;clear hc1 hone hML;(go_wp2_with fail);refine(HG.out _ hMm.out).mono ?_;rintro e zg ⟨rfl,hbg⟩;have hMg:=Lib.hid (hMm.out.below hbg);have hbwz:Below wq.heap.size wq zg:=((Below.refl _ _).alloc (Nat.le_refl _) _).trans (hbg.mono (by simp));have hszg:=hbwz.size;have hTs:=Lib.hid (tp_start (W:=wq) (zg:=zg) (A:=A) (A':=A') (c:=c) (n':=n') (c':=c') (K:=K) (mb:=mb) (most:=gv) (one:=(-1)) (n:=n) (b0:=w.heap.size) (bk:=w.heap.size+1) HPq.out.b0 HPq.out.b1 hbg);have hkk:∀a b,((zg.alloc a).alloc b).cell? ⟨w.heap.size+1,0,none⟩=some (.int .i64 K):=fun a b=>((((Below.refl zg.heap.size zg).alloc (Nat.le_refl _) a).alloc (by simp) b).cell (by have:=HPq.out.size;simp only;omega)).trans ((hbwz.cell (by have:=HPq.out.size;simp only;omega)).trans p2)
   have hmm:∀a b d,(((zg.alloc a).alloc b).alloc d).cell? ⟨wq.heap.size,0,none⟩=some (.pointer (some ⟨mb,0,none⟩)):=fun a b d=>(((((Below.refl zg.heap.size zg).alloc (Nat.le_refl _) a).alloc (by simp) b).alloc (by simp;omega) d).cell (by have:=hbg.size;simp at this;simp only;omega)).trans ((hbg.cell (by simp)).trans (one_factsT (heap_alloc_new wq _)).1)
   have hcc:∀a b d,(((zg.alloc a).alloc b).alloc d).cell? ⟨mb,3,none⟩=some (.slice Ar n cr):=fun a b d=>(((((Below.refl zg.heap.size zg).alloc (Nat.le_refl _) a).alloc (by simp) b).alloc (by simp;omega) d).cell (by simp only;omega)).trans ((hbwz.cell (by simp only;omega)).trans c3)
   have hTry:=Lib.hid (fun z (hT:TP wq w.heap.size (w.heap.size+1) wq.heap.size zg.heap.size (zg.heap.size+1) (zg.heap.size+1+1) (zg.heap.size+1+1+1+1) (zg.heap.size+1+1+1+1+1) (zg.heap.size+1+1+1) n K A A' c n' c' mb gv (-1) (fun _=>0) (.slice none 0 0) [] [] z)=>try_any wq w.heap.size (w.heap.size+1) wq.heap.size zg.heap.size (zg.heap.size+1) (zg.heap.size+1+1) (zg.heap.size+1+1+1+1) (zg.heap.size+1+1+1+1+1) (zg.heap.size+1+1+1) n K A A' c n' c' mb gv (-1) At Ar Au Ai ct cr cu ci ps (toT ps) (rowsT ps ws) _ _ hn hFh.out hSmh.out (by omega) (by decide) HM.out (HRd.out _ HPq.out.bel) n 0 0 (fun _=>0) none 0 [] (.slice none 0 0) [] [] z (Nat.le_refl _) (by omega) (fun _ _=>rfl) (fun _ _=>by decide) (Nat.le_refl _) (by have:=Nat.pow_le_pow_right (n:=2) (by decide) hn;simp;omega) hT (World.ownsRow_nil _ _ _ _) (fun u hu=>by cases hu));clear hbg hbwz p2 c3 p0 p1 hMm hMg;(go_wp2_with fail);refine(hTry.out _ hTs.out).mono ?_;rintro e zt ⟨rfl,⟨vl',vsn,hT,-,-⟩,-,hszt,-⟩;have hML2:=hMLh.out;rw[List.nil_append,List.nil_append,hML2] at hT;have hTh:=Lib.hid hT;obtain⟨Av,cv,rfl⟩:=ownR_val hT.lo;have hRL:RdL zt Av (Ls.length+1) (M::Ls):=rdl_of hT;obtain⟨l0,-⟩:=one_factsT hT.cl;have hlen:=Lib.hid (show Ls.length+1≤4096 by
    have h1:=trS_len (T:=toT ps) (R:=rowsT ps ws) (K:=K) (price:=(-1)) (most:=gv) (ids:=idQ ps) (n:=n) n (fun _=>0) [];have h2:=Nat.pow_le_pow_right (n:=2) (by decide) hn;rw[hML2] at h1;simp at h1
    omega)
   have hFi:=Lib.hid (first_any Av (Ls.length+1) cv M Ls zt hlen.out hRL);have hBt:=Lib.hid (below_of HPq.out.bel hT.bel);clear hT hML2 hRL hTs hTry hkk hmm hcc hmk;(go_wp2_with fail);refine hFi.out.mono ?_;rintro e zf ⟨⟨B,m,d,rfl,hm,hr⟩,hb⟩;have hrh:=Lib.hid hr;have hBf:=Lib.hid (below_via hBt.out hBt.out.size hb);clear hr hb hFi l0;go_wp2;refine bodyPost_ret (v:=.tuple #[.slice B m d,.int .i64 0]) (by simp[results,Tryd.results19,go_sem]) rfl ?_;exact⟨⟨B,m,d,by rw[hask.out],hm,by rw[hsp.out];exact hrh.out⟩,hBf.out⟩
  ·have hk1b:((K:Int)==1)=false:=(by simp;omega);have hone:sgP K 1=1:=(by unfold sgP;simp[hc1]);rw[hone] at hML;have hMLh:=Lib.hid hML;clear hc1 hone hML;(go_wp2_with fail);refine(HG.out _ hMm.out).mono ?_;rintro e zg ⟨rfl,hbg⟩;have hMg:=Lib.hid (hMm.out.below hbg);have hbwz:Below wq.heap.size wq zg:=((Below.refl _ _).alloc (Nat.le_refl _) _).trans (hbg.mono (by simp));have hszg:=hbwz.size;have hTs:=Lib.hid (tp_start (W:=wq) (zg:=zg) (A:=A) (A':=A') (c:=c) (n':=n') (c':=c') (K:=K) (mb:=mb) (most:=gv) (one:=1) (n:=n) (b0:=w.heap.size) (bk:=w.heap.size+1) HPq.out.b0 HPq.out.b1 hbg);have hkk:∀a b,((zg.alloc a).alloc b).cell? ⟨w.heap.size+1,0,none⟩=some (.int .i64 K):=fun a b=>((((Below.refl zg.heap.size zg).alloc (Nat.le_refl _) a).alloc (by simp) b).cell (by have:=HPq.out.size;simp only;omega)).trans ((hbwz.cell (by have:=HPq.out.size;simp only;omega)).trans p2)
   have hmm:∀a b d,(((zg.alloc a).alloc b).alloc d).cell? ⟨wq.heap.size,0,none⟩=some (.pointer (some ⟨mb,0,none⟩)):=fun a b d=>(((((Below.refl zg.heap.size zg).alloc (Nat.le_refl _) a).alloc (by simp) b).alloc (by simp;omega) d).cell (by have:=hbg.size;simp at this;simp only;omega)).trans ((hbg.cell (by simp)).trans (one_factsT (heap_alloc_new wq _)).1)
   have hcc:∀a b d,(((zg.alloc a).alloc b).alloc d).cell? ⟨mb,3,none⟩=some (.slice Ar n cr):=fun a b d=>(((((Below.refl zg.heap.size zg).alloc (Nat.le_refl _) a).alloc (by simp) b).alloc (by simp;omega) d).cell (by simp only;omega)).trans ((hbwz.cell (by simp only;omega)).trans c3)
   have hTry:=Lib.hid (fun z (hT:TP wq w.heap.size (w.heap.size+1) wq.heap.size zg.heap.size (zg.heap.size+1) (zg.heap.size+1+1) (zg.heap.size+1+1+1+1) (zg.heap.size+1+1+1+1+1) (zg.heap.size+1+1+1) n K A A' c n' c' mb gv 1 (fun _=>0) (.slice none 0 0) [] [] z)=>try_any wq w.heap.size (w.heap.size+1) wq.heap.size zg.heap.size (zg.heap.size+1) (zg.heap.size+1+1) (zg.heap.size+1+1+1+1) (zg.heap.size+1+1+1+1+1) (zg.heap.size+1+1+1) n K A A' c n' c' mb gv 1 At Ar Au Ai ct cr cu ci ps (toT ps) (rowsT ps ws) _ _ hn hFh.out hSmh.out (by omega) (by decide) HM.out (HRd.out _ HPq.out.bel) n 0 0 (fun _=>0) none 0 [] (.slice none 0 0) [] [] z (Nat.le_refl _) (by omega) (fun _ _=>rfl) (fun _ _=>by decide) (Nat.le_refl _) (by have:=Nat.pow_le_pow_right (n:=2) (by decide) hn;simp;omega) hT (World.ownsRow_nil _ _ _ _) (fun u hu=>by cases hu));clear hbg hbwz p2 c3 p0 p1 hMm hMg;(go_wp2_with fail);refine(hTry.out _ hTs.out).mono ?_;rintro e zt ⟨rfl,⟨vl',vsn,hT,-,-⟩,-,hszt,-⟩;have hML2:=hMLh.out;rw[List.nil_append,List.nil_append,hML2] at hT;have hTh:=Lib.hid hT;obtain⟨Av,cv,rfl⟩:=ownR_val hT.lo;have hRL:RdL zt Av (Ls.length+1) (M::Ls):=rdl_of hT;obtain⟨l0,-⟩:=one_factsT hT.cl;have hlen:=Lib.hid (show Ls.length+1≤4096 by
    have h1:=trS_len (T:=toT ps) (R:=rowsT ps ws) (K:=K) (price:=1) (most:=gv) (ids:=idQ ps) (n:=n) n (fun _=>0) [];have h2:=Nat.pow_le_pow_right (n:=2) (by decide) hn;rw[hML2] at h1;simp at h1
    omega)
   have hFi:=Lib.hid (first_any Av (Ls.length+1) cv M Ls zt hlen.out hRL);have hBt:=Lib.hid (below_of HPq.out.bel hT.bel);clear hT hML2 hRL hTs hTry hkk hmm hcc hmk;(go_wp2_with fail);refine hFi.out.mono ?_;rintro e zf ⟨⟨B,m,d,rfl,hm,hr⟩,hb⟩;have hrh:=Lib.hid hr;have hBf:=Lib.hid (below_via hBt.out hBt.out.size hb);clear hr hb hFi l0;go_wp2;refine bodyPost_ret (v:=.tuple #[.slice B m d,.int .i64 0]) (by simp[results,Tryd.results19,go_sem]) rfl ?_;exact⟨⟨B,m,d,by rw[hask.out],hm,by rw[hsp.out];exact hrh.out⟩,hBf.out⟩
 ·obtain rfl:=hbad h0;have hS:Hid (prpL ps ws k = []):=(by show _=_;unfold prpL;rw[if_neg h0]);obtain⟨er,her⟩:∃er,er=allE ps ws k:=⟨_,rfl⟩;rw[←her] at h0 ⊢;have h0b:(er==0)=false:=(by simpa using h0);have h0n:(er != 0)=true:=(by simpa using h0);have herh:=Lib.hid her;have hBx:Hid (Below w.heap.size w (wq.alloc (.cells #[.pointer none] 104))):=Lib.hid (HPq.out.bel.alloc HPq.out.bel.size _);clear her hl hok hbad HA;go_wp2;refine bodyPost_ret (v:=.tuple #[.slice none 0 0,.int .i64 er]) (by simp[results,Tryd.results19,go_sem]) rfl ?_
  have hfin:(∃A1 m c1,Ending.returned (.tuple #[.slice none 0 0,.int .i64 er]) = .returned (.tuple #[.slice A1 m c1,.int .i64 (allE ps ws k)])∧m≤10∧Reads (wq.alloc (.cells #[.pointer none] 104)) (wq.alloc (.cells #[.pointer none] 104)).heap.size 1 A1 m (ints (prpL ps ws k)))∧Below w.heap.size w (wq.alloc (.cells #[.pointer none] 104)):=
   ⟨⟨none,0,0,by rw[herh.out],by omega,by rw[hS.out];exact Reads.none_⟩,hBx.out⟩
  first|exact hfin|simpa using hfin
end Go.Proofs.YtfplipbkjglmhaaDoor
