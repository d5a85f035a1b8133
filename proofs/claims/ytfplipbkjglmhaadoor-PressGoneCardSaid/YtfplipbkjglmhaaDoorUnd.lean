/-
 The walk of whose parings come to a pressing: the program's.
-/
import Derived.Test.YtfplipbkjglmhaaDoorTk
import Derived.Test.YtfplipbkjglmhaaDoorRAsk
import Derived.Test.YtfplipbkjglmhaaDoorKit
import Derived.Maps.OwnSet
import Derived.Maps.OwnOps
import Derived.Maps.Views
import Derived.Test.YtfplipbkjglmhaaDoorStart
namespace Go.Proofs.YtfplipbkjglmhaaDoor
open Go.RowKit
set_option linter.unusedVariables false
set_option linter.unusedSimpArgs false
/-- Whether parings get from place i to place k. -/
def ldF (t:Nat→Option Nat) (k:Nat):Nat→Nat→Bool
 |0,_=>false
 |f+1,i=>match t i with
  |none=>false
  |some j=>decide (j=k) || ldF t k f j
def ldN (n:Nat) (t:Nat→Option Nat) (k i:Nat):Bool:=ldF t k (n - i) i
section
variable {n:Nat} {t:Nat→Option Nat} {k:Nat}
theorem ldF_more(hF:Fwd n t):∀f f' i,i<n→n - i≤f→n - i≤f'→ldF t k f i=ldF t k f' i
 |0,_,i,h,h1,_=>by omega
 |_,0,i,h,_,h2=>by omega
 |f+1,f'+1,i,h,h1,h2=>by
  simp only[ldF];cases ht:t i with
  |none=>rfl
  |some j=>
   obtain⟨a,b⟩:=hF i j h ht;simp only;rw[ldF_more hF f f' j b (by omega) (by omega)]
theorem ldN_none{i:Nat}(hi:i<n)(ht:t i=none):ldN n t k i=false:=by
 unfold ldN;obtain⟨f,hf⟩:∃f,n - i=f+1:=⟨n - i - 1,by omega⟩;rw[hf];simp only[ldF,ht]
theorem ldN_some(hF:Fwd n t){i j:Nat}(hi:i<n)(ht:t i=some j):ldN n t k i=(decide (j=k) || ldN n t k j):=by
 obtain⟨a,b⟩:=hF i j hi ht;unfold ldN;obtain⟨f,hf⟩:∃f,n - i=f+1:=⟨n - i - 1,by omega⟩;rw[hf];simp only[ldF,ht];rw[ldF_more hF f (n - j) j b (by omega) (by omega)]
theorem ldN_past(hF:Fwd n t):∀d i,n - i≤d→i<n→k≤i→ldN n t k i=false
 |0,i,h,hi,_=>by omega
 |d+1,i,h,hi,hk=>by
  cases ht:t i with
  |none=>exact ldN_none hi ht
  |some j=>
   obtain⟨a,b⟩:=hF i j hi ht;rw[ldN_some hF hi ht,ldN_past hF d j (by omega) b (by omega)];simp;omega
end
def idAt (ps:List PR) (i:Nat):Int:=match ps[i]? with|some x=>x.1|none=>0
/-- The numbers of those ahead of place m whose parings get to place k. -/
def undL (ps:List PR) (k m:Nat):List Int:=((List.range m).filter fun i=>ldN ps.length (toT ps) k i).map (idAt ps)
theorem undL_yes(ps:List PR){k m:Nat}(h:ldN ps.length (toT ps) k m=true):undL ps k (m+1)=undL ps k m ++ [idAt ps m]:=by
 unfold undL;simp[List.range_succ,List.filter_append,h]
theorem undL_no(ps:List PR){k m:Nat}(h:ldN ps.length (toT ps) k m=false):undL ps k (m+1)=undL ps k m:=by
 unfold undL;simp[List.range_succ,List.filter_append,h]
theorem undL_past{ps:List PR}{ws:List WE}(h:ValidF ps ws){k:Nat}:∀d,k+d≤ps.length→undL ps k (k+d)=undL ps k k
 |0,_=>rfl
 |d+1,hd=>by
  rw[←undL_past h d (by omega)];exact undL_no ps (ldN_past h.fwd ps.length (k+d) (by omega) (by omega) (by omega))
def undE (ps:List PR) (ws:List WE) (id:Int):Int:=if validP ps ws then if idxP ps id<0 then 6 else 0 else 20
def undS (ps:List PR) (ws:List WE) (id:Int):List Int:=if validP ps ws then if idxP ps id<0 then [] else undL ps (idxP ps id).toNat ps.length else []
/-- A list of numbers of the call's own, and an error, are returned. -/
def UndR (base:Nat) (l:List Int) (er:Int) (e:Ending) (w':World):Prop:=∃A m c,e = .returned (.tuple #[.slice A m c,.int .i64 er])∧w'.ownsRow base 3 1 (.slice A m c) m (ints l)
end Go.Proofs.YtfplipbkjglmhaaDoor

namespace Go.Proofs.YtfplipbkjglmhaaDoor
open Go.RowKit Go.Maps
theorem lawJ:Keyed Tryd.prog 3:=int_keyed Tryd.underlying3
theorem zeroB(w:World):(zeroValue 4).run Tryd.prog w = .ok (.bool false) w:=by kernel_rfl
theorem bool_elem{P:Program}{e:TypeId}{v:Value}{x:Bool}{ps:List MemPlace}(he:P.underlying e=some .bool)(hv:plainElem (H:=Unit) P e v=some (.lit (.bool x),ps)):v = .bool x:=by
 unfold plainElem at hv;rw[he] at hv;cases v<;>simp_all
/-- Block b of w is a map of at most n numbers to bools, in which each number reads as S says. -/
def OwnsSet (w:World) (b n:Nat) (S:Int→Bool):Prop:=
 ∃D:DataW Unit,w.ownsMap Tryd.prog 3 (plainElem Tryd.prog 4) b n D∧IsMap D∧∀k:Int,D.atKey (.int .i64 k) (.lit (.bool false)) = .lit (.bool (S k))
theorem OwnsSet.made(w:World):OwnsSet (w.alloc (.map #[] 0)) w.heap.size 0 (fun _=>false):=
 ⟨.map [],World.ownsMap_made _ _ _ _,⟨[],rfl⟩,fun _=>rfl⟩
theorem OwnsSet.mono{w:World}{b n m:Nat}{S:Int→Bool}(h:OwnsSet w b n S)(hn:n≤m):OwnsSet w b m S:=by
 obtain⟨D,h1,h2⟩:=h;exact⟨D,h1.mono hn,h2⟩
theorem OwnsSet.lt{w:World}{b n:Nat}{S:Int→Bool}(h:OwnsSet w b n S):b<w.heap.size:=by
 obtain⟨D,h1,h2⟩:=h;exact h1.lt
theorem OwnsSet.below{w w':World}{b n B:Nat}{S:Int→Bool}(h:OwnsSet w b n S)(hb:Below B w w')(hB:b<B):OwnsSet w' b n S:=by
 obtain⟨D,⟨es,clock,h1,h2⟩,h3⟩:=h;exact⟨D,⟨es,clock,(hb.block b hB).trans h1,h2⟩,h3⟩
theorem OwnsSet.alloc{w:World}{b n:Nat}{S:Int→Bool}(h:OwnsSet w b n S)(o:Obj):OwnsSet (w.alloc o) b n S:=by
 obtain⟨D,h1,h2⟩:=h;exact⟨D,h1.alloc o,h2⟩
theorem OwnsSet.drewN{w:World}{b n:Nat}{S:Int→Bool}(h:OwnsSet w b n S)(k:Nat):OwnsSet (w.drewN k) b n S:=h
theorem OwnsSet.cell{w:World}{b n:Nat}{S:Int→Bool}(h:OwnsSet w b n S){a:Addr}(ha:b≠a.block)(u:Value):OwnsSet (w.setCell a u) b n S:=by
 obtain⟨D,h1,h2⟩:=h;exact⟨D,h1.setCell ha u,h2⟩
theorem OwnsSet.ext{w:World}{b n:Nat}{S T:Int→Bool}(h:OwnsSet w b n S)(e:∀k,S k=T k):OwnsSet w b n T:=by
 obtain⟨D,h1,h2,h3⟩:=h;exact⟨D,h1,h2,fun k=>by rw[h3,e]⟩
section
variable {w:World} {ops:Array Oper} {rest:List Oper} {o:Oper} {a:Act} {Q:Exit→Act→World→Prop}
theorem look_set(hg:o.guard=none)(m x:Operand)(hop:o.op=Op.lookup 138 m x false)(b n:Nat)(S:Int→Bool)(k:Int)
  (hm:a.eval m = .map (some b)) (hown:OwnsSet w b n S) (hx:a.eval x = .int .i64 k) (hk:(Lit.int .i64 k).wf=true)
  (hK:wpList Tryd.prog ops Q rest (a.put o.dst (.bool (S k))) w):wpList Tryd.prog ops Q (o::rest) a w:=by
 obtain⟨D,h1,_,h3⟩:=hown;refine wpList_plain hg fun K' hK'=>?_;obtain⟨v,ps,hrun,hv⟩:=h1.lookup lawJ Tryd.underlying138 (zeroB w) (plainElem_bool Tryd.underlying4 false) (keyOf_int_mk Tryd.underlying3 hk);rw[h3 k] at hv;have hvv:=bool_elem Tryd.underlying4 hv;subst hvv;unfold Oper.wp;simp[execOp,hop,hm,hx,hrun,Result.andThen];exact hK' _ _ hK
theorem look_setv(hg:o.guard=none)(m x:Operand)(hop:o.op=Op.lookup 138 m x false)(b n:Nat)(S:Int→Bool)(k:Int)(v:Bool)(hv:S k=v)
  (hm:a.eval m = .map (some b)) (hown:OwnsSet w b n S) (hx:a.eval x = .int .i64 k) (hk:(Lit.int .i64 k).wf=true)
  (hK:wpList Tryd.prog ops Q rest (a.put o.dst (.bool v)) w):wpList Tryd.prog ops Q (o::rest) a w:=by
 subst hv;exact look_set hg m x hop b n S k hm hown hx hk hK
theorem put_set(hg:o.guard=none)(m x v:Operand)(hop:o.op=Op.mapUpdate 138 m x v)(b n:Nat)(S:Int→Bool)(k:Int)
  (hm:a.eval m = .map (some b)) (hown:OwnsSet w b n S) (hn:n<maxLen) (hx:a.eval x = .int .i64 k) (hk:(Lit.int .i64 k).wf=true) (hv:a.eval v = .bool true)
  (hK:∀w',OwnsSet w' b (n+1) (fun j=>decide (j=k) || S j)→w.grownBy w' (some b)→wpList Tryd.prog ops Q rest (a.put o.dst undef) w'):wpList Tryd.prog ops Q (o::rest) a w:=by
 obtain⟨D,h1,h2,h3⟩:=hown;refine wpList_mapUpdate_own w hg m x v 138 hop 3 4 lawJ Tryd.underlying138 _ b n D hm h1 hn _ _ _ hx hv (keyOf_int_mk Tryd.underlying3 hk) (.lit (.bool true)) [] (plainElem_bool Tryd.underlying4 true) ?_;intro w' g1 g2;refine hK w' ⟨_,g1,?_,fun j=>?_⟩ g2
 ·obtain⟨es,rfl⟩:=h2;exact⟨_,rfl⟩
 ·by_cases hj:j=k
  ·subst hj;rw[atKey_put_same h2 (k:=.int .i64 j) (by simp[WideAt.IsKeyLit])];simp
  ·rw[atKey_put_other (by simpa using hj),h3];simp[hj]
theorem put_ins(hg:o.guard=none)(m x v:Operand)(hop:o.op=Op.insert 138 m x v)(b n:Nat)(S:Int→Bool)(k:Int)
  (hm:a.eval m = .map (some b)) (hown:OwnsSet w b n S) (hn:n<maxLen) (hx:a.eval x = .int .i64 k) (hk:(Lit.int .i64 k).wf=true) (hv:a.eval v = .bool true)
  (hK:∀w',OwnsSet w' b (n+1) (fun j=>decide (j=k) || S j)→w.grownBy w' (some b)→wpList Tryd.prog ops Q rest (a.put o.dst undef) w'):wpList Tryd.prog ops Q (o::rest) a w:=by
 obtain⟨D,h1,h2,h3⟩:=hown;refine wpList_plain hg fun K' hK'=>?_;obtain⟨w',hrun,g1,g2⟩:=h1.update lawJ Tryd.underlying138 hn (key:=.int .i64 k) (val:=.bool true) (keyOf_int_mk Tryd.underlying3 hk) (plainElem_bool Tryd.underlying4 true);unfold Oper.wp;simp[execOp,hop,hm,hx,hv,hrun,Result.andThen];refine hK' _ _ ?_;refine hK w' ⟨_,g1,?_,fun j=>?_⟩ g2
 ·obtain⟨es,rfl⟩:=h2;exact⟨_,rfl⟩
 ·by_cases hj:j=k
  ·subst hj;rw[atKey_put_same h2 (k:=.int .i64 j) (by simp[WideAt.IsKeyLit])];simp
  ·rw[atKey_put_other (by simpa using hj),h3];simp[hj]
theorem del_set(hg:o.guard=none)(m x:Operand)(hop:o.op=Op.call { callee:=Callee.builtin Builtin.delete,args:=#[m,x],argTypes:=#[138,3] })(b n:Nat)(S:Int→Bool)(k:Int)
  (hm:a.eval m = .map (some b)) (hown:OwnsSet w b n S) (hx:a.eval x = .int .i64 k) (hk:(Lit.int .i64 k).wf=true)
  (hK:∀w',OwnsSet w' b n (fun j=>!decide (j=k) && S j)→w.grownBy w' (some b)→wpList Tryd.prog ops Q rest (a.put o.dst (.tuple #[])) w'):wpList Tryd.prog ops Q (o::rest) a w:=by
 obtain⟨D,h1,h2,h3⟩:=hown;refine wpList_delete_own w hg m x 138 3 hop 4 lawJ Tryd.underlying138 _ b n D hm h1 _ _ hx (keyOf_int_mk Tryd.underlying3 hk) ?_;intro w' g1 g2;refine hK w' ⟨_,g1,?_,fun j=>?_⟩ g2.grown
 ·obtain⟨es,rfl⟩:=h2;exact⟨_,rfl⟩
 ·by_cases hj:j=k
  ·subst hj;rw[atKey_del_same];simp
  ·rw[atKey_del_other (by simpa using hj),h3];simp[hj]
end
end Go.Proofs.YtfplipbkjglmhaaDoor

namespace Go.Proofs.YtfplipbkjglmhaaDoor
open Go.RowKit Go.Maps
set_option linter.unusedVariables false
set_option linter.unusedSimpArgs false
theorem OwnsSet.of_block{w w':World}{b n:Nat}{S:Int→Bool}(h:OwnsSet w b n S)(hb:w'.heap[b]? = w.heap[b]?):OwnsSet w' b n S:=by
 obtain⟨D,⟨es,clock,h1,h2⟩,h3⟩:=h;exact⟨D,⟨es,clock,hb.trans h1,h2⟩,h3⟩
theorem OwnsSet.row_ne{w:World}{b n m base size:Nat}{S:Int→Bool}{e:TypeId}{v:Value}{xs:List Value}(h:OwnsSet w b n S)(ho:w.ownsRow base e size v m xs):v.ownBlock≠some b:=by
 intro e0;obtain⟨D,⟨es,clock,h1,h2⟩,h3⟩:=h;rcases ho.2 with ⟨h0,-⟩|⟨g1,cap1,cur1,h4,-,h5,-⟩
 ·rw[h0] at e0;cases e0
 ·rw[h4] at e0;simp only[Value.ownBlock,Option.some.injEq] at e0;subst e0;rw[h5] at h1;cases h1
def SU (n:Nat) (t:Nat→Option Nat) (at_ i1:Nat):Int→Bool:=fun j=>decide (j=(at_:Int)) || (decide ((i1:Int)≤j) && decide (j<(at_:Int)) && ldN n t at_ j.toNat)
section
variable {n at_ k:Nat} {t:Nat→Option Nat}
theorem SU_yes(hk:k<at_)(h:ldN n t at_ k=true)(j:Int):(decide (j=(k:Int)) || SU n t at_ (k+1) j)=SU n t at_ k j:=by
 unfold SU;rw[Bool.eq_iff_iff];simp only[Bool.or_eq_true,Bool.and_eq_true,decide_eq_true_iff];constructor
 ·rintro (rfl|h1|⟨⟨h1,h2⟩,h3⟩)
  ·exact Or.inr ⟨⟨by omega,by omega⟩,by simpa using h⟩
  ·exact Or.inl h1
  ·exact Or.inr ⟨⟨by omega,h2⟩,h3⟩
 ·rintro (h1|⟨⟨h1,h2⟩,h3⟩)
  ·exact Or.inr (Or.inl h1)
  ·by_cases e:j=(k:Int)
   ·exact Or.inl e
   ·exact Or.inr (Or.inr ⟨⟨by omega,h2⟩,h3⟩)
theorem SU_no(hk:k<at_)(h:ldN n t at_ k=false)(j:Int):SU n t at_ (k+1) j=SU n t at_ k j:=by
 unfold SU;rw[Bool.eq_iff_iff];simp only[Bool.or_eq_true,Bool.and_eq_true,decide_eq_true_iff];constructor
 ·rintro (h1|⟨⟨h1,h2⟩,h3⟩)
  ·exact Or.inl h1
  ·exact Or.inr ⟨⟨by omega,h2⟩,h3⟩
 ·rintro (h1|⟨⟨h1,h2⟩,h3⟩)
  ·exact Or.inl h1
  ·by_cases e:j=(k:Int)
   ·subst e;simp[h] at h3
   ·exact Or.inr ⟨⟨by omega,h2⟩,h3⟩
theorem SU_at(hF:Fwd n t)(hat:at_<n)(hk:k<at_):SU n t at_ (k+1) (toV t k)=ldN n t at_ k:=by
 unfold SU;cases ht:t k with
 |none=>
  rw[ldN_none (by omega) ht];have:toV t k = -1:=(by unfold toV;rw[ht]);rw[this];simp;omega
 |some j=>
  obtain⟨a,b⟩:=hF k j (by omega) ht;rw[ldN_some hF (by omega) ht];have:toV t k=(j:Int):=(by unfold toV;rw[ht]);rw[this,Bool.eq_iff_iff];simp only[Bool.or_eq_true,Bool.and_eq_true,decide_eq_true_iff,Int.toNat_natCast];constructor
  ·rintro (h1|⟨-,h3⟩)
   ·exact Or.inl (by omega)
   ·exact Or.inr h3
  ·rintro (h1|h3)
   ·exact Or.inl (by omega)
   ·refine Or.inr ⟨⟨by omega,?_⟩,h3⟩;by_cases e:j<at_
    ·omega
    ·rw[ldN_past hF n j (by omega) b (by omega)] at h3;cases h3
end
theorem toV_in{n:Nat}{t:Nat→Option Nat}(hF:Fwd n t){k:Nat}(hk:k<n):-1≤toV t k∧toV t k<(n:Int):=by
 unfold toV;cases ht:t k with
 |none=>simp only;omega
 |some j=>have:=hF k j hk ht;simp only;omega
/-- The state while it is marked whose parings come. -/
structure UN (w:World) (A A':Option Addr) (n c n' c':Nat) (t:Nat→Option Nat) (mb mp:Nat) (At:Option Addr) (ct:Nat) (x0 x1 x3 x4 x5:Value) (m:Nat) (S:Int→Bool) (z:World):Prop where
 b0:z.heap[w.heap.size]? = some (.cells #[.slice A n c,.slice A' n' c'] 25 (0,0))
 m_:z.heap[mb]? = some (.cells #[x0,x1,.slice At n ct,x3,x4,x5] 111 (0,0))
 to_:z.ownsRow (mb+1) 3 1 (.slice At n ct) n (ints (tos t n))
 st:OwnsSet z mp m S
 bel:Below w.heap.size w z
 l1:w.heap.size<mb
 l2:mb<mp
section
variable {w z y:World} {A A':Option Addr} {n c n' c':Nat} {t:Nat→Option Nat} {mb mp:Nat} {At:Option Addr} {ct:Nat} {x0 x1 x3 x4 x5:Value} {m m':Nat} {S S':Int→Bool}
theorem UN.put(h:UN w A A' n c n' c' t mb mp At ct x0 x1 x3 x4 x5 m S z)(hs:OwnsSet y mp m' S')(hg:z.grownBy y (some mp)):UN w A A' n c n' c' t mb mp At ct x0 x1 x3 x4 x5 m' S' y:=by
 have h1:=h.l1;have h2:=h.l2
 exact⟨(hg.block _ (Array.getElem?_eq_some_iff.1 h.b0).1 (by simp;omega)).trans h.b0,(hg.block _ (Array.getElem?_eq_some_iff.1 h.m_).1 (by simp;omega)).trans h.m_,h.to_.kept hg (Or.inr (h.st.row_ne h.to_)),hs,
  h.bel.grown hg h.bel.size (fun q hq=>by cases hq;omega),h.l1,h.l2⟩
theorem UN.grow{row:Option Nat}(h:UN w A A' n c n' c' t mb mp At ct x0 x1 x3 x4 x5 m S z)(hg:z.grownBy y row)(hr:∀k,row=some k→mp<k)(ht:Value.ownBlock (.slice At n ct)=none∨Value.ownBlock (.slice At n ct)≠row):UN w A A' n c n' c' t mb mp At ct x0 x1 x3 x4 x5 m S y:=by
 have h1:=h.l1;have h2:=h.l2
 exact⟨(hg.block _ (Array.getElem?_eq_some_iff.1 h.b0).1 (fun e=>by have:=hr _ e.symm;omega)).trans h.b0,(hg.block _ (Array.getElem?_eq_some_iff.1 h.m_).1 (fun e=>by have:=hr _ e.symm;omega)).trans h.m_,h.to_.kept hg ht,
  h.st.of_block (hg.block _ h.st.lt (fun e=>by have:=hr _ e.symm;omega)),h.bel.grown hg h.bel.size (fun q hq=>by have:=hr _ hq;omega),h.l1,h.l2⟩
theorem UN.alloc(h:UN w A A' n c n' c' t mb mp At ct x0 x1 x3 x4 x5 m S z)(o:Obj):UN w A A' n c n' c' t mb mp At ct x0 x1 x3 x4 x5 m S (z.alloc o):=by
 have hb:=(Below.refl z.heap.size z).alloc (Nat.le_refl _) o;exact⟨keepO hb h.b0,keepO hb h.m_,h.to_.alloc o,h.st.alloc o,below_via h.bel h.bel.size hb,h.l1,h.l2⟩
theorem UN.ext(h:UN w A A' n c n' c' t mb mp At ct x0 x1 x3 x4 x5 m S z)(e:∀k,S k=S' k):UN w A A' n c n' c' t mb mp At ct x0 x1 x3 x4 x5 m S' z:=⟨h.b0,h.m_,h.to_,h.st.ext e,h.bel,h.l1,h.l2⟩
theorem UN.mono(h:UN w A A' n c n' c' t mb mp At ct x0 x1 x3 x4 x5 m S z)(e:m≤m'):UN w A A' n c n' c' t mb mp At ct x0 x1 x3 x4 x5 m' S z:=⟨h.b0,h.m_,h.to_,h.st.mono e,h.bel,h.l1,h.l2⟩
theorem UN.cells(h:UN w A A' n c n' c' t mb mp At ct x0 x1 x3 x4 x5 m S z):z.cell? ⟨w.heap.size,0,none⟩=some (.slice A n c)∧z.cell? ⟨mb,2,none⟩=some (.slice At n ct):=by
 obtain⟨a,b,-,-⟩:=two_facts h.b0;exact⟨a,by simp[World.cell?,h.m_]⟩
end
set_option maxRecDepth 100000 in
set_option maxHeartbeats 4000000 in
theorem pUnder_any(A A':Option Addr)(n c n' c':Nat)(ps:List PR)(ws:List WE)(id:Int)(w:World)(hnm:n≤maxLen)(hR:Reads w w.heap.size 4 A n (pgs ps))(hW:Reads w w.heap.size 5 A' n' (wgs ws))(hL:Laid w) :
  Calls Tryd.prog 32 #[.agg #[.slice A n c,.slice A' n' c'],.int .i64 id] w fun e w'=>UndR w.heap.size (undS ps ws id) (undE ps ws id) e w'∧Below w.heap.size w w':=by
 have hl:ps.length=n:=hR.pg_len;have HRd:=Lib.hid (fun z (hz:Below w.heap.size w z)=>(hR.below hz).more hz.size);have HP0:=Lib.hid (PX.start (c:=c) (c':=c') hR hW hL);have HCk:=Lib.hid (fun z (hz:PX w A A' n c n' c' ps ws z)=>Check_any A A' n c n' c' ps ws z hz.rp hz.rw_ hz.laid);have HIx:=Lib.hid (fun z (hz:PX w A A' n c n' c' ps ws z)=>index_any A A' n c n' c' ps id z hnm hz.rp);have HSt:=Lib.hid (fun z (hz:PX w A A' n c n' c' ps ws z) hv=>started_any A A' n c n' c' ps ws z hz.rp hz.rw_ hv);have hmm:=@run_makeMap Tryd.prog;obtain⟨i0,hi,hz0,hz1,hz2⟩:=info_parts info_int;clear hR hW hL
 go_enter Tryd.func32,Tryd.ntmps32
 go_wp2_with fail
 refine(HCk.out _ HP0.out).mono ?_;rintro e z1 ⟨rfl,hb1⟩;have HP1:=Lib.hid (HP0.out.below hb1);clear hb1;cases hv:validP ps ws
 ·have hs:Hid (undS ps ws id = []∧undE ps ws id=20):=(by show _∧_;unfold undS undE;rw[hv];exact⟨rfl,rfl⟩);rw[show checkS ps ws=20 by unfold checkS;rw[hv];rfl];clear hv hl;go_wp2;exact bodyPost_ret (v:=.tuple #[.slice none 0 0,.int .i64 20]) (by simp[results,Tryd.results32,go_sem]) rfl ⟨⟨none,0,0,by rw[hs.out.2],by rw[hs.out.1];exact World.ownsRow_nil _ _ _ _⟩,HP1.out.bel⟩
 ·rw[show checkS ps ws=0 by unfold checkS;rw[hv];rfl];have hVF:=valid_facts hv;have hn:n≤10:=(by have:=hVF.n10;omega);have hFw:=hVF.fwd;rw[hl] at hFw;have hvh:=Lib.hid hv;have hFh:=Lib.hid hFw;have hVh:=Lib.hid hVF;obtain⟨p0,p1⟩:=HP1.out.cells;clear hFw hVF;(go_wp2_with fail);refine(HIx.out _ HP1.out).mono ?_;rintro e zq ⟨rfl,hb2⟩;have HP2:=Lib.hid (HP1.out.below hb2);clear hb2 p0 p1;have hj1:=(idxP_bound ps id).2;by_cases hj:idxP ps id<0
  ·have hs:Hid (undS ps ws id = []∧undE ps ws id=6):=(by show _∧_;unfold undS undE;rw[hv,if_pos rfl,if_pos rfl,if_pos hj,if_pos hj];exact⟨rfl,rfl⟩);generalize idxP ps id=jx at *;clear hv hl hj1;go_wp2;exact bodyPost_ret (v:=.tuple #[.slice none 0 0,.int .i64 6]) (by simp[results,Tryd.results32,go_sem]) rfl ⟨⟨none,0,0,by rw[hs.out.2],by rw[hs.out.1];exact World.ownsRow_nil _ _ _ _⟩,HP2.out.bel⟩
  ·obtain⟨at_,hat⟩:∃at_:Nat,idxP ps id=at_:=⟨(idxP ps id).toNat,by omega⟩;have hatn:at_<n:=(by omega);have hs:Hid (undS ps ws id=undL ps at_ at_∧undE ps ws id=0):=by
    show _∧_;unfold undS undE;rw[hv,if_pos rfl,if_pos rfl,if_neg hj,if_neg hj,hat];refine⟨?_,rfl⟩;have:=undL_past hVh.out (k:=at_) (ps.length - at_) (by omega);rw[show at_+(ps.length - at_)=ps.length by omega] at this;simpa using this
   have hlh:=Lib.hid hl;rw[hat];clear hj hat hv hl hj1;obtain⟨p0,p1⟩:=HP2.out.cells;(go_wp2_with fail);refine(HSt.out _ HP2.out hvh.out).mono ?_;rintro e z3 ⟨rfl,hb3,At,Ar,Au,ct,cr,cu,gI,hMO⟩;have HP3:=HP2.out.below hb3;have hlt1:w.heap.size<zq.heap.size:=(Array.getElem?_eq_some_iff.1 HP2.out.b0).1;have hm_:=hMO.m;have hto:=hMO.to_;have hlt2:=(Array.getElem?_eq_some_iff.1 hm_).1;clear hb3 hMO p0 p1;have hl1:w.heap.size<zq.heap.size+1:=(by omega);generalize zq.heap.size+1=mb at *;have hS0:Hid (UN w A A' n c n' c' (toT ps) mb z3.heap.size At ct (.slice A n c) (.slice A' n' c') (.slice Ar n cr) (.slice Au n cu) (.slice (some ⟨gI,0,none⟩) n n) 0 (fun _=>false) (z3.alloc (.map #[] 0))):=by
    have hb:=(Below.refl z3.heap.size z3).alloc (Nat.le_refl _) (.map #[] 0);exact⟨keepO hb HP3.b0,keepO hb hm_,hto.alloc _,OwnsSet.made z3,below_via HP3.bel HP3.bel.size hb,hl1,hlt2⟩
   clear HP3 hm_ hto hlt1 hl1 hlt2;have hwa:(Lit.int .i64 (at_:Int)).wf=true:=WalkArith.wf_i64 (by omega);have hwah:=Lib.hid hwa;clear hwa;have ew1:IntKind.i64.wrap ((at_:Int) - 1)=(at_:Int) - 1:=IntWalk.i64_in _ (by omega);(go_wp2_with (refine put_ins rfl _ _ _ rfl z3.heap.size 0 _ _ rfl hS0.out.st (by unfold maxLen;omega) rfl hwah.out rfl ?_;intro w1 hown1 hg1;replace hown1:=Lib.hid hown1;replace hg1:=Lib.hid hg1));have hU:Hid (UN w A A' n c n' c' (toT ps) mb z3.heap.size At ct (.slice A n c) (.slice A' n' c') (.slice Ar n cr) (.slice Au n cu) (.slice (some ⟨gI,0,none⟩) n n) (at_ - at_+1) (SU n (toT ps) at_ at_) w1):=by
    show UN _ _ _ _ _ _ _ _ _ _ _ _ _ _ _ _ _ _ _ _;rw[Nat.sub_self];exact(hS0.out.put hown1.out hg1.out).ext (fun j=>by
     unfold SU;rw[Bool.eq_iff_iff];simp only[Bool.or_eq_true,Bool.and_eq_true,decide_eq_true_iff,Bool.or_false];constructor
     ·intro h;exact Or.inl h
     ·rintro (h|⟨⟨h1,h2⟩,-⟩)
      ·exact h
      ·omega)
   clear hS0 hown1 hg1;generalize z3.heap.size=mp at *;go_loopw [10] (fun v wq=>∃wl,wl=wq∧∃i1:Nat,i1≤at_∧v = .int .i64 ((i1:Int) - 1)∧Hid (UN w A A' n c n' c' (toT ps) mb mp At ct (.slice A n c) (.slice A' n' c') (.slice Ar n cr) (.slice Au n cu) (.slice (some ⟨gI,0,none⟩) n n) (at_ - i1+1) (SU n (toT ps) at_ i1) wl)) (fun v _=>(intOf v+1).toNat)
   case atStart=>exact⟨_,rfl,at_,by omega,rfl,hU⟩
   case round=>
    clear hU;obtain⟨wq,rfl,i1,hi1,rfl,hUr⟩:=hrel;by_cases h0:i1=0
    ·subst h0;rw[show ((0:Nat):Int) - 1 = -1 from rfl];(go_wp2_with (at_delete;refine del_set rfl _ _ rfl mp _ _ _ rfl hUr.out.st rfl hwah.out ?_;intro w2 hown2 hg2;replace hown2:=Lib.hid hown2;replace hg2:=Lib.hid hg2));have hV:Hid (UN w A A' n c n' c' (toT ps) mb mp At ct (.slice A n c) (.slice A' n' c') (.slice Ar n cr) (.slice Au n cu) (.slice (some ⟨gI,0,none⟩) n n) (at_ - 0+1) (fun j=>!decide (j=(at_:Int)) && SU n (toT ps) at_ 0 j) w2):=hUr.out.put hown2.out hg2.out;clear hUr hown2 hg2;go_loopw [11,48] (fun v u wq=>∃wl,wl=wq∧∃i m:Nat,i≤at_∧m≤i∧u = .int .i64 i∧Hid (wl.ownsRow (mp+1) 3 1 v m (ints (undL ps at_ i)))∧Hid (UN w A A' n c n' c' (toT ps) mb mp At ct (.slice A n c) (.slice A' n' c') (.slice Ar n cr) (.slice Au n cu) (.slice (some ⟨gI,0,none⟩) n n) (at_ - 0+1) (fun j=>!decide (j=(at_:Int)) && SU n (toT ps) at_ 0 j) wl)∧(v.ownBlock=none∨v.ownBlock≠Value.ownBlock (.slice At n ct))) (fun _ u _=>at_ - (intOf u).toNat)
     case atStart=>exact⟨_,rfl,0,0,by omega,by omega,rfl,World.ownsRow_nil _ _ _ _,hV,Or.inl rfl⟩
     case round=>
      clear hV;obtain⟨wq,rfl,i,m,hia,hmi,rfl,HOw,hUr,hap⟩:=hrel;obtain⟨Ao,co,rfl⟩:=ownR_val HOw.out;by_cases hin:i<at_
      ·have hii:(i:Int)<(at_:Int):=(by omega);have hii2:(i:Int)<(n:Int):=(by omega);have ii0:(0:Int)≤(i:Int):=(by omega);have hwk:Hid ((Lit.int .i64 (i:Int)).wf=true):=WalkArith.wf_i64 (by omega);have hSi:(fun j=>!decide (j=(at_:Int)) && SU n (toT ps) at_ 0 j) (i:Int)=ldN n (toT ps) at_ i:=by
        have e1:decide ((i:Int)=(at_:Int))=false:=decide_eq_false (by omega);have e2:decide (((0:Nat):Int)≤(i:Int))=true:=decide_eq_true (by omega);have e3:decide ((i:Int)<(at_:Int))=true:=decide_eq_true hii;simp only[SU,e1,e2,e3,Int.toNat_natCast,Bool.not_false,Bool.true_and,Bool.false_or]
       cases hld:ldN n (toT ps) at_ i
       ·have hno:Hid (undL ps at_ (i+1)=undL ps at_ i):=undL_no ps (by rw[hlh.out];exact hld);rw[hld] at hSi;have hSh:=Lib.hid hSi;clear hSi hld;(go_wp2_with (at_lookup;refine look_setv rfl _ _ rfl mp _ _ _ false hSh.out rfl hUr.out.st rfl hwk.out ?_));go_roundw
        case rel=>exact⟨_,rfl,i+1,m,by omega,by omega,by go_num,by rw[hno.out];exact HOw,hUr,hap⟩
        case measure=>simp[intOf]<;>omega
       ·have hyes:Hid (undL ps at_ (i+1)=undL ps at_ i ++ [idAt ps i]):=undL_yes ps (by rw[hlh.out];exact hld);obtain⟨bp,op,I,D,P,T,rfl,hbp,hx,y0,-,-,-⟩:=(HRd.out _ hUr.out.bel).pg (show i<n by omega);have hI:Hid (idAt ps i=I):=(by show _=_;unfold idAt;rw[hx]);obtain⟨p0,p1⟩:=hUr.out.cells;have hsz:mp<wq.heap.size:=hUr.out.st.lt;have hL:=heap_alloc_new wq (.cells #[.int .i64 I] 3);have hbA:=(Below.refl wq.heap.size wq).alloc (Nat.le_refl _) (.cells #[.int .i64 I] 3);have hU3:=Lib.hid (hUr.out.alloc (.cells #[.int .i64 I] 3));have HOw3:=Lib.hid (ownR_below HOw.out hbA);have HL:=Lib.hid (rd_one (t:=3) hL);rw[hld] at hSi;have hSh:=Lib.hid hSi;clear hld hx hbA hL hSi HOw
        go_wp2_with (first
         |(at_lookup;refine look_setv rfl _ _ rfl mp _ _ _ true hSh.out rfl hUr.out.st rfl hwk.out ?_)
         |(at_builtin;refine wpList_app _ rfl _ _ 46 rfl (mp+1) 3 i0 _ 1 8 Tryd.underlying46 hi hz0 hz1 hz2 rfl (by decide) (.slice Ao m co) m (ints (undL ps at_ i)) rfl HOw3.out _ (some ⟨wq.heap.size,0,none⟩) 1 1 (ints [I]) rfl HL.out (ints_one _) ?c3 ?c4 ?c5 ?_))
        case c3=>unfold maxLen;omega
        case c4=>omega
        case c5=>first|omega|(simp<;>omega)
        intro v' z4 hown hgr hatv;have hU4:=Lib.hid (hU3.out.grow hgr (fun k hk=>by have:=(ownR_lt HOw3.out hk).1;omega) (by
         rcases hap with h|h
         ·rw[h];cases hc:Value.ownBlock (.slice At n ct) with
          |none=>exact Or.inl rfl
          |some q=>exact Or.inr (by simp)
         ·exact Or.inr (fun e=>h e.symm)))
        have hxs:Hid (z4.ownsRow (mp+1) 3 1 v' (m+1) (ints (undL ps at_ (i+1)))):=by
         show World.ownsRow _ _ _ _ _ _ _;rw[hyes.out,hI.out,show ints (undL ps at_ i ++ [I])=ints (undL ps at_ i)++ints [I] by simp[ints]];exact hown
        have hap2:v'.ownBlock=none∨v'.ownBlock≠Value.ownBlock (.slice At n ct):=by
         rcases hatv with h|h
         ·rw[h];exact hap
         ·refine Or.inr (fun e=>?_);rw[h] at e;have:=(ownR_lt hU3.out.to_ e.symm).2;have h5:=hUr.out.to_;have:=(ownR_lt h5 e.symm).2
          first|omega|(simp at this<;>omega)
        clear hown hgr hatv HOw3 hU3 HL p0 p1 y0 hUr hap;obtain⟨A4,c4,rfl⟩:=ownR_val hxs.out;go_wp2;go_roundw
        case rel=>exact⟨_,rfl,i+1,m+1,by omega,by omega,by go_num,hxs,hU4,hap2⟩
        case measure=>simp[intOf]<;>omega
      ·obtain rfl:i=at_:=(by omega);have hnn:¬((i:Int)<(i:Int)):=(by omega);have hb:=hUr.out.bel;have hl1:=hUr.out.l1;have hl2:=hUr.out.l2;have hrow:=Lib.hid (Go.Joins.ownsRow_le HOw.out (show w.heap.size≤mp+1 by omega));go_wp2;exact bodyPost_ret (v:=.tuple #[.slice Ao m co,.int .i64 0]) (by simp[results,Tryd.results32,go_sem]) rfl ⟨⟨Ao,m,co,by rw[hs.out.2],by rw[hs.out.1];exact hrow.out⟩,hb⟩
    ·obtain⟨k,rfl⟩:∃k,i1=k+1:=⟨i1 - 1,by omega⟩;have hka:k<at_:=(by omega);have hkn:(k:Int)<(n:Int):=(by omega);have k0:(0:Int)≤(k:Int):=(by omega);rw[show ((k+1:Nat):Int) - 1=(k:Int) by omega];have hkm:IntKind.i64.wrap ((k:Int) - 1)=(k:Int) - 1:=IntWalk.i64_in _ (by omega);obtain⟨p0,cm⟩:=hUr.out.cells;obtain⟨g,cap,he,-,-⟩:=World.ownsRow.form hUr.out.to_ (by omega);simp only[Value.slice.injEq,true_and] at he;obtain⟨rfl,rfl⟩:=he;have ck:=(hUr.out.to_.cellAt k (by omega)).trans (tos_g2 (toT ps) (show k<n by omega));have hSk:=SU_at hFh.out hatn hka;have htv:=toV_in hFh.out (show k<n by omega);have hwk:Hid ((Lit.int .i64 (toV (toT ps) k)).wf=true):=WalkArith.wf_i64 (by omega);have hwk2:Hid ((Lit.int .i64 (k:Int)).wf=true):=WalkArith.wf_i64 (by omega);clear htv;cases hld:ldN n (toT ps) at_ k
     ·have hX:Hid (UN w A A' n c n' c' (toT ps) mb mp (some ⟨g,0,none⟩) ct (.slice A n c) (.slice A' n' c') (.slice Ar n cr) (.slice Au n cu) (.slice (some ⟨gI,0,none⟩) n n) (at_ - k+1) (SU n (toT ps) at_ k) wq):=(hUr.out.ext (fun j=>SU_no hka hld j)).mono (by omega);rw[hld] at hSk;have hSh:=Lib.hid hSk;clear hSk hld;(go_wp2_with (at_lookup;refine look_setv rfl _ _ rfl mp _ _ _ false hSh.out rfl hUr.out.st rfl hwk.out ?_));go_roundw
      case rel=>exact⟨_,rfl,k,by omega,by go_num,hX⟩
      case measure=>simp[intOf]<;>omega
     ·have hfun:=Lib.hid (fun j=>SU_yes hka hld j);rw[hld] at hSk;have hSh:=Lib.hid hSk;clear hSk hld
      go_wp2_with (first
       |(at_lookup;refine look_setv rfl _ _ rfl mp _ _ _ true hSh.out rfl hUr.out.st rfl hwk.out ?_)
       |(at_mapUpdate;refine put_set rfl _ _ _ rfl mp _ _ _ rfl hUr.out.st (by unfold maxLen;omega) rfl hwk2.out rfl ?_;intro w2 hown2 hg2;replace hown2:=Lib.hid hown2;replace hg2:=Lib.hid hg2))
      go_roundw
      case rel=>exact⟨_,rfl,k,by omega,by go_num,Lib.hid (((hUr.out.put hown2.out hg2.out).ext (fun j=>hfun.out j)).mono (by omega))⟩
      case measure=>simp[intOf]<;>omega
end Go.Proofs.YtfplipbkjglmhaaDoor
