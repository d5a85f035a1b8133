/-
 What must have gone elsewhere: what the program's side and the reference's share.
-/
import Derived.Test.YtfplipbkjglmhaaDoorApp0
import Derived.Test.YtfplipbkjglmhaaDoorWith
import Derived.Test.YtfplipbkjglmhaaDoorYld
import Derived.Test.YtfplipbkjglmhaaDoorPAll
namespace Go.Proofs.YtfplipbkjglmhaaDoor
open Go.RowKit
set_option linter.unusedVariables false
set_option linter.unusedSimpArgs false
theorem run_app1{w:World}{base:Nat}{v:Value}{k:Nat}{xs:List Value}(hown:w.ownsRow base 3 1 v k xs)(hbase:base≤w.heap.size)(hk:k≤100){a:Addr}{x:Int}(hx:w.cell? a=some (.int .i64 x))(ty:TypeId)(c:Nat) :
  ∃v' w',(Builtin.append_ #[46,46] ty #[v,.slice (some a) 1 c]).run Tryd.prog w = .ok v' w'∧w'.ownsRow base 3 1 v' (k+1) (xs ++ [.int .i64 x])∧
   ((∃A q,v = .slice A k q∧v' = .slice A (k+1) q∧w.grownBy w' v.ownBlock)∨(v'.ownBlock=some w.heap.size∧w.grownBy w' none)):=by
 obtain⟨i0,hi,hz0,hz1,hz2⟩:=info_parts info_int;have hnews:∀j u,([.int .i64 x]:List Value)[j]? = some u→w.cell? (a.add j)=some u:=by
  intro j u hu;cases j with
  |zero=>simpa [Addr.add,hx] using hu
  |succ j=>simp at hu
 have h1:∀u∈([.int .i64 x]:List Value),u.oneCell'=true:=by intro u hu;simp at hu;subst hu;rfl
 obtain⟨v',w',hrun,h2,h3,-,h5⟩:=run_append_own_at (P:=Tryd.prog) w base 46 ty 3 i0 _ 1 8 Tryd.underlying46 hi hz0 hz1 hz2 rfl (by decide) v k xs hown a 1 c [.int .i64 x] rfl hnews h1 (by unfold maxLen;omega) (by omega) hbase;refine⟨v',w',hrun,h2,?_⟩;rcases hown.2 with ⟨rfl,rfl⟩|⟨g,cap,cur,rfl,hbg,hg,hnc,hcm,hcs,ht⟩
 ·refine .inr ⟨?_,h3⟩;rcases h5 with h|h
  ·rcases h2.2 with ⟨h0,h0'⟩|⟨g,cap,cur,h0,_⟩
   ·omega
   ·rw[h0] at h;cases h
  ·exact h
 ·by_cases hroom:k+1≤cap
  ·have hr:=run_append_room (P:=Tryd.prog) w 46 ty 3 i0 Tryd.underlying46 hi g k cap cur hg a 1 c [.int .i64 x] (by rw[hz1];rfl) hnews h1 hroom (by rw[hz1,hcs];simp;omega);rw[hr] at hrun;injection hrun with e1 e2;exact .inl ⟨_,_,rfl,e1.symm,h3⟩
  ·have holds:∀j u,xs[j]? = some u→w.cell? ((⟨g,0,none⟩:Addr).add j)=some u:=hown.cells (g:=g) rfl;have hr:=run_append_grow (P:=Tryd.prog) w 46 ty 3 i0 _ Tryd.underlying46 hi hz0 ⟨g,0,none⟩ k cap xs (by rw[hz1];exact hown.1) holds a 1 c [.int .i64 x] (by rw[hz1];rfl) hnews (by omega) (by omega) (by rw[hz2];exact growslice_fits (by omega) (by omega));rw[hr] at hrun;injection hrun with e1 e2;exact .inr ⟨by rw[←e1];rfl,by rw[←e2];exact⟨rfl,rfl,rfl,by simp,fun q hq _=>(((Below.refl w.heap.size w).drew).alloc (Nat.le_refl _) _).block q hq⟩⟩
section
variable {P:Program} {w:World}
theorem step_app1{ops:Array Oper}{o:Oper}{a:Act}{K:Act→World→Prop}{Q:Exit→Act→World→Prop}{E:Prop}(hgd:o.guard=none)(s x:Operand)
  (ho:o.op = .call { callee:=.builtin .append,args:=#[s,x],argTypes:=#[46,46] })
  (base:Nat) (v:Value) (n:Nat) (xs:List Value) (hs:a.eval s=v) (hown:w.ownsRow base 3 1 v n xs) (hbase:base≤w.heap.size) (hn:n≤100)
  (ad:Addr) (c:Nat) (y:Int) (hx:a.eval x = .slice (some ad) 1 c) (hc:w.cell? ad=some (.int .i64 y))
  (h:∀v' w',w'.ownsRow base 3 1 v' (n+1) (xs ++ [.int .i64 y])→((∃A q,v = .slice A n q∧v' = .slice A (n+1) q∧w.grownBy w' v.ownBlock)∨(v'.ownBlock=some w.heap.size∧w.grownBy w' none))→K (a.put o.dst v') w') :
  if Region.wanted o (yielded ops a.tmps)=true then Oper.wp Tryd.prog o a w K Q else E:=by
 have hw:Region.wanted o (yielded ops a.tmps)=true:=by simp[Region.wanted,hgd]
 rw[if_pos hw];obtain⟨v',w',hrun,h2,h3⟩:=run_app1 hown hbase hn hc o.type c;unfold Oper.wp execOp;simp only[ho,resolve,invoke,builtin,Sem.run_bind,Sem.run_pure,Result.andThen_ok,List.map_toArray,List.map_cons,List.map_nil,hs,hx,hrun];exact h v' w' h2 h3
end
/-- What a longer slice holds, a shorter one with the same room holds too. -/
theorem own_short{w:World}{base:Nat}{A:Option Addr}{k c:Nat}{xs:List Value}{x:Value}(h:w.ownsRow base 3 1 (.slice A (k+1) c) (k+1) (xs ++ [x])):w.ownsRow base 3 1 (.slice A k c) k xs:=by
 have hl:xs.length=k:=by have:=h.1;simp at this;omega
 refine⟨by omega,?_⟩;rcases h.2 with ⟨h0,h0'⟩|⟨g,cap,cur,h0,hb,hg,hnc,hcm,hcs,ht⟩
 ·omega
 ·simp only[Value.slice.injEq,true_and] at h0;obtain⟨rfl,rfl⟩:=h0;refine .inr ⟨g,_,cur,rfl,hb,hg,by omega,hcm,hcs,?_⟩;have e:cur.toList.take (k*1)=(cur.toList.take ((k+1)*1)).take (k*1):=(by rw[List.take_take];congr 1;omega);rw[e,ht,Nat.mul_one,←hl,List.take_left'];rfl
/-- Rows of other kinds lie in other blocks. -/
theorem own_ne{w:World}{base base':Nat}{e e':TypeId}{size size' n n':Nat}{v v':Value}{xs xs':List Value}(h:w.ownsRow base e size v n xs)(h':w.ownsRow base' e' size' v' n' xs')(ne:e≠e'):∀q,v.ownBlock=some q→v'.ownBlock≠some q:=by
 intro q hq hq';rcases h.2 with ⟨h0,-⟩|⟨g1,cap1,cur1,h1,-,h3,-⟩
 ·rw[h0] at hq;cases hq
 ·rcases h'.2 with ⟨h0',-⟩|⟨g2,cap2,cur2,h1',-,h3',-⟩
  ·rw[h0'] at hq';cases hq'
  ·rw[h1] at hq;rw[h1'] at hq';simp only[Value.ownBlock,Option.some.injEq] at hq hq';subst hq;subst hq';rw[h3] at h3';injection h3' with h3';injection h3' with _ e2 _;exact ne e2
end Go.Proofs.YtfplipbkjglmhaaDoor

namespace Go.Proofs.YtfplipbkjglmhaaDoor
open Go.RowKit
set_option linter.unusedVariables false
set_option linter.unusedSimpArgs false
def mss (l:List (Int×Int)):List Value:=l.flatMap fun p=>spc p
theorem mss_snoc(l:List (Int×Int))(p:Int×Int):mss (l ++ [p])=mss l++spc p:=by simp[mss]
theorem info_ms:(Tryd.prog.info? 62).map (fun i=>(i.zero,i.size,i.bytes))=some (some (.agg #[.int .i64 0,.int .i64 0]),2,16):=by kernel_rfl
/-- Whether the notes of some weight contradict each other. -/
def clB (R:Nat→Nat→Sp) (n:Nat):Bool:=(List.range n).any fun i=>(List.range 6).any fun k=>decide ((R i (k+1)).2<(R i (k+1)).1)
theorem clB_no{R:Nat→Nat→Sp}{n:Nat}(h:clB R n=false):∀i,i<n→∀k,1≤k→k≤6→Ne (R i k):=by
 intro i hi k h1 h6;unfold Ne;by_cases hc:(R i k).2<(R i k).1
 ·exfalso;have:clB R n=true:=by
   unfold clB;rw[List.any_eq_true];refine⟨i,List.mem_range.2 hi,?_⟩;rw[List.any_eq_true];exact⟨k - 1,List.mem_range.2 (by omega),by rw[show k - 1+1=k by omega];exact decide_eq_true hc⟩
  rw[h] at this;cases this
 ·omega
theorem clB_of{R:Nat→Nat→Sp}{n:Nat}(h:∀i,i<n→∀k,1≤k→k≤6→Ne (R i k)):clB R n=false:=by
 rw[Bool.eq_false_iff];intro hc;unfold clB at hc;rw[List.any_eq_true] at hc;obtain⟨i,hi,hc⟩:=hc;rw[List.any_eq_true] at hc;obtain⟨k,hk,hc⟩:=hc;have h1:=h i (List.mem_range.1 hi) (k+1) (by omega) (by have:=List.mem_range.1 hk;omega);have h2:=of_decide_eq_true hc;unfold Ne at h1;omega
/-- The error of what is gone. -/
def gonE (ps:List PR) (ws:List WE):Int:=if validP ps ws then if clB (rowsT ps ws) ps.length then 8 else 0 else 20
def gonS (ps:List PR) (ws:List WE):Int:=if gonE ps ws=0 then sumM (misU (toT ps) (rowsT ps ws)) ps.length else 0
def gonL (ps:List PR) (ws:List WE):List (Int×Int):=if gonE ps ws=0 then listM (idQ ps) (misU (toT ps) (rowsT ps ws)) ps.length else []
/-- The parings that are told lie within what the notes leave. -/
theorem parV_bd{n:Nat}{t:Nat→Option Nat}{R:Nat→Nat→Sp}(hr:∀i,i<n→∀k,1≤k→k≤6→Ne (R i k))(hI:∀i,i<n→In1 (R i)){i:Nat}(hi:i<n):(0≤(parU t R i).1∧(parU t R i).1≤1000000∧0≤(parU t R i).2∧(parU t R i).2≤1000000)∧parV t R i=parU t R i∧misV t R i=misU t R i:=by
 obtain⟨h1,h2,h3,h4,h5⟩:=gone_law hr i hi;have h6:=hI i hi 6 (by omega);unfold Ne at h3;exact⟨by omega,h1,h2⟩
end Go.Proofs.YtfplipbkjglmhaaDoor
