/-
 A press at work: rows, spans, where parings go, as cells; what a world keeps but for some blocks.
-/
import Derived.Test.YtfplipbkjglmhaaDoorPSpans
import Derived.Test.YtfplipbkjglmhaaDoorKp
namespace Go.Proofs.YtfplipbkjglmhaaDoor
open Go.RowKit
set_option linter.unusedVariables false
set_option linter.unusedSimpArgs false
/-- A slice reads as a list, in blocks below B and none of some. -/
def RdX (D:List Nat) (w:World) (B size:Nat) (A:Option Addr) (n:Nat) (xs:List Value):Prop:=
 Reads w B size A n xs∧∀p,A=some p→0<n→p.block ∉ D
theorem RdX.keep{D D':List Nat}{w x:World}{B B' size n:Nat}{A:Option Addr}{xs:List Value}(h:RdX D w B size A n xs)(hk:Kp B' D' w x)(hB:B≤B')(hD:∀d,d∈D'→d∈D∨B≤d):RdX D x B size A n xs:=by
 refine⟨⟨h.1.1,fun hn=>?_⟩,h.2⟩;obtain⟨b,o,e,hb,hc⟩:=h.1.2 hn;refine⟨b,o,e,hb,fun j u hu=>?_⟩;rw[hk.cell (p:=⟨b,o+j,none⟩) (by simp only;omega) (fun hm=>?_)]
 ·exact hc j u hu
 ·rcases hD b hm with h'|h'
  ·exact h.2 _ e hn h'
  ·omega
theorem RdX.of_own{D:List Nat}{w:World}{base size n c:Nat}{A:Option Addr}{e:TypeId}{xs:List Value}(h:w.ownsRow base e size (.slice A n c) n xs)(hD:∀d,d∈D→d<base):RdX D w w.heap.size size A n xs:=by
 refine⟨Reads.of_own h,fun p hp hn hm=>?_⟩;subst hp;have:=(h.lt _ rfl).1;have:=hD _ hm;omega
theorem RdX.more{D:List Nat}{w:World}{B B' size n:Nat}{A:Option Addr}{xs:List Value}(h:RdX D w B size A n xs)(hB:B≤B'):RdX D w B' size A n xs:=⟨h.1.more hB,h.2⟩
def spc (s:Sp):List Value:=[.int .i64 s.1,.int .i64 s.2]
def sps (U:Nat→Sp) (n:Nat):List Value:=(List.range n).flatMap fun i=>spc (U i)
def rowc (f:Nat→Sp):List Value:=[.int .i64 (f 0).1,.int .i64 (f 0).2,.int .i64 (f 1).1,.int .i64 (f 1).2,.int .i64 (f 2).1,.int .i64 (f 2).2,.int .i64 (f 3).1,.int .i64 (f 3).2,.int .i64 (f 4).1,.int .i64 (f 4).2,.int .i64 (f 5).1,.int .i64 (f 5).2,.int .i64 (f 6).1,.int .i64 (f 6).2]
def rws (R:Nat→Nat→Sp) (n:Nat):List Value:=(List.range n).flatMap fun i=>rowc (R i)
def toV (t:Nat→Option Nat) (i:Nat):Int:=match t i with|some k=>k|none=>-1
def tos (t:Nat→Option Nat) (n:Nat):List Int:=(List.range n).map (toV t)
@[simp] theorem tos_length (t:Nat→Option Nat) (n:Nat):(tos t n).length=n:=by simp[tos]
theorem tos_get{t:Nat→Option Nat}{n k:Nat}(hk:k<n):(tos t n)[k]?.getD 0=toV t k:=by simp[tos,hk]
theorem sps_len(U:Nat→Sp)(n:Nat):(sps U n).length=n*2:=by
 rw[sps,flat_len _ 2 (fun _=>rfl)];simp
theorem rws_len(R:Nat→Nat→Sp)(n:Nat):(rws R n).length=n*14:=by
 rw[rws,flat_len _ 14 (fun _=>rfl)];simp
theorem sps_get{U:Nat→Sp}{n k:Nat}(hk:k<n):(sps U n)[k*2]? = some (.int .i64 (U k).1)∧(sps U n)[k*2+1]? = some (.int .i64 (U k).2):=by
 have h0:=flat_get (fun i=>spc (U i)) 2 (fun _=>rfl) (List.range n) k 0 (by omega);have h1:=flat_get (fun i=>spc (U i)) 2 (fun _=>rfl) (List.range n) k 1 (by omega);have hr:(List.range n)[k]? = some k:=by simp[hk]
 rw[hr] at h0 h1;exact⟨h0,h1⟩
theorem rws_get{R:Nat→Nat→Sp}{n k j:Nat}(hk:k<n)(hj:j<14):(rws R n)[k*14+j]? = (rowc (R k))[j]?:=by
 have h0:=flat_get (fun i=>rowc (R i)) 14 (fun _=>rfl) (List.range n) k j hj;have hr:(List.range n)[k]? = some k:=by simp[hk]
 rw[hr] at h0;exact h0
theorem Reads.to_{w:World}{B n k:Nat}{A:Option Addr}{t:Nat→Option Nat}(h:Reads w B 1 A n (ints (tos t n)))(hk:k<n) :
  ∃b o,A=some ⟨b,o,none⟩∧b<B∧w.cell? ⟨b,o+k,none⟩=some (.int .i64 (toV t k)):=by
 obtain⟨b,o,e,hb,hc⟩:=h.int hk;rw[tos_get hk] at hc;exact⟨b,o,e,hb,hc⟩
theorem Reads.sp{w:World}{B n m k:Nat}{A:Option Addr}{U:Nat→Sp}(h:Reads w B 2 A n (sps U n))(hk:k<n) :
  ∃b o,A=some ⟨b,o,none⟩∧b<B∧w.cell? ⟨b,o+k*2,none⟩=some (.int .i64 (U k).1)∧w.cell? ⟨b,o+k*2+1,none⟩=some (.int .i64 (U k).2):=by
 obtain⟨b,o,e,hb,hc⟩:=h.2 (by omega);obtain⟨h0,h1⟩:=sps_get (U:=U) hk;exact⟨b,o,e,hb,hc _ _ h0,hc _ _ h1⟩
theorem Reads.rw_{w:World}{B n k:Nat}{A:Option Addr}{R:Nat→Nat→Sp}(h:Reads w B 14 A n (rws R n))(hk:k<n) :
  ∃b o,A=some ⟨b,o,none⟩∧b<B∧∀j u,(rowc (R k))[j]? = some u→w.cell? ⟨b,o+k*14+j,none⟩=some u:=by
 obtain⟨b,o,e,hb,hc⟩:=h.2 (by omega);refine⟨b,o,e,hb,fun j u hu=>?_⟩;have hj:j<14:=(List.getElem?_eq_some_iff.1 hu).1;have:=hc (k*14+j) u (by rw[rws_get hk hj];exact hu);simpa [Nat.add_assoc] using this
/-- A press at work, as it is read: the cells of its block, and what its slices read as. -/
structure MR (x:World) (mb n:Nat) (t:Nat→Option Nat) (R:Nat→Nat→Sp) (U I:Nat→Sp) (At Ar Au Ai:Option Addr) (ct cr cu ci:Nat):Prop where
 lt:mb<x.heap.size
 c2:x.cell? ⟨mb,2,none⟩=some (.slice At n ct)
 c3:x.cell? ⟨mb,3,none⟩=some (.slice Ar n cr)
 c4:x.cell? ⟨mb,4,none⟩=some (.slice Au n cu)
 c5:x.cell? ⟨mb,5,none⟩=some (.slice Ai n ci)
 rt:Reads x x.heap.size 1 At n (ints (tos t n))
 rr:Reads x x.heap.size 14 Ar n (rws R n)
 ru:Reads x x.heap.size 2 Au n (sps U n)
 ri:Reads x x.heap.size 2 Ai n (sps I n)
theorem MR.below{x y:World}{mb n:Nat}{t:Nat→Option Nat}{R:Nat→Nat→Sp}{U I:Nat→Sp}{At Ar Au Ai:Option Addr}{ct cr cu ci:Nat}(h:MR x mb n t R U I At Ar Au Ai ct cr cu ci)(hb:Below x.heap.size x y):MR y mb n t R U I At Ar Au Ai ct cr cu ci where
 lt:=Nat.lt_of_lt_of_le h.lt hb.size
 c2:=(hb.cell h.lt).trans h.c2
 c3:=(hb.cell h.lt).trans h.c3
 c4:=(hb.cell h.lt).trans h.c4
 c5:=(hb.cell h.lt).trans h.c5
 rt:=(h.rt.below hb).more hb.size
 rr:=(h.rr.below hb).more hb.size
 ru:=(h.ru.below hb).more hb.size
 ri:=(h.ri.below hb).more hb.size
/-- The numbers of a row are such as notes leave. -/
def SmR (R:Nat→Nat→Sp) (n:Nat):Prop:=∀i k,i<n→k<7→-10000000≤(R i k).1∧(R i k).1≤10000000∧-10000000≤(R i k).2∧(R i k).2≤10000000
def SmF (f:Nat→Sp):Prop:=∀k,k<7→-10000000≤(f k).1∧(f k).1≤10000000∧-10000000≤(f k).2∧(f k).2≤10000000
def rest1 (f:Nat→Sp):Nat→Sp
 |0=>(0,0)
 |k+1=>plus (rest1 f k) (f (k+2))
theorem rest1_sml{f:Nat→Sp}(h:SmF f):∀k:Nat,k≤4→-(10000000*(k:Int))≤(rest1 f k).1∧(rest1 f k).1≤10000000*(k:Int)∧-(10000000*(k:Int))≤(rest1 f k).2∧(rest1 f k).2≤10000000*(k:Int)
 |0,_=>by simp[rest1]
 |k+1,hk=>by
  have ih:=rest1_sml h k (by omega);have h2:=h (k+2) (by omega);simp only[rest1,plus];omega
theorem rest1_restS(R:Nat→Nat→Sp)(i:Nat):rest1 (R i) 4=restS R i:=rfl
end Go.Proofs.YtfplipbkjglmhaaDoor
