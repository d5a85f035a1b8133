/-
 The walk of the reference's questions: whether there is a truth, and what a weight can be.
-/
import Derived.Test.YtfplipbkjglmhaaDoorTk
import Derived.Test.YtfplipbkjglmhaaDoorRNt
import Derived.Test.YtfplipbkjglmhaaDoorSpan2
import Derived.Test.YtfplipbkjglmhaaDoorAsk
namespace Go.Proofs.YtfplipbkjglmhaaDoor
open Go.RowKit
set_option linter.unusedVariables false
set_option linter.unusedSimpArgs false
section
variable {w z y:World} {A A':Option Addr} {n c n' c':Nat} {R:Nat→Nat→Sp}
end
end Go.Proofs.YtfplipbkjglmhaaDoor

namespace Go.Proofs.YtfplipbkjglmhaaDoor
open Go.RowKit
set_option linter.unusedVariables false
set_option linter.unusedSimpArgs false
section
variable {w z:World} {b:Nat} {U:Nat→Sp}
end
section
variable {w z y:World} {A A':Option Addr} {n c n' c':Nat} {R:Nat→Nat→Sp} {U:Nat→Sp} {s:Sp}
end
def Bd (b:Int) (s:Sp):Prop:=-b≤s.1∧s.1≤b∧-b≤s.2∧s.2≤b
theorem feed_bd{t:Nat→Option Nat}{U:Nat→Sp}{B:Int}(hB:0≤B)(q:Nat):∀m,(∀j,j<m→Bd B (U j))→Bd (m*B) (feed t U q m)
 |0,_=>by simp[feed,Bd]
 |m+1,h=>by
  have ih:=feed_bd hB q m (t:=t) (fun j hj=>h j (by omega));have h1:=h m (by omega);have e:((m+1:Nat):Int)*B=m*B+B:=(by rw[Int.natCast_succ,Int.add_mul,Int.one_mul]);unfold Bd at *;rw[e];generalize (m:Int)*B=M at *;unfold feed;split
  ·simp only[plus];omega
  ·omega
end Go.Proofs.YtfplipbkjglmhaaDoor

namespace Go.Proofs.YtfplipbkjglmhaaDoor
open Go.RowKit
set_option linter.unusedVariables false
set_option linter.unusedSimpArgs false
section
variable (t:Nat→Option Nat) (R:Nat→Nat→Sp) (at_:Int) (inn rst:Sp) (f:Nat→Sp) (i:Nat)
end
section
variable {t:Nat→Option Nat} {R:Nat→Nat→Sp} {at_:Int} {inn rst:Sp} {f:Nat→Sp} {i n k:Nat}
end
section
variable {w z y:World} {A A':Option Addr} {n c n' c':Nat} {R:Nat→Nat→Sp} {inn rst:Sp} {U:Nat→Sp}
end
end Go.Proofs.YtfplipbkjglmhaaDoor

namespace Go.Proofs.YtfplipbkjglmhaaDoor
open Go.RowKit
set_option linter.unusedVariables false
set_option linter.unusedSimpArgs false
theorem ValidF.in_{ps:List PR}{ws:List WE}(h:ValidF ps ws)(i k:Nat):0≤(rowsT ps ws i k).1∧(rowsT ps ws i k).1≤1000000∧0≤(rowsT ps ws i k).2∧(rowsT ps ws i k).2≤1000000:=by
  have:=h.inr ws.length i k
  rwa [List.take_length] at this
theorem rows_zero{ps:List PR}{ws:List WE}(h:ValidF ps ws)(i:Nat):∀m,rowsT ps (ws.take m) i 0=(0,1000000)
  | 0=>by
    show base ps i 0=_;unfold base;rw[if_neg (by omega)]
  | m+1=>by
    cases hx:ws[m]? with
    | none=>
      have hl:=List.getElem?_eq_none_iff.1 hx;have ih:=rows_zero h i m;rw[List.take_of_length_le (by omega)];rw[List.take_of_length_le (by omega)] at ih;exact ih
    | some x=>
      rw[rowsT_take hx];unfold note1;rw[if_neg (fun hh=>by have:=h.w_ m x hx;omega)];exact rows_zero h i m
section
variable {t:Nat→Option Nat} {R R':Nat→Nat→Sp} {at_:Int} {inn rst:Sp} {n:Nat}
end
theorem holdsB_P(t:Nat→Option Nat)(R:Nat→Nat→Sp)(n:Nat):holdsB R (upP t R) n=holdsP t R n:=by
  unfold holdsB holdsP;rw[Bool.eq_iff_iff,decide_eq_true_iff,decide_eq_true_iff];have hN:∀s:Sp,noneB s=false↔Ne s:=(by intro s;unfold noneB Ne;rw[decide_eq_false_iff_not];omega);have hB:∀f:Nat→Sp,rowBad f=false↔∀k,k<7→Ne (f k):=by
    intro f;rw[←Bool.not_eq_true,rowBad_iff];constructor
    · intro h k hk
      exact (hN _).1 (by cases hb : noneB (f k); · rfl
                         · exact absurd ⟨k,hk,hb⟩ h)
    · rintro h ⟨k,hk,hb⟩;rw[(hN _).2 (h k hk)] at hb;cases hb
  constructor
  · intro h i hi;exact⟨(hB _).1 (h i hi).2,(hN _).1 (h i hi).1⟩
  · intro h i hi;exact⟨(hN _).2 (h i hi).2,(hB _).2 (h i hi).1⟩
end Go.Proofs.YtfplipbkjglmhaaDoor

namespace Go.Proofs.YtfplipbkjglmhaaDoor
open Go.RowKit
set_option linter.unusedVariables false
set_option linter.unusedSimpArgs false
section
variable {w z y:World} {A A':Option Addr} {n c n' c':Nat} {R:Nat→Nat→Sp}
end
end Go.Proofs.YtfplipbkjglmhaaDoor

namespace Go.Proofs.YtfplipbkjglmhaaDoor
open Go.RowKit
set_option linter.unusedVariables false
set_option linter.unusedSimpArgs false
section
variable {n:Nat} {t:Nat→Option Nat} {R R':Nat→Nat→Sp}
end
theorem has_Holds{ps:List PR}{ws:List WE}(h:ValidF ps ws)(ht:hasT ps ws=true):Holds ps.length (rowsT ps ws) (upP (toT ps) (rowsT ps ws)):=by
 unfold hasT at ht;rw[holdsB_P,holdsP_iff (fun i hi=>by have:=rows_zero h i ws.length;rw[List.take_length] at this;rw[this];simp[Ne])] at ht;exact ht
theorem rows_InR{ps:List PR}{ws:List WE}(h:ValidF ps ws)(n:Nat):InR n (rowsT ps ws) 1000000:=fun i _ k=>by
 have:=h.in_ i k;omega
theorem spanSp_P(ps:List PR)(ws:List WE)(i k:Nat):spanSp ps ws i k=spanP (toT ps) (rowsT ps ws) ps.length i k:=rfl
section
variable {w z y:World} {A A':Option Addr} {n c n' c':Nat}
end
end Go.Proofs.YtfplipbkjglmhaaDoor
