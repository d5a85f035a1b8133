/-
 The verifier's own question whether a press is valid, and not great.
-/
import Derived.Test.YtfplipbkjglmhaaDoorPPress
import Derived.Test.YtfplipbkjglmhaaDoorPSame
import Derived.Test.YtfplipbkjglmhaaDoorRowOf
import Derived.Test.YtfplipbkjglmhaaDoorCut
namespace Go.Proofs.YtfplipbkjglmhaaDoor
open Go.RowKit
set_option linter.unusedVariables false
set_option linter.unusedSimpArgs false
theorem idQ_inc{ps:List PR}{ws:List WE}(h:ValidF ps ws){i:Nat}:∀j,i<j→j<ps.length→idQ ps i<idQ ps j
 |0,h0,_=>by omega
 |j+1,hij,hj=>by
  have e1:ps[j]? = some ps[j]:=List.getElem?_eq_getElem (by omega);have e2:ps[j+1]? = some ps[j+1]:=List.getElem?_eq_getElem hj;have hlt:=h.inc j _ _ e1 e2;have a1:idQ ps j=ps[j].1:=(by unfold idQ;rw[e1]);have a2:idQ ps (j+1)=ps[j+1].1:=(by unfold idQ;rw[e2]);by_cases hji:i=j
  ·subst hji;rw[a1,a2];exact hlt
  ·have:=idQ_inc (i:=i) h j (by omega) (by omega);omega
theorem idx_idQ{ps:List PR}{ws:List WE}(h:ValidF ps ws){i:Nat}(hi:i<ps.length):idxP ps (idQ ps i)=i:=by
 have e1:ps[i]? = some ps[i]:=List.getElem?_eq_getElem hi;refine idxP_at (fun j y hj hy=>?_) e1 (by unfold isId idQ;rw[e1];simp);have:=idQ_inc h i hj hi;have a1:idQ ps j=y.1:=by unfold idQ;rw[hy]
 unfold isId;rw[←a1];simp;omega
set_option maxRecDepth 100000 in
set_option maxHeartbeats 2000000 in
theorem ready_any(A A':Option Addr)(n c n' c':Nat)(ps:List PR)(ws:List WE)(w:World)(hnm:n≤maxLen)(hnm':n'≤maxLen)(hR:Reads w w.heap.size 4 A n (pgs ps))(hW:Reads w w.heap.size 5 A' n' (wgs ws)) :
  Calls Tryd.prog 15 #[.agg #[.slice A n c,.slice A' n' c']] w fun e w'=>e = .returned (.bool (!(decide (20<n) || decide (50<n')) && validP ps ws))∧Below w.heap.size w w':=by
 have hO0:=Lib.hid (heap_alloc_new w (.cells #[.slice A n c,.slice A' n' c'] 25));have hB0:Hid (Below w.heap.size w (w.alloc (.cells #[.slice A n c,.slice A' n' c'] 25))):=(Below.refl _ _).alloc (Nat.le_refl _) _;have HGr:=Lib.hid (fun z=>Great_any A A' n c n' c' z);have HPr:=Lib.hid (fun z (hz:Below w.heap.size w z)=>Press_any A A' n c n' c' ps ws z hnm hnm' ((hR.below hz).more hz.size) ((hW.below hz).more hz.size));clear hR hW;obtain⟨g,hg⟩:∃g,g=(decide (20<n) || decide (50<n')):=⟨_,rfl⟩;rw[←hg] at HGr ⊢;clear hg
 go_enter Tryd.func15,Tryd.ntmps15
 go_wp2_with fail
 refine(HGr.out _).mono ?_;rintro e z ⟨rfl,hb⟩;have hBz:=Lib.hid (below_via hB0.out hB0.out.size hb);have hOz:=Lib.hid (keepO hb hO0.out);clear hb hB0 hO0 HGr;cases g with
 |true=>
  go_wp2;go_ret;exact⟨rfl,hBz.out⟩
 |false=>
  obtain⟨p0,p1,-,-⟩:=two_facts hOz.out;(go_wp2_with fail);clear p0 p1;refine(HPr.out _ hBz.out).mono ?_;rintro e z2 ⟨rfl,hb⟩;have hB2:=Lib.hid (below_via hBz.out hBz.out.size hb);clear hb;go_wp2;go_ret;exact⟨by simp,hB2.out⟩
end Go.Proofs.YtfplipbkjglmhaaDoor
