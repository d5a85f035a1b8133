/-
 Short forms of the steps through a region that draws its order.
-/
import Derived.Test.YtfplipbkjglmhaaDoorKit
namespace Go.Proofs.YtfplipbkjglmhaaDoor
open Go.RowKit
theorem N0:(∀(a:Act) (d:Nat) (v:Value),a.put (some d) v = { a with tmps:=a.tmps.setIfInBounds d v })∧(∀(a:Act) (v:Value),a.put none v=a)∧
  (∀(l:List Value) (i:Nat) (v:Value),l.toArray.setIfInBounds i v=(l.set i v).toArray)∧(∀(x v:Value) (l:List Value),(x::l).set 0 v=v::l)∧(∀(x v:Value) (l:List Value) (n:Nat),(x::l).set (n+1) v=x::l.set n v):=
 ⟨fun _ _ _=>rfl,fun _ _=>rfl,fun l i v=>by simp,fun _ _ _=>rfl,fun _ _ _ _=>rfl⟩
section
variable {P:Program} {ops:Array Oper} {Q:Exit→Act→World→Prop} {md:Region.Mode} {S:World→Prop}
theorem tY(i d:Nat){oi:Oper}{v:Value}{fuel:Nat}{listed:Array Bool}{a:Act}{w:World}
  (hy:∀w,S w→(execOp a.eval oi).run P w = .ok (.value v) w) (h:wpAnyH P md ops Q S fuel (listed.setIfInBounds i true) (a.put (some d) v) w)
  (hi:ops[i]? = some oi:=by exact rfl) (hd:oi.dst=some d:=by exact rfl) (hs:Region.noSelect ops=true:=by kernel_rfl) (hf:Region.free md ops listed i=true:=by kernel_rfl) (hr:(Region.ready md ops listed).contains i=true:=by kernel_rfl)
  (hQ:∀c a w,Q (.panic c) (a.put oi.dst v) w→Q (.panic c) a w:=by exact fun _ _ _ h=>h) (hw:Region.wanted oi (yielded ops a.tmps)=true:=by kernel_rfl) (hS:S w:=by assumption):wpAnyH P md ops Q S (fuel+1) listed a w:=
 tkY i d hi hd hs hf hr hQ hw hy hS h
theorem tN(i d:Nat){oi:Oper}{fuel:Nat}{listed:Array Bool}{a:Act}{w:World}
  (h:wpAnyH P md ops Q S fuel (listed.setIfInBounds i true) (a.put (some d) undef) w)
  (hi:ops[i]? = some oi:=by exact rfl) (hd:oi.dst=some d:=by exact rfl) (hs:Region.noSelect ops=true:=by kernel_rfl) (hf:Region.free md ops listed i=true:=by kernel_rfl) (hr:(Region.ready md ops listed).contains i=true:=by kernel_rfl)
  (hQ:∀c a w,Q (.panic c) (a.put oi.dst undef) w→Q (.panic c) a w:=by exact fun _ _ _ h=>h) (hw:Region.wanted oi (yielded ops a.tmps)=false:=by kernel_rfl) (hS:S w:=by assumption):wpAnyH P md ops Q S (fuel+1) listed a w:=
 tkN i d hi hd hs hf hr hQ hw hS h
/-- Which operation it is. -/
inductive Tag (i:Nat):Prop|mk
theorem Q1(i:Nat){oi:Oper}{fuel:Nat}{listed:Array Bool}{a:Act}{w:World}
  (hi:Tag i→∀K':Act→World→Prop,Shut (∀a w,S w→(S w→wpAnyH P md ops Q S fuel (listed.setIfInBounds i true) a w)→K' a w)→if Region.wanted oi (yielded ops a.tmps)=true then Oper.wp P oi a w K' Q else K' (a.put oi.dst undef) w)
  (hr:Region.ready md ops listed = [i]:=by kernel_rfl) (ei:ops[i]? = some oi:=by exact rfl):wpAnyH P md ops Q S (fuel+1) listed a w:=
 wpAnyH_ready hr (by simp) (AllReadyH.cons ei (hi ⟨⟩) AllReadyH.nil)
theorem Q2(i j:Nat){oi oj:Oper}{fuel:Nat}{listed:Array Bool}{a:Act}{w:World}
  (hi:Tag i→∀K':Act→World→Prop,Shut (∀a w,S w→(S w→wpAnyH P md ops Q S fuel (listed.setIfInBounds i true) a w)→K' a w)→if Region.wanted oi (yielded ops a.tmps)=true then Oper.wp P oi a w K' Q else K' (a.put oi.dst undef) w)
  (hj:Tag j→∀K':Act→World→Prop,Shut (∀a w,S w→(S w→wpAnyH P md ops Q S fuel (listed.setIfInBounds j true) a w)→K' a w)→if Region.wanted oj (yielded ops a.tmps)=true then Oper.wp P oj a w K' Q else K' (a.put oj.dst undef) w)
  (hr:Region.ready md ops listed = [i,j]:=by kernel_rfl) (ei:ops[i]? = some oi:=by exact rfl) (ej:ops[j]? = some oj:=by exact rfl):wpAnyH P md ops Q S (fuel+1) listed a w:=
 wpAnyH_ready hr (by simp) (AllReadyH.cons ei (hi ⟨⟩) (AllReadyH.cons ej (hj ⟨⟩) AllReadyH.nil))
theorem Q3(i j k:Nat){oi oj ok:Oper}{fuel:Nat}{listed:Array Bool}{a:Act}{w:World}
  (hi:Tag i→∀K':Act→World→Prop,Shut (∀a w,S w→(S w→wpAnyH P md ops Q S fuel (listed.setIfInBounds i true) a w)→K' a w)→if Region.wanted oi (yielded ops a.tmps)=true then Oper.wp P oi a w K' Q else K' (a.put oi.dst undef) w)
  (hj:Tag j→∀K':Act→World→Prop,Shut (∀a w,S w→(S w→wpAnyH P md ops Q S fuel (listed.setIfInBounds j true) a w)→K' a w)→if Region.wanted oj (yielded ops a.tmps)=true then Oper.wp P oj a w K' Q else K' (a.put oj.dst undef) w)
  (hk:Tag k→∀K':Act→World→Prop,Shut (∀a w,S w→(S w→wpAnyH P md ops Q S fuel (listed.setIfInBounds k true) a w)→K' a w)→if Region.wanted ok (yielded ops a.tmps)=true then Oper.wp P ok a w K' Q else K' (a.put ok.dst undef) w)
  (hr:Region.ready md ops listed = [i,j,k]:=by kernel_rfl) (ei:ops[i]? = some oi:=by exact rfl) (ej:ops[j]? = some oj:=by exact rfl) (ek:ops[k]? = some ok:=by exact rfl):wpAnyH P md ops Q S (fuel+1) listed a w:=
 wpAnyH_ready hr (by simp) (AllReadyH.cons ei (hi ⟨⟩) (AllReadyH.cons ej (hj ⟨⟩) (AllReadyH.cons ek (hk ⟨⟩) AllReadyH.nil)))
theorem Q4(i j k l:Nat){oi oj ok ol:Oper}{fuel:Nat}{listed:Array Bool}{a:Act}{w:World}
  (hi:Tag i→∀K':Act→World→Prop,Shut (∀a w,S w→(S w→wpAnyH P md ops Q S fuel (listed.setIfInBounds i true) a w)→K' a w)→if Region.wanted oi (yielded ops a.tmps)=true then Oper.wp P oi a w K' Q else K' (a.put oi.dst undef) w)
  (hj:Tag j→∀K':Act→World→Prop,Shut (∀a w,S w→(S w→wpAnyH P md ops Q S fuel (listed.setIfInBounds j true) a w)→K' a w)→if Region.wanted oj (yielded ops a.tmps)=true then Oper.wp P oj a w K' Q else K' (a.put oj.dst undef) w)
  (hk:Tag k→∀K':Act→World→Prop,Shut (∀a w,S w→(S w→wpAnyH P md ops Q S fuel (listed.setIfInBounds k true) a w)→K' a w)→if Region.wanted ok (yielded ops a.tmps)=true then Oper.wp P ok a w K' Q else K' (a.put ok.dst undef) w)
  (hl:Tag l→∀K':Act→World→Prop,Shut (∀a w,S w→(S w→wpAnyH P md ops Q S fuel (listed.setIfInBounds l true) a w)→K' a w)→if Region.wanted ol (yielded ops a.tmps)=true then Oper.wp P ol a w K' Q else K' (a.put ol.dst undef) w)
  (hr:Region.ready md ops listed = [i,j,k,l]:=by kernel_rfl) (ei:ops[i]? = some oi:=by exact rfl) (ej:ops[j]? = some oj:=by exact rfl) (ek:ops[k]? = some ok:=by exact rfl) (el:ops[l]? = some ol:=by exact rfl):wpAnyH P md ops Q S (fuel+1) listed a w:=
 wpAnyH_ready hr (by simp) (AllReadyH.cons ei (hi ⟨⟩) (AllReadyH.cons ej (hj ⟨⟩) (AllReadyH.cons ek (hk ⟨⟩) (AllReadyH.cons el (hl ⟨⟩) AllReadyH.nil))))
end
end Go.Proofs.YtfplipbkjglmhaaDoor
