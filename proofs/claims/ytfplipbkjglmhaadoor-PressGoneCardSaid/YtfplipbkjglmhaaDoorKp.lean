/-
 What a world keeps but for some blocks.
-/
import Derived.Test.YtfplipbkjglmhaaDoorKit
namespace Go.Proofs.YtfplipbkjglmhaaDoor
open Go.RowKit
set_option linter.unusedVariables false
/-- Below a number, all blocks but some are as they were. -/
structure Kp (B:Nat) (D:List Nat) (w w':World):Prop where
 os:w'.os=w.os
 tape:w'.tape=w.tape
 output:w'.output=w.output
 size:w.heap.size≤w'.heap.size
 block:∀k,k<B→k ∉ D→w'.heap[k]? = w.heap[k]?
section
variable {B B':Nat} {D D':List Nat} {a w w':World}
theorem Kp.refl(B:Nat)(D:List Nat)(w:World):Kp B D w w:=⟨rfl,rfl,rfl,Nat.le_refl _,fun _ _ _=>rfl⟩
theorem Kp.trans(h:Kp B D a w)(k:Kp B D w w'):Kp B D a w':=
 ⟨k.os.trans h.os,k.tape.trans h.tape,k.output.trans h.output,Nat.le_trans h.size k.size,fun i hi hd=>(k.block i hi hd).trans (h.block i hi hd)⟩
theorem Kp.mono(h:Kp B D a w)(hB:B'≤B)(hD:∀d,d∈D→d∈D'∨B'≤d):Kp B' D' a w:=
 ⟨h.os,h.tape,h.output,h.size,fun k hk hd=>h.block k (by omega) (fun hm=>(hD k hm).elim hd (by omega))⟩
theorem Kp.of_below(h:Below B a w):Kp B D a w:=⟨h.os,h.tape,h.output,h.size,fun k hk _=>h.block k hk⟩
theorem Kp.below(h:Kp B D a w)(hB:B'≤B)(hD:∀d,d∈D→B'≤d):Below B' a w:=
 ⟨h.os,h.tape,h.output,h.size,fun k hk=>h.block k (by omega) (fun hm=>by have:=hD k hm;omega)⟩
theorem Kp.drew(h:Kp B D a w):Kp B D a w.drew:=⟨h.os,h.tape,h.output,h.size,h.block⟩
theorem Kp.alloc(h:Kp B D a w)(hB:B≤w.heap.size)(o:Obj):Kp B D a (w.alloc o):=
 h.trans (.of_below ((Below.refl _ _).alloc hB o))
theorem Kp.set(h:Kp B D a w){p:Addr}(hp:p.block∈D∨B≤p.block)(u:Value):Kp B D a (w.setCell p u):=by
 refine h.trans ⟨rfl,rfl,rfl,by simp,fun k hk hd=>Below.heap_setCell w p u k (fun e=>?_)⟩;subst e;rcases hp with h|h
 ·exact hd h
 ·omega
theorem Kp.call(h:Kp B D a w)(hB:B≤w.heap.size)(hb:Below w.heap.size w w'):Kp B D a w':=h.trans (.of_below (hb.mono hB))
theorem Kp.grown{row:Option Nat}(h:Kp B D a w)(hg:w.grownBy w' row)(hB:B≤w.heap.size)(hr:∀k,row=some k→k∈D∨B≤k):Kp B D a w':=by
 refine h.trans ?_;have hx:=(Below.refl w.heap.size w).size;refine⟨?_,?_,?_,hg.size,fun k hk hd=>hg.block k (by omega) (fun e=>?_)⟩
 ·exact((Below.refl 0 w).grown hg (Nat.zero_le _) (fun _ _=>Nat.zero_le _)).os
 ·exact((Below.refl 0 w).grown hg (Nat.zero_le _) (fun _ _=>Nat.zero_le _)).tape
 ·exact((Below.refl 0 w).grown hg (Nat.zero_le _) (fun _ _=>Nat.zero_le _)).output
 ·rcases hr k e.symm with h|h
  ·exact hd h
  ·omega
theorem Kp.cell(h:Kp B D w w'){p:Addr}(hp:p.block<B)(hd:p.block ∉ D):w'.cell? p=w.cell? p:=World.cell?_of_block (w:=w) (h.block p.block hp hd)
theorem Kp.frozen(h:Kp B D w w'){p:Addr}(hp:p.block<B)(hd:p.block ∉ D):w'.frozen? p=w.frozen? p:=World.frozen?_of_block (w:=w) (h.block p.block hp hd)
end
theorem keepO{w z:World}{b:Nat}{o:Obj}(hb:Below w.heap.size w z)(hO:w.heap[b]? = some o):z.heap[b]? = some o:=(hb.block b (Array.getElem?_eq_some_iff.1 hO).1).trans hO
theorem two_facts{x:World}{b:Nat}{c0 c1:Value}{t:TypeId}(h:x.heap[b]? = some (.cells #[c0,c1] t (0,0))) :
  x.cell? ⟨b,0,none⟩=some c0∧x.cell? ⟨b,1,none⟩=some c1∧x.frozen? ⟨b,0,none⟩=false∧x.frozen? ⟨b,1,none⟩=false:=
 ⟨by simp[World.cell?,h],by simp[World.cell?,h],by simp[World.frozen?,h],by simp[World.frozen?,h]⟩
theorem set_two(y:World)(b:Nat)(t:TypeId)(v0 v1 c0 c1:Value)(h:y.heap[b]? = some (.cells #[c0,c1] t (0,0))):((y.setCell ⟨b,0,none⟩ v0).setCell ⟨b,1,none⟩ v1).heap[b]? = some (.cells #[v0,v1] t (0,0)):=by
 simp[World.setCell,Array.getElem?_modify,h]
end Go.Proofs.YtfplipbkjglmhaaDoor
