/-
 The verifier's own small functions: the chapter's press with other ounces of a weighing, whether numbers are these, all weights of a pressing.
-/
import Derived.Test.YtfplipbkjglmhaaDoorTk
import Derived.Test.YtfplipbkjglmhaaDoorTq
import Derived.Test.YtfplipbkjglmhaaDoorStd
import Derived.Test.YtfplipbkjglmhaaDoorApp0
import Derived.Test.YtfplipbkjglmhaaDoorSmW
import Derived.Test.YtfplipbkjglmhaaDoorFir
namespace Go.Proofs.YtfplipbkjglmhaaDoor
open Go.RowKit
set_option linter.unusedVariables false
set_option linter.unusedSimpArgs false
def mlP:List PR:=[(1,4,1,3),(2,4,2,3),(3,6,1,0)]
def mlA:List WE:=[(1,1,1,1000,1000),(2,1,2,290,310),(3,1,3,500,520),(4,1,4,40,50),(5,1,5,30,60),(6,2,1,600,600),(7,2,2,170,180),(8,2,3,300,310),(9,2,4,20,30),(10,2,5,20,40),(11,3,1,0,0),(12,3,2,30,40),(13,3,3,70,90),(14,3,4,5,10),(15,3,5,0,10)]
def mlB:List WE:=[(1,1,1,1000,1000),(2,1,2,290,310),(3,1,3,500,520),(4,1,4,40,50),(5,1,5,30,60),(6,2,1,600,600),(7,2,2,170,180),(8,2,3,300,310),(9,2,4,20,30),(10,2,5,20,40),(11,3,1,0,0),(12,3,2,30,40),(13,3,3,10,20),(14,3,4,5,10),(15,3,5,0,10)]
def mlC:List WE:=[(1,1,1,1000,1000),(2,1,2,290,310),(3,1,3,500,520),(4,1,4,40,50),(5,1,5,30,60),(6,2,1,600,600),(7,2,2,170,180),(8,2,3,300,310),(9,2,4,20,30),(10,2,5,20,40),(11,3,1,0,0),(12,3,2,30,400),(13,3,3,70,90),(14,3,4,5,10),(15,3,5,0,10)]
theorem rd_cel{w:World}{b size n:Nat}{cs:Array Value}{t:TypeId}(h:w.heap[b]? = some (.cells cs t (0,0)))(hs:cs.size=n*size):Reads w w.heap.size size (some ⟨b,0,none⟩) n cs.toList:=by
 refine⟨by simp[hs],fun _=>⟨b,0,rfl,(Array.getElem?_eq_some_iff.1 h).1,fun j u hu=>?_⟩⟩;have hu':cs[j]? = some u:=by simpa using hu
 simp[World.cell?,h,hu']
theorem wgc_one(x:WE):∀u∈wgc x,u.oneCell'=true:=by
 intro u hu;simp[wgc] at hu;rcases hu with rfl|rfl|rfl|rfl|rfl<;>rfl
theorem info_wgt:(Tryd.prog.info? 81).map (fun i=>(i.zero,i.size,i.bytes))=some (some (.agg #[.int .i64 0,.int .i64 0,.int .i64 0,.int .i64 0,.int .i64 0]),5,40):=by kernel_rfl
set_option maxRecDepth 100000 in
theorem span_mk(L H:Int)(w:World):Calls Tryd.prog 43 #[.int .i64 L,.int .i64 H] w fun e w'=>e = .returned (.agg #[.int .i64 L,.int .i64 H])∧Below w.heap.size w w':=by
 go_enter Tryd.func43,Tryd.ntmps43
 go_wp2;have hO:=heap_alloc_new w (.cells #[.int .i64 L,.int .i64 H] 36);obtain⟨c1,c2,-,-⟩:=two_facts hO;exact bodyPost_ret (v:=.agg #[.int .i64 L,.int .i64 H]) (by simp[results,Tryd.results43,go_sem,c1,c2]) rfl ⟨rfl,(Below.refl _ _).alloc (Nat.le_refl _) _⟩
set_option maxRecDepth 100000 in
theorem part_mk(L H:Int)(w:World):Calls Tryd.prog 46 #[.int .i64 L,.int .i64 H] w fun e w'=>e = .returned (.agg #[.int .i64 L,.int .i64 H])∧Below w.heap.size w w':=by
 go_enter Tryd.func46,Tryd.ntmps46
 go_wp2;have hO:=heap_alloc_new w (.cells #[.int .i64 L,.int .i64 H] 68);obtain⟨c1,c2,-,-⟩:=two_facts hO;exact bodyPost_ret (v:=.agg #[.int .i64 L,.int .i64 H]) (by simp[results,Tryd.results46,go_sem,c1,c2]) rfl ⟨rfl,(Below.refl _ _).alloc (Nat.le_refl _) _⟩
theorem facts5'{x:World}{b:Nat}{c0 c1 c2 c3 c4:Value}{t:TypeId}(h:x.heap[b]? = some (.cells #[c0,c1,c2,c3,c4] t (0,0))) :
  x.cell? ⟨b,0,none⟩=some c0∧x.cell? ⟨b,1,none⟩=some c1∧x.cell? ⟨b,2,none⟩=some c2∧x.cell? ⟨b,3,none⟩=some c3∧x.cell? ⟨b,4,none⟩=some c4∧
  x.frozen? ⟨b,0,none⟩=false∧x.frozen? ⟨b,1,none⟩=false∧x.frozen? ⟨b,2,none⟩=false∧x.frozen? ⟨b,3,none⟩=false∧x.frozen? ⟨b,4,none⟩=false:=by
 refine⟨?_,?_,?_,?_,?_,?_,?_,?_,?_,?_⟩<;>first|simp[World.cell?,h]|simp[World.frozen?,h]
theorem set5'(y:World)(b:Nat)(t:TypeId)(v0 v1 v2 v3 v4 c0 c1 c2 c3 c4:Value)(h:y.heap[b]? = some (.cells #[c0,c1,c2,c3,c4] t (0,0))) :
  (((((y.setCell ⟨b,0,none⟩ v0).setCell ⟨b,1,none⟩ v1).setCell ⟨b,2,none⟩ v2).setCell ⟨b,3,none⟩ v3).setCell ⟨b,4,none⟩ v4).heap[b]? = some (.cells #[v0,v1,v2,v3,v4] t (0,0)):=by
 simp[World.setCell,Array.getElem?_modify,h]
set_option maxRecDepth 100000 in
theorem weighing_any(N P K L H:Int)(w:World):Calls Tryd.prog 48 #[.int .i64 N,.int .i64 P,.int .i64 K,.int .i64 L,.int .i64 H] w fun e w'=>e = .returned (.agg #[.int .i64 N,.int .i64 P,.int .i64 K,.int .i64 L,.int .i64 H])∧Below w.heap.size w w':=by
 have hO0:=heap_alloc_new w (.cells #[.int .i64 0,.int .i64 0,.int .i64 0,.int .i64 0,.int .i64 0] 81);have hb0:Hid (Below w.heap.size w (w.alloc (.cells #[.int .i64 0,.int .i64 0,.int .i64 0,.int .i64 0,.int .i64 0] 81))):=(Below.refl _ _).alloc (Nat.le_refl _) _;have hO:=Lib.hid hO0;clear hO0
 go_enter Tryd.func48,Tryd.ntmps48
 go_wp2_with fail
 refine(span_mk L H _).mono ?_;rintro e z ⟨rfl,hb⟩;have hOz:=keepO hb hO.out;have hBz:=Lib.hid (below_via hb0.out hb0.out.size hb);clear hb hO hb0;obtain⟨c0,c1,c2,c3,c4,f0,f1,f2,f3,f4⟩:=facts5' hOz;have hO':=Lib.hid (set5' z w.heap.size _ (.int .i64 N) (.int .i64 P) (.int .i64 K) (.int .i64 L) (.int .i64 H) _ _ _ _ _ hOz)
 have hB':Hid (Below w.heap.size w (((((z.setCell ⟨w.heap.size,0,none⟩ (.int .i64 N)).setCell ⟨w.heap.size,1,none⟩ (.int .i64 P)).setCell ⟨w.heap.size,2,none⟩ (.int .i64 K)).setCell ⟨w.heap.size,3,none⟩ (.int .i64 L)).setCell ⟨w.heap.size,4,none⟩ (.int .i64 H))):=
  ((((hBz.out.setCell (Nat.le_refl _) _).setCell (Nat.le_refl _) _).setCell (Nat.le_refl _) _).setCell (Nat.le_refl _) _).setCell (Nat.le_refl _) _
 clear hOz hBz;go_wp2;obtain⟨k0,k1,k2,k3,k4,-⟩:=facts5' hO'.out;exact bodyPost_ret (v:=.agg #[.int .i64 N,.int .i64 P,.int .i64 K,.int .i64 L,.int .i64 H]) (by simp[results,Tryd.results48,go_sem,k0,k1,k2,k3,k4]) rfl ⟨rfl,hB'.out⟩
/-- While the mill is made: k weighings are in its row. -/
structure ML (w:World) (v:Value) (k:Nat) (z:World):Prop where
 b0:z.heap[w.heap.size]? = some (.cells #[.slice none 0 0,.slice none 0 0] 25 (0,0))
 b1:z.heap[w.heap.size+1]? = some (.cells #[.int .i64 1,.int .i64 4,.int .i64 1,.int .i64 3,.int .i64 2,.int .i64 4,.int .i64 2,.int .i64 3,.int .i64 3,.int .i64 6,.int .i64 1,.int .i64 0] 51 (0,0))
 b2:z.heap[w.heap.size+1+1]? = some (.cells #[.slice (some ⟨w.heap.size+1,0,none⟩) 3 3,v] 25 (0,0))
 b3:z.heap[w.heap.size+1+1+1]? = some (.cells #[.int .i64 1000,.int .i64 1000,.int .i64 290,.int .i64 310,.int .i64 500,.int .i64 520,.int .i64 40,.int .i64 50,.int .i64 30,.int .i64 60,.int .i64 600,.int .i64 600,.int .i64 170,.int .i64 180,.int .i64 300,.int .i64 310,.int .i64 20,.int .i64 30,.int .i64 20,.int .i64 40,.int .i64 0,.int .i64 0,.int .i64 30,.int .i64 40,.int .i64 70,.int .i64 90,.int .i64 5,.int .i64 10,.int .i64 0,.int .i64 10] 147 (0,0))
 own:z.ownsRow (w.heap.size+4) 81 5 v k (wgs (mlA.take k))
 bel:Below w.heap.size w z
section
variable {w z y:World} {v:Value} {k:Nat}
theorem ML.sz(h:ML w v k z):w.heap.size+4≤z.heap.size:=(Array.getElem?_eq_some_iff.1 h.b3).1
theorem ML.below(h:ML w v k z)(hb:Below z.heap.size z y):ML w v k y:=⟨keepO hb h.b0,keepO hb h.b1,keepO hb h.b2,keepO hb h.b3,ownR_block h.own fun q hq=>hb.block q (ownR_lt h.own hq).2,below_via h.bel h.bel.size hb⟩
theorem ML.drew(h:ML w v k z):ML w v k z.drew:=h.below (Below.refl _ _).drew
theorem ML.grew(h:ML w v k z)(hg:z.grownBy y v.ownBlock):y.cell? ⟨w.heap.size+1+1,1,none⟩=some v∧y.frozen? ⟨w.heap.size+1+1,1,none⟩=false:=by
 have hm:y.heap[w.heap.size+1+1]? = _:=(hg.block _ (by have:=h.sz;omega) (fun e=>by have:=(ownR_lt h.own e.symm).1;omega)).trans h.b2;exact⟨by simp[World.cell?,hm],by simp[World.frozen?,hm]⟩
theorem ML.app{v':Value}{L H:Int}(h:ML w v k z)(hx:mlA[k]? = some ((k:Int)+1,1+(k:Int)/5,1+(k:Int)%5,L,H))
  (ho:y.ownsRow (w.heap.size+4) 81 5 v' (k+1) (wgs (mlA.take k)++wgc ((k:Int)+1,1+(k:Int)/5,1+(k:Int)%5,L,H))) (hg:z.grownBy y v.ownBlock):ML w v' (k+1) (y.setCell ⟨w.heap.size+1+1,1,none⟩ v'):=by
 have hz:=h.sz;have hno:∀q,q<w.heap.size+4→¬v.ownBlock=some q:=fun q hq e=>by have:=(ownR_lt h.own e).1;omega
 have g (q:Nat) (hq:q<w.heap.size+4):y.heap[q]? = z.heap[q]?:=hg.block _ (by omega) (fun e=>hno _ hq e.symm);refine⟨?_,?_,?_,?_,ownR_block (w:=y) ?_ fun q hq=>?_,?_⟩
 ·rw[Below.heap_setCell _ _ _ _ (by simp only;omega)];exact(g _ (by omega)).trans h.b0
 ·rw[Below.heap_setCell _ _ _ _ (by simp only;omega)];exact(g _ (by omega)).trans h.b1
 ·have hm:=(g (w.heap.size+1+1) (by omega)).trans h.b2;simp[World.setCell,Array.getElem?_modify,hm]
 ·rw[Below.heap_setCell _ _ _ _ (by simp only;omega)];exact(g _ (by omega)).trans h.b3
 ·rw[List.take_add_one,hx];simpa [wgs] using ho
 ·have:=(ownR_lt ho hq).1;exact Below.heap_setCell _ _ _ _ (by simp only;omega)
 ·exact(h.bel.grown hg h.bel.size (fun q hq=>by have:=(ownR_lt h.own hq).1;omega)).setCell (by simp only;omega) _
theorem ML.start:ML w (.slice none 0 0) 0 ((((w.alloc (.cells #[.slice none 0 0,.slice none 0 0] 25)).alloc (.cells #[.int .i64 1,.int .i64 4,.int .i64 1,.int .i64 3,.int .i64 2,.int .i64 4,.int .i64 2,.int .i64 3,.int .i64 3,.int .i64 6,.int .i64 1,.int .i64 0] 51)).alloc (.cells #[.slice (some ⟨w.heap.size+1,0,none⟩) 3 3,.slice none 0 0] 25)).alloc (.cells #[.int .i64 1000,.int .i64 1000,.int .i64 290,.int .i64 310,.int .i64 500,.int .i64 520,.int .i64 40,.int .i64 50,.int .i64 30,.int .i64 60,.int .i64 600,.int .i64 600,.int .i64 170,.int .i64 180,.int .i64 300,.int .i64 310,.int .i64 20,.int .i64 30,.int .i64 20,.int .i64 40,.int .i64 0,.int .i64 0,.int .i64 30,.int .i64 40,.int .i64 70,.int .i64 90,.int .i64 5,.int .i64 10,.int .i64 0,.int .i64 10] 147)):=by
 have s1:(w.alloc (.cells #[.slice none 0 0,.slice none 0 0] 25)).heap.size=w.heap.size+1:=by simp
 have s2:((w.alloc (.cells #[.slice none 0 0,.slice none 0 0] 25)).alloc (.cells #[.int .i64 1,.int .i64 4,.int .i64 1,.int .i64 3,.int .i64 2,.int .i64 4,.int .i64 2,.int .i64 3,.int .i64 3,.int .i64 6,.int .i64 1,.int .i64 0] 51)).heap.size=w.heap.size+1+1:=by simp
 have s3:(((w.alloc (.cells #[.slice none 0 0,.slice none 0 0] 25)).alloc (.cells #[.int .i64 1,.int .i64 4,.int .i64 1,.int .i64 3,.int .i64 2,.int .i64 4,.int .i64 2,.int .i64 3,.int .i64 3,.int .i64 6,.int .i64 1,.int .i64 0] 51)).alloc (.cells #[.slice (some ⟨w.heap.size+1,0,none⟩) 3 3,.slice none 0 0] 25)).heap.size=w.heap.size+1+1+1:=by simp
 have a0:=heap_alloc_new w (.cells #[.slice none 0 0,.slice none 0 0] 25);have a1:=heap_alloc_new (w.alloc (.cells #[.slice none 0 0,.slice none 0 0] 25)) (.cells #[.int .i64 1,.int .i64 4,.int .i64 1,.int .i64 3,.int .i64 2,.int .i64 4,.int .i64 2,.int .i64 3,.int .i64 3,.int .i64 6,.int .i64 1,.int .i64 0] 51);have a2:=heap_alloc_new ((w.alloc (.cells #[.slice none 0 0,.slice none 0 0] 25)).alloc (.cells #[.int .i64 1,.int .i64 4,.int .i64 1,.int .i64 3,.int .i64 2,.int .i64 4,.int .i64 2,.int .i64 3,.int .i64 3,.int .i64 6,.int .i64 1,.int .i64 0] 51)) (.cells #[.slice (some ⟨w.heap.size+1,0,none⟩) 3 3,.slice none 0 0] 25);have a3:=heap_alloc_new (((w.alloc (.cells #[.slice none 0 0,.slice none 0 0] 25)).alloc (.cells #[.int .i64 1,.int .i64 4,.int .i64 1,.int .i64 3,.int .i64 2,.int .i64 4,.int .i64 2,.int .i64 3,.int .i64 3,.int .i64 6,.int .i64 1,.int .i64 0] 51)).alloc (.cells #[.slice (some ⟨w.heap.size+1,0,none⟩) 3 3,.slice none 0 0] 25)) (.cells #[.int .i64 1000,.int .i64 1000,.int .i64 290,.int .i64 310,.int .i64 500,.int .i64 520,.int .i64 40,.int .i64 50,.int .i64 30,.int .i64 60,.int .i64 600,.int .i64 600,.int .i64 170,.int .i64 180,.int .i64 300,.int .i64 310,.int .i64 20,.int .i64 30,.int .i64 20,.int .i64 40,.int .i64 0,.int .i64 0,.int .i64 30,.int .i64 40,.int .i64 70,.int .i64 90,.int .i64 5,.int .i64 10,.int .i64 0,.int .i64 10] 147)
 rw[s1] at a1;rw[s2] at a2;rw[s3] at a3;refine⟨?_,?_,?_,a3,World.ownsRow_nil _ _ _ _,((((Below.refl _ _).alloc (Nat.le_refl _) _).alloc (by simp) _).alloc (by simp<;>omega) _).alloc (by simp<;>omega) _⟩
 ·rw[heap_lt_alloc' _ _ _ (by simp<;>omega),heap_lt_alloc' _ _ _ (by simp<;>omega),heap_lt_alloc' _ _ _ (by simp)];exact a0
 ·rw[heap_lt_alloc' _ _ _ (by simp<;>omega),heap_lt_alloc' _ _ _ (by simp)];exact a1
 ·rw[heap_lt_alloc' _ _ _ (by simp)];exact a2
end
theorem mlA_at{k:Nat}(hk:k<15):∃L H,mlA[k]? = some ((k:Int)+1,1+(k:Int)/5,1+(k:Int)%5,L,H)∧#[.int .i64 1000,.int .i64 1000,.int .i64 290,.int .i64 310,.int .i64 500,.int .i64 520,.int .i64 40,.int .i64 50,.int .i64 30,.int .i64 60,.int .i64 600,.int .i64 600,.int .i64 170,.int .i64 180,.int .i64 300,.int .i64 310,.int .i64 20,.int .i64 30,.int .i64 20,.int .i64 40,.int .i64 0,.int .i64 0,.int .i64 30,.int .i64 40,.int .i64 70,.int .i64 90,.int .i64 5,.int .i64 10,.int .i64 0,.int .i64 10][k*2]? = some (Value.int .i64 L)∧#[.int .i64 1000,.int .i64 1000,.int .i64 290,.int .i64 310,.int .i64 500,.int .i64 520,.int .i64 40,.int .i64 50,.int .i64 30,.int .i64 60,.int .i64 600,.int .i64 600,.int .i64 170,.int .i64 180,.int .i64 300,.int .i64 310,.int .i64 20,.int .i64 30,.int .i64 20,.int .i64 40,.int .i64 0,.int .i64 0,.int .i64 30,.int .i64 40,.int .i64 70,.int .i64 90,.int .i64 5,.int .i64 10,.int .i64 0,.int .i64 10][k*2+1]? = some (Value.int .i64 H):=by
 rcases (by omega:k=0∨k=1∨k=2∨k=3∨k=4∨k=5∨k=6∨k=7∨k=8∨k=9∨k=10∨k=11∨k=12∨k=13∨k=14) with rfl|rfl|rfl|rfl|rfl|rfl|rfl|rfl|rfl|rfl|rfl|rfl|rfl|rfl|rfl
 all_goals exact⟨_,_,rfl,rfl,rfl⟩
set_option maxRecDepth 100000 in
set_option maxHeartbeats 4000000 in
theorem mill_any(w:World):Calls Tryd.prog 45 #[] w fun e w'=>(∃p A2 c2,e = .returned (.agg #[.slice (some ⟨p,0,none⟩) 3 3,.slice A2 15 c2])∧w.heap.size≤p∧w'.heap[p]? = some (.cells #[.int .i64 1,.int .i64 4,.int .i64 1,.int .i64 3,.int .i64 2,.int .i64 4,.int .i64 2,.int .i64 3,.int .i64 3,.int .i64 6,.int .i64 1,.int .i64 0] 51 (0,0))∧w'.ownsRow w.heap.size 81 5 (.slice A2 15 c2) 15 (wgs mlA))∧Below w.heap.size w w':=by
 obtain⟨iw,hiw,hw0,hw1,hw2⟩:=info_parts info_wgt;have hS0:=Lib.hid (ML.start (w:=w))
 go_enter Tryd.func45,Tryd.ntmps45
 go_wp2_with fail
 generalize ((((w.alloc (.cells #[.slice none 0 0,.slice none 0 0] 25)).alloc (.cells #[.int .i64 1,.int .i64 4,.int .i64 1,.int .i64 3,.int .i64 2,.int .i64 4,.int .i64 2,.int .i64 3,.int .i64 3,.int .i64 6,.int .i64 1,.int .i64 0] 51)).alloc (.cells #[.slice (some ⟨w.heap.size+1,0,none⟩) 3 3,.slice none 0 0] 25)).alloc (.cells #[.int .i64 1000,.int .i64 1000,.int .i64 290,.int .i64 310,.int .i64 500,.int .i64 520,.int .i64 40,.int .i64 50,.int .i64 30,.int .i64 60,.int .i64 600,.int .i64 600,.int .i64 170,.int .i64 180,.int .i64 300,.int .i64 310,.int .i64 20,.int .i64 30,.int .i64 20,.int .i64 40,.int .i64 0,.int .i64 0,.int .i64 30,.int .i64 40,.int .i64 70,.int .i64 90,.int .i64 5,.int .i64 10,.int .i64 0,.int .i64 10] 147))=wb at *;go_loopw [26] (fun x wr=>∃k:Nat,k≤15∧x = .int .i64 k∧∃v,Hid (ML w v k wr)) (fun x _=>15 - (intOf x).toNat)
 case atStart=>exact⟨0,by omega,rfl,_,hS0⟩
 case round=>
  clear hS0;obtain⟨k,hk,rfl,v,hCr⟩:=hrel;by_cases hlt:k<15
  ·have hki:(k:Int)<15:=(by omega);have k0:(0:Int)≤(k:Int):=(by omega);have hki':(k:Int)<((15:Nat):Int):=(by omega);obtain⟨L,H,hx,hX0,hX1⟩:=mlA_at hlt;have x0:wr.cell? ⟨w.heap.size+1+1+1,k*2,none⟩=some (.int .i64 L):=(by have:=hCr.out.b3;simp only[World.cell?,this];simpa using hX0);have x1:wr.cell? ⟨w.heap.size+1+1+1,k*2+1,none⟩=some (.int .i64 H):=(by have:=hCr.out.b3;simp only[World.cell?,this];simpa using hX1);obtain⟨wq,hwq⟩:∃wq,wq=wr.alloc (.cells #[.int .i64 L,.int .i64 H] 147):=⟨_,rfl⟩;have hXB0:=heap_alloc_new wr (.cells #[.int .i64 L,.int .i64 H] 147);have hC0:=hCr.out.below ((Below.refl wr.heap.size wr).alloc (Nat.le_refl _) (.cells #[.int .i64 L,.int .i64 H] 147));rw[←hwq] at hXB0 hC0;have hwqh:=Lib.hid hwq;have hXh:=Lib.hid hXB0;have hCh:=Lib.hid hC0;have hxh:=Lib.hid hx;have hxz:=Lib.hid hCr.out.sz;have q1:Int.tdiv (k:Int) 5=(k:Int)/5:=Int.tdiv_eq_ediv_of_nonneg k0;have q2:Int.tmod (k:Int) 5=(k:Int)%5:=Int.tmod_eq_emod_of_nonneg k0;have y1:IntKind.i64.wrap ((k:Int)+1)=(k:Int)+1:=IntWalk.i64_in _ (by omega);have y2:IntKind.i64.wrap (1+(k:Int)/5)=1+(k:Int)/5:=IntWalk.i64_in _ (by omega);have y3:IntKind.i64.wrap (1+(k:Int)%5)=1+(k:Int)%5:=IntWalk.i64_in _ (by omega);have y4:IntKind.i64.wrap ((k:Int)/5)=(k:Int)/5:=IntWalk.i64_in _ (by omega);have y5:IntKind.i64.wrap ((k:Int)%5)=(k:Int)%5:=IntWalk.i64_in _ (by omega);clear hCr hX0 hX1 hwq hXB0 hC0 hx;(go_wp2_with fail);rw[←hwqh.out];clear hwqh x0 x1;have hC:=hCh.out;have hXB:=hXh.out;have hx:=hxh.out
   clear hCh hXh hxh;have hxb:w.heap.size+4≤wr.heap.size:=hxz.out;clear hxz;generalize wr.heap.size=xb at *;obtain⟨S,hSd⟩:∃S:World→Prop,S=fun z=>z.cell? ⟨xb,0,none⟩=some (.int .i64 L)∧z.cell? ⟨xb,1,none⟩=some (.int .i64 H):=⟨_,rfl⟩;refine wp_region_held_drew (S:=S) (by kernel_rfl) ?_ (fun hHeld=>?_)
   ·rw[hSd];have hXB:=keepO (Below.refl wq.heap.size wq).drew hXB;exact⟨(two_facts hXB).1,(two_facts hXB).2.1⟩
   have hKyd:Hid (Kp wq.heap.size [] wq wq.drew):=Lib.hid (Kp.refl _ _ _).drew;have hSyd:wq.heap.size≤wq.drew.heap.size:=Nat.le_refl _;have hXB:=keepO (Below.refl wq.heap.size wq).drew hXB;have hC:=hC.drew;generalize wq.drew=yd at *;refine tY (v:=?_) 0 31 ?_ ?_;rotate_left
   ·intro w hSw;rw[hSd] at hSw;obtain⟨x0,x1⟩:=hSw;go_simp;(try with_reducible rfl)
   (try simp only[N0]);refine tY (v:=?_) 2 33 ?_ ?_;rotate_left
   ·intro w hSw;rw[hSd] at hSw;obtain⟨x0,x1⟩:=hSw;go_simp;(try with_reducible rfl)
   (try simp only[N0]);refine tY (v:=?_) 3 34 ?_ ?_;rotate_left
   ·intro w hSw;rw[hSd] at hSw;obtain⟨x0,x1⟩:=hSw;go_simp;(try with_reducible rfl)
   (try simp only[N0]);refine tY (v:=?_) 4 35 ?_ ?_;rotate_left
   ·intro w hSw;rw[hSd] at hSw;obtain⟨x0,x1⟩:=hSw;go_simp;(try with_reducible rfl)
   (try simp only[N0]);refine tY (v:=?_) 5 36 ?_ ?_;rotate_left
   ·intro w hSw;rw[hSd] at hSw;obtain⟨x0,x1⟩:=hSw;go_simp;(try with_reducible rfl)
   (try simp only[N0]);refine tY (v:=?_) 6 37 ?_ ?_;rotate_left
   ·intro w hSw;rw[hSd] at hSw;obtain⟨x0,x1⟩:=hSw;go_simp;(try with_reducible rfl)
   (try simp only[N0]);refine tY (v:=?_) 7 38 ?_ ?_;rotate_left
   ·intro w hSw;rw[hSd] at hSw;obtain⟨x0,x1⟩:=hSw;go_simp;(try with_reducible rfl)
   (try simp only[N0]);refine tY (v:=?_) 8 39 ?_ ?_;rotate_left
   ·intro w hSw;rw[hSd] at hSw;obtain⟨x0,x1⟩:=hSw;go_simp;(try with_reducible rfl)
   (try simp only[N0]);refine tY (v:=?_) 9 40 ?_ ?_;rotate_left
   ·intro w hSw;rw[hSd] at hSw;obtain⟨x0,x1⟩:=hSw;go_simp;(try with_reducible rfl)
   (try simp only[N0]);refine tY (v:=?_) 10 41 ?_ ?_;rotate_left
   ·intro w hSw;rw[hSd] at hSw;obtain⟨x0,x1⟩:=hSw;go_simp;(try with_reducible rfl)
   (try simp only[N0]);refine tY (v:=?_) 11 42 ?_ ?_;rotate_left
   ·intro w hSw;rw[hSd] at hSw;obtain⟨x0,x1⟩:=hSw;go_simp;(try with_reducible rfl)
   (try simp only[N0]);refine tY (v:=?_) 12 43 ?_ ?_;rotate_left
   ·intro w hSw;rw[hSd] at hSw;obtain⟨x0,x1⟩:=hSw;go_simp;(try with_reducible rfl)
   (try simp only[N0]);refine tY (v:=?_) 13 44 ?_ ?_;rotate_left
   ·intro w hSw;rw[hSd] at hSw;obtain⟨x0,x1⟩:=hSw;go_simp;(try with_reducible rfl)
   try simp only[N0]
   iterate 6
    all_goals first
     |refine U2 1 14 ?_ ?_
     |refine U1 14 ?_
     |refine U2 1 15 ?_ ?_
     |refine U1 15 ?_
     |refine U1 1 ?_
     |refine U1 16 ?_
     |refine U1 17 ?_
     |refine U1 18 ?_
    all_goals first
     |intro (t:Tag 1) Kq hK
      clear t;obtain⟨p0,p1,-,-⟩:=two_facts hC.b2;go_simp;refine hK.out _ _ ?_ (fun hHeld=>?_)
      ·rw[hSd];exact⟨(two_facts hXB).1,(two_facts hXB).2.1⟩
      clear hK Kq;try simp only[N0]
     |intro (t:Tag 14) Kq hK
      clear t;go_simp;refine(weighing_any ((k:Int)+1) (1+(k:Int)/5) (1+(k:Int)%5) L H yd).mono ?_;rintro e yd ⟨rfl,hb⟩;replace hXB:=keepO hb hXB;replace hC:=hC.below hb;clear hb;(try go_simp);refine hK.out _ _ ?_ (fun hHeld=>?_)
      ·rw[hSd];exact⟨(two_facts hXB).1,(two_facts hXB).2.1⟩
      clear hK Kq;try simp only[N0]
     |intro (t:Tag 15) Kq hK
      clear t;go_simp;have hL:=heap_alloc_new yd (.cells #[.int .i64 ((k:Int)+1),.int .i64 (1+(k:Int)/5),.int .i64 (1+(k:Int)%5),.int .i64 L,.int .i64 H] 81);have hbA:=(Below.refl yd.heap.size yd).alloc (Nat.le_refl _) (.cells #[.int .i64 ((k:Int)+1),.int .i64 (1+(k:Int)/5),.int .i64 (1+(k:Int)%5),.int .i64 L,.int .i64 H] 81);replace hXB:=keepO hbA hXB;replace hC:=hC.below hbA;clear hbA;generalize hnb:yd.heap.size=nb at *;generalize (yd.alloc (.cells #[.int .i64 ((k:Int)+1),.int .i64 (1+(k:Int)/5),.int .i64 (1+(k:Int)%5),.int .i64 L,.int .i64 H] 81))=yd at *;clear hnb;refine hK.out _ _ ?_ (fun hHeld=>?_)
      ·rw[hSd];exact⟨(two_facts hXB).1,(two_facts hXB).2.1⟩
      clear hK Kq;try simp only[N0]
     |intro (t:Tag 16) Kq hK
      clear t;refine step_app _ rfl _ _ 23 rfl (w.heap.size+4) 81 iw _ 5 40 Tryd.underlying23 hiw hw0 hw1 hw2 rfl (by decide) v k (wgs (mlA.take k)) rfl hC.own yd.heap.size (some ⟨nb,0,none⟩) 1 1 (wgc ((k:Int)+1,1+(k:Int)/5,1+(k:Int)%5,L,H)) rfl (rd_cel hL rfl) (wgc_one _) (by unfold maxLen;omega) (by omega) hC.sz ?_;intro v' yd hown hgr hat;obtain⟨h4,g4⟩:=hC.grew hgr;replace hXB:=(hgr.block xb (Array.getElem?_eq_some_iff.1 hXB).1 (fun e=>ownR_ne hC.own hXB (by decide) xb e.symm rfl)).trans hXB;refine hK.out _ _ ?_ (fun hHeld=>?_)
      ·rw[hSd];exact⟨(two_facts hXB).1,(two_facts hXB).2.1⟩
      clear hK Kq;try simp only[N0]
     |intro (t:Tag 17) Kq hK
      clear t;go_simp;refine hK.out _ _ ?_ (fun hHeld=>?_)
      ·rw[hSd];exact⟨(two_facts hXB).1,(two_facts hXB).2.1⟩
      clear hK Kq;try simp only[N0]
     |intro (t:Tag 18) Kq hK
      clear t;obtain⟨A2,c2,rfl⟩:=ownR_val hown;go_simp;clear h4 g4;have hC':=hC.app hx hown hgr;replace hXB:=(Below.heap_setCell yd ⟨w.heap.size+1+1,1,none⟩ (.slice A2 (k+1) c2) xb (by simp only;omega)).trans hXB;generalize (yd.setCell ⟨w.heap.size+1+1,1,none⟩ (.slice A2 (k+1) c2))=yd at *;refine hK.out _ _ ?_ (fun hHeld=>?_)
      ·rw[hSd];exact⟨(two_facts hXB).1,(two_facts hXB).2.1⟩
      clear hK Kq;try simp only[N0]
   all_goals
    refine wpAnyH_done (by kernel_rfl) ?_ _;have hX:=Lib.hid hC';clear hC' hC hown hgr hat hXB hL hSd;go_wp2;go_roundw
    case rel=>exact⟨k+1,by omega,by go_num,_,hX⟩
    case measure=>simp[intOf];omega
  ·obtain rfl:k=15:=(by omega);have hC:=hCr.out;obtain⟨A2,c2,rfl⟩:=ownR_val hC.own;obtain⟨p0,p1,-,-⟩:=two_facts hC.b2;obtain⟨r0,r1,f0,f1⟩:=two_facts hC.b0;have hO':=Lib.hid (set_two wr w.heap.size _ (.slice (some ⟨w.heap.size+1,0,none⟩) 3 3) (.slice A2 15 c2) _ _ hC.b0);have hh:Hid (ML w (.slice A2 15 c2) 15 wr):=hC;clear hC hCr;go_wp2;obtain⟨k0,k1,-,-⟩:=two_facts hO'.out;have hb:=(hh.out.bel.setCell (p:=⟨w.heap.size,0,none⟩) (Nat.le_refl _) (.slice (some ⟨w.heap.size+1,0,none⟩) 3 3)).setCell (p:=⟨w.heap.size,1,none⟩) (Nat.le_refl _) (.slice A2 15 c2);have hw1:∀q,q≠w.heap.size→(((wr.setCell ⟨w.heap.size,0,none⟩ (.slice (some ⟨w.heap.size+1,0,none⟩) 3 3)).setCell ⟨w.heap.size,1,none⟩ (.slice A2 15 c2))).heap[q]? = wr.heap[q]?:=fun q hq=>heap_sets2 wr w.heap.size q _ _ hq
   exact bodyPost_ret (v:=.agg #[.slice (some ⟨w.heap.size+1,0,none⟩) 3 3,.slice A2 15 c2]) (by simp[results,Tryd.results45,go_sem,k0,k1]) rfl
    ⟨⟨_,A2,c2,rfl,by omega,(hw1 _ (by omega)).trans hh.out.b1,own_mono (ownR_block hh.out.own fun q hq=>hw1 q (by have:=(ownR_lt hh.out.own hq).1;omega)) (by omega)⟩,hb⟩
end Go.Proofs.YtfplipbkjglmhaaDoor

namespace Go.Proofs.YtfplipbkjglmhaaDoor
open Go.RowKit
set_option linter.unusedVariables false
set_option linter.unusedSimpArgs false
theorem own_some{w:World}{base size n:Nat}{e:TypeId}{v:Value}{xs:List Value}(h:w.ownsRow base e size v n xs)(hn:0<n):∃g c,v = .slice (some ⟨g,0,none⟩) n c:=by
 rcases h.2 with ⟨-,h0⟩|⟨g,cap,cur,rfl,-⟩
 ·omega
 ·exact⟨g,cap,rfl⟩
theorem own_set2{w:World}{base size n i j g c:Nat}{e:TypeId}{xs:List Value}(h:w.ownsRow base e size (.slice (some ⟨g,0,none⟩) n c) n xs)(hj:j=i+1)(hi:i+1<n*size)(a b:Value) :
  (∃u,w.cell? ⟨g,i,none⟩=some u)∧(∃u,w.cell? ⟨g,j,none⟩=some u)∧w.frozen? ⟨g,i,none⟩=false∧w.frozen? ⟨g,j,none⟩=false∧
   ((w.setCell ⟨g,i,none⟩ a).setCell ⟨g,j,none⟩ b).ownsRow base e size (.slice (some ⟨g,0,none⟩) n c) n ((xs.set i a).set j b):=by
 subst hj;rcases h.2 with ⟨h0,-⟩|⟨g',cap,cur,hv,hb,hg,hc,hm,hs,ht⟩
 ·cases h0
 cases hv;have hsz:n*size≤cur.size:=by rw[hs];exact Nat.mul_le_mul_right _ hc
 refine⟨⟨cur[i]'(by omega),by simp[World.cell?,hg]⟩,⟨cur[i+1]'(by omega),by simp[World.cell?,hg]⟩,by simp[World.frozen?,hg],by simp[World.frozen?,hg],by simpa using h.1,.inr ⟨g,c,(cur.setIfInBounds i a).setIfInBounds (i+1) b,rfl,hb,?_,hc,hm,by simpa using hs,?_⟩⟩
 ·simp[World.setCell,Array.getElem?_modify,hg]
 ·rw[Array.toList_setIfInBounds,Array.toList_setIfInBounds,List.take_set,List.take_set,ht]
/-- The press that is changed, in a box; its weighings' row. -/
structure CG (w:World) (p g cg:Nat) (xs:List Value) (pb:Nat) (z:World):Prop where
 b0:z.heap[w.heap.size]? = some (.cells #[.slice none 0 0,.slice none 0 0] 25 (0,0))
 b2:z.heap[pb]? = some (.cells #[.slice (some ⟨p,0,none⟩) 3 3,.slice (some ⟨g,0,none⟩) 15 cg] 25 (0,0))
 own:z.ownsRow (w.heap.size+1) 81 5 (.slice (some ⟨g,0,none⟩) 15 cg) 15 xs
 gb:w.heap.size+1≤g
 gp:g<pb
 bel:Below w.heap.size w z
 rp:z.heap[p]? = some (.cells #[.int .i64 1,.int .i64 4,.int .i64 1,.int .i64 3,.int .i64 2,.int .i64 4,.int .i64 2,.int .i64 3,.int .i64 3,.int .i64 6,.int .i64 1,.int .i64 0] 51 (0,0))
 pg:w.heap.size+1≤p
 pp:p<pb
section
variable {w z y:World} {p g cg pb:Nat} {xs:List Value}
theorem CG.below(h:CG w p g cg xs pb z)(hb:Below z.heap.size z y):CG w p g cg xs pb y:=
 ⟨keepO hb h.b0,keepO hb h.b2,ownR_block h.own fun q hq=>hb.block q (ownR_lt h.own hq).2,h.gb,h.gp,below_via h.bel h.bel.size hb,keepO hb h.rp,h.pg,h.pp⟩
theorem CG.set2{i j:Nat}(h:CG w p g cg xs pb z)(hj:j=i+1)(hi:i+1<15*5)(a b:Value) :
  (∃u,z.cell? ⟨g,i,none⟩=some u)∧(∃u,z.cell? ⟨g,j,none⟩=some u)∧z.frozen? ⟨g,i,none⟩=false∧z.frozen? ⟨g,j,none⟩=false∧CG w p g cg ((xs.set i a).set j b) pb ((z.setCell ⟨g,i,none⟩ a).setCell ⟨g,j,none⟩ b):=by
 obtain⟨h1,h2,h3,h4,h5⟩:=own_set2 h.own hj hi a b;have hgb:=h.gb;have hgp:=h.gp;have hpg:p≠g:=ownR_ne h.own h.rp (by decide) g rfl |>.symm;have far (q:Nat) (hq:q≠g):((z.setCell ⟨g,i,none⟩ a).setCell ⟨g,j,none⟩ b).heap[q]? = z.heap[q]?:=(Below.heap_setCell _ ⟨g,j,none⟩ b q hq).trans (Below.heap_setCell z ⟨g,i,none⟩ a q hq);exact⟨h1,h2,h3,h4,(far _ (by omega)).trans h.b0,(far _ (by omega)).trans h.b2,h5,h.gb,h.gp,(h.bel.setCell (by simp only;omega) _).setCell (by simp only;omega) _,(far _ hpg).trans h.rp,h.pg,h.pp⟩
theorem CG.res{ws:List WE}(h:CG w p g cg xs pb z)(e:xs=wgs ws)(a b:Value):∃A A2 c2,Ending.returned (.agg #[.slice (some ⟨p,0,none⟩) 3 3,.slice (some ⟨g,0,none⟩) 15 cg]) = .returned (.agg #[.slice A 3 3,.slice A2 15 c2])∧
  Reads ((z.setCell ⟨w.heap.size,0,none⟩ a).setCell ⟨w.heap.size,1,none⟩ b) ((z.setCell ⟨w.heap.size,0,none⟩ a).setCell ⟨w.heap.size,1,none⟩ b).heap.size 4 A 3 (pgs mlP)∧Reads ((z.setCell ⟨w.heap.size,0,none⟩ a).setCell ⟨w.heap.size,1,none⟩ b) ((z.setCell ⟨w.heap.size,0,none⟩ a).setCell ⟨w.heap.size,1,none⟩ b).heap.size 5 A2 15 (wgs ws):=by
 have hgb:=h.gb;have hpg:=h.pg;have far (q:Nat) (hq:q≠w.heap.size):=heap_sets2 z w.heap.size q a b hq;refine⟨_,_,_,rfl,rd_cel ((far p (by omega)).trans h.rp) rfl,?_⟩;rw[←e];exact Reads.of_own (ownR_block h.own fun q hq=>far q (by have:=(ownR_lt h.own hq).1;omega))
end
set_option maxRecDepth 100000 in
set_option maxHeartbeats 4000000 in
theorem changed13(w:World):Calls Tryd.prog 49 #[.int .i64 13,.int .i64 10,.int .i64 20] w fun e w'=>(∃A A2 c2,e = .returned (.agg #[.slice A 3 3,.slice A2 15 c2])∧Reads w' w'.heap.size 4 A 3 (pgs mlP)∧Reads w' w'.heap.size 5 A2 15 (wgs mlB))∧Below w.heap.size w w':=by
 have hb0:Hid (Below w.heap.size w (w.alloc (.cells #[.slice none 0 0,.slice none 0 0] 25))):=(Below.refl _ _).alloc (Nat.le_refl _) _;have hO0:=Lib.hid (heap_alloc_new w (.cells #[.slice none 0 0,.slice none 0 0] 25))
 go_enter Tryd.func49,Tryd.ntmps49
 go_wp2_with fail
 refine(mill_any _).mono ?_;rintro e z ⟨⟨p,A2,c2,rfl,hp,hr,ho⟩,hb⟩;have hOz:=keepO hb hO0.out;have hBz:=below_via hb0.out hb0.out.size hb;have hs1:(w.alloc (.cells #[.slice none 0 0,.slice none 0 0] 25)).heap.size=w.heap.size+1:=by simp
 rw[hs1] at hp ho;obtain⟨g,cg_,hv⟩:=own_some ho (by omega);cases hv;clear hb hb0 hO0 hs1;obtain⟨wq,hwq⟩:∃wq,wq=z.alloc (.cells #[.slice (some ⟨p,0,none⟩) 3 3,.slice (some ⟨g,0,none⟩) 15 c2] 25):=⟨_,rfl⟩;have hC0:Hid (CG w p g c2 (wgs mlA) z.heap.size wq):=by
  have hbq:Below z.heap.size z wq:=(by rw[hwq];exact(Below.refl _ _).alloc (Nat.le_refl _) _);have hgz:=(ownR_lt ho (k:=g) rfl);exact⟨keepO hbq hOz,by rw[hwq];exact heap_alloc_new _ _,ownR_block ho (fun q hq=>hbq.block q (ownR_lt ho hq).2),hgz.1,hgz.2,below_via hBz hBz.size hbq,keepO hbq hr,hp,(Array.getElem?_eq_some_iff.1 hr).1⟩
 have hwqh:=Lib.hid hwq;clear hOz hBz ho hr hwq hp;obtain⟨q0,q1,-,-⟩:=two_facts hC0.out.b2;rw[hwqh.out] at q0 q1;go_wp2_with fail
 rw[←hwqh.out];clear hwqh q0 q1;have hC:=hC0.out;clear hC0;generalize z.heap.size=pb at *;obtain⟨S,hSd⟩:∃S:World→Prop,S=fun _=>True:=⟨_,rfl⟩;have y0:IntKind.i64.wrap 12=12:=IntWalk.i64_in _ (by omega);refine wp_region_held_drew (S:=S) (by kernel_rfl) ?_ (fun hHeld=>?_)
 ·rw[hSd];trivial
 have hKyd:Hid (Kp wq.heap.size [] wq wq.drew):=Lib.hid (Kp.refl _ _ _).drew;have hSyd:wq.heap.size≤wq.drew.heap.size:=Nat.le_refl _;have hC:=hC.below (Below.refl _ _).drew;generalize wq.drew=yd at *;refine tY (v:=?_) 0 9 ?_ ?_;rotate_left
 ·intro w hSw;go_simp;(try with_reducible rfl)
 try simp only[N0]
 refine tY (v:=?_) 2 11 ?_ ?_;rotate_left
 ·intro w hSw;go_simp;(try with_reducible rfl)
 try simp only[N0]
 refine tY (v:=?_) 3 12 ?_ ?_;rotate_left
 ·intro w hSw;go_simp;(try with_reducible rfl)
 try simp only[N0]
 refine tY (v:=?_) 4 13 ?_ ?_;rotate_left
 ·intro w hSw;go_simp;(try with_reducible rfl)
 try simp only[N0]
 refine tY (v:=?_) 5 14 ?_ ?_;rotate_left
 ·intro w hSw;go_simp;(try with_reducible rfl)
 try simp only[N0]
 iterate 5
  all_goals first
   |refine U2 1 6 ?_ ?_
   |refine U1 6 ?_
   |refine U1 1 ?_
   |refine U1 7 ?_
   |refine U1 8 ?_
   |refine U1 9 ?_
  all_goals first
   |intro (t:Tag 1) Kq hK
    clear t;obtain⟨p0,p1,-,-⟩:=two_facts hC.b2;go_simp;refine hK.out _ _ ?_ (fun hHeld=>?_)
    ·rw[hSd];trivial
    clear hK Kq;try simp only[N0]
   |intro (t:Tag 6) Kq hK
    clear t;go_simp;refine(span_mk 10 20 yd).mono ?_;rintro e yd ⟨rfl,hb⟩;replace hC:=hC.below hb;clear hb;(try go_simp);refine hK.out _ _ ?_ (fun hHeld=>?_)
    ·rw[hSd];trivial
    clear hK Kq;try simp only[N0]
   |intro (t:Tag 7) Kq hK
    clear t;go_simp;refine hK.out _ _ ?_ (fun hHeld=>?_)
    ·rw[hSd];trivial
    clear hK Kq;try simp only[N0]
   |intro (t:Tag 8) Kq hK
    clear t;go_simp;refine hK.out _ _ ?_ (fun hHeld=>?_)
    ·rw[hSd];trivial
    clear hK Kq;try simp only[N0]
   |intro (t:Tag 9) Kq hK
    clear t;obtain⟨⟨_,u0⟩,⟨_,u1⟩,f0,f1,hC'⟩:=hC.set2 (i:=63) (j:=64) rfl (by omega) (.int .i64 10) (.int .i64 20);go_simp;clear u0 u1 f0 f1;generalize ((yd.setCell ⟨g,63,none⟩ (.int .i64 10)).setCell ⟨g,64,none⟩ (.int .i64 20))=yd at *;refine hK.out _ _ ?_ (fun hHeld=>?_)
    ·rw[hSd];trivial
    clear hK Kq;try simp only[N0]
 all_goals
  refine wpAnyH_done (by kernel_rfl) ?_ _;clear hC;obtain⟨p0,p1,-,-⟩:=two_facts hC'.b2;obtain⟨r0,r1,f0,f1⟩:=two_facts hC'.b0;have hO':=Lib.hid (set_two yd w.heap.size _ (.slice (some ⟨p,0,none⟩) 3 3) (.slice (some ⟨g,0,none⟩) 15 c2) _ _ hC'.b0);have hh:=Lib.hid hC';clear hC' hSd;go_wp2;obtain⟨k0,k1,-,-⟩:=two_facts hO'.out;have hb:=(hh.out.bel.setCell (p:=⟨w.heap.size,0,none⟩) (Nat.le_refl _) (.slice (some ⟨p,0,none⟩) 3 3)).setCell (p:=⟨w.heap.size,1,none⟩) (Nat.le_refl _) (.slice (some ⟨g,0,none⟩) 15 c2);exact bodyPost_ret (v:=.agg #[.slice (some ⟨p,0,none⟩) 3 3,.slice (some ⟨g,0,none⟩) 15 c2]) (by simp[results,Tryd.results49,go_sem,k0,k1]) rfl ⟨hh.out.res (ws:=mlB) (by kernel_rfl) _ _,hb⟩
set_option maxRecDepth 100000 in
set_option maxHeartbeats 4000000 in
theorem changed12(w:World):Calls Tryd.prog 49 #[.int .i64 12,.int .i64 30,.int .i64 400] w fun e w'=>(∃A A2 c2,e = .returned (.agg #[.slice A 3 3,.slice A2 15 c2])∧Reads w' w'.heap.size 4 A 3 (pgs mlP)∧Reads w' w'.heap.size 5 A2 15 (wgs mlC))∧Below w.heap.size w w':=by
 have hb0:Hid (Below w.heap.size w (w.alloc (.cells #[.slice none 0 0,.slice none 0 0] 25))):=(Below.refl _ _).alloc (Nat.le_refl _) _;have hO0:=Lib.hid (heap_alloc_new w (.cells #[.slice none 0 0,.slice none 0 0] 25))
 go_enter Tryd.func49,Tryd.ntmps49
 go_wp2_with fail
 refine(mill_any _).mono ?_;rintro e z ⟨⟨p,A2,c2,rfl,hp,hr,ho⟩,hb⟩;have hOz:=keepO hb hO0.out;have hBz:=below_via hb0.out hb0.out.size hb;have hs1:(w.alloc (.cells #[.slice none 0 0,.slice none 0 0] 25)).heap.size=w.heap.size+1:=by simp
 rw[hs1] at hp ho;obtain⟨g,cg_,hv⟩:=own_some ho (by omega);cases hv;clear hb hb0 hO0 hs1;obtain⟨wq,hwq⟩:∃wq,wq=z.alloc (.cells #[.slice (some ⟨p,0,none⟩) 3 3,.slice (some ⟨g,0,none⟩) 15 c2] 25):=⟨_,rfl⟩;have hC0:Hid (CG w p g c2 (wgs mlA) z.heap.size wq):=by
  have hbq:Below z.heap.size z wq:=(by rw[hwq];exact(Below.refl _ _).alloc (Nat.le_refl _) _);have hgz:=(ownR_lt ho (k:=g) rfl);exact⟨keepO hbq hOz,by rw[hwq];exact heap_alloc_new _ _,ownR_block ho (fun q hq=>hbq.block q (ownR_lt ho hq).2),hgz.1,hgz.2,below_via hBz hBz.size hbq,keepO hbq hr,hp,(Array.getElem?_eq_some_iff.1 hr).1⟩
 have hwqh:=Lib.hid hwq;clear hOz hBz ho hr hwq hp;obtain⟨q0,q1,-,-⟩:=two_facts hC0.out.b2;rw[hwqh.out] at q0 q1;go_wp2_with fail
 rw[←hwqh.out];clear hwqh q0 q1;have hC:=hC0.out;clear hC0;generalize z.heap.size=pb at *;obtain⟨S,hSd⟩:∃S:World→Prop,S=fun _=>True:=⟨_,rfl⟩;have y0:IntKind.i64.wrap 11=11:=IntWalk.i64_in _ (by omega);refine wp_region_held_drew (S:=S) (by kernel_rfl) ?_ (fun hHeld=>?_)
 ·rw[hSd];trivial
 have hKyd:Hid (Kp wq.heap.size [] wq wq.drew):=Lib.hid (Kp.refl _ _ _).drew;have hSyd:wq.heap.size≤wq.drew.heap.size:=Nat.le_refl _;have hC:=hC.below (Below.refl _ _).drew;generalize wq.drew=yd at *;refine tY (v:=?_) 0 9 ?_ ?_;rotate_left
 ·intro w hSw;go_simp;(try with_reducible rfl)
 try simp only[N0]
 refine tY (v:=?_) 2 11 ?_ ?_;rotate_left
 ·intro w hSw;go_simp;(try with_reducible rfl)
 try simp only[N0]
 refine tY (v:=?_) 3 12 ?_ ?_;rotate_left
 ·intro w hSw;go_simp;(try with_reducible rfl)
 try simp only[N0]
 refine tY (v:=?_) 4 13 ?_ ?_;rotate_left
 ·intro w hSw;go_simp;(try with_reducible rfl)
 try simp only[N0]
 refine tY (v:=?_) 5 14 ?_ ?_;rotate_left
 ·intro w hSw;go_simp;(try with_reducible rfl)
 try simp only[N0]
 iterate 5
  all_goals first
   |refine U2 1 6 ?_ ?_
   |refine U1 6 ?_
   |refine U1 1 ?_
   |refine U1 7 ?_
   |refine U1 8 ?_
   |refine U1 9 ?_
  all_goals first
   |intro (t:Tag 1) Kq hK
    clear t;obtain⟨p0,p1,-,-⟩:=two_facts hC.b2;go_simp;refine hK.out _ _ ?_ (fun hHeld=>?_)
    ·rw[hSd];trivial
    clear hK Kq;try simp only[N0]
   |intro (t:Tag 6) Kq hK
    clear t;go_simp;refine(span_mk 30 400 yd).mono ?_;rintro e yd ⟨rfl,hb⟩;replace hC:=hC.below hb;clear hb;(try go_simp);refine hK.out _ _ ?_ (fun hHeld=>?_)
    ·rw[hSd];trivial
    clear hK Kq;try simp only[N0]
   |intro (t:Tag 7) Kq hK
    clear t;go_simp;refine hK.out _ _ ?_ (fun hHeld=>?_)
    ·rw[hSd];trivial
    clear hK Kq;try simp only[N0]
   |intro (t:Tag 8) Kq hK
    clear t;go_simp;refine hK.out _ _ ?_ (fun hHeld=>?_)
    ·rw[hSd];trivial
    clear hK Kq;try simp only[N0]
   |intro (t:Tag 9) Kq hK
    clear t;obtain⟨⟨_,u0⟩,⟨_,u1⟩,f0,f1,hC'⟩:=hC.set2 (i:=58) (j:=59) rfl (by omega) (.int .i64 30) (.int .i64 400);go_simp;clear u0 u1 f0 f1;generalize ((yd.setCell ⟨g,58,none⟩ (.int .i64 30)).setCell ⟨g,59,none⟩ (.int .i64 400))=yd at *;refine hK.out _ _ ?_ (fun hHeld=>?_)
    ·rw[hSd];trivial
    clear hK Kq;try simp only[N0]
 all_goals
  refine wpAnyH_done (by kernel_rfl) ?_ _;clear hC;obtain⟨p0,p1,-,-⟩:=two_facts hC'.b2;obtain⟨r0,r1,f0,f1⟩:=two_facts hC'.b0;have hO':=Lib.hid (set_two yd w.heap.size _ (.slice (some ⟨p,0,none⟩) 3 3) (.slice (some ⟨g,0,none⟩) 15 c2) _ _ hC'.b0);have hh:=Lib.hid hC';clear hC' hSd;go_wp2;obtain⟨k0,k1,-,-⟩:=two_facts hO'.out;have hb:=(hh.out.bel.setCell (p:=⟨w.heap.size,0,none⟩) (Nat.le_refl _) (.slice (some ⟨p,0,none⟩) 3 3)).setCell (p:=⟨w.heap.size,1,none⟩) (Nat.le_refl _) (.slice (some ⟨g,0,none⟩) 15 c2);exact bodyPost_ret (v:=.agg #[.slice (some ⟨p,0,none⟩) 3 3,.slice (some ⟨g,0,none⟩) 15 c2]) (by simp[results,Tryd.results49,go_sem,k0,k1]) rfl ⟨hh.out.res (ws:=mlC) (by kernel_rfl) _ _,hb⟩
theorem mill_rd(w:World):Calls Tryd.prog 45 #[] w fun e w'=>(∃A A2 c2,e = .returned (.agg #[.slice A 3 3,.slice A2 15 c2])∧Reads w' w'.heap.size 4 A 3 (pgs mlP)∧Reads w' w'.heap.size 5 A2 15 (wgs mlA))∧Below w.heap.size w w':=by
 refine(mill_any w).mono ?_;rintro e z ⟨⟨p,A2,c2,rfl,hp,hr,ho⟩,hb⟩;exact⟨⟨_,_,_,rfl,rd_cel hr rfl,Reads.of_own ho⟩,hb⟩
set_option maxRecDepth 100000 in
theorem is_eq(A B:Option Addr)(n m c d:Nat)(l:List Int)(w:World)(hn:n≤maxLen)(hm:m≤maxLen)(h:Reads w w.heap.size 1 A n (ints l))(g:Reads w w.heap.size 1 B m (ints l)) :
  Calls Tryd.prog 47 #[.slice A n c,.int .i64 0,.slice B m d] w fun e w'=>e = .returned (.bool true)∧∃k,w'=w.drewN k:=by
 have HS0:=sameInts_any A B n m c d l l w hn hm h g;rw[decide_eq_true (rfl:l=l)] at HS0;have HS:=Lib.hid HS0;clear h g HS0
 go_enter Tryd.func47,Tryd.ntmps47
 go_wp2_with fail
 refine HS.out.mono ?_;rintro e z ⟨rfl,q,rfl⟩;go_wp2;go_ret;exact⟨rfl,q,rfl⟩
theorem facts8'{x:World}{b:Nat}{c0 c1 c2 c3 c4 c5 c6 c7:Value}{t:TypeId}(h:x.heap[b]? = some (.cells #[c0,c1,c2,c3,c4,c5,c6,c7] t (0,0))) :
  x.cell? ⟨b,0,none⟩=some c0∧x.cell? ⟨b,1,none⟩=some c1∧x.cell? ⟨b,2,none⟩=some c2∧x.cell? ⟨b,3,none⟩=some c3∧x.cell? ⟨b,4,none⟩=some c4∧x.cell? ⟨b,5,none⟩=some c5∧x.cell? ⟨b,6,none⟩=some c6∧x.cell? ⟨b,7,none⟩=some c7∧x.frozen? ⟨b,0,none⟩=false∧x.frozen? ⟨b,1,none⟩=false∧x.frozen? ⟨b,2,none⟩=false∧x.frozen? ⟨b,3,none⟩=false∧x.frozen? ⟨b,4,none⟩=false∧x.frozen? ⟨b,5,none⟩=false∧x.frozen? ⟨b,6,none⟩=false∧x.frozen? ⟨b,7,none⟩=false:=by
 refine⟨?_,?_,?_,?_,?_,?_,?_,?_,?_,?_,?_,?_,?_,?_,?_,?_⟩<;>first|simp[World.cell?,h]|simp[World.frozen?,h]
theorem set8'(y:World)(b:Nat)(t:TypeId)(v0 v1 v2 v3 v4 v5 v6 v7 c0 c1 c2 c3 c4 c5 c6 c7:Value)(h:y.heap[b]? = some (.cells #[c0,c1,c2,c3,c4,c5,c6,c7] t (0,0))) :
  ((((((((y.setCell ⟨b,0,none⟩ v0).setCell ⟨b,1,none⟩ v1).setCell ⟨b,2,none⟩ v2).setCell ⟨b,3,none⟩ v3).setCell ⟨b,4,none⟩ v4).setCell ⟨b,5,none⟩ v5).setCell ⟨b,6,none⟩ v6).setCell ⟨b,7,none⟩ v7).heap[b]? = some (.cells #[v0,v1,v2,v3,v4,v5,v6,v7] t (0,0)):=by
 simp[World.setCell,Array.getElem?_modify,h]
def wdq (id:Int) (l:List Int) (k:Nat):Nat→Int:=fun q=>if q=0 then id else if 2≤q∧q<k+2 then l[q - 2]?.getD 0 else 0
theorem wdq_step(id:Int)(l:List Int)(k:Nat):(fun q=>if q=1+(k+1) then l[k]?.getD 0 else wdq id l k q)=wdq id l (k+1):=by
 funext q
 unfold wdq;by_cases h:q=1+(k+1)
 ·subst h;rw[if_pos rfl,if_neg (by omega),if_pos (by omega),show 1+(k+1) - 2=k by omega]
 ·rw[if_neg h];by_cases h0:q=0
  ·rw[if_pos h0,if_pos h0]
  ·rw[if_neg h0,if_neg h0];by_cases h2:2≤q∧q<k+2
   ·rw[if_pos h2,if_pos (by omega)]
   ·rw[if_neg h2,if_neg (by omega)]
set_option maxRecDepth 100000 in
set_option maxHeartbeats 2000000 in
theorem weighed_any(A:Option Addr)(c:Nat)(id:Int)(l:List Int)(w:World)(hR:Reads w w.heap.size 1 A 6 (ints l)) :
  Calls Tryd.prog 52 #[.int .i64 id,.slice A 6 c] w fun e w'=>e = .returned (.agg #[.int .i64 (wdq id l 6 0),.int .i64 (wdq id l 6 1),.int .i64 (wdq id l 6 2),.int .i64 (wdq id l 6 3),.int .i64 (wdq id l 6 4),.int .i64 (wdq id l 6 5),.int .i64 (wdq id l 6 6),.int .i64 (wdq id l 6 7)])∧Below w.heap.size w w':=by
 have hb1:Below w.heap.size w ((w.alloc (.cells #[.int .i64 0,.int .i64 0,.int .i64 0,.int .i64 0,.int .i64 0,.int .i64 0,.int .i64 0,.int .i64 0] 43)).alloc (.cells #[.int .i64 id,.int .i64 0,.int .i64 0,.int .i64 0,.int .i64 0,.int .i64 0,.int .i64 0,.int .i64 0] 43)):=((Below.refl _ _).alloc (Nat.le_refl _) _).alloc (by simp) _;have h00:((w.alloc (.cells #[.int .i64 0,.int .i64 0,.int .i64 0,.int .i64 0,.int .i64 0,.int .i64 0,.int .i64 0,.int .i64 0] 43)).alloc (.cells #[.int .i64 id,.int .i64 0,.int .i64 0,.int .i64 0,.int .i64 0,.int .i64 0,.int .i64 0,.int .i64 0] 43)).heap[w.heap.size]? = some (.cells #[.int .i64 0,.int .i64 0,.int .i64 0,.int .i64 0,.int .i64 0,.int .i64 0,.int .i64 0,.int .i64 0] 43 (0,0)):=by rw[heap_lt_alloc' _ _ _ (by simp)];exact heap_alloc_new w _
 have h01:((w.alloc (.cells #[.int .i64 0,.int .i64 0,.int .i64 0,.int .i64 0,.int .i64 0,.int .i64 0,.int .i64 0,.int .i64 0] 43)).alloc (.cells #[.int .i64 id,.int .i64 0,.int .i64 0,.int .i64 0,.int .i64 0,.int .i64 0,.int .i64 0,.int .i64 0] 43)).heap[w.heap.size+1]? = some (.cells #[.int .i64 (wdq id l 0 0),.int .i64 (wdq id l 0 1),.int .i64 (wdq id l 0 2),.int .i64 (wdq id l 0 3),.int .i64 (wdq id l 0 4),.int .i64 (wdq id l 0 5),.int .i64 (wdq id l 0 6),.int .i64 (wdq id l 0 7)] 43 (0,0)):=by have:=heap_alloc_new (w.alloc (.cells #[.int .i64 0,.int .i64 0,.int .i64 0,.int .i64 0,.int .i64 0,.int .i64 0,.int .i64 0,.int .i64 0] 43)) (.cells #[.int .i64 id,.int .i64 0,.int .i64 0,.int .i64 0,.int .i64 0,.int .i64 0,.int .i64 0,.int .i64 0] 43);simpa [wdq] using this
 have H0:=Lib.hid h00;have H1:=Lib.hid h01;have HB:=Lib.hid hb1;have HRd:=Lib.hid (fun z (hz:Below w.heap.size w z)=>hR.below hz);clear h00 h01 hb1 hR
 go_enter Tryd.func52,Tryd.ntmps52
 go_wp2_with fail
 generalize ((w.alloc (.cells #[.int .i64 0,.int .i64 0,.int .i64 0,.int .i64 0,.int .i64 0,.int .i64 0,.int .i64 0,.int .i64 0] 43)).alloc (.cells #[.int .i64 id,.int .i64 0,.int .i64 0,.int .i64 0,.int .i64 0,.int .i64 0,.int .i64 0,.int .i64 0] 43))=wb at *;go_loopw [12] (fun v wr=>∃k:Nat,k≤6∧v = .int .i64 k∧Hid (wr.heap[w.heap.size]? = some (.cells #[.int .i64 0,.int .i64 0,.int .i64 0,.int .i64 0,.int .i64 0,.int .i64 0,.int .i64 0,.int .i64 0] 43 (0,0)))∧Hid (wr.heap[w.heap.size+1]? = some (.cells #[.int .i64 (wdq id l k 0),.int .i64 (wdq id l k 1),.int .i64 (wdq id l k 2),.int .i64 (wdq id l k 3),.int .i64 (wdq id l k 4),.int .i64 (wdq id l k 5),.int .i64 (wdq id l k 6),.int .i64 (wdq id l k 7)] 43 (0,0)))∧Hid (Below w.heap.size w wr)) (fun v _=>6 - (intOf v).toNat)
 case atStart=>exact⟨0,by omega,rfl,H0,H1,HB⟩
 case round=>
  clear H0 H1 HB;obtain⟨k,hk,rfl,H0,H1,HB⟩:=hrel;by_cases hlt:k<6
  ·obtain⟨b,o,rfl,hbb,hc⟩:=(HRd.out _ HB.out).int hlt;have hki:(k:Int)<6:=(by omega);have hki':(k:Int)<((6:Nat):Int):=(by omega);have k0:(0:Int)≤(k:Int):=(by omega);obtain⟨j,hj⟩:∃j:Nat,j=k+1:=⟨_,rfl⟩;have kw:IntKind.i64.wrap ((k:Int)+1)=(j:Int):=(by rw[IntWalk.i64_in _ (by omega)];omega);have j7:(j:Int)<7:=(by omega);have j0:(0:Int)≤(j:Int):=(by omega);obtain⟨hW,⟨u0,c0⟩,f0⟩:=wd_step (j:=1+j) (by omega) (l[k]?.getD 0) H1.out;have hW0:=Lib.hid ((Below.heap_setCell wr ⟨w.heap.size+1,1+j,none⟩ (.int .i64 (l[k]?.getD 0)) w.heap.size (by simp only;omega)).trans H0.out);have hWB:=Lib.hid (HB.out.setCell (p:=⟨w.heap.size+1,1+j,none⟩) (by simp only;omega) (.int .i64 (l[k]?.getD 0)));have hW1:Hid ((wr.setCell ⟨w.heap.size+1,1+j,none⟩ (.int .i64 (l[k]?.getD 0))).heap[w.heap.size+1]? = some (.cells #[.int .i64 (wdq id l j 0),.int .i64 (wdq id l j 1),.int .i64 (wdq id l j 2),.int .i64 (wdq id l j 3),.int .i64 (wdq id l j 4),.int .i64 (wdq id l j 5),.int .i64 (wdq id l j 6),.int .i64 (wdq id l j 7)] 43 (0,0))):=by
    show _=_;rw[hW];have e:=wdq_step id l k;rw[←hj] at e;rw[←e]
   have hjk:=Lib.hid hj;clear hW H0 H1 HB hj;go_wp2;go_roundw
   case rel=>exact⟨j,by have:=hjk.out;omega,rfl,hW0,hW1,hWB⟩
   case measure=>have:=hjk.out;simp[intOf];omega
  ·obtain rfl:k=6:=(by omega);obtain⟨f,hf⟩:∃f,f=wdq id l 6:=⟨_,rfl⟩;rw[←hf] at H1;have hfh:=Lib.hid hf;clear hf;obtain⟨c0,c1,c2,c3,c4,c5,c6,c7⟩:=facts8 H1.out;have F0:=Lib.hid H0.out;obtain⟨d0,d1,d2,d3,d4,d5,d6,d7,g0,g1,g2,g3,g4,g5,g6,g7⟩:=facts8' H0.out;have hO':=Lib.hid (set8' wr w.heap.size _ (.int .i64 (f 0)) (.int .i64 (f 1)) (.int .i64 (f 2)) (.int .i64 (f 3)) (.int .i64 (f 4)) (.int .i64 (f 5)) (.int .i64 (f 6)) (.int .i64 (f 7)) _ _ _ _ _ _ _ _ H0.out);clear H0 H1 F0;go_wp2;obtain⟨k0,k1,k2,k3,k4,k5,k6,k7,-⟩:=facts8' hO'.out;have hf:=hfh.out;clear hfh;subst hf;exact bodyPost_ret (v:=.agg #[.int .i64 (wdq id l 6 0),.int .i64 (wdq id l 6 1),.int .i64 (wdq id l 6 2),.int .i64 (wdq id l 6 3),.int .i64 (wdq id l 6 4),.int .i64 (wdq id l 6 5),.int .i64 (wdq id l 6 6),.int .i64 (wdq id l 6 7)]) (by simp[results,Tryd.results52,go_sem,k0,k1,k2,k3,k4,k5,k6,k7]) rfl ⟨rfl,(((((((HB.out.setCell (Nat.le_refl _) _).setCell (Nat.le_refl _) _).setCell (Nat.le_refl _) _).setCell (Nat.le_refl _) _).setCell (Nat.le_refl _) _).setCell (Nat.le_refl _) _).setCell (Nat.le_refl _) _).setCell (Nat.le_refl _) _⟩
end Go.Proofs.YtfplipbkjglmhaaDoor
