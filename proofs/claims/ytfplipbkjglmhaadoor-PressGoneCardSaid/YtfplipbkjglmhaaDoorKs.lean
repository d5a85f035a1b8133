/-
 Facts on blocks of some cells, and stores of all their cells.
-/
import Derived.Test.YtfplipbkjglmhaaDoorTk
import Derived.Test.YtfplipbkjglmhaaDoorMill
import Derived.Deep.DeepCutAuto
import Derived.Deep.CutBlock
namespace Go.Proofs.YtfplipbkjglmhaaDoor
open Go.RowKit
set_option linter.unusedVariables false
set_option linter.unusedSimpArgs false
/-- The blocks of a call of rest: its row, what will be returned, the sum so far. -/
structure RF (w:World) (f:Nat→Sp) (s:Sp) (x:World):Prop where
 b0:x.heap[w.heap.size]? = some (.cells #[.int .i64 (f 0).1,.int .i64 (f 0).2,.int .i64 (f 1).1,.int .i64 (f 1).2,.int .i64 (f 2).1,.int .i64 (f 2).2,.int .i64 (f 3).1,.int .i64 (f 3).2,.int .i64 (f 4).1,.int .i64 (f 4).2,.int .i64 (f 5).1,.int .i64 (f 5).2,.int .i64 (f 6).1,.int .i64 (f 6).2] 107 (0,0))
 b1:x.heap[w.heap.size+1]? = some (.cells #[.int .i64 0,.int .i64 0] 36 (0,0))
 b2:x.heap[w.heap.size+1+1]? = some (.cells #[.int .i64 s.1,.int .i64 s.2] 36 (0,0))
 bel:Below w.heap.size w x
 size:w.heap.size+3≤x.heap.size
theorem RF.row{w x:World}{f:Nat→Sp}{s:Sp}(h:RF w f s x){k:Nat}(hk:k<7):x.cell? ⟨w.heap.size,k*2,none⟩=some (.int .i64 (f k).1)∧x.cell? ⟨w.heap.size,k*2+1,none⟩=some (.int .i64 (f k).2):=by
 obtain rfl|rfl|rfl|rfl|rfl|rfl|rfl:k=0∨k=1∨k=2∨k=3∨k=4∨k=5∨k=6:=by omega
 all_goals exact⟨by simp[World.cell?,h.b0],by simp[World.cell?,h.b0]⟩
theorem RF.s0{w x:World}{f:Nat→Sp}{s:Sp}(h:RF w f s x):x.cell? ⟨w.heap.size+1+1,0,none⟩=some (.int .i64 s.1)∧x.cell? ⟨w.heap.size+1+1,1,none⟩=some (.int .i64 s.2)∧x.frozen? ⟨w.heap.size+1+1,0,none⟩=false∧x.frozen? ⟨w.heap.size+1+1,1,none⟩=false:=by
 exact⟨by simp[World.cell?,h.b2],by simp[World.cell?,h.b2],by simp[World.frozen?,h.b2],by simp[World.frozen?,h.b2]⟩
theorem RF.next{w x y:World}{f:Nat→Sp}{s:Sp}(h:RF w f s x)(hb:Below x.heap.size x y)(s':Sp)(hs:∀c0 c1,y.heap[w.heap.size+1+1]? = some (.cells #[c0,c1] 36 (0,0))→((y.setCell ⟨w.heap.size+1+1,0,none⟩ (.int .i64 s'.1)).setCell ⟨w.heap.size+1+1,1,none⟩ (.int .i64 s'.2)).heap[w.heap.size+1+1]? = some (.cells #[.int .i64 s'.1,.int .i64 s'.2] 36 (0,0))) :
  RF w f s' ((y.setCell ⟨w.heap.size+1+1,0,none⟩ (.int .i64 s'.1)).setCell ⟨w.heap.size+1+1,1,none⟩ (.int .i64 s'.2)):=by
 have hz:=h.size;refine⟨?_,?_,hs _ _ ((hb.block _ (by omega)).trans h.b2),((h.bel.trans (hb.mono (by omega))).setCell (by simp<;>omega) _).setCell (by simp<;>omega) _,by have:=hb.size;simp;omega⟩
 ·rw[Below.heap_setCell _ _ _ _ (by simp<;>omega),Below.heap_setCell _ _ _ _ (by simp<;>omega),hb.block _ (by omega)];exact h.b0
 ·rw[Below.heap_setCell _ _ _ _ (by simp<;>omega),Below.heap_setCell _ _ _ _ (by simp<;>omega),hb.block _ (by omega)];exact h.b1
set_option maxRecDepth 100000 in
set_option maxHeartbeats 1000000 in
theorem rest_any(f:Nat→Sp)(hf:SmF f)(w:World):Calls Tryd.prog 76 #[.agg #[.int .i64 (f 0).1,.int .i64 (f 0).2,.int .i64 (f 1).1,.int .i64 (f 1).2,.int .i64 (f 2).1,.int .i64 (f 2).2,.int .i64 (f 3).1,.int .i64 (f 3).2,.int .i64 (f 4).1,.int .i64 (f 4).2,.int .i64 (f 5).1,.int .i64 (f 5).2,.int .i64 (f 6).1,.int .i64 (f 6).2]] w fun e w'=>e = .returned (.agg #[.int .i64 (rest1 f 4).1,.int .i64 (rest1 f 4).2])∧Below w.heap.size w w':=by
 have hH:Hid (RF w f (rest1 f 0) (((w.alloc (.cells #[.int .i64 (f 0).1,.int .i64 (f 0).2,.int .i64 (f 1).1,.int .i64 (f 1).2,.int .i64 (f 2).1,.int .i64 (f 2).2,.int .i64 (f 3).1,.int .i64 (f 3).2,.int .i64 (f 4).1,.int .i64 (f 4).2,.int .i64 (f 5).1,.int .i64 (f 5).2,.int .i64 (f 6).1,.int .i64 (f 6).2] 107)).alloc (.cells #[.int .i64 0,.int .i64 0] 36)).alloc (.cells #[.int .i64 0,.int .i64 0] 36))):=by
  refine⟨?_,?_,?_,(((Below.refl _ _).alloc (Nat.le_refl _) _).alloc (by simp) _).alloc (by simp<;>omega) _,by simp⟩
  ·rw[heap_lt_alloc' _ _ _ (by simp<;>omega),heap_lt_alloc' _ _ _ (by simp)];exact heap_alloc_new w _
  ·rw[heap_lt_alloc' _ _ _ (by simp)];have:=heap_alloc_new (w.alloc (.cells #[.int .i64 (f 0).1,.int .i64 (f 0).2,.int .i64 (f 1).1,.int .i64 (f 1).2,.int .i64 (f 2).1,.int .i64 (f 2).2,.int .i64 (f 3).1,.int .i64 (f 3).2,.int .i64 (f 4).1,.int .i64 (f 4).2,.int .i64 (f 5).1,.int .i64 (f 5).2,.int .i64 (f 6).1,.int .i64 (f 6).2] 107)) (.cells #[.int .i64 0,.int .i64 0] 36);simpa using this
  ·have:=heap_alloc_new ((w.alloc (.cells #[.int .i64 (f 0).1,.int .i64 (f 0).2,.int .i64 (f 1).1,.int .i64 (f 1).2,.int .i64 (f 2).1,.int .i64 (f 2).2,.int .i64 (f 3).1,.int .i64 (f 3).2,.int .i64 (f 4).1,.int .i64 (f 4).2,.int .i64 (f 5).1,.int .i64 (f 5).2,.int .i64 (f 6).1,.int .i64 (f 6).2] 107)).alloc (.cells #[.int .i64 0,.int .i64 0] 36)) (.cells #[.int .i64 0,.int .i64 0] 36);simpa [rest1] using this
 have HSM:=Lib.hid (fun k (hk:k≤4)=>rest1_sml hf k hk);have HF:=Lib.hid hf;clear hf
 go_enter Tryd.func76,Tryd.ntmps76
 go_wp2;generalize (((w.alloc (.cells #[.int .i64 (f 0).1,.int .i64 (f 0).2,.int .i64 (f 1).1,.int .i64 (f 1).2,.int .i64 (f 2).1,.int .i64 (f 2).2,.int .i64 (f 3).1,.int .i64 (f 3).2,.int .i64 (f 4).1,.int .i64 (f 4).2,.int .i64 (f 5).1,.int .i64 (f 5).2,.int .i64 (f 6).1,.int .i64 (f 6).2] 107)).alloc (.cells #[.int .i64 0,.int .i64 0] 36)).alloc (.cells #[.int .i64 0,.int .i64 0] 36))=wb at *;go_loopw [4] (fun x wr=>∃k:Nat,k≤6∧x = .int .i64 k∧∃j:Nat,Hid (k=j+2)∧Hid (RF w f (rest1 f j) wr)) (fun x _=>6 - (intOf x).toNat)
 case atStart=>exact⟨2,by omega,rfl,0,rfl,hH⟩
 case round=>
  clear hH;obtain⟨k,hk,rfl,j,hkj,hX⟩:=hrel;have hj:j≤4:=(by have:=hkj.out;omega);by_cases hlt:k<6
  ·have hs1:Hid (Sml (rest1 f j)):=(by have:=HSM.out j hj;show Sml _;unfold Sml;omega);have hs2:Hid (Sml (f (j+2))):=(by have:=HF.out (j+2) (by have:=hkj.out;omega);show Sml _;unfold Sml;omega);obtain⟨r0,r1⟩:=hX.out.row (k:=j+2) (by have:=hkj.out;omega);rw[←hkj.out] at r0 r1 hs2;have hk7:(k:Int)<7:=(by omega);have hk2:(2:Int)≤(k:Int):=(by have:=hkj.out;omega);obtain⟨s0,s1,f0,f1⟩:=hX.out.s0;have HN:Hid (∀y,Below wr.heap.size wr y→RF w f (rest1 f (j+1)) ((y.setCell ⟨w.heap.size+1+1,0,none⟩ (.int .i64 (plus (rest1 f j) (f k)).1)).setCell ⟨w.heap.size+1+1,1,none⟩ (.int .i64 (plus (rest1 f j) (f k)).2))):=by
    show ∀y,_;rw[hkj.out];exact fun y hy=>hX.out.next hy _ (fun c0 c1 h=>set_two _ _ _ _ _ _ _ h)
   have hsz:=hX.out.size;clear hX;(go_wp2_with fail);obtain⟨S,hSd⟩:∃S:World→Prop,S=fun z=>(z.cell? ⟨w.heap.size,k*2,none⟩=some (.int .i64 (f k).1)∧z.cell? ⟨w.heap.size,k*2+1,none⟩=some (.int .i64 (f k).2))∧Hid (Below (w.heap.size+1) wr z):=⟨_,rfl⟩
   have HS:=Lib.hid (fun z (hz:Hid (Below (w.heap.size+1) wr z))=>(by rw[hSd];exact⟨⟨(hz.out.cell (by simp)).trans r0,(hz.out.cell (by simp)).trans r1⟩,hz⟩:S z));refine wp_region_held_drew (S:=S) (by kernel_rfl) ?_ (fun hHeld=>?_)
   ·exact HS.out _ (Lib.hid (Below.refl _ _).drew)
   refine tY (v:=?_) 1 10 ?_ ?_;rotate_left
   ·intro w hSw;rw[hSd] at hSw;obtain⟨⟨q0,q1⟩,-⟩:=hSw;go_simp;(try with_reducible rfl)
   (try simp only[N0]);refine tY (v:=?_) 2 11 ?_ ?_;rotate_left
   ·intro w hSw;rw[hSd] at hSw;obtain⟨⟨q0,q1⟩,-⟩:=hSw;go_simp;(try with_reducible rfl)
   (try simp only[N0]);refine tY (v:=?_) 3 12 ?_ ?_;rotate_left
   ·intro w hSw;rw[hSd] at hSw;obtain⟨⟨q0,q1⟩,-⟩:=hSw;go_simp;(try with_reducible rfl)
   (try simp only[N0]);refine wpAnyH_ready (rs:=[0]) (by kernel_rfl) (by simp) ?_;refine AllReadyH.cons (o:=_) rfl (fun Kq hK=>?_) AllReadyH.nil;go_simp;refine hK.out _ _ ?_ (fun hHeld=>?_)
   ·exact hHeld
   clear hK Kq;(try simp only[N0]);refine wpAnyH_ready (rs:=[4]) (by kernel_rfl) (by simp) ?_;refine AllReadyH.cons (o:=_) rfl (fun Kq hK=>?_) AllReadyH.nil;go_simp;refine(plus_any (rest1 f j) (f k) hs1.out hs2.out _).mono ?_;rintro e z5 ⟨rfl,hb5⟩;have hB5:Hid (Below wr.heap.size wr z5):=Lib.hid ((Below.refl _ wr).drew.trans hb5);have g0:z5.frozen? ⟨w.heap.size+1+1,0,none⟩=false:=(hb5.frozen (p:=⟨w.heap.size+1+1,0,none⟩) (by simp<;>omega)).trans f0;have g1:z5.frozen? ⟨w.heap.size+1+1,1,none⟩=false:=(hb5.frozen (p:=⟨w.heap.size+1+1,1,none⟩) (by simp<;>omega)).trans f1;have y0:=(hb5.cell (p:=⟨w.heap.size+1+1,0,none⟩) (by simp<;>omega)).trans s0;have y1:=(hb5.cell (p:=⟨w.heap.size+1+1,1,none⟩) (by simp<;>omega)).trans s1;clear hb5;(try go_simp);refine hK.out _ _ ?_ (fun hHeld=>?_)
   ·exact HS.out _ (Lib.hid (hB5.out.mono (by omega)))
   clear hK Kq;(try simp only[N0]);refine wpAnyH_ready (rs:=[5]) (by kernel_rfl) (by simp) ?_;refine AllReadyH.cons (o:=_) rfl (fun Kq hK=>?_) AllReadyH.nil;go_simp;refine hK.out _ _ ?_ (fun hHeld=>?_)
   ·exact HS.out _ (Lib.hid (((hB5.out.mono (by omega)).setCell (by simp<;>omega) _).setCell (by simp<;>omega) _))
   clear hK Kq;(try simp only[N0]);refine wpAnyH_done (by kernel_rfl) ?_ _;have HX:=Lib.hid (HN.out _ hB5.out);clear HN HS hB5 y0 y1 g0 g1;go_wp2;go_roundw
   case rel=>exact⟨k+1,by omega,by go_num,j+1,(by have:=hkj.out;show _=_;omega),HX⟩
   case measure=>simp[intOf];omega
  ·have hj4:j=4:=(by have:=hkj.out;omega);subst hj4;obtain⟨s0,s1,f0,f1⟩:=hX.out.s0;have b1:=hX.out.b1;have d0:wr.frozen? ⟨w.heap.size+1,0,none⟩=false:=(by simp[World.frozen?,b1]);have d1:wr.frozen? ⟨w.heap.size+1,1,none⟩=false:=(by simp[World.frozen?,b1]);have e0:wr.cell? ⟨w.heap.size+1,0,none⟩=some (.int .i64 0):=(by simp[World.cell?,b1]);have e1:wr.cell? ⟨w.heap.size+1,1,none⟩=some (.int .i64 0):=(by simp[World.cell?,b1]);have hb2:=set_two wr _ _ (.int .i64 (rest1 f 4).1) (.int .i64 (rest1 f 4).2) _ _ b1;have k0:((wr.setCell ⟨w.heap.size+1,0,none⟩ (.int .i64 (rest1 f 4).1)).setCell ⟨w.heap.size+1,1,none⟩ (.int .i64 (rest1 f 4).2)).cell? ⟨w.heap.size+1,0,none⟩=some (.int .i64 (rest1 f 4).1):=(by simp only[World.cell?,hb2];rfl);have k1:((wr.setCell ⟨w.heap.size+1,0,none⟩ (.int .i64 (rest1 f 4).1)).setCell ⟨w.heap.size+1,1,none⟩ (.int .i64 (rest1 f 4).2)).cell? ⟨w.heap.size+1,1,none⟩=some (.int .i64 (rest1 f 4).2):=(by simp only[World.cell?,hb2];rfl);have hB:=Lib.hid hX.out.bel;clear hX hb2 b1;go_wp2;exact bodyPost_ret (v:=.agg #[.int .i64 (rest1 f 4).1,.int .i64 (rest1 f 4).2]) (by simp[results,Tryd.results76,go_sem,k0,k1]) rfl ⟨rfl,(hB.out.setCell (by simp<;>omega) _).setCell (by simp<;>omega) _⟩
end Go.Proofs.YtfplipbkjglmhaaDoor

namespace Go.Proofs.YtfplipbkjglmhaaDoor
open Go.RowKit
set_option linter.unusedVariables false
set_option linter.unusedSimpArgs false
def SmU (U:Nat→Sp) (n:Nat):Prop:=∀i,i<n→-100000000000≤(U i).1∧(U i).1≤100000000000∧-100000000000≤(U i).2∧(U i).2≤100000000000
theorem feedX_sml{t:Nat→Option Nat}{U:Nat→Sp}{n k a:Nat}(h:SmU U n):∀m:Nat,m≤n→-(100000000000*(m:Int))≤(feedX t U k a m).1∧(feedX t U k a m).1≤100000000000*(m:Int)∧-(100000000000*(m:Int))≤(feedX t U k a m).2∧(feedX t U k a m).2≤100000000000*(m:Int)
 |0,_=>by simp[feedX]
 |m+1,hm=>by
  have ih:=feedX_sml (t:=t) (k:=k) (a:=a) h m (by omega);have h2:=h m (by omega);unfold feedX;split
  ·simp only[plus];omega
  ·omega
theorem down_sml{t:Nat→Option Nat}{R:Nat→Nat→Sp}{U:Nat→Sp}{n:Nat}(hF:Fwd n t)(hR:SmR R n)(hU:SmU U n)(hn:n≤10):∀(f i:Nat),i<n→
  -(2000000000000*(f:Int)+10000000)≤(downS t R U n f i).1∧(downS t R U n f i).1≤2000000000000*(f:Int)+10000000∧-(2000000000000*(f:Int)+10000000)≤(downS t R U n f i).2∧(downS t R U n f i).2≤2000000000000*(f:Int)+10000000
 |0,i,hi=>by
  have h6:=hR i 6 hi (by omega);simp only[downS];omega
 |f+1,i,hi=>by
  have h6:=hR i 6 hi (by omega);unfold downS;cases ht:t i with
  |none=>simp only;omega
  |some k=>
   have hk:=hF i k hi ht;have ih:=down_sml hF hR hU hn f k hk.2;have h1:=hR k 1 hk.2 (by omega);have hr:=rest1_sml (f:=R k) (fun j hj=>hR k j hk.2 hj) 4 (Nat.le_refl _);rw[rest1_restS] at hr;have hx:=feedX_sml (t:=t) (k:=k) (a:=i) hU n (Nat.le_refl _);have hn':(n:Int)≤10:=(by omega);simp only[both,minus,plus];omega
theorem minus_minus(b s u:Sp):minus (minus b s) u=minus b (plus s u):=by
 simp only[minus,plus];refine Prod.ext ?_ ?_<;>simp only<;>omega
theorem end1(w:World)(x y:Int)(t:TypeId) :
  (w.alloc (.cells #[.int .i64 x,.int .i64 y] t)).cell? ⟨w.heap.size,0,none⟩=some (.int .i64 x)∧(w.alloc (.cells #[.int .i64 x,.int .i64 y] t)).cell? ⟨w.heap.size,1,none⟩=some (.int .i64 y)∧
  Below w.heap.size w (w.alloc (.cells #[.int .i64 x,.int .i64 y] t)):=by
 refine⟨?_,?_,(Below.refl _ _).alloc (Nat.le_refl _) _⟩
 ·rw[World.cell?_alloc_at _ _ _ _ rfl];rfl
 ·rw[World.cell?_alloc_at _ _ _ _ rfl];rfl
theorem toV_eq{t:Nat→Option Nat}{j k:Nat}:toV t j=(k:Int)↔t j=some k:=by
 unfold toV;cases t j with
 |none=>simp<;>omega
 |some a=>simp<;>omega
set_option maxRecDepth 100000 in
set_option maxHeartbeats 1000000 in
theorem down_any(mb n:Nat)(t:Nat→Option Nat)(R:Nat→Nat→Sp)(U I:Nat→Sp)(At Ar Au Ai:Option Addr)(ct cr cu ci:Nat)(hF:Fwd n t)(hR:SmR R n)(hU:SmU U n)(hn:n≤10) :
  ∀f i,i<n→n - i≤f→f≤10→∀x,MR x mb n t R U I At Ar Au Ai ct cr cu ci→Calls Tryd.prog 93 #[.pointer (some ⟨mb,0,none⟩),.int .i64 i] x fun e x'=>
   e = .returned (.agg #[.int .i64 (downS t R U n f i).1,.int .i64 (downS t R U n f i).2])∧Below x.heap.size x x':=by
 intro f
 induction f with
 |zero=>intro i hi hf;omega
 |succ f ih=>
  intro i hi hf hf10 x hM;have HMR:=Lib.hid (fun z (hz:Below x.heap.size x z)=>hM.below hz);have hlt:=hM.lt;obtain⟨y,hy⟩:∃y,y=x.alloc (.cells #[.int .i64 0,.int .i64 0] 36):=⟨_,rfl⟩;have hxy:Below x.heap.size x y:=(by rw[hy];exact(Below.refl _ _).alloc (Nat.le_refl _) _);have hyz:y.heap.size=x.heap.size+1:=(by rw[hy];simp);have hyb:y.heap[x.heap.size]? = some (.cells #[.int .i64 0,.int .i64 0] 36 (0,0)):=(by rw[hy];exact heap_alloc_new x _);have hMy:=hM.below hxy;have c2:=hMy.c2;have c3:=hMy.c3;obtain⟨bt,ot,rfl,hbt,cto⟩:=hMy.rt.to_ hi;obtain⟨bi,oi,rfl,hbi,hri⟩:=hMy.rr.rw_ hi;have hi':(i:Int)<(n:Int):=(by omega);have i0:(0:Int)≤(i:Int):=(by omega);cases hti:t i with
  |none=>
   have hres:Hid (downS t R U n (f+1) i=R i 6):=(by show _=_;unfold downS;rw[hti]);have hv:toV t i = -1:=(by unfold toV;rw[hti]);rw[hv] at cto;rw[hres.out];have r12:=hri 12 _ rfl;have r13:=hri 13 _ rfl;obtain⟨k0,k1,kb⟩:=end1 x (R i 6).1 (R i 6).2 36;clear hyb hxy hMy HMR hri ih hM hv hti hF hR hU;subst hy
   go_enter Tryd.func93,Tryd.ntmps93
   go_wp2;exact bodyPost_ret (v:=.agg #[.int .i64 (R i 6).1,.int .i64 (R i 6).2]) (by simp[results,Tryd.results93,go_sem,k0,k1]) rfl ⟨rfl,kb⟩
  |some k=>
   obtain⟨hik,hkn⟩:=hF i k hi hti;have hres:Hid (downS t R U n (f+1) i=both (minus (minus (plus (downS t R U n f k) (restS R k)) (R k 1)) (feedX t U k i n)) (R i 6)):=(by show _=_;rw[downS,hti]);rw[hres.out];have hv:toV t i=k:=(by unfold toV;rw[hti]);rw[hv] at cto;have HIH:=Lib.hid (fun z (hz:MR z mb n t R U I (some ⟨bt,ot,none⟩) (some ⟨bi,oi,none⟩) Au Ai ct cr cu ci)=>ih k hkn (by omega) (by omega) z hz);obtain⟨br,or,e2,hbr,hrk⟩:=hMy.rr.rw_ hkn;simp only[Option.some.injEq,Addr.mk.injEq,and_true] at e2;obtain⟨rfl,rfl⟩:=e2;have HD:=down_sml hF hR hU hn f k hkn;have HRr:=rest1_sml (f:=R k) (fun j hj=>hR k j hkn hj) 4 (Nat.le_refl _);have hR1:=hR k 1 hkn (by omega);have hs1:Hid (Sml (downS t R U n f k)):=(by show Sml _;unfold Sml;omega);have hs2:Hid (Sml (rest1 (R k) 4)):=(by show Sml _;unfold Sml;omega);have hs3:Hid (Sml (plus (downS t R U n f k) (rest1 (R k) 4))):=(by show Sml _;unfold Sml;simp only[plus];omega);have hs4:Hid (Sml (R k 1)):=(by show Sml _;unfold Sml;omega);have hRk:Hid (SmF (R k)):=fun j hj=>hR k j hkn hj;obtain⟨bs,hbs⟩:∃bs,bs=minus (plus (downS t R U n f k) (rest1 (R k) 4)) (R k 1):=⟨_,rfl⟩;have hbs':=Lib.hid hbs;have hk':(k:Int)<(n:Int):=(by omega);have k0:(0:Int)≤(k:Int):=(by omega);have HMR2:=Lib.hid (fun z (hz:Below y.heap.size y z)=>hMy.below hz);have HQ:=Lib.hid (fun z (hz:Hid (Below y.heap.size y z))=>(⟨(HMR2.out z hz.out).c3,(hz.out.cell (by simp only;omega)).trans (hrk 0 _ rfl),(hz.out.cell (by simp only;omega)).trans (hrk 1 _ rfl),(hz.out.cell (by simp only;omega)).trans (hrk 2 _ rfl),(hz.out.cell (by simp only;omega)).trans (hrk 3 _ rfl),(hz.out.cell (by simp only;omega)).trans (hrk 4 _ rfl),(hz.out.cell (by simp only;omega)).trans (hrk 5 _ rfl),(hz.out.cell (by simp only;omega)).trans (hrk 6 _ rfl),(hz.out.cell (by simp only;omega)).trans (hrk 7 _ rfl),(hz.out.cell (by simp only;omega)).trans (hrk 8 _ rfl),(hz.out.cell (by simp only;omega)).trans (hrk 9 _ rfl),(hz.out.cell (by simp only;omega)).trans (hrk 10 _ rfl),(hz.out.cell (by simp only;omega)).trans (hrk 11 _ rfl),(hz.out.cell (by simp only;omega)).trans (hrk 12 _ rfl),(hz.out.cell (by simp only;omega)).trans (hrk 13 _ rfl)⟩:z.cell? ⟨mb,3,none⟩=some (.slice (some ⟨bi,oi,none⟩) n cr)∧z.cell? ⟨bi,oi+k*14,none⟩=some (.int .i64 (R k 0).1)∧z.cell? ⟨bi,oi+k*14+1,none⟩=some (.int .i64 (R k 0).2)∧z.cell? ⟨bi,oi+k*14+2,none⟩=some (.int .i64 (R k 1).1)∧z.cell? ⟨bi,oi+k*14+3,none⟩=some (.int .i64 (R k 1).2)∧z.cell? ⟨bi,oi+k*14+4,none⟩=some (.int .i64 (R k 2).1)∧z.cell? ⟨bi,oi+k*14+5,none⟩=some (.int .i64 (R k 2).2)∧z.cell? ⟨bi,oi+k*14+6,none⟩=some (.int .i64 (R k 3).1)∧z.cell? ⟨bi,oi+k*14+7,none⟩=some (.int .i64 (R k 3).2)∧z.cell? ⟨bi,oi+k*14+8,none⟩=some (.int .i64 (R k 4).1)∧z.cell? ⟨bi,oi+k*14+9,none⟩=some (.int .i64 (R k 4).2)∧z.cell? ⟨bi,oi+k*14+10,none⟩=some (.int .i64 (R k 5).1)∧z.cell? ⟨bi,oi+k*14+11,none⟩=some (.int .i64 (R k 5).2)∧z.cell? ⟨bi,oi+k*14+12,none⟩=some (.int .i64 (R k 6).1)∧z.cell? ⟨bi,oi+k*14+13,none⟩=some (.int .i64 (R k 6).2)))
   obtain⟨_,_,e3,hbx,hrx⟩:=hM.rr.rw_ hi;simp only[Option.some.injEq,Addr.mk.injEq,and_true] at e3;obtain⟨rfl,rfl⟩:=e3;have r12:=hrx 12 _ rfl;have r13:=hrx 13 _ rfl;have HSU:=Lib.hid (fun j (hj:j<n)=>(by have:=hU j hj;unfold Sml;omega:Sml (U j)));have HSF:=Lib.hid (fun j (hj:j≤n)=>(by have:=feedX_sml (t:=t) (k:=k) (a:=i) hU j hj;unfold Sml;simp only[minus,plus];omega:Sml (minus (minus (plus (downS t R U n f k) (rest1 (R k) 4)) (R k 1)) (feedX t U k i j))));clear hrk hri HD HRr hR1 ih hM hv hrx;subst hy
   go_enter Tryd.func93,Tryd.ntmps93
   (go_wp2_with fail);generalize (x.alloc (.cells #[.int .i64 0,.int .i64 0] 36))=y at *;obtain⟨S,hSd⟩:∃S:World→Prop,S=fun z=>(z.cell? ⟨mb,3,none⟩=some (.slice (some ⟨bi,oi,none⟩) n cr)∧z.cell? ⟨bi,oi+k*14,none⟩=some (.int .i64 (R k 0).1)∧z.cell? ⟨bi,oi+k*14+1,none⟩=some (.int .i64 (R k 0).2)∧z.cell? ⟨bi,oi+k*14+2,none⟩=some (.int .i64 (R k 1).1)∧z.cell? ⟨bi,oi+k*14+3,none⟩=some (.int .i64 (R k 1).2)∧z.cell? ⟨bi,oi+k*14+4,none⟩=some (.int .i64 (R k 2).1)∧z.cell? ⟨bi,oi+k*14+5,none⟩=some (.int .i64 (R k 2).2)∧z.cell? ⟨bi,oi+k*14+6,none⟩=some (.int .i64 (R k 3).1)∧z.cell? ⟨bi,oi+k*14+7,none⟩=some (.int .i64 (R k 3).2)∧z.cell? ⟨bi,oi+k*14+8,none⟩=some (.int .i64 (R k 4).1)∧z.cell? ⟨bi,oi+k*14+9,none⟩=some (.int .i64 (R k 4).2)∧z.cell? ⟨bi,oi+k*14+10,none⟩=some (.int .i64 (R k 5).1)∧z.cell? ⟨bi,oi+k*14+11,none⟩=some (.int .i64 (R k 5).2)∧z.cell? ⟨bi,oi+k*14+12,none⟩=some (.int .i64 (R k 6).1)∧z.cell? ⟨bi,oi+k*14+13,none⟩=some (.int .i64 (R k 6).2))∧Hid (Below y.heap.size y z):=⟨_,rfl⟩
   have HS:=Lib.hid (fun z (hz:Hid (Below y.heap.size y z))=>(by rw[hSd];exact⟨HQ.out z hz,hz⟩:S z));have HSB:=Lib.hid (fun z (hz:S z)=>(show Hid (Below y.heap.size y z) from(by rw[hSd] at hz;exact hz.2)).out)
   go_cut [6] (fun s wx=>∃wl,wl=wx∧∃ob,s = .pointer (some ⟨ob,0,none⟩)∧wx.heap[ob]? = some (.cells #[.int .i64 (minus (plus (downS t R U n f k) (rest1 (R k) 4)) (R k 1)).1,.int .i64 (minus (plus (downS t R U n f k) (rest1 (R k) 4)) (R k 1)).2] 36 (0,0))∧Below y.heap.size y wx∧y.heap.size≤ob)
   case first=>
    refine wp_region_held_drew (S:=S) (by kernel_rfl) ?_ (fun hHeld=>?_)
    ·exact HS.out _ (Lib.hid (Below.refl _ _).drew)
    generalize y.drew=yd at *;refine tY (v:=?_) 0 26 ?_ ?_;rotate_left
    ·intro w hSw;rw[hSd] at hSw;obtain⟨⟨qm,q0,q1,q2,q3,q4,q5,q6,q7,q8,q9,q10,q11,q12,q13⟩,-⟩:=hSw;go_simp;(try with_reducible rfl)
    (try simp only[N0]);refine tY (v:=?_) 1 27 ?_ ?_;rotate_left
    ·intro w hSw;rw[hSd] at hSw;obtain⟨⟨qm,q0,q1,q2,q3,q4,q5,q6,q7,q8,q9,q10,q11,q12,q13⟩,-⟩:=hSw;go_simp;(try with_reducible rfl)
    (try simp only[N0]);refine tY (v:=?_) 3 29 ?_ ?_;rotate_left
    ·intro w hSw;rw[hSd] at hSw;obtain⟨⟨qm,q0,q1,q2,q3,q4,q5,q6,q7,q8,q9,q10,q11,q12,q13⟩,-⟩:=hSw;go_simp;(try with_reducible rfl)
    (try simp only[N0]);refine tY (v:=?_) 4 30 ?_ ?_;rotate_left
    ·intro w hSw;rw[hSd] at hSw;obtain⟨⟨qm,q0,q1,q2,q3,q4,q5,q6,q7,q8,q9,q10,q11,q12,q13⟩,-⟩:=hSw;go_simp;(try with_reducible rfl)
    (try simp only[N0]);refine tY (v:=?_) 5 31 ?_ ?_;rotate_left
    ·intro w hSw;rw[hSd] at hSw;obtain⟨⟨qm,q0,q1,q2,q3,q4,q5,q6,q7,q8,q9,q10,q11,q12,q13⟩,-⟩:=hSw;go_simp;(try with_reducible rfl)
    (try simp only[N0]);refine tY (v:=?_) 6 32 ?_ ?_;rotate_left
    ·intro w hSw;rw[hSd] at hSw;obtain⟨⟨qm,q0,q1,q2,q3,q4,q5,q6,q7,q8,q9,q10,q11,q12,q13⟩,-⟩:=hSw;go_simp;(try with_reducible rfl)
    (try simp only[N0]);refine tY (v:=?_) 7 33 ?_ ?_;rotate_left
    ·intro w hSw;rw[hSd] at hSw;obtain⟨⟨qm,q0,q1,q2,q3,q4,q5,q6,q7,q8,q9,q10,q11,q12,q13⟩,-⟩:=hSw;go_simp;(try with_reducible rfl)
    (try simp only[N0]);refine tY (v:=?_) 8 34 ?_ ?_;rotate_left
    ·intro w hSw;rw[hSd] at hSw;obtain⟨⟨qm,q0,q1,q2,q3,q4,q5,q6,q7,q8,q9,q10,q11,q12,q13⟩,-⟩:=hSw;go_simp;(try with_reducible rfl)
    (try simp only[N0]);refine tY (v:=?_) 9 35 ?_ ?_;rotate_left
    ·intro w hSw;rw[hSd] at hSw;obtain⟨⟨qm,q0,q1,q2,q3,q4,q5,q6,q7,q8,q9,q10,q11,q12,q13⟩,-⟩:=hSw;go_simp;(try with_reducible rfl)
    (try simp only[N0]);refine tY (v:=?_) 12 38 ?_ ?_;rotate_left
    ·intro w hSw;rw[hSd] at hSw;obtain⟨⟨qm,q0,q1,q2,q3,q4,q5,q6,q7,q8,q9,q10,q11,q12,q13⟩,-⟩:=hSw;go_simp;(try with_reducible rfl)
    (try simp only[N0]);refine tY (v:=?_) 13 39 ?_ ?_;rotate_left
    ·intro w hSw;rw[hSd] at hSw;obtain⟨⟨qm,q0,q1,q2,q3,q4,q5,q6,q7,q8,q9,q10,q11,q12,q13⟩,-⟩:=hSw;go_simp;(try with_reducible rfl)
    (try simp only[N0]);refine tY (v:=?_) 14 40 ?_ ?_;rotate_left
    ·intro w hSw;rw[hSd] at hSw;obtain⟨⟨qm,q0,q1,q2,q3,q4,q5,q6,q7,q8,q9,q10,q11,q12,q13⟩,-⟩:=hSw;go_simp;(try with_reducible rfl)
    (try simp only[N0]);refine tY (v:=?_) 15 41 ?_ ?_;rotate_left
    ·intro w hSw;rw[hSd] at hSw;obtain⟨⟨qm,q0,q1,q2,q3,q4,q5,q6,q7,q8,q9,q10,q11,q12,q13⟩,-⟩:=hSw;go_simp;(try with_reducible rfl)
    (try simp only[N0]);refine tY (v:=?_) 16 42 ?_ ?_;rotate_left
    ·intro w hSw;rw[hSd] at hSw;obtain⟨⟨qm,q0,q1,q2,q3,q4,q5,q6,q7,q8,q9,q10,q11,q12,q13⟩,-⟩:=hSw;go_simp;(try with_reducible rfl)
    (try simp only[N0]);refine tY (v:=?_) 17 43 ?_ ?_;rotate_left
    ·intro w hSw;rw[hSd] at hSw;obtain⟨⟨qm,q0,q1,q2,q3,q4,q5,q6,q7,q8,q9,q10,q11,q12,q13⟩,-⟩:=hSw;go_simp;(try with_reducible rfl)
    (try simp only[N0]);refine tY (v:=?_) 18 44 ?_ ?_;rotate_left
    ·intro w hSw;rw[hSd] at hSw;obtain⟨⟨qm,q0,q1,q2,q3,q4,q5,q6,q7,q8,q9,q10,q11,q12,q13⟩,-⟩:=hSw;go_simp;(try with_reducible rfl)
    (try simp only[N0]);refine tY (v:=?_) 19 45 ?_ ?_;rotate_left
    ·intro w hSw;rw[hSd] at hSw;obtain⟨⟨qm,q0,q1,q2,q3,q4,q5,q6,q7,q8,q9,q10,q11,q12,q13⟩,-⟩:=hSw;go_simp;(try with_reducible rfl)
    (try simp only[N0]);have hZyd:y.heap.size≤yd.heap.size:=(Nat.le_trans (Nat.le_refl _) (HSB.out _ hHeld).size);refine wpAnyH_ready (rs:=[2,21]) (by kernel_rfl) (by simp) ?_;refine AllReadyH.cons (o:=_) rfl (fun Kq hK=>?_) ?_
    ·go_simp;refine(HIH.out _ (HMR2.out _ (HSB.out _ hHeld))).mono ?_;rintro e zc0 ⟨rfl,hb⟩;have hBzc0:=Lib.hid (below_via (HSB.out _ hHeld) (Nat.le_trans (Nat.le_refl _) (HSB.out _ hHeld).size) hb);have hZzc0:=Nat.le_trans hZyd hb.size;clear hb;(try go_simp);refine hK.out _ _ ?_ (fun hHeld=>?_)
     ·exact HS.out _ hBzc0
     clear hK Kq;(try simp only[N0]);refine wpAnyH_ready (rs:=[10,21]) (by kernel_rfl) (by simp) ?_;refine AllReadyH.cons (o:=_) rfl (fun Kq hK=>?_) ?_
     ·go_simp;refine(rest_any (R k) hRk.out _).mono ?_;rintro e zc1 ⟨rfl,hb⟩;have hBzc1:=Lib.hid (below_via (HSB.out _ hHeld) (Nat.le_trans (Nat.le_refl _) (HSB.out _ hHeld).size) hb);have hZzc1:=Nat.le_trans hZzc0 hb.size;clear hb;(try go_simp);refine hK.out _ _ ?_ (fun hHeld=>?_)
      ·exact HS.out _ hBzc1
      clear hK Kq;(try simp only[N0]);refine wpAnyH_ready (rs:=[11,21]) (by kernel_rfl) (by simp) ?_;refine AllReadyH.cons (o:=_) rfl (fun Kq hK=>?_) ?_
      ·go_simp;refine(plus_any (downS t R U n f k) (rest1 (R k) 4) hs1.out hs2.out _).mono ?_;rintro e zc2 ⟨rfl,hb⟩;have hBzc2:=Lib.hid (below_via (HSB.out _ hHeld) (Nat.le_trans (Nat.le_refl _) (HSB.out _ hHeld).size) hb);have hZzc2:=Nat.le_trans hZzc1 hb.size;clear hb;(try go_simp);refine hK.out _ _ ?_ (fun hHeld=>?_)
       ·exact HS.out _ hBzc2
       clear hK Kq;(try simp only[N0]);refine wpAnyH_ready (rs:=[20,21]) (by kernel_rfl) (by simp) ?_;refine AllReadyH.cons (o:=_) rfl (fun Kq hK=>?_) ?_
       ·go_simp;refine(minus_any (plus (downS t R U n f k) (rest1 (R k) 4)) (R k 1) hs3.out hs4.out _).mono ?_;rintro e zc3 ⟨rfl,hb⟩;have hBzc3:=Lib.hid (below_via (HSB.out _ hHeld) (Nat.le_trans (Nat.le_refl _) (HSB.out _ hHeld).size) hb);have hZzc3:=Nat.le_trans hZzc2 hb.size;clear hb;(try go_simp);refine hK.out _ _ ?_ (fun hHeld=>?_)
        ·exact HS.out _ hBzc3
        clear hK Kq;(try simp only[N0]);refine wpAnyH_ready (rs:=[21]) (by kernel_rfl) (by simp) ?_;refine AllReadyH.cons (o:=_) rfl (fun Kq hK=>?_) AllReadyH.nil;go_simp;refine hK.out _ _ ?_ (fun hHeld=>?_)
        ·exact HS.out _ (Lib.hid ((HSB.out _ hHeld).alloc (Nat.le_trans (Nat.le_refl _) (HSB.out _ hHeld).size) _))
        clear hK Kq;have hOoth:=heap_alloc_new zc3 (.cells #[.int .i64 0,.int .i64 0] 36);have hoboth:=hZzc3;have hZz21f4:=Nat.le_trans hZzc3 ((Below.refl zc3.heap.size zc3).alloc (Nat.le_refl _) (.cells #[.int .i64 0,.int .i64 0] 36)).size;generalize (zc3.alloc (.cells #[.int .i64 0,.int .i64 0] 36))=z21f4 at *;(try simp only[N0]);refine wpAnyH_ready (rs:=[22]) (by kernel_rfl) (by simp) ?_;refine AllReadyH.cons (o:=_) rfl (fun Kq hK=>?_) AllReadyH.nil;obtain⟨e0,e1,g0,g1⟩:=two_facts hOoth;go_simp;refine hK.out _ _ ?_ (fun hHeld=>?_)
        ·exact HS.out _ (Lib.hid (((HSB.out _ hHeld).setCell (by simpa using hoboth) _).setCell (by simpa using hoboth) _))
        clear hK Kq;(try simp only[N0]);refine wpAnyH_done (by kernel_rfl) ?_ _;(go_wp2_with fail);go_meet;exact⟨_,rfl,_,rfl,set_two _ _ _ _ _ _ _ hOoth,HSB.out _ hHeld,hoboth⟩
       refine AllReadyH.cons (o:=_) rfl (fun Kq hK=>?_) AllReadyH.nil;go_simp;refine hK.out _ _ ?_ (fun hHeld=>?_)
       ·exact HS.out _ (Lib.hid ((HSB.out _ hHeld).alloc (Nat.le_trans (Nat.le_refl _) (HSB.out _ hHeld).size) _))
       clear hK Kq;have hOoth:=heap_alloc_new zc2 (.cells #[.int .i64 0,.int .i64 0] 36);have hoboth:=hZzc2;have hZz21f3:=Nat.le_trans hZzc2 ((Below.refl zc2.heap.size zc2).alloc (Nat.le_refl _) (.cells #[.int .i64 0,.int .i64 0] 36)).size;generalize (zc2.alloc (.cells #[.int .i64 0,.int .i64 0] 36))=z21f3 at *;(try simp only[N0]);refine wpAnyH_ready (rs:=[20]) (by kernel_rfl) (by simp) ?_;refine AllReadyH.cons (o:=_) rfl (fun Kq hK=>?_) AllReadyH.nil;go_simp;refine(minus_any (plus (downS t R U n f k) (rest1 (R k) 4)) (R k 1) hs3.out hs4.out _).mono ?_;rintro e zc3a21 ⟨rfl,hb⟩;have hBzc3a21:=Lib.hid (below_via (HSB.out _ hHeld) (Nat.le_trans (Nat.le_refl _) (HSB.out _ hHeld).size) hb);have hOoth:=keepO hb hOoth;have hZzc3a21:=Nat.le_trans hZz21f3 hb.size;clear hb;(try go_simp);refine hK.out _ _ ?_ (fun hHeld=>?_)
       ·exact HS.out _ hBzc3a21
       clear hK Kq;(try simp only[N0]);refine wpAnyH_ready (rs:=[22]) (by kernel_rfl) (by simp) ?_;refine AllReadyH.cons (o:=_) rfl (fun Kq hK=>?_) AllReadyH.nil;obtain⟨e0,e1,g0,g1⟩:=two_facts hOoth;go_simp;refine hK.out _ _ ?_ (fun hHeld=>?_)
       ·exact HS.out _ (Lib.hid (((HSB.out _ hHeld).setCell (by simpa using hoboth) _).setCell (by simpa using hoboth) _))
       clear hK Kq;(try simp only[N0]);refine wpAnyH_done (by kernel_rfl) ?_ _;(go_wp2_with fail);go_meet;exact⟨_,rfl,_,rfl,set_two _ _ _ _ _ _ _ hOoth,HSB.out _ hHeld,hoboth⟩
      refine AllReadyH.cons (o:=_) rfl (fun Kq hK=>?_) AllReadyH.nil;go_simp;refine hK.out _ _ ?_ (fun hHeld=>?_)
      ·exact HS.out _ (Lib.hid ((HSB.out _ hHeld).alloc (Nat.le_trans (Nat.le_refl _) (HSB.out _ hHeld).size) _))
      clear hK Kq;have hOoth:=heap_alloc_new zc1 (.cells #[.int .i64 0,.int .i64 0] 36);have hoboth:=hZzc1;have hZz21f2:=Nat.le_trans hZzc1 ((Below.refl zc1.heap.size zc1).alloc (Nat.le_refl _) (.cells #[.int .i64 0,.int .i64 0] 36)).size;generalize (zc1.alloc (.cells #[.int .i64 0,.int .i64 0] 36))=z21f2 at *;(try simp only[N0]);refine wpAnyH_ready (rs:=[11]) (by kernel_rfl) (by simp) ?_;refine AllReadyH.cons (o:=_) rfl (fun Kq hK=>?_) AllReadyH.nil;go_simp;refine(plus_any (downS t R U n f k) (rest1 (R k) 4) hs1.out hs2.out _).mono ?_;rintro e zc2a21 ⟨rfl,hb⟩;have hBzc2a21:=Lib.hid (below_via (HSB.out _ hHeld) (Nat.le_trans (Nat.le_refl _) (HSB.out _ hHeld).size) hb);have hOoth:=keepO hb hOoth;have hZzc2a21:=Nat.le_trans hZz21f2 hb.size;clear hb;(try go_simp);refine hK.out _ _ ?_ (fun hHeld=>?_)
      ·exact HS.out _ hBzc2a21
      clear hK Kq;(try simp only[N0]);refine wpAnyH_ready (rs:=[20]) (by kernel_rfl) (by simp) ?_;refine AllReadyH.cons (o:=_) rfl (fun Kq hK=>?_) AllReadyH.nil;go_simp;refine(minus_any (plus (downS t R U n f k) (rest1 (R k) 4)) (R k 1) hs3.out hs4.out _).mono ?_;rintro e zc3a21 ⟨rfl,hb⟩;have hBzc3a21:=Lib.hid (below_via (HSB.out _ hHeld) (Nat.le_trans (Nat.le_refl _) (HSB.out _ hHeld).size) hb);have hOoth:=keepO hb hOoth;have hZzc3a21:=Nat.le_trans hZzc2a21 hb.size;clear hb;(try go_simp);refine hK.out _ _ ?_ (fun hHeld=>?_)
      ·exact HS.out _ hBzc3a21
      clear hK Kq;(try simp only[N0]);refine wpAnyH_ready (rs:=[22]) (by kernel_rfl) (by simp) ?_;refine AllReadyH.cons (o:=_) rfl (fun Kq hK=>?_) AllReadyH.nil;obtain⟨e0,e1,g0,g1⟩:=two_facts hOoth;go_simp;refine hK.out _ _ ?_ (fun hHeld=>?_)
      ·exact HS.out _ (Lib.hid (((HSB.out _ hHeld).setCell (by simpa using hoboth) _).setCell (by simpa using hoboth) _))
      clear hK Kq;(try simp only[N0]);refine wpAnyH_done (by kernel_rfl) ?_ _;(go_wp2_with fail);go_meet;exact⟨_,rfl,_,rfl,set_two _ _ _ _ _ _ _ hOoth,HSB.out _ hHeld,hoboth⟩
     refine AllReadyH.cons (o:=_) rfl (fun Kq hK=>?_) AllReadyH.nil;go_simp;refine hK.out _ _ ?_ (fun hHeld=>?_)
     ·exact HS.out _ (Lib.hid ((HSB.out _ hHeld).alloc (Nat.le_trans (Nat.le_refl _) (HSB.out _ hHeld).size) _))
     clear hK Kq;have hOoth:=heap_alloc_new zc0 (.cells #[.int .i64 0,.int .i64 0] 36);have hoboth:=hZzc0;have hZz21f1:=Nat.le_trans hZzc0 ((Below.refl zc0.heap.size zc0).alloc (Nat.le_refl _) (.cells #[.int .i64 0,.int .i64 0] 36)).size;generalize (zc0.alloc (.cells #[.int .i64 0,.int .i64 0] 36))=z21f1 at *;(try simp only[N0]);refine wpAnyH_ready (rs:=[10]) (by kernel_rfl) (by simp) ?_;refine AllReadyH.cons (o:=_) rfl (fun Kq hK=>?_) AllReadyH.nil;go_simp;refine(rest_any (R k) hRk.out _).mono ?_;rintro e zc1a21 ⟨rfl,hb⟩;have hBzc1a21:=Lib.hid (below_via (HSB.out _ hHeld) (Nat.le_trans (Nat.le_refl _) (HSB.out _ hHeld).size) hb);have hOoth:=keepO hb hOoth;have hZzc1a21:=Nat.le_trans hZz21f1 hb.size;clear hb;(try go_simp);refine hK.out _ _ ?_ (fun hHeld=>?_)
     ·exact HS.out _ hBzc1a21
     clear hK Kq;(try simp only[N0]);refine wpAnyH_ready (rs:=[11]) (by kernel_rfl) (by simp) ?_;refine AllReadyH.cons (o:=_) rfl (fun Kq hK=>?_) AllReadyH.nil;go_simp;refine(plus_any (downS t R U n f k) (rest1 (R k) 4) hs1.out hs2.out _).mono ?_;rintro e zc2a21 ⟨rfl,hb⟩;have hBzc2a21:=Lib.hid (below_via (HSB.out _ hHeld) (Nat.le_trans (Nat.le_refl _) (HSB.out _ hHeld).size) hb);have hOoth:=keepO hb hOoth;have hZzc2a21:=Nat.le_trans hZzc1a21 hb.size;clear hb;(try go_simp);refine hK.out _ _ ?_ (fun hHeld=>?_)
     ·exact HS.out _ hBzc2a21
     clear hK Kq;(try simp only[N0]);refine wpAnyH_ready (rs:=[20]) (by kernel_rfl) (by simp) ?_;refine AllReadyH.cons (o:=_) rfl (fun Kq hK=>?_) AllReadyH.nil;go_simp;refine(minus_any (plus (downS t R U n f k) (rest1 (R k) 4)) (R k 1) hs3.out hs4.out _).mono ?_;rintro e zc3a21 ⟨rfl,hb⟩;have hBzc3a21:=Lib.hid (below_via (HSB.out _ hHeld) (Nat.le_trans (Nat.le_refl _) (HSB.out _ hHeld).size) hb);have hOoth:=keepO hb hOoth;have hZzc3a21:=Nat.le_trans hZzc2a21 hb.size;clear hb;(try go_simp);refine hK.out _ _ ?_ (fun hHeld=>?_)
     ·exact HS.out _ hBzc3a21
     clear hK Kq;(try simp only[N0]);refine wpAnyH_ready (rs:=[22]) (by kernel_rfl) (by simp) ?_;refine AllReadyH.cons (o:=_) rfl (fun Kq hK=>?_) AllReadyH.nil;obtain⟨e0,e1,g0,g1⟩:=two_facts hOoth;go_simp;refine hK.out _ _ ?_ (fun hHeld=>?_)
     ·exact HS.out _ (Lib.hid (((HSB.out _ hHeld).setCell (by simpa using hoboth) _).setCell (by simpa using hoboth) _))
     clear hK Kq;(try simp only[N0]);refine wpAnyH_done (by kernel_rfl) ?_ _;(go_wp2_with fail);go_meet;exact⟨_,rfl,_,rfl,set_two _ _ _ _ _ _ _ hOoth,HSB.out _ hHeld,hoboth⟩
    refine AllReadyH.cons (o:=_) rfl (fun Kq hK=>?_) AllReadyH.nil;go_simp;refine hK.out _ _ ?_ (fun hHeld=>?_)
    ·exact HS.out _ (Lib.hid ((HSB.out _ hHeld).alloc (Nat.le_trans (Nat.le_refl _) (HSB.out _ hHeld).size) _))
    clear hK Kq;have hOoth:=heap_alloc_new yd (.cells #[.int .i64 0,.int .i64 0] 36);have hoboth:=hZyd;have hZz21f0:=Nat.le_trans hZyd ((Below.refl yd.heap.size yd).alloc (Nat.le_refl _) (.cells #[.int .i64 0,.int .i64 0] 36)).size;generalize (yd.alloc (.cells #[.int .i64 0,.int .i64 0] 36))=z21f0 at *;(try simp only[N0]);refine wpAnyH_ready (rs:=[2]) (by kernel_rfl) (by simp) ?_;refine AllReadyH.cons (o:=_) rfl (fun Kq hK=>?_) AllReadyH.nil;go_simp;refine(HIH.out _ (HMR2.out _ (HSB.out _ hHeld))).mono ?_;rintro e zc0a21 ⟨rfl,hb⟩;have hBzc0a21:=Lib.hid (below_via (HSB.out _ hHeld) (Nat.le_trans (Nat.le_refl _) (HSB.out _ hHeld).size) hb);have hOoth:=keepO hb hOoth;have hZzc0a21:=Nat.le_trans hZz21f0 hb.size;clear hb;(try go_simp);refine hK.out _ _ ?_ (fun hHeld=>?_)
    ·exact HS.out _ hBzc0a21
    clear hK Kq;(try simp only[N0]);refine wpAnyH_ready (rs:=[10]) (by kernel_rfl) (by simp) ?_;refine AllReadyH.cons (o:=_) rfl (fun Kq hK=>?_) AllReadyH.nil;go_simp;refine(rest_any (R k) hRk.out _).mono ?_;rintro e zc1a21 ⟨rfl,hb⟩;have hBzc1a21:=Lib.hid (below_via (HSB.out _ hHeld) (Nat.le_trans (Nat.le_refl _) (HSB.out _ hHeld).size) hb);have hOoth:=keepO hb hOoth;have hZzc1a21:=Nat.le_trans hZzc0a21 hb.size;clear hb;(try go_simp);refine hK.out _ _ ?_ (fun hHeld=>?_)
    ·exact HS.out _ hBzc1a21
    clear hK Kq;(try simp only[N0]);refine wpAnyH_ready (rs:=[11]) (by kernel_rfl) (by simp) ?_;refine AllReadyH.cons (o:=_) rfl (fun Kq hK=>?_) AllReadyH.nil;go_simp;refine(plus_any (downS t R U n f k) (rest1 (R k) 4) hs1.out hs2.out _).mono ?_;rintro e zc2a21 ⟨rfl,hb⟩;have hBzc2a21:=Lib.hid (below_via (HSB.out _ hHeld) (Nat.le_trans (Nat.le_refl _) (HSB.out _ hHeld).size) hb);have hOoth:=keepO hb hOoth;have hZzc2a21:=Nat.le_trans hZzc1a21 hb.size;clear hb;(try go_simp);refine hK.out _ _ ?_ (fun hHeld=>?_)
    ·exact HS.out _ hBzc2a21
    clear hK Kq;(try simp only[N0]);refine wpAnyH_ready (rs:=[20]) (by kernel_rfl) (by simp) ?_;refine AllReadyH.cons (o:=_) rfl (fun Kq hK=>?_) AllReadyH.nil;go_simp;refine(minus_any (plus (downS t R U n f k) (rest1 (R k) 4)) (R k 1) hs3.out hs4.out _).mono ?_;rintro e zc3a21 ⟨rfl,hb⟩;have hBzc3a21:=Lib.hid (below_via (HSB.out _ hHeld) (Nat.le_trans (Nat.le_refl _) (HSB.out _ hHeld).size) hb);have hOoth:=keepO hb hOoth;have hZzc3a21:=Nat.le_trans hZzc2a21 hb.size;clear hb;(try go_simp);refine hK.out _ _ ?_ (fun hHeld=>?_)
    ·exact HS.out _ hBzc3a21
    clear hK Kq;(try simp only[N0]);refine wpAnyH_ready (rs:=[22]) (by kernel_rfl) (by simp) ?_;refine AllReadyH.cons (o:=_) rfl (fun Kq hK=>?_) AllReadyH.nil;obtain⟨e0,e1,g0,g1⟩:=two_facts hOoth;go_simp;refine hK.out _ _ ?_ (fun hHeld=>?_)
    ·exact HS.out _ (Lib.hid (((HSB.out _ hHeld).setCell (by simpa using hoboth) _).setCell (by simpa using hoboth) _))
    clear hK Kq;(try simp only[N0]);refine wpAnyH_done (by kernel_rfl) ?_ _;(go_wp2_with fail);go_meet;exact⟨_,rfl,_,rfl,set_two _ _ _ _ _ _ _ hOoth,HSB.out _ hHeld,hoboth⟩
   case rest=>
    clear S hSd HS HSB HQ;obtain⟨wx,rfl,ob,rfl,hOb,hBy,hob⟩:=‹∃wl,wl=_∧_›;have c2':=(HMR2.out _ hBy).c2;have h0:Hid (minus (minus (plus (downS t R U n f k) (rest1 (R k) 4)) (R k 1)) (feedX t U k i 0)=(minus (plus (downS t R U n f k) (rest1 (R k) 4)) (R k 1))):=(by show _=_;simp[minus,feedX]);have hOb':Hid (wx.heap[ob]? = some (.cells #[.int .i64 (minus (minus (plus (downS t R U n f k) (rest1 (R k) 4)) (R k 1)) (feedX t U k i 0)).1,.int .i64 (minus (minus (plus (downS t R U n f k) (rest1 (R k) 4)) (R k 1)) (feedX t U k i 0)).2] 36 (0,0))):=(by show _=_;rw[h0.out];exact hOb);have hBy':=Lib.hid hBy;clear hOb h0 hBy;(go_wp2_with fail);go_loopw [52] (fun x wr=>∃j:Nat,j≤n∧x = .int .i64 j∧Hid (wr.heap[ob]? = some (.cells #[.int .i64 (minus (minus (plus (downS t R U n f k) (rest1 (R k) 4)) (R k 1)) (feedX t U k i j)).1,.int .i64 (minus (minus (plus (downS t R U n f k) (rest1 (R k) 4)) (R k 1)) (feedX t U k i j)).2] 36 (0,0)))∧Hid (Below y.heap.size y wr)) (fun x _=>n - (intOf x).toNat)
    case atStart=>exact⟨0,by omega,rfl,hOb',hBy'⟩
    case round=>
     clear hOb' hBy' c2';obtain⟨j,hj,rfl,hOb1,hBr⟩:=hrel;have hyr:y.heap.size≤wr.heap.size:=hBr.out.size;have hobw:ob<wr.heap.size:=(Array.getElem?_eq_some_iff.1 hOb1.out).1;by_cases hlt:j<n
     ·have hjn:(j:Int)<(n:Int):=(by omega);have j0:(0:Int)≤(j:Int):=(by omega);have hMr:=HMR2.out _ hBr.out;obtain⟨bt',ot',et,hbt',ctj⟩:=hMr.rt.to_ hlt;simp only[Option.some.injEq,Addr.mk.injEq,and_true] at et;obtain⟨rfl,rfl⟩:=et;by_cases hin:t j=some k∧j≠i
      ·obtain⟨htj,hji⟩:=hin;have hvj:toV t j=(k:Int):=toV_eq.2 htj;rw[hvj] at ctj;have hji':¬(j:Int)=(i:Int):=(by omega);have hfx:Hid (feedX t U k i (j+1)=plus (feedX t U k i j) (U j)):=(by show _=_;rw[feedX,if_pos ⟨htj,hji⟩]);obtain⟨bu,ou,rfl,hbu,u0,u1⟩:=hMy.ru.sp (m:=n) hlt;have HSQ:=Lib.hid (fun z (hz:Below y.heap.size y z)=>(⟨(HMR2.out z hz).c4,(hz.cell (by simp only;omega)).trans u0,(hz.cell (by simp only;omega)).trans u1⟩:z.cell? ⟨mb,4,none⟩=some (.slice (some ⟨bu,ou,none⟩) n cu)∧z.cell? ⟨bu,ou+j*2,none⟩=some (.int .i64 (U j).1)∧z.cell? ⟨bu,ou+j*2+1,none⟩=some (.int .i64 (U j).2)));have hs5:Hid (Sml (minus (minus (plus (downS t R U n f k) (rest1 (R k) 4)) (R k 1)) (feedX t U k i j))):=HSF.out j (by omega);have hs6:Hid (Sml (U j)):=HSU.out j hlt;obtain⟨s0,s1,f0,f1⟩:=two_facts hOb1.out;have hOb2:=hOb1.out;clear hMr u0 u1 htj hvj;(go_wp2_with fail);obtain⟨S,hSd⟩:∃S:World→Prop,S=fun z=>(z.cell? ⟨mb,4,none⟩=some (.slice (some ⟨bu,ou,none⟩) n cu)∧z.cell? ⟨bu,ou+j*2,none⟩=some (.int .i64 (U j).1)∧z.cell? ⟨bu,ou+j*2+1,none⟩=some (.int .i64 (U j).2))∧Hid (Below y.heap.size y z):=⟨_,rfl⟩
       have HSK:=Lib.hid (fun z (hz:Hid (Below y.heap.size y z))=>(by rw[hSd];exact⟨HSQ.out z hz.out,hz⟩:S z));refine wp_region_held_drew (S:=S) (by kernel_rfl) ?_ (fun hHeld=>?_)
       ·exact HSK.out _ (Lib.hid hBr.out.drew)
       refine tY (v:=?_) 1 66 ?_ ?_;rotate_left
       ·intro w hSw;rw[hSd] at hSw;obtain⟨⟨q4,q0,q1⟩,-⟩:=hSw;go_simp;(try with_reducible rfl)
       (try simp only[N0]);refine tY (v:=?_) 2 67 ?_ ?_;rotate_left
       ·intro w hSw;rw[hSd] at hSw;obtain⟨⟨q4,q0,q1⟩,-⟩:=hSw;go_simp;(try with_reducible rfl)
       (try simp only[N0]);refine tY (v:=?_) 3 68 ?_ ?_;rotate_left
       ·intro w hSw;rw[hSd] at hSw;obtain⟨⟨q4,q0,q1⟩,-⟩:=hSw;go_simp;(try with_reducible rfl)
       (try simp only[N0]);refine tY (v:=?_) 4 69 ?_ ?_;rotate_left
       ·intro w hSw;rw[hSd] at hSw;obtain⟨⟨q4,q0,q1⟩,-⟩:=hSw;go_simp;(try with_reducible rfl)
       (try simp only[N0]);refine tY (v:=?_) 5 70 ?_ ?_;rotate_left
       ·intro w hSw;rw[hSd] at hSw;obtain⟨⟨q4,q0,q1⟩,-⟩:=hSw;go_simp;(try with_reducible rfl)
       (try simp only[N0]);refine tY (v:=?_) 6 71 ?_ ?_;rotate_left
       ·intro w hSw;rw[hSd] at hSw;obtain⟨⟨q4,q0,q1⟩,-⟩:=hSw;go_simp;(try with_reducible rfl)
       (try simp only[N0]);refine tY (v:=?_) 7 72 ?_ ?_;rotate_left
       ·intro w hSw;rw[hSd] at hSw;obtain⟨⟨q4,q0,q1⟩,-⟩:=hSw;go_simp;(try with_reducible rfl)
       (try simp only[N0]);refine wpAnyH_ready (rs:=[0]) (by kernel_rfl) (by simp) ?_;refine AllReadyH.cons (o:=_) rfl (fun Kq hK=>?_) AllReadyH.nil;go_simp;refine hK.out _ _ ?_ (fun hHeld=>?_)
       ·exact hHeld
       clear hK Kq;(try simp only[N0]);refine wpAnyH_ready (rs:=[8]) (by kernel_rfl) (by simp) ?_;refine AllReadyH.cons (o:=_) rfl (fun Kq hK=>?_) AllReadyH.nil;go_simp;refine(minus_any (minus (minus (plus (downS t R U n f k) (rest1 (R k) 4)) (R k 1)) (feedX t U k i j)) (U j) hs5.out hs6.out _).mono ?_;rintro e z8 ⟨rfl,hb8⟩;have hB8:Hid (Below wr.heap.size wr z8):=Lib.hid ((Below.refl _ wr).drew.trans hb8);have hO8:=(hb8.block ob (by simp;omega)).trans hOb2;obtain⟨s0',s1',g0,g1⟩:=two_facts hO8;clear hb8;(try go_simp);refine hK.out _ _ ?_ (fun hHeld=>?_)
       ·exact HSK.out _ (Lib.hid (hBr.out.trans (hB8.out.mono hyr)))
       clear hK Kq;(try simp only[N0]);refine wpAnyH_ready (rs:=[9]) (by kernel_rfl) (by simp) ?_;refine AllReadyH.cons (o:=_) rfl (fun Kq hK=>?_) AllReadyH.nil;go_simp;refine hK.out _ _ ?_ (fun hHeld=>?_)
       ·exact HSK.out _ (Lib.hid (((hBr.out.trans (hB8.out.mono hyr)).setCell (by simp<;>omega) _).setCell (by simp<;>omega) _))
       clear hK Kq;(try simp only[N0]);refine wpAnyH_done (by kernel_rfl) ?_ _;have HX:=Lib.hid (set_two _ _ _ (.int .i64 (minus (minus (minus (plus (downS t R U n f k) (rest1 (R k) 4)) (R k 1)) (feedX t U k i j)) (U j)).1) (.int .i64 (minus (minus (minus (plus (downS t R U n f k) (rest1 (R k) 4)) (R k 1)) (feedX t U k i j)) (U j)).2) _ _ hO8);have hBz:=Lib.hid (((hBr.out.trans (hB8.out.mono hyr)).setCell (p:=⟨ob,0,none⟩) (by simp<;>omega) (.int .i64 (minus (minus (minus (plus (downS t R U n f k) (rest1 (R k) 4)) (R k 1)) (feedX t U k i j)) (U j)).1)).setCell (p:=⟨ob,1,none⟩) (by simp<;>omega) (.int .i64 (minus (minus (minus (plus (downS t R U n f k) (rest1 (R k) 4)) (R k 1)) (feedX t U k i j)) (U j)).2));clear HSK hB8 hO8 s0' s1' g0 g1 hOb2;go_wp2;go_roundw
       case rel=>exact⟨j+1,by omega,by go_num,by show _=_;rw[hfx.out,←minus_minus];exact HX.out,hBz⟩
       case measure=>simp[intOf];omega
      ·have hfx:Hid (feedX t U k i (j+1)=feedX t U k i j):=(by show _=_;rw[feedX,if_neg hin]);have hrel2:Hid (wr.heap[ob]? = some (.cells #[.int .i64 (minus (minus (plus (downS t R U n f k) (rest1 (R k) 4)) (R k 1)) (feedX t U k i (j+1))).1,.int .i64 (minus (minus (plus (downS t R U n f k) (rest1 (R k) 4)) (R k 1)) (feedX t U k i (j+1))).2] 36 (0,0))):=(by show _=_;rw[hfx.out];exact hOb1.out);by_cases hvj:toV t j=(k:Int)
       ·have hji:j=i:=by
         have:=toV_eq.1 hvj;exact Decidable.byContradiction fun h=>hin ⟨this,h⟩
        rw[hvj] at ctj;subst hji;clear hMr hin;go_wp2;go_roundw
        case rel=>exact⟨j+1,by omega,by go_num,hrel2,hBr⟩
        case measure=>simp[intOf];omega
       ·clear hMr hin;go_wp2;go_roundw
        case rel=>exact⟨j+1,by omega,by go_num,hrel2,hBr⟩
        case measure=>simp[intOf];omega
     ·obtain rfl:n=j:=(by omega);have hBx:Hid (Below x.heap.size x wr):=Lib.hid (hxy.trans (hBr.out.mono hxy.size));have hxr:x.heap.size≤wr.heap.size:=hBx.out.size;have hxlt:x.heap.size<wr.heap.size:=(by omega);have hOx:=(hBr.out.block x.heap.size (by omega)).trans hyb;have HSQ:=Lib.hid (fun z (hz:Below x.heap.size x z)=>(⟨(HMR.out z hz).c3,(hz.cell (by simp only;omega)).trans r12,(hz.cell (by simp only;omega)).trans r13⟩:z.cell? ⟨mb,3,none⟩=some (.slice (some ⟨bi,oi,none⟩) n cr)∧z.cell? ⟨bi,oi+i*14+12,none⟩=some (.int .i64 (R i 6).1)∧z.cell? ⟨bi,oi+i*14+13,none⟩=some (.int .i64 (R i 6).2)));obtain⟨s0,s1,f0,f1⟩:=two_facts hOb1.out;(go_wp2_with fail);obtain⟨S,hSd⟩:∃S:World→Prop,S=fun z=>(z.cell? ⟨mb,3,none⟩=some (.slice (some ⟨bi,oi,none⟩) n cr)∧z.cell? ⟨bi,oi+i*14+12,none⟩=some (.int .i64 (R i 6).1)∧z.cell? ⟨bi,oi+i*14+13,none⟩=some (.int .i64 (R i 6).2))∧Hid (Below x.heap.size x z):=⟨_,rfl⟩
      have HSK:=Lib.hid (fun z (hz:Hid (Below x.heap.size x z))=>(by rw[hSd];exact⟨HSQ.out z hz.out,hz⟩:S z));refine wp_region_held_drew (S:=S) (by kernel_rfl) ?_ (fun hHeld=>?_)
      ·exact HSK.out _ (Lib.hid hBx.out.drew)
      refine tY (v:=?_) 1 76 ?_ ?_;rotate_left
      ·intro w hSw;rw[hSd] at hSw;obtain⟨⟨q4,q0,q1⟩,-⟩:=hSw;go_simp;(try with_reducible rfl)
      (try simp only[N0]);refine tY (v:=?_) 2 77 ?_ ?_;rotate_left
      ·intro w hSw;rw[hSd] at hSw;obtain⟨⟨q4,q0,q1⟩,-⟩:=hSw;go_simp;(try with_reducible rfl)
      (try simp only[N0]);refine tY (v:=?_) 3 78 ?_ ?_;rotate_left
      ·intro w hSw;rw[hSd] at hSw;obtain⟨⟨q4,q0,q1⟩,-⟩:=hSw;go_simp;(try with_reducible rfl)
      (try simp only[N0]);refine tY (v:=?_) 4 79 ?_ ?_;rotate_left
      ·intro w hSw;rw[hSd] at hSw;obtain⟨⟨q4,q0,q1⟩,-⟩:=hSw;go_simp;(try with_reducible rfl)
      (try simp only[N0]);refine tY (v:=?_) 5 80 ?_ ?_;rotate_left
      ·intro w hSw;rw[hSd] at hSw;obtain⟨⟨q4,q0,q1⟩,-⟩:=hSw;go_simp;(try with_reducible rfl)
      (try simp only[N0]);refine tY (v:=?_) 6 81 ?_ ?_;rotate_left
      ·intro w hSw;rw[hSd] at hSw;obtain⟨⟨q4,q0,q1⟩,-⟩:=hSw;go_simp;(try with_reducible rfl)
      (try simp only[N0]);refine tY (v:=?_) 7 82 ?_ ?_;rotate_left
      ·intro w hSw;rw[hSd] at hSw;obtain⟨⟨q4,q0,q1⟩,-⟩:=hSw;go_simp;(try with_reducible rfl)
      (try simp only[N0]);refine tY (v:=?_) 8 83 ?_ ?_;rotate_left
      ·intro w hSw;rw[hSd] at hSw;obtain⟨⟨q4,q0,q1⟩,-⟩:=hSw;go_simp;(try with_reducible rfl)
      (try simp only[N0]);refine wpAnyH_ready (rs:=[0]) (by kernel_rfl) (by simp) ?_;refine AllReadyH.cons (o:=_) rfl (fun Kq hK=>?_) AllReadyH.nil;go_simp;refine hK.out _ _ ?_ (fun hHeld=>?_)
      ·exact hHeld
      clear hK Kq;(try simp only[N0]);refine wpAnyH_ready (rs:=[9]) (by kernel_rfl) (by simp) ?_;refine AllReadyH.cons (o:=_) rfl (fun Kq hK=>?_) AllReadyH.nil;go_simp;refine(both_any (minus (minus (plus (downS t R U n f k) (rest1 (R k) 4)) (R k 1)) (feedX t U k i n)) (R i 6) _).mono ?_;rintro e z9 ⟨rfl,hb9⟩;have hB9:Hid (Below wr.heap.size wr z9):=Lib.hid ((Below.refl _ wr).drew.trans hb9);have hO9:=(hb9.block x.heap.size (by simp;omega)).trans hOx;obtain⟨s0',s1',g0,g1⟩:=two_facts hO9;clear hb9;(try go_simp);refine hK.out _ _ ?_ (fun hHeld=>?_)
      ·exact HSK.out _ (Lib.hid (hBx.out.trans (hB9.out.mono hxr)))
      clear hK Kq;(try simp only[N0]);refine wpAnyH_ready (rs:=[10]) (by kernel_rfl) (by simp) ?_;refine AllReadyH.cons (o:=_) rfl (fun Kq hK=>?_) AllReadyH.nil;go_simp;refine hK.out _ _ ?_ (fun hHeld=>?_)
      ·exact HSK.out _ (Lib.hid (((hBx.out.trans (hB9.out.mono hxr)).setCell (by simp) _).setCell (by simp) _))
      clear hK Kq;(try simp only[N0]);refine wpAnyH_done (by kernel_rfl) ?_ _;have k0:=set_two _ _ _ (.int .i64 (both (minus (minus (plus (downS t R U n f k) (rest1 (R k) 4)) (R k 1)) (feedX t U k i n)) (R i 6)).1) (.int .i64 (both (minus (minus (plus (downS t R U n f k) (rest1 (R k) 4)) (R k 1)) (feedX t U k i n)) (R i 6)).2) _ _ hO9;obtain⟨k1,k2,-,-⟩:=two_facts k0;have hBe:=(((hBx.out.trans (hB9.out.mono hxr)).setCell (p:=⟨x.heap.size,0,none⟩) (by simp) (.int .i64 (both (minus (minus (plus (downS t R U n f k) (rest1 (R k) 4)) (R k 1)) (feedX t U k i n)) (R i 6)).1)).setCell (p:=⟨x.heap.size,1,none⟩) (by simp) (.int .i64 (both (minus (minus (plus (downS t R U n f k) (rest1 (R k) 4)) (R k 1)) (feedX t U k i n)) (R i 6)).2));go_wp2;exact bodyPost_ret (v:=.agg #[.int .i64 (both (minus (minus (plus (downS t R U n f k) (rest1 (R k) 4)) (R k 1)) (feedX t U k i n)) (R i 6)).1,.int .i64 (both (minus (minus (plus (downS t R U n f k) (rest1 (R k) 4)) (R k 1)) (feedX t U k i n)) (R i 6)).2]) (by simp[results,Tryd.results93,go_sem,k1,k2]) rfl ⟨rfl,hBe⟩
end Go.Proofs.YtfplipbkjglmhaaDoor

namespace Go.Proofs.YtfplipbkjglmhaaDoor
open Go.RowKit
set_option linter.unusedVariables false
set_option linter.unusedSimpArgs false
theorem heap_sets2(w:World)(b k:Nat)(v0 v1:Value)(h:k≠b):((w.setCell ⟨b,0,none⟩ v0).setCell ⟨b,1,none⟩ v1).heap[k]? = w.heap[k]?:=by
 rw[Below.heap_setCell _ _ _ _ (by simpa using h),Below.heap_setCell _ _ _ _ (by simpa using h)]
theorem facts14{x:World}{b:Nat}{c0 c1 c2 c3 c4 c5 c6 c7 c8 c9 c10 c11 c12 c13:Value}{t:TypeId}(h:x.heap[b]? = some (.cells #[c0,c1,c2,c3,c4,c5,c6,c7,c8,c9,c10,c11,c12,c13] t (0,0))) :
  x.cell? ⟨b,0,none⟩=some c0∧x.cell? ⟨b,1,none⟩=some c1∧x.cell? ⟨b,2,none⟩=some c2∧x.cell? ⟨b,3,none⟩=some c3∧x.cell? ⟨b,4,none⟩=some c4∧x.cell? ⟨b,5,none⟩=some c5∧x.cell? ⟨b,6,none⟩=some c6∧x.cell? ⟨b,7,none⟩=some c7∧x.cell? ⟨b,8,none⟩=some c8∧x.cell? ⟨b,9,none⟩=some c9∧x.cell? ⟨b,10,none⟩=some c10∧x.cell? ⟨b,11,none⟩=some c11∧x.cell? ⟨b,12,none⟩=some c12∧x.cell? ⟨b,13,none⟩=some c13∧x.frozen? ⟨b,0,none⟩=false∧x.frozen? ⟨b,1,none⟩=false∧x.frozen? ⟨b,2,none⟩=false∧x.frozen? ⟨b,3,none⟩=false∧x.frozen? ⟨b,4,none⟩=false∧x.frozen? ⟨b,5,none⟩=false∧x.frozen? ⟨b,6,none⟩=false∧x.frozen? ⟨b,7,none⟩=false∧x.frozen? ⟨b,8,none⟩=false∧x.frozen? ⟨b,9,none⟩=false∧x.frozen? ⟨b,10,none⟩=false∧x.frozen? ⟨b,11,none⟩=false∧x.frozen? ⟨b,12,none⟩=false∧x.frozen? ⟨b,13,none⟩=false:=
 ⟨by simp[World.cell?,h],by simp[World.cell?,h],by simp[World.cell?,h],by simp[World.cell?,h],by simp[World.cell?,h],by simp[World.cell?,h],by simp[World.cell?,h],by simp[World.cell?,h],by simp[World.cell?,h],by simp[World.cell?,h],by simp[World.cell?,h],by simp[World.cell?,h],by simp[World.cell?,h],by simp[World.cell?,h],by simp[World.frozen?,h],by simp[World.frozen?,h],by simp[World.frozen?,h],by simp[World.frozen?,h],by simp[World.frozen?,h],by simp[World.frozen?,h],by simp[World.frozen?,h],by simp[World.frozen?,h],by simp[World.frozen?,h],by simp[World.frozen?,h],by simp[World.frozen?,h],by simp[World.frozen?,h],by simp[World.frozen?,h],by simp[World.frozen?,h]⟩
theorem set14(w:World)(b:Nat)(t:TypeId)(v0 v1 v2 v3 v4 v5 v6 v7 v8 v9 v10 v11 v12 v13 c0 c1 c2 c3 c4 c5 c6 c7 c8 c9 c10 c11 c12 c13:Value)(h:w.heap[b]? = some (.cells #[c0,c1,c2,c3,c4,c5,c6,c7,c8,c9,c10,c11,c12,c13] t (0,0))):((((((((((((((w.setCell ⟨b,0,none⟩ v0).setCell ⟨b,1,none⟩ v1).setCell ⟨b,2,none⟩ v2).setCell ⟨b,3,none⟩ v3).setCell ⟨b,4,none⟩ v4).setCell ⟨b,5,none⟩ v5).setCell ⟨b,6,none⟩ v6).setCell ⟨b,7,none⟩ v7).setCell ⟨b,8,none⟩ v8).setCell ⟨b,9,none⟩ v9).setCell ⟨b,10,none⟩ v10).setCell ⟨b,11,none⟩ v11).setCell ⟨b,12,none⟩ v12).setCell ⟨b,13,none⟩ v13).heap[b]? = some (.cells #[v0,v1,v2,v3,v4,v5,v6,v7,v8,v9,v10,v11,v12,v13] t (0,0)):=by
 simp[World.setCell,Array.getElem?_modify,h]
theorem heap_sets14(w:World)(b k:Nat)(v0 v1 v2 v3 v4 v5 v6 v7 v8 v9 v10 v11 v12 v13:Value)(h:k≠b):((((((((((((((w.setCell ⟨b,0,none⟩ v0).setCell ⟨b,1,none⟩ v1).setCell ⟨b,2,none⟩ v2).setCell ⟨b,3,none⟩ v3).setCell ⟨b,4,none⟩ v4).setCell ⟨b,5,none⟩ v5).setCell ⟨b,6,none⟩ v6).setCell ⟨b,7,none⟩ v7).setCell ⟨b,8,none⟩ v8).setCell ⟨b,9,none⟩ v9).setCell ⟨b,10,none⟩ v10).setCell ⟨b,11,none⟩ v11).setCell ⟨b,12,none⟩ v12).setCell ⟨b,13,none⟩ v13).heap[k]? = w.heap[k]?:=by
 rw[Below.heap_setCell _ _ _ _ (by simpa using h),Below.heap_setCell _ _ _ _ (by simpa using h),Below.heap_setCell _ _ _ _ (by simpa using h),Below.heap_setCell _ _ _ _ (by simpa using h),Below.heap_setCell _ _ _ _ (by simpa using h),Below.heap_setCell _ _ _ _ (by simpa using h),Below.heap_setCell _ _ _ _ (by simpa using h),Below.heap_setCell _ _ _ _ (by simpa using h),Below.heap_setCell _ _ _ _ (by simpa using h),Below.heap_setCell _ _ _ _ (by simpa using h),Below.heap_setCell _ _ _ _ (by simpa using h),Below.heap_setCell _ _ _ _ (by simpa using h),Below.heap_setCell _ _ _ _ (by simpa using h),Below.heap_setCell _ _ _ _ (by simpa using h)]
end Go.Proofs.YtfplipbkjglmhaaDoor
