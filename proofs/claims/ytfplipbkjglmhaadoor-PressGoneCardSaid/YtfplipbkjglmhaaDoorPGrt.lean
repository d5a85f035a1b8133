/-
 The walk of the program's greatest of a kind.
-/
import Derived.Test.YtfplipbkjglmhaaDoorCut
import Derived.Test.YtfplipbkjglmhaaDoorPPri
namespace Go.Proofs.YtfplipbkjglmhaaDoor
open Go.RowKit
set_option linter.unusedVariables false
set_option linter.unusedSimpArgs false
def woc (g:Wo):List Value:=[.int .i64 g.most,.int .i64 g.lo,.int .i64 g.ri,.int .i64 g.fl,.int .i64 g.fa]
theorem cell_other(w:World)(p q:Addr)(v:Value)(h:q≠p):(w.setCell p v).cell? q=w.cell? q:=World.cell?_setCell_other w p q v (fun e=>h e.symm)
theorem frozen_set(w:World)(p q:Addr)(v:Value):(w.setCell p v).frozen? q=w.frozen? q:=by simp
theorem info_wt:(Tryd.prog.info? 155).map (fun i=>(i.zero,i.size,i.bytes))=some (some (.agg #[.int .i64 0,.int .i64 0,.int .i64 0,.int .i64 0,.int .i64 0]),5,40):=by kernel_rfl
theorem make_wos(n:Nat)(hn:n≤10)(w:World):(Instr.makeSlice 153 (.int .i64 n) (.int .i64 n)).run Tryd.prog w = .ok (.slice (some ⟨w.heap.size,0,none⟩) n n) (w.alloc (.cells (madeCells #[.int .i64 0,.int .i64 0,.int .i64 0,.int .i64 0,.int .i64 0] (n*5)) 155)):=by
 obtain⟨i0,hi,hz0,hz1,hz2⟩:=info_parts info_wt;have:=run_make w 153 155 i0 _ Tryd.underlying153 hi hz0 .i64 .i64 n n (by omega) (by omega) (by rw[hz2];omega) (by omega);rw[this,hz1];rfl
theorem mod5(i:Nat):i%5=0∨i%5=1∨i%5=2∨i%5=3∨i%5=4:=by omega
theorem made_wos(w:World)(n:Nat):RowOf (w.alloc (.cells (madeCells #[.int .i64 0,.int .i64 0,.int .i64 0,.int .i64 0,.int .i64 0] (n*5)) 155)) w.heap.size 155 5 n woc n (fun _=>zeroWo):=by
 refine⟨fun _=>.int .i64 0,⟨_,heap_alloc_new w _,size_madeCells _ _,fun i hi=>?_⟩,fun k hk t u hu=>?_⟩
 ·simp only[madeCells];rw[Array.getElem?_map,Array.getElem?_range,if_pos hi];rcases mod5 i with h|h|h|h|h<;>simp[h]
 ·have ht:t<5:=(List.getElem?_eq_some_iff.1 hu).1;rcases (by omega:t=0∨t=1∨t=2∨t=3∨t=4) with rfl|rfl|rfl|rfl|rfl<;>simpa [woc,zeroWo] using hu
/-- The state while the kinds of a pressing are added up: the copy of its row, its worth, the row of all worths. -/
structure GS (x:World) (rb wb n:Nat) (R:Nat→Nat→Sp) (i:Nat) (A:Nat→Wo) (g:Wo) (z:World):Prop where
 row:z.heap[rb]? = some (.cells #[.int .i64 (R i 0).1,.int .i64 (R i 0).2,.int .i64 (R i 1).1,.int .i64 (R i 1).2,.int .i64 (R i 2).1,.int .i64 (R i 2).2,.int .i64 (R i 3).1,.int .i64 (R i 3).2,.int .i64 (R i 4).1,.int .i64 (R i 4).2,.int .i64 (R i 5).1,.int .i64 (R i 5).2,.int .i64 (R i 6).1,.int .i64 (R i 6).2] 107 (0,0))
 wo:z.heap[wb]? = some (.cells #[.int .i64 g.most,.int .i64 g.lo,.int .i64 g.ri,.int .i64 g.fl,.int .i64 g.fa] 155 (0,0))
 all:RowOf z x.heap.size 155 5 n woc n A
 bel:Below x.heap.size x z
 l1:x.heap.size<rb
 l2:rb<wb
section
variable {x z y:World} {rb wb n:Nat} {R:Nat→Nat→Sp} {i:Nat} {A:Nat→Wo} {g:Wo}
theorem GS.size(h:GS x rb wb n R i A g z):wb<z.heap.size:=(Array.getElem?_eq_some_iff.1 h.wo).1
theorem GS.below(h:GS x rb wb n R i A g z)(hb:Below z.heap.size z y):GS x rb wb n R i A g y:=
 ⟨keepO hb h.row,keepO hb h.wo,h.all.of_block (hb.block _ h.all.lt),below_via h.bel h.bel.size hb,h.l1,h.l2⟩
theorem GS.to(h:GS x rb wb n R i A g z){g':Wo}(e:g=g'):GS x rb wb n R i A g' z:=e ▸ h
theorem GS.cells(h:GS x rb wb n R i A g z):z.cell? ⟨wb,0,none⟩=some (.int .i64 g.most)∧z.cell? ⟨wb,1,none⟩=some (.int .i64 g.lo)∧z.cell? ⟨wb,2,none⟩=some (.int .i64 g.ri)∧z.cell? ⟨wb,3,none⟩=some (.int .i64 g.fl)∧z.cell? ⟨wb,4,none⟩=some (.int .i64 g.fa)∧∀j,z.frozen? ⟨wb,j,none⟩=false:=by
 have:=h.wo;exact⟨by simp[World.cell?,this],by simp[World.cell?,this],by simp[World.cell?,this],by simp[World.cell?,this],by simp[World.cell?,this],fun j=>by simp[World.frozen?,this]⟩
theorem GS.rc(h:GS x rb wb n R i A g z)(k:Nat)(hk:k<7):z.cell? ⟨rb,k*2,none⟩=some (.int .i64 (R i k).1)∧z.cell? ⟨rb,k*2+1,none⟩=some (.int .i64 (R i k).2):=row14 h.row hk
theorem GS.set0(h:GS x rb wb n R i A g z)(v:Int):GS x rb wb n R i A ⟨v,g.lo,g.ri,g.fl,g.fa⟩ (z.setCell ⟨wb,0,none⟩ (.int .i64 v)):=by
 have h1:=h.l1;have h2:=h.l2;refine⟨?_,?_,h.all.of_block ?_,h.bel.setCell (by simp only;omega) _,h.l1,h.l2⟩
 ·rw[Below.heap_setCell _ _ _ _ (by simp only;omega)];exact h.row
 ·have:=h.wo;simp[World.setCell,Array.getElem?_modify,this]
 ·exact Below.heap_setCell _ _ _ _ (by simp only;omega)
theorem GS.set1(h:GS x rb wb n R i A g z)(v:Int):GS x rb wb n R i A ⟨g.most,v,g.ri,g.fl,g.fa⟩ (z.setCell ⟨wb,1,none⟩ (.int .i64 v)):=by
 have h1:=h.l1;have h2:=h.l2;refine⟨?_,?_,h.all.of_block ?_,h.bel.setCell (by simp only;omega) _,h.l1,h.l2⟩
 ·rw[Below.heap_setCell _ _ _ _ (by simp only;omega)];exact h.row
 ·have:=h.wo;simp[World.setCell,Array.getElem?_modify,this]
 ·exact Below.heap_setCell _ _ _ _ (by simp only;omega)
theorem GS.set2(h:GS x rb wb n R i A g z)(v:Int):GS x rb wb n R i A ⟨g.most,g.lo,v,g.fl,g.fa⟩ (z.setCell ⟨wb,2,none⟩ (.int .i64 v)):=by
 have h1:=h.l1;have h2:=h.l2;refine⟨?_,?_,h.all.of_block ?_,h.bel.setCell (by simp only;omega) _,h.l1,h.l2⟩
 ·rw[Below.heap_setCell _ _ _ _ (by simp only;omega)];exact h.row
 ·have:=h.wo;simp[World.setCell,Array.getElem?_modify,this]
 ·exact Below.heap_setCell _ _ _ _ (by simp only;omega)
theorem GS.set3(h:GS x rb wb n R i A g z)(v:Int):GS x rb wb n R i A ⟨g.most,g.lo,g.ri,v,g.fa⟩ (z.setCell ⟨wb,3,none⟩ (.int .i64 v)):=by
 have h1:=h.l1;have h2:=h.l2;refine⟨?_,?_,h.all.of_block ?_,h.bel.setCell (by simp only;omega) _,h.l1,h.l2⟩
 ·rw[Below.heap_setCell _ _ _ _ (by simp only;omega)];exact h.row
 ·have:=h.wo;simp[World.setCell,Array.getElem?_modify,this]
 ·exact Below.heap_setCell _ _ _ _ (by simp only;omega)
theorem GS.set4(h:GS x rb wb n R i A g z)(v:Int):GS x rb wb n R i A ⟨g.most,g.lo,g.ri,g.fl,v⟩ (z.setCell ⟨wb,4,none⟩ (.int .i64 v)):=by
 have h1:=h.l1;have h2:=h.l2;refine⟨?_,?_,h.all.of_block ?_,h.bel.setCell (by simp only;omega) _,h.l1,h.l2⟩
 ·rw[Below.heap_setCell _ _ _ _ (by simp only;omega)];exact h.row
 ·have:=h.wo;simp[World.setCell,Array.getElem?_modify,this]
 ·exact Below.heap_setCell _ _ _ _ (by simp only;omega)
end
/-- What a kind adds, by cases. -/
theorem own_other{K k:Nat}{sgn:Int}{s:Sp}{g:Wo}(h:k≠K):addW g (ownK K sgn k s) = ⟨g.most,g.lo+(if k=1 then s.1 else -s.2),g.ri,g.fl+(s.2 - s.1),g.fa⟩:=by
 unfold ownK addW;rw[if_pos h];simp
theorem own_rise{K k:Nat}{sgn:Int}{s:Sp}{g:Wo}(h:k=K)(h2:decide (k=1)=decide (sgn > 0)):addW g (ownK K sgn k s) = ⟨g.most+max (sgn*s.1) (sgn*s.2),g.lo+(if k=1 then s.1 else -s.2),g.ri+(s.2 - s.1),g.fl,g.fa⟩:=by
 unfold ownK addW;rw[if_neg (fun e=>e h),if_pos h2];simp
theorem own_fall{K k:Nat}{sgn:Int}{s:Sp}{g:Wo}(h:k=K)(h2:¬decide (k=1)=decide (sgn > 0)):addW g (ownK K sgn k s) = ⟨g.most+max (sgn*s.1) (sgn*s.2),g.lo+(if k=1 then s.1 else -s.2),g.ri,g.fl,g.fa+(s.2 - s.1)⟩:=by
 unfold ownK addW;rw[if_neg (fun e=>e h),if_neg h2];simp
set_option maxRecDepth 100000 in
set_option maxHeartbeats 4000000 in
theorem greatest_any(mb n:Nat)(t:Nat→Option Nat)(R:Nat→Nat→Sp)(U I:Nat→Sp)(At Ar Au Ai:Option Addr)(ct cr cu ci:Nat)(hn:n≤10)(hF:Fwd n t)(hH:Holds n R (upP t R))(hI:∀i,i<n→In1 (R i))(K:Nat)(hK:1≤K∧K≤5)(sgn:Int)(hg:sgn=1∨sgn = -1)
  (x:World) (hM:MR x mb n t R U I At Ar Au Ai ct cr cu ci) :
  Calls Tryd.prog 63 #[.pointer (some ⟨mb,0,none⟩),.int .i64 K,.int .i64 sgn] x fun e x'=>e = .returned (.int .i64 (grt t R K sgn n))∧Below x.heap.size x x':=by
 have hmk:=fun w=>make_wos n hn w;have c3:=hM.c3;have HMx:=Lib.hid (fun z (hz:Below x.heap.size x z)=>hM.below hz);have hFh:=Lib.hid hF;have hgb:=Lib.hid (fun k m (hm:m≤n)=>gath_big (kind:=K) hn hg hH hI k m hm);have hwb:=Lib.hid (fun i (hi:i<n)=>worth_big (kind:=K) hn hg hH hI hi);have htb:=Lib.hid (tot_big (kind:=K) hn hg hH hI);have hnb:=Lib.hid (fun i (hi:i<n) (g:Wo) (hw:WB 41000000000 g) (k:Nat) (hk:k≤5)=>ownN_bd (kind:=K) hg (hI i hi) hw k hk);have hIh:=Lib.hid hI;have hgh:=Lib.hid hg;have hsg:-1≤sgn∧sgn≤1:=by omega
 have hOI:=made_wos x n;have hB0:Below x.heap.size x (x.alloc (.cells (madeCells #[.int .i64 0,.int .i64 0,.int .i64 0,.int .i64 0,.int .i64 0] (n*5)) 155)):=(Below.refl _ _).alloc (Nat.le_refl _) _;have c3':∀o,(x.alloc o).cell? ⟨mb,3,none⟩=some (.slice Ar n cr):=fun o=>(((Below.refl x.heap.size x).alloc (Nat.le_refl _) o).cell hM.lt).trans c3
 obtain⟨xa,hxa⟩:∃xa,xa=x.alloc (.cells (madeCells #[.int .i64 0,.int .i64 0,.int .i64 0,.int .i64 0,.int .i64 0] (n*5)) 155):=⟨_,rfl⟩;rw[←hxa] at hOI hB0;have hxh:=Lib.hid hxa;have hMlt:=hM.lt;have hML:=Lib.hid hMlt;clear hM hF hH hI hg hxa
 go_enter Tryd.func63,Tryd.ntmps63
 go_wp2_with fail
 rw[←hxh.out];clear hmk c3 c3' hxh;go_loopw [8,28] (fun v u wr=>∃wl,wl=wr∧∃i:Nat,i≤n∧u = .int .i64 i∧v = .int .i64 (totW t (worthP t R K sgn) i)∧Hid (RowOf wl x.heap.size 155 5 n woc n (fun k=>gathW t (worthP t R K sgn) k i))∧Hid (Below x.heap.size x wl)) (fun _ u _=>n - (intOf u).toNat)
 case atStart=>exact⟨_,rfl,0,Nat.zero_le _,rfl,rfl,hOI,hB0⟩
 case round=>
  clear hOI hB0;obtain⟨wr,rfl,i,hi,rfl,rfl,HA,HBr⟩:=hrel;obtain⟨tb1,tb2⟩:=htb.out i hi;have htn:=Lib.hid (show totW t (worthP t R K sgn) (i+1)=if t i=none then totW t (worthP t R K sgn) i+(worthP t R K sgn i).most else totW t (worthP t R K sgn) i from rfl);generalize hTV:totW t (worthP t R K sgn) i=TV at *;have hTVh:=Lib.hid hTV;clear hTV;by_cases hin:i<n
  ·have hii:(i:Int)<(n:Int):=(by omega);have ii0:(0:Int)≤(i:Int):=(by omega);obtain⟨bi,oi,rfl,hbi,hri⟩:=(HMx.out _ HBr.out).rr.rw_ hin;have r0:wr.cell? ⟨bi,oi+i*14,none⟩=some (.int .i64 (R i 0).1):=hri 0 _ rfl;have r1:wr.cell? ⟨bi,oi+i*14+1,none⟩=some (.int .i64 (R i 0).2):=hri 1 _ rfl;have r2:wr.cell? ⟨bi,oi+i*14+2,none⟩=some (.int .i64 (R i 1).1):=hri 2 _ rfl;have r3:wr.cell? ⟨bi,oi+i*14+3,none⟩=some (.int .i64 (R i 1).2):=hri 3 _ rfl;have r4:wr.cell? ⟨bi,oi+i*14+4,none⟩=some (.int .i64 (R i 2).1):=hri 4 _ rfl;have r5:wr.cell? ⟨bi,oi+i*14+5,none⟩=some (.int .i64 (R i 2).2):=hri 5 _ rfl;have r6:wr.cell? ⟨bi,oi+i*14+6,none⟩=some (.int .i64 (R i 3).1):=hri 6 _ rfl;have r7:wr.cell? ⟨bi,oi+i*14+7,none⟩=some (.int .i64 (R i 3).2):=hri 7 _ rfl;have r8:wr.cell? ⟨bi,oi+i*14+8,none⟩=some (.int .i64 (R i 4).1):=hri 8 _ rfl;have r9:wr.cell? ⟨bi,oi+i*14+9,none⟩=some (.int .i64 (R i 4).2):=hri 9 _ rfl;have r10:wr.cell? ⟨bi,oi+i*14+10,none⟩=some (.int .i64 (R i 5).1):=hri 10 _ rfl;have r11:wr.cell? ⟨bi,oi+i*14+11,none⟩=some (.int .i64 (R i 5).2):=hri 11 _ rfl;have r12:wr.cell? ⟨bi,oi+i*14+12,none⟩=some (.int .i64 (R i 6).1):=hri 12 _ rfl;have r13:wr.cell? ⟨bi,oi+i*14+13,none⟩=some (.int .i64 (R i 6).2):=hri 13 _ rfl;obtain⟨g0,hg0⟩:∃g0,g0=gathW t (worthP t R K sgn) i i:=⟨_,rfl⟩;have hwb0:=hgb.out i i hi;rw[←hg0] at hwb0
   have hax:∀(j:Nat) (u:Value),(woc g0)[j]? = some u→∀o,(wr.alloc o).cell? ⟨x.heap.size,i*5+j,none⟩=some u:=fun j u hu o=>
    (((Below.refl wr.heap.size wr).alloc (Nat.le_refl _) o).cell (p:=⟨x.heap.size,i*5+j,none⟩) HA.out.lt).trans (HA.out.cell (fun _=>rfl) (Nat.le_refl _) (k:=i) (t:=j) hin (by rw[←hg0];exact hu))
   have a0:∀o,(wr.alloc o).cell? ⟨x.heap.size,i*5,none⟩=some (.int .i64 g0.most):=hax 0 _ rfl;have a1:∀o,(wr.alloc o).cell? ⟨x.heap.size,i*5+1,none⟩=some (.int .i64 g0.lo):=hax 1 _ rfl;have a2:∀o,(wr.alloc o).cell? ⟨x.heap.size,i*5+2,none⟩=some (.int .i64 g0.ri):=hax 2 _ rfl;have a3:∀o,(wr.alloc o).cell? ⟨x.heap.size,i*5+3,none⟩=some (.int .i64 g0.fl):=hax 3 _ rfl;have a4:∀o,(wr.alloc o).cell? ⟨x.heap.size,i*5+4,none⟩=some (.int .i64 g0.fa):=hax 4 _ rfl;obtain⟨zb,hzb⟩:∃zb,zb=(wr.alloc (.cells #[.int .i64 (R i 0).1,.int .i64 (R i 0).2,.int .i64 (R i 1).1,.int .i64 (R i 1).2,.int .i64 (R i 2).1,.int .i64 (R i 2).2,.int .i64 (R i 3).1,.int .i64 (R i 3).2,.int .i64 (R i 4).1,.int .i64 (R i 4).2,.int .i64 (R i 5).1,.int .i64 (R i 5).2,.int .i64 (R i 6).1,.int .i64 (R i 6).2] 107)).alloc (.cells #[.int .i64 g0.most,.int .i64 g0.lo,.int .i64 g0.ri,.int .i64 g0.fl,.int .i64 g0.fa] 155):=⟨_,rfl⟩;have hGS:Hid (GS x wr.heap.size (wr.heap.size+1) n R i (fun k=>gathW t (worthP t R K sgn) k i) (ownN K sgn (R i) g0 (1 - 1)) zb):=by
    have h1:=heap_alloc_new (wr.alloc (.cells #[.int .i64 (R i 0).1,.int .i64 (R i 0).2,.int .i64 (R i 1).1,.int .i64 (R i 1).2,.int .i64 (R i 2).1,.int .i64 (R i 2).2,.int .i64 (R i 3).1,.int .i64 (R i 3).2,.int .i64 (R i 4).1,.int .i64 (R i 4).2,.int .i64 (R i 5).1,.int .i64 (R i 5).2,.int .i64 (R i 6).1,.int .i64 (R i 6).2] 107)) (.cells #[.int .i64 g0.most,.int .i64 g0.lo,.int .i64 g0.ri,.int .i64 g0.fl,.int .i64 g0.fa] 155);simp only[World.size_alloc] at h1;have hbb:Below wr.heap.size wr zb:=(by rw[hzb];exact((Below.refl _ _).alloc (Nat.le_refl _) _).alloc (by simp) _);rw[←hzb] at h1;refine Lib.hid ⟨?_,h1,HA.out.of_block (hbb.block _ HA.out.lt),HBr.out.trans (hbb.mono HBr.out.size),HA.out.lt,by omega⟩;rw[hzb,heap_lt_alloc' _ _ _ (by simp)];exact heap_alloc_new wr _
   have hzbh:=Lib.hid hzb;have hg0h:=Lib.hid hg0;have hpre:=Lib.hid (show preW t R K sgn i i=ownN K sgn (R i) g0 5 by rw[hg0];rfl);clear hzb hax hri hg0 HA;have hlx:=HBr.out.size;(go_wp2_with fail);rw[←hzbh.out];clear r0 r1 r2 r3 r4 r5 r6 r7 r8 r9 r10 r11 r12 r13 a0 a1 a2 a3 a4 hzbh;generalize wr.heap.size=rb at *;have hwbx:wr.heap.size=wr.heap.size:=rfl;clear hwbx;generalize hwbe:rb+1=wb at *;clear hwbe;go_loopw [12] (fun v wq=>∃wl,wl=wq∧∃k:Nat,1≤k∧k≤6∧v = .int .i64 k∧Hid (GS x rb wb n R i (fun k=>gathW t (worthP t R K sgn) k i) (ownN K sgn (R i) g0 (k - 1)) wl)) (fun v _=>6 - (intOf v).toNat)
   case atStart=>exact⟨_,rfl,1,by omega,by omega,rfl,hGS⟩
   case round=>
    clear hGS;obtain⟨wj,rfl,k,hk1,hk6,rfl,hGj⟩:=hrel;by_cases hk5:k≤5
    ·have hkk:(k:Int)≤5:=(by omega);have hkk0:(1:Int)≤(k:Int):=(by omega);have hk7:(k:Int)<7:=(by omega);have hk00:(0:Int)≤(k:Int):=(by omega);have hgbd:=hnb.out i hin g0 hwb0 (k - 1) (by omega);have hst:=Lib.hid (show ownN K sgn (R i) g0 (k+1 - 1)=addW (ownN K sgn (R i) g0 (k - 1)) (ownK K sgn k (R i k)) by
      obtain⟨k',rfl⟩:∃k',k=k'+1:=⟨k - 1,by omega⟩
      rfl)
     generalize ownN K sgn (R i) g0 (k - 1)=g at *;obtain⟨⟨b1,b1'⟩,⟨b2,b2'⟩,⟨b3,b3'⟩,⟨b4,b4'⟩,b5,b5'⟩:=hgbd;have hkb:(((k - 1:Nat)):Int)≤5:=(by omega);obtain⟨q1,q2,q3,q4⟩:=hIh.out i hin k (by omega);obtain⟨r0,r1⟩:=hGj.out.rc k (by omega);obtain⟨lo,hlo⟩:∃l,l=(R i k).1:=⟨_,rfl⟩;obtain⟨hi_,hhi⟩:∃l,l=(R i k).2:=⟨_,rfl⟩;rw[←hlo] at r0 q1 q2;rw[←hhi] at r1 q3 q4;have hlo_:=Lib.hid hlo;have hhi_:=Lib.hid hhi;clear hlo hhi;(go_wp2_with fail);(go_quiet (fail));rename_i nq;have hQ:=Lib.hid (hGj.out.below (below_drewN (Below.refl _ _) nq));replace r0:(wj.drewN nq).cell? ⟨rb,k*2,none⟩=some (.int .i64 lo):=r0;replace r1:(wj.drewN nq).cell? ⟨rb,k*2+1,none⟩=some (.int .i64 hi_):=r1;clear hGj;generalize wj.drewN nq=wq' at *;by_cases hcK:k=K
     ·have hbK:((k:Int) != (K:Int))=false:=(by simp[hcK]);obtain⟨Av,hAv⟩:∃a,a=sgn*lo:=⟨_,rfl⟩;obtain⟨Bv,hBv⟩:∃a,a=sgn*hi_:=⟨_,rfl⟩;obtain⟨Mv,hMv_⟩:∃a,a=max (sgn*lo) (sgn*hi_):=⟨_,rfl⟩;have hAb:-1000000≤Av∧Av≤1000000:=(by rcases hgh.out with h|h<;>rw[hAv,h]<;>omega);have hBb:-1000000≤Bv∧Bv≤1000000:=(by rcases hgh.out with h|h<;>rw[hBv,h]<;>omega);have hA:IntKind.i64.wrap (sgn*lo)=Av:=(by rw[hAv,IntWalk.i64_in _ (by omega)]);have hB:IntKind.i64.wrap (sgn*hi_)=Bv:=(by rw[hBv,IntWalk.i64_in _ (by omega)]);have hm:(if Av<Bv then Bv else Av)=Mv:=(by rw[hMv_,←hAv,←hBv];exact mx_if _ _);have hMb:-1000000≤Mv∧Mv≤1000000:=(by rw[hMv_,←hAv,←hBv];omega);have hwr:IntKind.i64.wrap (g.most+Mv)=g.most+Mv:=IntWalk.i64_in _ (by omega);have hMv:=Lib.hid hMv_;clear hAv hBv hMv_;by_cases hsp:0<sgn
      ·have hs1:decide (0<sgn)=true:=decide_eq_true hsp;have hs2:decide (sgn > 0)=true:=decide_eq_true hsp;by_cases hc1:k=1
       ·have hb1:((k:Int)==1)=true:=(by simp[hc1]);have hn1:((k:Int) != 1)=false:=(by simp[hc1]);have hdd:decide (k=1)=decide (sgn > 0):=(by rw[hs2];simp[hc1]);have hsph:=Lib.hid hsp;clear hsp;obtain⟨v0,v1,v2,v3,v4,vf⟩:=hQ.out.cells;have s2:∀v,(wq'.setCell ⟨wb,1,none⟩ v).cell? ⟨wb,2,none⟩=some (.int .i64 g.ri):=fun v=>(cell_other _ _ _ _ (by simp)).trans v2
        have f1:=vf 1;have f2:∀v,(wq'.setCell ⟨wb,1,none⟩ v).frozen? ⟨wb,2,none⟩=false:=fun v=>(frozen_set _ _ _ _).trans (vf 2)
        clear v0 v2 v3 v4 vf;have hN1:=Lib.hid ((hQ.out.set1 (g.lo+lo)).set2 (g.ri+(hi_ - lo)));obtain⟨z3,hz3⟩:∃z3,z3=(wq'.setCell ⟨wb,1,none⟩ (.int .i64 (g.lo+lo))).setCell ⟨wb,2,none⟩ (.int .i64 (g.ri+(hi_ - lo))):=⟨_,rfl⟩;rw[←hz3] at hN1;have hz3h:=Lib.hid hz3;have hE:=Lib.hid (show ownN K sgn (R i) g0 (k+1 - 1)=_ by rw[hst.out,own_rise hcK hdd,if_pos hc1,←hlo_.out,←hhi_.out,←hMv.out]);clear hz3 hQ hcK hc1 hdd;(go_wp2_with fail);rw[←hz3h.out];clear v1 s2 f1 f2 hz3h r0 r1;obtain⟨v0,-,-,-,-,vf⟩:=hN1.out.cells;have f0:=vf 0;simp only at v0;obtain⟨r0,r1⟩:=hN1.out.rc k (by omega);rw[←hlo_.out] at r0;rw[←hhi_.out] at r1;clear vf
        go_still_tail 16,(by kernel_rfl)
        change wpList _ _ _ _ _ z3.drew;have hN2:=Lib.hid (hN1.out.below (Below.refl _ _).drew);replace v0:z3.drew.cell? ⟨wb,0,none⟩=some (.int .i64 g.most):=v0;replace f0:z3.drew.frozen? ⟨wb,0,none⟩=false:=f0;clear hN1 r0 r1;generalize z3.drew=z4 at *;have hN3:=Lib.hid (hN2.out.set0 (g.most+Mv));have hw:=Lib.hid (GS.to hN3.out hE.out.symm);clear hN2 hN3 hst hE;go_wp2;go_roundw
        case rel=>exact⟨_,rfl,k+1,by omega,by omega,by go_num,hw⟩
        case measure=>simp[intOf];omega
       ·have hb1:((k:Int)==1)=false:=(by simp;omega);have hn1:((k:Int) != 1)=true:=(by simp;omega);have hdd:¬decide (k=1)=decide (sgn > 0):=(by rw[hs2];simp[hc1]);have hsph:=Lib.hid hsp;clear hsp;obtain⟨v0,v1,v2,v3,v4,vf⟩:=hQ.out.cells;have s4:∀v,(wq'.setCell ⟨wb,1,none⟩ v).cell? ⟨wb,4,none⟩=some (.int .i64 g.fa):=fun v=>(cell_other _ _ _ _ (by simp)).trans v4
        have f1:=vf 1;have f4:∀v,(wq'.setCell ⟨wb,1,none⟩ v).frozen? ⟨wb,4,none⟩=false:=fun v=>(frozen_set _ _ _ _).trans (vf 4)
        clear v0 v2 v3 v4 vf;have hN1:=Lib.hid ((hQ.out.set1 (g.lo + -hi_)).set4 (g.fa+(hi_ - lo)));obtain⟨z3,hz3⟩:∃z3,z3=(wq'.setCell ⟨wb,1,none⟩ (.int .i64 (g.lo + -hi_))).setCell ⟨wb,4,none⟩ (.int .i64 (g.fa+(hi_ - lo))):=⟨_,rfl⟩;rw[←hz3] at hN1;have hz3h:=Lib.hid hz3;have hE:=Lib.hid (show ownN K sgn (R i) g0 (k+1 - 1)=_ by rw[hst.out,own_fall hcK hdd,if_neg hc1,←hlo_.out,←hhi_.out,←hMv.out]);clear hz3 hQ hcK hc1 hdd;(go_wp2_with fail);rw[←hz3h.out];clear v1 s4 f1 f4 hz3h r0 r1;obtain⟨v0,-,-,-,-,vf⟩:=hN1.out.cells;have f0:=vf 0;simp only at v0;obtain⟨r0,r1⟩:=hN1.out.rc k (by omega);rw[←hlo_.out] at r0;rw[←hhi_.out] at r1;clear vf
        go_still_tail 16,(by kernel_rfl)
        change wpList _ _ _ _ _ z3.drew;have hN2:=Lib.hid (hN1.out.below (Below.refl _ _).drew);replace v0:z3.drew.cell? ⟨wb,0,none⟩=some (.int .i64 g.most):=v0;replace f0:z3.drew.frozen? ⟨wb,0,none⟩=false:=f0;clear hN1 r0 r1;generalize z3.drew=z4 at *;have hN3:=Lib.hid (hN2.out.set0 (g.most+Mv));have hw:=Lib.hid (GS.to hN3.out hE.out.symm);clear hN2 hN3 hst hE;go_wp2;go_roundw
        case rel=>exact⟨_,rfl,k+1,by omega,by omega,by go_num,hw⟩
        case measure=>simp[intOf];omega
      ·have hs1:decide (0<sgn)=false:=decide_eq_false hsp;have hs2:decide (sgn > 0)=false:=decide_eq_false hsp;by_cases hc1:k=1
       ·have hb1:((k:Int)==1)=true:=(by simp[hc1]);have hn1:((k:Int) != 1)=false:=(by simp[hc1]);have hdd:¬decide (k=1)=decide (sgn > 0):=(by rw[hs2];simp[hc1]);have hsph:=Lib.hid hsp;clear hsp;obtain⟨v0,v1,v2,v3,v4,vf⟩:=hQ.out.cells;have s4:∀v,(wq'.setCell ⟨wb,1,none⟩ v).cell? ⟨wb,4,none⟩=some (.int .i64 g.fa):=fun v=>(cell_other _ _ _ _ (by simp)).trans v4
        have f1:=vf 1;have f4:∀v,(wq'.setCell ⟨wb,1,none⟩ v).frozen? ⟨wb,4,none⟩=false:=fun v=>(frozen_set _ _ _ _).trans (vf 4)
        clear v0 v2 v3 v4 vf;have hN1:=Lib.hid ((hQ.out.set1 (g.lo+lo)).set4 (g.fa+(hi_ - lo)));obtain⟨z3,hz3⟩:∃z3,z3=(wq'.setCell ⟨wb,1,none⟩ (.int .i64 (g.lo+lo))).setCell ⟨wb,4,none⟩ (.int .i64 (g.fa+(hi_ - lo))):=⟨_,rfl⟩;rw[←hz3] at hN1;have hz3h:=Lib.hid hz3;have hE:=Lib.hid (show ownN K sgn (R i) g0 (k+1 - 1)=_ by rw[hst.out,own_fall hcK hdd,if_pos hc1,←hlo_.out,←hhi_.out,←hMv.out]);clear hz3 hQ hcK hc1 hdd;(go_wp2_with fail);rw[←hz3h.out];clear v1 s4 f1 f4 hz3h r0 r1;obtain⟨v0,-,-,-,-,vf⟩:=hN1.out.cells;have f0:=vf 0;simp only at v0;obtain⟨r0,r1⟩:=hN1.out.rc k (by omega);rw[←hlo_.out] at r0;rw[←hhi_.out] at r1;clear vf
        go_still_tail 16,(by kernel_rfl)
        change wpList _ _ _ _ _ z3.drew;have hN2:=Lib.hid (hN1.out.below (Below.refl _ _).drew);replace v0:z3.drew.cell? ⟨wb,0,none⟩=some (.int .i64 g.most):=v0;replace f0:z3.drew.frozen? ⟨wb,0,none⟩=false:=f0;clear hN1 r0 r1;generalize z3.drew=z4 at *;have hN3:=Lib.hid (hN2.out.set0 (g.most+Mv));have hw:=Lib.hid (GS.to hN3.out hE.out.symm);clear hN2 hN3 hst hE;go_wp2;go_roundw
        case rel=>exact⟨_,rfl,k+1,by omega,by omega,by go_num,hw⟩
        case measure=>simp[intOf];omega
       ·have hb1:((k:Int)==1)=false:=(by simp;omega);have hn1:((k:Int) != 1)=true:=(by simp;omega);have hdd:decide (k=1)=decide (sgn > 0):=(by rw[hs2];simp[hc1]);have hsph:=Lib.hid hsp;clear hsp;obtain⟨v0,v1,v2,v3,v4,vf⟩:=hQ.out.cells;have s2:∀v,(wq'.setCell ⟨wb,1,none⟩ v).cell? ⟨wb,2,none⟩=some (.int .i64 g.ri):=fun v=>(cell_other _ _ _ _ (by simp)).trans v2
        have f1:=vf 1;have f2:∀v,(wq'.setCell ⟨wb,1,none⟩ v).frozen? ⟨wb,2,none⟩=false:=fun v=>(frozen_set _ _ _ _).trans (vf 2)
        clear v0 v2 v3 v4 vf;have hN1:=Lib.hid ((hQ.out.set1 (g.lo + -hi_)).set2 (g.ri+(hi_ - lo)));obtain⟨z3,hz3⟩:∃z3,z3=(wq'.setCell ⟨wb,1,none⟩ (.int .i64 (g.lo + -hi_))).setCell ⟨wb,2,none⟩ (.int .i64 (g.ri+(hi_ - lo))):=⟨_,rfl⟩;rw[←hz3] at hN1;have hz3h:=Lib.hid hz3;have hE:=Lib.hid (show ownN K sgn (R i) g0 (k+1 - 1)=_ by rw[hst.out,own_rise hcK hdd,if_neg hc1,←hlo_.out,←hhi_.out,←hMv.out]);clear hz3 hQ hcK hc1 hdd;(go_wp2_with fail);rw[←hz3h.out];clear v1 s2 f1 f2 hz3h r0 r1;obtain⟨v0,-,-,-,-,vf⟩:=hN1.out.cells;have f0:=vf 0;simp only at v0;obtain⟨r0,r1⟩:=hN1.out.rc k (by omega);rw[←hlo_.out] at r0;rw[←hhi_.out] at r1;clear vf
        go_still_tail 16,(by kernel_rfl)
        change wpList _ _ _ _ _ z3.drew;have hN2:=Lib.hid (hN1.out.below (Below.refl _ _).drew);replace v0:z3.drew.cell? ⟨wb,0,none⟩=some (.int .i64 g.most):=v0;replace f0:z3.drew.frozen? ⟨wb,0,none⟩=false:=f0;clear hN1 r0 r1;generalize z3.drew=z4 at *;have hN3:=Lib.hid (hN2.out.set0 (g.most+Mv));have hw:=Lib.hid (GS.to hN3.out hE.out.symm);clear hN2 hN3 hst hE;go_wp2;go_roundw
        case rel=>exact⟨_,rfl,k+1,by omega,by omega,by go_num,hw⟩
        case measure=>simp[intOf];omega
     ·have hbK:((k:Int) != (K:Int))=true:=(by simp;omega);by_cases hc1:k=1
      ·have hn1:((k:Int) != 1)=false:=(by simp[hc1]);obtain⟨v0,v1,v2,v3,v4,vf⟩:=hQ.out.cells;have s3:∀v,(wq'.setCell ⟨wb,1,none⟩ v).cell? ⟨wb,3,none⟩=some (.int .i64 g.fl):=fun v=>(cell_other _ _ _ _ (by simp)).trans v3
       have f1:=vf 1;have f3:∀v,(wq'.setCell ⟨wb,1,none⟩ v).frozen? ⟨wb,3,none⟩=false:=fun v=>(frozen_set _ _ _ _).trans (vf 3)
       clear v0 v2 v3 v4 vf;have hN1:=Lib.hid ((hQ.out.set1 (g.lo+lo)).set3 (g.fl+(hi_ - lo)));have hw:=Lib.hid (GS.to hN1.out (show _=ownN K sgn (R i) g0 (k+1 - 1) by rw[hst.out,own_other hcK,if_pos hc1,←hlo_.out,←hhi_.out]));clear hN1 hQ hst hcK hc1;go_wp2;go_roundw
       case rel=>exact⟨_,rfl,k+1,by omega,by omega,by go_num,hw⟩
       case measure=>simp[intOf];omega
      ·have hn1:((k:Int) != 1)=true:=(by simp;omega);obtain⟨v0,v1,v2,v3,v4,vf⟩:=hQ.out.cells;have s3:∀v,(wq'.setCell ⟨wb,1,none⟩ v).cell? ⟨wb,3,none⟩=some (.int .i64 g.fl):=fun v=>(cell_other _ _ _ _ (by simp)).trans v3
       have f1:=vf 1;have f3:∀v,(wq'.setCell ⟨wb,1,none⟩ v).frozen? ⟨wb,3,none⟩=false:=fun v=>(frozen_set _ _ _ _).trans (vf 3)
       clear v0 v2 v3 v4 vf;have hN1:=Lib.hid ((hQ.out.set1 (g.lo + -hi_)).set3 (g.fl+(hi_ - lo)));have hw:=Lib.hid (GS.to hN1.out (show _=ownN K sgn (R i) g0 (k+1 - 1) by rw[hst.out,own_other hcK,if_neg hc1,←hlo_.out,←hhi_.out]));clear hN1 hQ hst hcK hc1;go_wp2;go_roundw
       case rel=>exact⟨_,rfl,k+1,by omega,by omega,by go_num,hw⟩
       case measure=>simp[intOf];omega
    ·obtain rfl:k=6:=(by omega);rw[show ((6:Nat):Int)=6 from rfl];have hGe:Hid (GS x rb wb n R i (fun k=>gathW t (worthP t R K sgn) k i) (preW t R K sgn i i) wj):=Lib.hid (by rw[hpre.out];exact hGj.out);clear hGj;obtain⟨gp,hgp⟩:∃gp,gp=preW t R K sgn i i:=⟨_,rfl⟩;obtain⟨gw,hgw⟩:∃gw,gw=worthP t R K sgn i:=⟨_,rfl⟩;have hcw:cutW gp (R i 6)=gw:=(by rw[hgw,worthP_eq,hgp];rfl);have hWp:WB 1000000000000 gp:=(by rw[hgp,hpre.out];exact(hnb.out i hin g0 hwb0 5 (by omega)).mono (by omega));have hWw:=hwb.out i hin;rw[←hgw] at hWw;rw[←hgp] at hGe;have hR6:=hIh.out i hin 6 (by omega);have hcut:=Lib.hid (fun z=>cut_any gp (R i 6) hWp (by omega) z);rw[hcw] at hcut;have hgwh:=Lib.hid hgw;rw[←hgw] at htn;clear hgp hgw hcw hWp;obtain⟨v0,v1,v2,v3,v4,vf⟩:=hGe.out.cells;obtain⟨r12,r13⟩:wj.cell? ⟨rb,12,none⟩=some (.int .i64 (R i 6).1)∧wj.cell? ⟨rb,13,none⟩=some (.int .i64 (R i 6).2):=hGe.out.rc 6 (by omega);(go_wp2_with fail);refine(hcut.out wj).mono ?_;rintro e z1 ⟨rfl,hb⟩;have hG1:=Lib.hid (hGe.out.below hb);clear hb hcut hGe v0 v1 v2 v3 v4 vf r12 r13;obtain⟨c0_,c1_,c2_,c3_,c4_,vf⟩:=hG1.out.cells;have f0:∀j,z1.frozen? ⟨wb,j,none⟩=false:=vf;have hM1:=HMx.out _ hG1.out.bel;have hltm:mb<x.heap.size:=hML.out;have hwbgt:x.heap.size<wb:=Nat.lt_trans hG1.out.l1 hG1.out.l2;have hG2:=Lib.hid (GS.to (((((hG1.out.set0 gw.most).set1 gw.lo).set2 gw.ri).set3 gw.fl).set4 gw.fa) (g':=gw) rfl);have hM2:=HMx.out _ hG2.out.bel;obtain⟨z2,hz2⟩:∃z2,z2=(((((z1.setCell ⟨wb,0,none⟩ (.int .i64 gw.most)).setCell ⟨wb,1,none⟩ (.int .i64 gw.lo)).setCell ⟨wb,2,none⟩ (.int .i64 gw.ri)).setCell ⟨wb,3,none⟩ (.int .i64 gw.fl)).setCell ⟨wb,4,none⟩ (.int .i64 gw.fa)):=⟨_,rfl⟩
     rw[←hz2] at hG2 hM2;obtain⟨bt,ot,rfl,hbt,cti⟩:=hM2.rt.to_ hin;have c2:=hM2.c2;obtain⟨v0,v1,v2,v3,v4,vf2⟩:=hG2.out.cells;obtain⟨⟨b1,b1'⟩,⟨b2,b2'⟩,⟨b3,b3'⟩,⟨b4,b4'⟩,b5,b5'⟩:=hWw;cases hT:t i with
     |none=>
      have htv:toV t i = -1:=(by unfold toV;rw[hT]);rw[htv] at cti;rw[hT,if_pos rfl] at htn;have hA2:=Lib.hid (hG2.out.all.congr (Nat.le_refl _) (G:=fun k=>gathW t (worthP t R K sgn) k (i+1)) (fun k _=>by simp only[gathW];rw[if_neg (by rw[hT];simp)]));have hB2:=Lib.hid hG2.out.bel;rw[hz2] at cti c2 v0;have hz2h:=Lib.hid hz2;clear hT htv hG1 hG2 hM1 hM2 hz2 v1 v2 v3 v4 vf2 vf;go_wp2;go_roundw
      case rel=>exact⟨_,rfl,i+1,by omega,by go_num,by rw[htn.out],by rw[←hz2h.out];exact hA2,by rw[←hz2h.out];exact hB2⟩
      case measure=>simp[intOf];omega
     |some q=>
      obtain⟨hiq,hqn⟩:=hFh.out i q hin hT;have htv:toV t i=(q:Int):=(by unfold toV;rw[hT]);rw[htv] at cti;rw[hT,if_neg (by simp)] at htn;have hqi:(q:Int)<(n:Int):=(by omega);have hq0:(0:Int)≤(q:Int):=(by omega);obtain⟨gq,hgq⟩:∃gq,gq=gathW t (worthP t R K sgn) q i:=⟨_,rfl⟩;have hWq:=hgb.out q i hi;rw[←hgq] at hWq;obtain⟨⟨d1,d1'⟩,⟨d2,d2'⟩,⟨d3,d3'⟩,⟨d4,d4'⟩,d5,d5'⟩:=hWq;have hax:∀(j:Nat) (u:Value),(woc gq)[j]? = some u→z2.cell? ⟨x.heap.size,q*5+j,none⟩=some u:=fun j u hu=>hG2.out.all.cell (fun _=>rfl) (Nat.le_refl _) (k:=q) (t:=j) hqn (by rw[←hgq];exact hu);have a0:z2.cell? ⟨x.heap.size,q*5,none⟩=some (.int .i64 gq.most):=hax 0 _ rfl;have a1:z2.cell? ⟨x.heap.size,q*5+1,none⟩=some (.int .i64 gq.lo):=hax 1 _ rfl;have a2:z2.cell? ⟨x.heap.size,q*5+2,none⟩=some (.int .i64 gq.ri):=hax 2 _ rfl;have a3:z2.cell? ⟨x.heap.size,q*5+3,none⟩=some (.int .i64 gq.fl):=hax 3 _ rfl;have a4:z2.cell? ⟨x.heap.size,q*5+4,none⟩=some (.int .i64 gq.fa):=hax 4 _ rfl;have fr:=fun j=>hG2.out.all.frozen j;have hA2:=Lib.hid (hG2.out.all.put (fun _=>rfl) q (addW gq gw));have hA3:=Lib.hid (hA2.out.congr (Nat.le_refl _) (G:=fun k=>gathW t (worthP t R K sgn) k (i+1)) (fun k _=>by
       simp only[gathW];by_cases e:k=q
       ·subst e;rw[if_pos hT,if_pos rfl,hgq,hgwh.out]
       ·rw[if_neg (by rw[hT];intro h;exact e (Option.some.inj h).symm),if_neg e]))
      have hB2:=Lib.hid hG2.out.bel;have htnh:=Lib.hid htn.out;have e0:IntKind.i64.wrap (gq.most+gw.most)=gq.most+gw.most:=IntWalk.i64_in _ (by omega);have e1:IntKind.i64.wrap (gq.lo+gw.lo)=gq.lo+gw.lo:=IntWalk.i64_in _ (by omega);have e2:IntKind.i64.wrap (gq.ri+gw.ri)=gq.ri+gw.ri:=IntWalk.i64_in _ (by omega);have e3:IntKind.i64.wrap (gq.fl+gw.fl)=gq.fl+gw.fl:=IntWalk.i64_in _ (by omega);have e4:IntKind.i64.wrap (gq.fa+gw.fa)=gq.fa+gw.fa:=IntWalk.i64_in _ (by omega);have v0':=v0;rw[hz2] at cti c2;have hz2h:=Lib.hid hz2;clear hT htv hG1 hG2 hM1 hM2 hz2 vf2 vf hA2 htn hax hgq v0';(go_wp2_with fail);rw[←hz2h.out];clear hz2h cti c2
      go_still_tail 37,(by kernel_rfl)
      change wpList _ _ _ _ _ z2.drew;clear v0 v1 v2 v3 v4;have hA4:Hid (RowOf (z2.drew.setCells x.heap.size (q*5) (woc (addW gq gw))) x.heap.size 155 5 n woc n (fun k=>gathW t (worthP t R K sgn) k (i+1))):=Lib.hid (hA3.out.of_block rfl);have hB4:Hid (Below x.heap.size x (z2.drew.setCells x.heap.size (q*5) (woc (addW gq gw)))):=Lib.hid (((((hB2.out.drew.setCell (p:=⟨x.heap.size,q*5,none⟩) (Nat.le_refl _) _).setCell (p:=⟨x.heap.size,q*5+1,none⟩) (Nat.le_refl _) _).setCell (p:=⟨x.heap.size,q*5+2,none⟩) (Nat.le_refl _) _).setCell (p:=⟨x.heap.size,q*5+3,none⟩) (Nat.le_refl _) _).setCell (p:=⟨x.heap.size,q*5+4,none⟩) (Nat.le_refl _) _);replace fr:∀j,z2.drew.frozen? ⟨x.heap.size,j,none⟩=false:=fr;replace a0:z2.drew.cell? ⟨x.heap.size,q*5,none⟩=some (.int .i64 gq.most):=a0;replace a1:z2.drew.cell? ⟨x.heap.size,q*5+1,none⟩=some (.int .i64 gq.lo):=a1;replace a2:z2.drew.cell? ⟨x.heap.size,q*5+2,none⟩=some (.int .i64 gq.ri):=a2;replace a3:z2.drew.cell? ⟨x.heap.size,q*5+3,none⟩=some (.int .i64 gq.fl):=a3;replace a4:z2.drew.cell? ⟨x.heap.size,q*5+4,none⟩=some (.int .i64 gq.fa):=a4;clear hA3 hB2;generalize z2.drew=z5 at *;go_wp2;go_roundw
      case rel=>exact⟨_,rfl,i+1,by omega,by go_num,by rw[htnh.out],hA4,hB4⟩
      case measure=>simp[intOf];omega
  ·obtain rfl:i=n:=(by omega);have hii:¬(i:Int)<(i:Int):=(by omega);go_wp2;go_ret;exact⟨by rw[←hTVh.out];rfl,HBr.out⟩
end Go.Proofs.YtfplipbkjglmhaaDoor
