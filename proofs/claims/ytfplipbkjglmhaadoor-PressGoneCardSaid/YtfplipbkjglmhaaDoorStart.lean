/-
 The walk of the start of a press at work: its places.
-/
import Derived.Test.YtfplipbkjglmhaaDoorTk
import Derived.Test.YtfplipbkjglmhaaDoorTq
import Derived.Test.YtfplipbkjglmhaaDoorWith
import Derived.Test.YtfplipbkjglmhaaDoorCarry
import Derived.Deep.DeepCutAuto
import Derived.Deep.CutRange
namespace Go.Proofs.YtfplipbkjglmhaaDoor
open Go.RowKit
set_option linter.unusedVariables false
set_option linter.unusedSimpArgs false
theorem facts4{x:World}{b:Nat}{c0 c1 c2 c3:Value}{t:TypeId}(h:x.heap[b]? = some (.cells #[c0,c1,c2,c3] t (0,0))):x.cell? ⟨b,0,none⟩=some c0∧x.cell? ⟨b,1,none⟩=some c1∧x.cell? ⟨b,2,none⟩=some c2∧x.cell? ⟨b,3,none⟩=some c3:=
 ⟨by simp[World.cell?,h],by simp[World.cell?,h],by simp[World.cell?,h],by simp[World.cell?,h]⟩
theorem facts5{x:World}{b:Nat}{c0 c1 c2 c3 c4:Value}{t:TypeId}(h:x.heap[b]? = some (.cells #[c0,c1,c2,c3,c4] t (0,0))):x.cell? ⟨b,0,none⟩=some c0∧x.cell? ⟨b,1,none⟩=some c1∧x.cell? ⟨b,2,none⟩=some c2∧x.cell? ⟨b,3,none⟩=some c3∧x.cell? ⟨b,4,none⟩=some c4:=
 ⟨by simp[World.cell?,h],by simp[World.cell?,h],by simp[World.cell?,h],by simp[World.cell?,h],by simp[World.cell?,h]⟩
theorem row14s{x:World}{b:Nat}{f:Nat→Sp}(h:x.heap[b]? = some (.cells #[.int .i64 (f 0).1,.int .i64 (f 0).2,.int .i64 (f 1).1,.int .i64 (f 1).2,.int .i64 (f 2).1,.int .i64 (f 2).2,.int .i64 (f 3).1,.int .i64 (f 3).2,.int .i64 (f 4).1,.int .i64 (f 4).2,.int .i64 (f 5).1,.int .i64 (f 5).2,.int .i64 (f 6).1,.int .i64 (f 6).2] 107 (0,0))){k:Nat}(hk:k<7):x.cell? ⟨b,k*2,none⟩=some (.int .i64 (f k).1)∧x.cell? ⟨b,k*2+1,none⟩=some (.int .i64 (f k).2):=by
 obtain rfl|rfl|rfl|rfl|rfl|rfl|rfl:k=0∨k=1∨k=2∨k=3∨k=4∨k=5∨k=6:=by omega
 all_goals exact⟨by simp[World.cell?,h],by simp[World.cell?,h]⟩
theorem info_rwn:(Tryd.prog.info? 107).map (fun i=>(i.zero,i.size,i.bytes))=some (some (.agg #[.int .i64 0,.int .i64 0,.int .i64 0,.int .i64 0,.int .i64 0,.int .i64 0,.int .i64 0,.int .i64 0,.int .i64 0,.int .i64 0,.int .i64 0,.int .i64 0,.int .i64 0,.int .i64 0]),14,112):=by kernel_rfl
theorem Std.init(w:World)(A A':Option Addr)(n c n' c':Nat)(t:Nat→Option Nat)(R:Nat→Nat→Sp):Std w ((w.alloc (.cells #[.slice A n c,.slice A' n' c'] 25)).alloc (.cells #[.slice A n c,.slice A' n' c',.slice none 0 0,.slice none 0 0,.slice none 0 0,.slice none 0 0] 111)) (.slice A n c) (.slice A' n' c') (.slice none 0 0) (.slice none 0 0) 0 0 t R:=by
 refine⟨?_,?_,World.ownsRow_nil _ _ _ _,World.ownsRow_nil _ _ _ _,((Below.refl _ _).alloc (Nat.le_refl _) _).alloc (by simp) _,by simp⟩
 ·rw[heap_lt_alloc' _ _ _ (by simp)];exact heap_alloc_new w _
 ·have:=heap_alloc_new (w.alloc (.cells #[.slice A n c,.slice A' n' c'] 25)) (.cells #[.slice A n c,.slice A' n' c',.slice none 0 0,.slice none 0 0,.slice none 0 0,.slice none 0 0] 111);simpa using this
set_option maxRecDepth 100000 in
set_option maxHeartbeats 8000000 in
theorem started_any(A A':Option Addr)(n c n' c':Nat)(ps:List PR)(ws:List WE)(w:World)(hR:Reads w w.heap.size 4 A n (pgs ps))(hW:Reads w w.heap.size 5 A' n' (wgs ws))(hV:validP ps ws=true) :
  Calls Tryd.prog 56 #[.agg #[.slice A n c,.slice A' n' c']] w fun e w'=>e = .returned (.pointer (some ⟨w.heap.size+1,0,none⟩))∧Below w.heap.size w w'∧∃At Ar Au ct cr cu gI,MO w' (w.heap.size+1) n (.slice A n c) (.slice A' n' c') (toT ps) (rowsT ps ws) At Ar Au ct cr cu gI:=by
 have hVF:=Lib.hid (valid_facts hV);have hl:ps.length=n:=hR.pg_len;have hl':ws.length=n':=hW.wg_len;have hn:n≤10:=by have:=hVF.out.n10;omega
 have hn':n'≤30:=by have:=hVF.out.m30;omega
 obtain⟨i0,hi,hz0,hz1,hz2⟩:=info_parts info_int;have hS0:=Lib.hid (Std.init w A A' n c n' c' (toT ps) (base ps));have HRd:=Lib.hid (fun z (hz:Below w.heap.size w z)=>(hR.below hz).more hz.size);have HWd:=Lib.hid (fun z (hz:Below w.heap.size w z)=>(hW.below hz).more hz.size);clear hR hW hV
 go_enter Tryd.func56,Tryd.ntmps56
 go_wp2_with fail
 generalize ((w.alloc (.cells #[.slice A n c,.slice A' n' c'] 25)).alloc (.cells #[.slice A n c,.slice A' n' c',.slice none 0 0,.slice none 0 0,.slice none 0 0,.slice none 0 0] 111))=wb at *;go_loopw [17] (fun v wr=>∃k:Nat,k≤n∧v = .int .i64 k∧∃vt vr,Hid (Std w wr (.slice A n c) (.slice A' n' c') vt vr k k (toT ps) (base ps))) (fun v _=>n - (intOf v).toNat)
 case atStart=>exact⟨0,by omega,rfl,_,_,hS0⟩
 case round=>
  clear hS0;obtain⟨k,hk,rfl,vt,vr,hCr⟩:=hrel;by_cases hlt:k<n
  ·have hki:(k:Int)<(n:Int):=(by omega);have k0:(0:Int)≤(k:Int):=(by omega);have hC:=hCr.out;obtain⟨bp,po,I,D,P,T,rfl,hbp,hx,x0,x1,x2,x3⟩:=(HRd.out _ hC.bel).pg hlt;have hTV:Hid (toV (toT ps) k=idxP ps T):=toV_idx hVF.out hx;have hXB:=heap_alloc_new wr (.cells #[.int .i64 I,.int .i64 D,.int .i64 P,.int .i64 T] 51);have hRB:=heap_alloc_new (wr.alloc (.cells #[.int .i64 I,.int .i64 D,.int .i64 P,.int .i64 T] 51)) (.cells #[.int .i64 0,.int .i64 0,.int .i64 0,.int .i64 0,.int .i64 0,.int .i64 0,.int .i64 0,.int .i64 0,.int .i64 0,.int .i64 0,.int .i64 0,.int .i64 0,.int .i64 0,.int .i64 0] 107);have hzB:Below wr.heap.size wr ((wr.alloc (.cells #[.int .i64 I,.int .i64 D,.int .i64 P,.int .i64 T] 51)).alloc (.cells #[.int .i64 0,.int .i64 0,.int .i64 0,.int .i64 0,.int .i64 0,.int .i64 0,.int .i64 0,.int .i64 0,.int .i64 0,.int .i64 0,.int .i64 0,.int .i64 0,.int .i64 0,.int .i64 0] 107)):=((Below.refl _ _).alloc (Nat.le_refl _) _).alloc (by simp) _;have hXB:=keepO ((Below.refl (wr.alloc (.cells #[.int .i64 I,.int .i64 D,.int .i64 P,.int .i64 T] 51)).heap.size (wr.alloc (.cells #[.int .i64 I,.int .i64 D,.int .i64 P,.int .i64 T] 51))).alloc (Nat.le_refl _) (.cells #[.int .i64 0,.int .i64 0,.int .i64 0,.int .i64 0,.int .i64 0,.int .i64 0,.int .i64 0,.int .i64 0,.int .i64 0,.int .i64 0,.int .i64 0,.int .i64 0,.int .i64 0,.int .i64 0] 107)) hXB
   have hC:=hC.below hzB;have hxz:w.heap.size+2≤wr.heap.size:=hCr.out.sz;rw[show (wr.alloc (.cells #[.int .i64 I,.int .i64 D,.int .i64 P,.int .i64 T] 51)).heap.size=wr.heap.size+1 by simp] at hRB;have hRB:((wr.alloc (.cells #[.int .i64 I,.int .i64 D,.int .i64 P,.int .i64 T] 51)).alloc (.cells #[.int .i64 0,.int .i64 0,.int .i64 0,.int .i64 0,.int .i64 0,.int .i64 0,.int .i64 0,.int .i64 0,.int .i64 0,.int .i64 0,.int .i64 0,.int .i64 0,.int .i64 0,.int .i64 0] 107)).heap[wr.heap.size+1]? = some (.cells #[.int .i64 (kf 0 0).1,.int .i64 (kf 0 0).2,.int .i64 (kf 0 1).1,.int .i64 (kf 0 1).2,.int .i64 (kf 0 2).1,.int .i64 (kf 0 2).2,.int .i64 (kf 0 3).1,.int .i64 (kf 0 3).2,.int .i64 (kf 0 4).1,.int .i64 (kf 0 4).2,.int .i64 (kf 0 5).1,.int .i64 (kf 0 5).2,.int .i64 (kf 0 6).1,.int .i64 (kf 0 6).2] 107 (0,0)):=(by simpa [kf] using hRB);have hVr:∀q,vr.ownBlock=some q→q<wr.heap.size:=fun q hq=>(ownR_lt hCr.out.rows hq).2
   clear hzB hCr;(go_wp2_with fail);generalize ((wr.alloc (.cells #[.int .i64 I,.int .i64 D,.int .i64 P,.int .i64 T] 51)).alloc (.cells #[.int .i64 0,.int .i64 0,.int .i64 0,.int .i64 0,.int .i64 0,.int .i64 0,.int .i64 0,.int .i64 0,.int .i64 0,.int .i64 0,.int .i64 0,.int .i64 0,.int .i64 0,.int .i64 0] 107))=z at *;obtain⟨rb,hrb⟩:∃rb,rb=wr.heap.size+1:=⟨_,rfl⟩;obtain⟨xb,hxb⟩:∃xb,xb=wr.heap.size:=⟨_,rfl⟩;rw[←hrb] at hRB ⊢;rw[←hxb] at hXB hxz hVr ⊢;have hrz:w.heap.size+2≤rb:=(by omega);have hrx:xb<rb:=(by omega);clear hrb hxb x0 x1 x2 x3;have hCh:=Lib.hid hC;have hXh:=Lib.hid hXB;have hRh:=Lib.hid hRB;clear hC hXB hRB;go_loopw [23] (fun v wq=>∃wl,wl=wq∧∃j:Nat,j≤7∧v = .int .i64 j∧Hid (Std w wq (.slice (some ⟨bp,po,none⟩) n c) (.slice A' n' c') vt vr k k (toT ps) (base ps))∧Hid (wq.heap[xb]? = some (.cells #[.int .i64 I,.int .i64 D,.int .i64 P,.int .i64 T] 51 (0,0)))∧Hid (wq.heap[rb]? = some (.cells #[.int .i64 (kf j 0).1,.int .i64 (kf j 0).2,.int .i64 (kf j 1).1,.int .i64 (kf j 1).2,.int .i64 (kf j 2).1,.int .i64 (kf j 2).2,.int .i64 (kf j 3).1,.int .i64 (kf j 3).2,.int .i64 (kf j 4).1,.int .i64 (kf j 4).2,.int .i64 (kf j 5).1,.int .i64 (kf j 5).2,.int .i64 (kf j 6).1,.int .i64 (kf j 6).2] 107 (0,0)))) (fun v _=>7 - (intOf v).toNat)
   case atStart=>exact⟨_,rfl,0,by omega,rfl,hCh,hXh,hRh⟩
   case round=>
    clear hCh hXh hRh;obtain⟨wq,rfl,j,hj,rfl,hCh,hXh,hRh⟩:=hrel;by_cases hj7:j<7
    ·have hji:(j:Int)<7:=(by omega);have j0:(0:Int)≤(j:Int):=(by omega);obtain⟨-,r1⟩:=row14s hRh.out hj7;have rf:wq.frozen? ⟨rb,j*2+1,none⟩=false:=(by simp[World.frozen?,hRh.out]);have hR':=Lib.hid (kf_step hj7 hRh.out);have hne:xb≠rb:=(by rintro rfl;have:=hXh.out;rw[hRh.out] at this;simp at this);have hX':=Lib.hid ((Below.heap_setCell wq ⟨rb,j*2+1,none⟩ (.int .i64 1000000) xb hne).trans hXh.out);have hC':=Lib.hid (hCh.out.far (p:=⟨rb,j*2+1,none⟩) hrz (ownR_ne hCh.out.to_ hRh.out) (fun q hq=>by have:=hVr q hq;simp only;omega) (.int .i64 1000000));clear hRh hXh hCh;go_wp2;go_roundw
     case rel=>exact⟨_,rfl,j+1,by omega,by go_num,hC',hX',hR'⟩
     case measure=>simp[intOf];omega
    ·obtain rfl:j=7:=(by omega);have hC:=hCh.out;have hXB:=hXh.out;have hRB:=hRh.out;have hne:xb≠rb:=(by omega);clear hCh hXh hRh;go_wp2_with fail
     go_cut [] from 18 to 64 (fun wx=>∃wl,wl=wx∧∃A1 c1,Std w wl (.slice (some ⟨bp,po,none⟩) n c) (.slice A' n' c') (.slice A1 (k+1) c1) vr (k+1) k (toT ps) (base ps)∧wl.heap[rb]? = some (.cells #[.int .i64 (kf 7 0).1,.int .i64 (kf 7 0).2,.int .i64 (kf 7 1).1,.int .i64 (kf 7 1).2,.int .i64 (kf 7 2).1,.int .i64 (kf 7 2).2,.int .i64 (kf 7 3).1,.int .i64 (kf 7 3).2,.int .i64 (kf 7 4).1,.int .i64 (kf 7 4).2,.int .i64 (kf 7 5).1,.int .i64 (kf 7 5).2,.int .i64 (kf 7 6).1,.int .i64 (kf 7 6).2] 107 (0,0))∧wl.heap[xb]? = some (.cells #[.int .i64 I,.int .i64 D,.int .i64 P,.int .i64 T] 51 (0,0)))
     case first=>
      obtain⟨S,hSd⟩:∃S:World→Prop,S=fun _=>True:=⟨_,rfl⟩;have HST:Hid (∀z:World,S z):=(by intro z;rw[hSd];trivial);refine wp_region_held_drew (S:=S) (by kernel_rfl) ?_ (fun hHeld=>?_)
      ·exact HST.out _
      have hKyd:Hid (Kp wq.heap.size [] wq wq.drew):=Lib.hid (Kp.refl _ _ _).drew;have hSyd:wq.heap.size≤wq.drew.heap.size:=Nat.le_refl _;have hRB:=keepO (Below.refl wq.heap.size wq).drew hRB;have hXB:=keepO (Below.refl wq.heap.size wq).drew hXB;have hC:=hC.drew;generalize wq.drew=yd at *;refine tY (v:=?_) 0 30 ?_ ?_;rotate_left
      ·intro w hSw;go_simp;(try with_reducible rfl)
      (try simp only[N0]);refine tY (v:=?_) 1 31 ?_ ?_;rotate_left
      ·intro w hSw;go_simp;(try with_reducible rfl)
      (try simp only[N0]);refine tY (v:=?_) 2 32 ?_ ?_;rotate_left
      ·intro w hSw;go_simp;(try with_reducible rfl)
      (try simp only[N0]);refine tY (v:=?_) 3 33 ?_ ?_;rotate_left
      ·intro w hSw;go_simp;(try with_reducible rfl)
      (try simp only[N0]);refine tY (v:=?_) 6 36 ?_ ?_;rotate_left
      ·intro w hSw;go_simp;(try with_reducible rfl)
      try simp only[N0]
      iterate 9
       all_goals first
        |refine U3 4 5 7 ?_ ?_ ?_
        |refine U2 5 7 ?_ ?_
        |refine U2 4 7 ?_ ?_
        |refine U2 4 5 ?_ ?_
        |refine U1 7 ?_
        |refine U1 5 ?_
        |refine U2 4 8 ?_ ?_
        |refine U1 8 ?_
        |refine U2 4 9 ?_ ?_
        |refine U1 9 ?_
        |refine U1 4 ?_
        |refine U1 10 ?_
        |refine U1 11 ?_
        |refine U1 12 ?_
        |refine U1 13 ?_
       all_goals first
        |intro (t:Tag 4) Kq hK
         clear t;obtain⟨b0,b1,m0,m1,m2,m3,f2,f3⟩:=hC.cells;go_simp;refine hK.out _ _ ?_ (fun hHeld=>?_)
         ·exact HST.out _
         clear hK Kq;try simp only[N0]
        |intro (t:Tag 5) Kq hK
         clear t;obtain⟨b0,b1,m0,m1,m2,m3,f2,f3⟩:=hC.cells;go_simp;refine hK.out _ _ ?_ (fun hHeld=>?_)
         ·exact HST.out _
         clear hK Kq;try simp only[N0]
        |intro (t:Tag 7) Kq hK
         clear t;obtain⟨x0,x1,x2,x3⟩:=facts4 hXB;go_simp;refine hK.out _ _ ?_ (fun hHeld=>?_)
         ·exact HST.out _
         clear hK Kq;try simp only[N0]
        |intro (t:Tag 8) Kq hK
         clear t;go_simp;refine(index_any (some ⟨bp,po,none⟩) A' n c n' c' ps T yd (by unfold maxLen;omega) (HRd.out yd hC.bel)).mono ?_;rintro e yd ⟨rfl,hb⟩;have hRB:=keepO hb hRB;have hXB:=keepO hb hXB;have hC:=hC.below hb;clear hb;(try go_simp);refine hK.out _ _ ?_ (fun hHeld=>?_)
         ·exact HST.out _
         clear hK Kq;try simp only[N0]
        |intro (t:Tag 9) Kq hK
         clear t;go_simp;have hL:=heap_alloc_new yd (.cells #[.int .i64 (idxP ps T)] 3);have hbA:=(Below.refl yd.heap.size yd).alloc (Nat.le_refl _) (.cells #[.int .i64 (idxP ps T)] 3);have hRB:=keepO hbA hRB;have hXB:=keepO hbA hXB;have hC:=hC.below hbA;clear hbA;generalize hnb:yd.heap.size=nb at *;generalize (yd.alloc (.cells #[.int .i64 (idxP ps T)] 3))=yd at *;clear hnb;refine hK.out _ _ ?_ (fun hHeld=>?_)
         ·exact HST.out _
         clear hK Kq;try simp only[N0]
        |intro (t:Tag 10) Kq hK
         clear t;refine step_app _ rfl _ _ 46 rfl (w.heap.size+2) 3 i0 _ 1 8 Tryd.underlying46 hi hz0 hz1 hz2 rfl (by decide) vt k (ints (tos (toT ps) k)) rfl hC.to_ yd.heap.size (some ⟨nb,0,none⟩) 1 1 (ints [idxP ps T]) rfl (rd_one hL) (ints_one _) (by unfold maxLen;omega) (by omega) hC.sz ?_;intro v' yd hown hgr hat;obtain⟨h4,g4⟩:=hC.grewT hgr;have hRB:=(hgr.block rb (Array.getElem?_eq_some_iff.1 hRB).1 (fun e=>ownR_ne hC.to_ hRB (by decide) rb e.symm rfl)).trans hRB;have hXB:=(hgr.block xb (Array.getElem?_eq_some_iff.1 hXB).1 (fun e=>ownR_ne hC.to_ hXB (by decide) xb e.symm rfl)).trans hXB;refine hK.out _ _ ?_ (fun hHeld=>?_)
         ·exact HST.out _
         clear hK Kq;try simp only[N0]
        |intro (t:Tag 11) Kq hK
         clear t;go_simp;refine hK.out _ _ ?_ (fun hHeld=>?_)
         ·exact HST.out _
         clear hK Kq;try simp only[N0]
        |intro (t:Tag 12) Kq hK
         clear t;go_simp;refine hK.out _ _ ?_ (fun hHeld=>?_)
         ·exact HST.out _
         clear hK Kq;try simp only[N0]
        |intro (t:Tag 13) Kq hK
         clear t;obtain⟨A1,c1,rfl⟩:=ownR_val hown;go_simp;clear h4 g4;have hC':=hC.appT (by rw[hTV.out];exact hown) hgr;have hRB:=(Below.heap_setCell yd ⟨w.heap.size+1,2,none⟩ (.slice A1 (k+1) c1) rb (by simp only;omega)).trans hRB;have hXB:=(Below.heap_setCell yd ⟨w.heap.size+1,2,none⟩ (.slice A1 (k+1) c1) xb (by simp only;omega)).trans hXB;generalize (yd.setCell ⟨w.heap.size+1,2,none⟩ (.slice A1 (k+1) c1))=yd at *;refine hK.out _ _ ?_ (fun hHeld=>?_)
         ·exact HST.out _
         clear hK Kq;try simp only[N0]
      all_goals
       refine wpAnyH_done (by kernel_rfl) ?_ _;(go_wp2_with fail);go_meet;exact⟨_,rfl,_,_,hC',hRB,hXB⟩
     case rest=>
      clear hC hRB hXB;obtain⟨z2,rfl,A1,c1,hC,hRB,hXB⟩:=‹∃wl,wl=_∧_›;obtain⟨ir,hir,hr0,hr1,hr2⟩:=info_parts info_rwn;obtain⟨g,rfl,cg,fg,hsame⟩:=hC.to_cell (k:=k) (by omega);obtain⟨x0,x1,x2,x3⟩:=facts4 hXB;have tv:=toV_toT hVF.out hx;have fr:z2.frozen? ⟨rb,13,none⟩=false:=(by simp[World.frozen?,hRB]);have c13:z2.cell? ⟨rb,13,none⟩=some (.int .i64 (kf 7 6).2):=(by simp[World.cell?,hRB]);by_cases hT:T=0
      ·subst hT;simp only[if_true] at tv;rw[tv] at cg hsame;have hbase:=Lib.hid (base_none hx rfl);have hC1:=hC.same (wz:=z2.setCell ⟨g,k,none⟩ (.int .i64 (-1))) hsame rfl rfl rfl;have hRB1:=(hsame rb).trans hRB;have hXB1:=(hsame xb).trans hXB;have hC2:=hC1.far (p:=⟨rb,13,none⟩) hrz (ownR_ne hC1.to_ hRB1) (fun q hq=>by have:=hVr q hq;simp only;omega) (.int .i64 0);have hRB2:=kf_six (f:=base ps k) hbase.out hRB1;have hXB2:=(Below.heap_setCell (z2.setCell ⟨g,k,none⟩ (.int .i64 (-1))) ⟨rb,13,none⟩ (.int .i64 0) xb (by simp only;omega)).trans hXB1;obtain⟨b0,b1,m0,m1,m2,m3,f2,f3⟩:=hC.cells;clear hC hRB hXB hC1 hRB1 hXB1 tv hbase hsame;have hki2:(k:Int)<((k+1:Nat):Int):=(by omega);(go_wp2_with fail);clear b0 b1 m0 m1 m2 m3 f2 f3 cg fg fr c13 x0 x1 x2 x3;obtain⟨z3,hz3⟩:∃z3,z3=(z2.setCell ⟨g,k,none⟩ (.int .i64 (-1))).setCell ⟨rb,13,none⟩ (.int .i64 0):=⟨_,rfl⟩;rw[←hz3] at hC2 hRB2 hXB2 ⊢;clear hz3;have hC:=hC2;have hRB:=hRB2;have hXB:=hXB2;clear hC2 hRB2 hXB2;obtain⟨S,hSd⟩:∃S:World→Prop,S=fun _=>True:=⟨_,rfl⟩;have HST:Hid (∀z:World,S z):=(by intro z;rw[hSd];trivial);refine wp_region_held_drew (S:=S) (by kernel_rfl) ?_ (fun hHeld=>?_)
       ·exact HST.out _
       have hKyd:Hid (Kp z3.heap.size [] z3 z3.drew):=Lib.hid (Kp.refl _ _ _).drew;have hSyd:z3.heap.size≤z3.drew.heap.size:=Nat.le_refl _;have hRB:=keepO (Below.refl z3.heap.size z3).drew hRB;have hXB:=keepO (Below.refl z3.heap.size z3).drew hXB;have hC:=hC.drew;generalize z3.drew=yd at *;refine tY (v:=?_) 0 54 ?_ ?_;rotate_left
       ·intro w hSw;go_simp;(try with_reducible rfl)
       (try simp only[N0]);refine tY (v:=?_) 1 55 ?_ ?_;rotate_left
       ·intro w hSw;go_simp;(try with_reducible rfl)
       (try simp only[N0]);refine tY (v:=?_) 2 56 ?_ ?_;rotate_left
       ·intro w hSw;go_simp;(try with_reducible rfl)
       (try simp only[N0]);refine tY (v:=?_) 3 57 ?_ ?_;rotate_left
       ·intro w hSw;go_simp;(try with_reducible rfl)
       try simp only[N0]
       iterate 7
        all_goals first
         |refine U2 4 5 ?_ ?_
         |refine U1 5 ?_
         |refine U2 4 6 ?_ ?_
         |refine U1 6 ?_
         |refine U1 4 ?_
         |refine U1 7 ?_
         |refine U1 8 ?_
         |refine U1 9 ?_
         |refine U1 10 ?_
        all_goals first
         |intro (t:Tag 4) Kq hK
          clear t;obtain⟨b0,b1,m0,m1,m2,m3,f2,f3⟩:=hC.cells;go_simp;refine hK.out _ _ ?_ (fun hHeld=>?_)
          ·exact HST.out _
          clear hK Kq;try simp only[N0]
         |intro (t:Tag 5) Kq hK
          clear t;obtain⟨q0,q1,q2,q3,q4,q5,q6,q7,q8,q9,q10,q11,q12,q13,-⟩:=facts14 hRB;go_simp;refine hK.out _ _ ?_ (fun hHeld=>?_)
          ·exact HST.out _
          clear hK Kq;try simp only[N0]
         |intro (t:Tag 6) Kq hK
          clear t;go_simp;have hL:=heap_alloc_new yd (.cells #[.int .i64 (base ps k 0).1,.int .i64 (base ps k 0).2,.int .i64 (base ps k 1).1,.int .i64 (base ps k 1).2,.int .i64 (base ps k 2).1,.int .i64 (base ps k 2).2,.int .i64 (base ps k 3).1,.int .i64 (base ps k 3).2,.int .i64 (base ps k 4).1,.int .i64 (base ps k 4).2,.int .i64 (base ps k 5).1,.int .i64 (base ps k 5).2,.int .i64 (base ps k 6).1,.int .i64 (base ps k 6).2] 107);have hbA:=(Below.refl yd.heap.size yd).alloc (Nat.le_refl _) (.cells #[.int .i64 (base ps k 0).1,.int .i64 (base ps k 0).2,.int .i64 (base ps k 1).1,.int .i64 (base ps k 1).2,.int .i64 (base ps k 2).1,.int .i64 (base ps k 2).2,.int .i64 (base ps k 3).1,.int .i64 (base ps k 3).2,.int .i64 (base ps k 4).1,.int .i64 (base ps k 4).2,.int .i64 (base ps k 5).1,.int .i64 (base ps k 5).2,.int .i64 (base ps k 6).1,.int .i64 (base ps k 6).2] 107);have hRB:=keepO hbA hRB;have hXB:=keepO hbA hXB;have hC:=hC.below hbA;clear hbA;generalize hnb:yd.heap.size=nb at *;generalize (yd.alloc (.cells #[.int .i64 (base ps k 0).1,.int .i64 (base ps k 0).2,.int .i64 (base ps k 1).1,.int .i64 (base ps k 1).2,.int .i64 (base ps k 2).1,.int .i64 (base ps k 2).2,.int .i64 (base ps k 3).1,.int .i64 (base ps k 3).2,.int .i64 (base ps k 4).1,.int .i64 (base ps k 4).2,.int .i64 (base ps k 5).1,.int .i64 (base ps k 5).2,.int .i64 (base ps k 6).1,.int .i64 (base ps k 6).2] 107))=yd at *;clear hnb;refine hK.out _ _ ?_ (fun hHeld=>?_)
          ·exact HST.out _
          clear hK Kq;try simp only[N0]
         |intro (t:Tag 7) Kq hK
          clear t;refine step_app _ rfl _ _ 108 rfl (w.heap.size+2) 107 ir _ 14 112 Tryd.underlying108 hir hr0 hr1 hr2 rfl (by decide) vr k (rws (base ps) k) rfl hC.rows yd.heap.size (some ⟨nb,0,none⟩) 1 1 (rowc (base ps k)) rfl (rd_row hL) (rowc_one _) (by unfold maxLen;omega) (by omega) hC.sz ?_;intro v' yd hown hgr hat;obtain⟨h4,g4⟩:=hC.grewR hgr;refine hK.out _ _ ?_ (fun hHeld=>?_)
          ·exact HST.out _
          clear hK Kq;try simp only[N0]
         |intro (t:Tag 8) Kq hK
          clear t;go_simp;refine hK.out _ _ ?_ (fun hHeld=>?_)
          ·exact HST.out _
          clear hK Kq;try simp only[N0]
         |intro (t:Tag 9) Kq hK
          clear t;go_simp;refine hK.out _ _ ?_ (fun hHeld=>?_)
          ·exact HST.out _
          clear hK Kq;try simp only[N0]
         |intro (t:Tag 10) Kq hK
          clear t;obtain⟨A2,c2,rfl⟩:=ownR_val hown;go_simp;clear h4 g4;have hC':=hC.appR hown hgr;generalize (yd.setCell ⟨w.heap.size+1,3,none⟩ (.slice A2 (k+1) c2))=yd at *;refine hK.out _ _ ?_ (fun hHeld=>?_)
          ·exact HST.out _
          clear hK Kq;try simp only[N0]
       all_goals
        refine wpAnyH_done (by kernel_rfl) ?_ _;have hX:=Lib.hid hC';clear hC' hC hown hgr hat hRB hXB hL;go_wp2;go_roundw
        case rel=>exact⟨k+1,by omega,by go_num,_,_,hX⟩
        case measure=>simp[intOf];omega
      ·have hT0:¬T=0:=hT;have hTb:(T==0)=false:=(by simpa using hT);have hRB:=kf_all (f:=base ps k) (base_some hx hT0) hRB;clear cg fg hsame tv fr c13;(go_wp2_with fail);clear x0 x1 x2 x3;obtain⟨S,hSd⟩:∃S:World→Prop,S=fun _=>True:=⟨_,rfl⟩;have HST:Hid (∀z:World,S z):=(by intro z;rw[hSd];trivial);refine wp_region_held_drew (S:=S) (by kernel_rfl) ?_ (fun hHeld=>?_)
       ·exact HST.out _
       have hKyd:Hid (Kp z2.heap.size [] z2 z2.drew):=Lib.hid (Kp.refl _ _ _).drew;have hSyd:z2.heap.size≤z2.drew.heap.size:=Nat.le_refl _;have hRB:=keepO (Below.refl z2.heap.size z2).drew hRB;have hXB:=keepO (Below.refl z2.heap.size z2).drew hXB;have hC:=hC.drew;generalize z2.drew=yd at *;refine tY (v:=?_) 0 54 ?_ ?_;rotate_left
       ·intro w hSw;go_simp;(try with_reducible rfl)
       (try simp only[N0]);refine tY (v:=?_) 1 55 ?_ ?_;rotate_left
       ·intro w hSw;go_simp;(try with_reducible rfl)
       (try simp only[N0]);refine tY (v:=?_) 2 56 ?_ ?_;rotate_left
       ·intro w hSw;go_simp;(try with_reducible rfl)
       (try simp only[N0]);refine tY (v:=?_) 3 57 ?_ ?_;rotate_left
       ·intro w hSw;go_simp;(try with_reducible rfl)
       try simp only[N0]
       iterate 7
        all_goals first
         |refine U2 4 5 ?_ ?_
         |refine U1 5 ?_
         |refine U2 4 6 ?_ ?_
         |refine U1 6 ?_
         |refine U1 4 ?_
         |refine U1 7 ?_
         |refine U1 8 ?_
         |refine U1 9 ?_
         |refine U1 10 ?_
        all_goals first
         |intro (t:Tag 4) Kq hK
          clear t;obtain⟨b0,b1,m0,m1,m2,m3,f2,f3⟩:=hC.cells;go_simp;refine hK.out _ _ ?_ (fun hHeld=>?_)
          ·exact HST.out _
          clear hK Kq;try simp only[N0]
         |intro (t:Tag 5) Kq hK
          clear t;obtain⟨q0,q1,q2,q3,q4,q5,q6,q7,q8,q9,q10,q11,q12,q13,-⟩:=facts14 hRB;go_simp;refine hK.out _ _ ?_ (fun hHeld=>?_)
          ·exact HST.out _
          clear hK Kq;try simp only[N0]
         |intro (t:Tag 6) Kq hK
          clear t;go_simp;have hL:=heap_alloc_new yd (.cells #[.int .i64 (base ps k 0).1,.int .i64 (base ps k 0).2,.int .i64 (base ps k 1).1,.int .i64 (base ps k 1).2,.int .i64 (base ps k 2).1,.int .i64 (base ps k 2).2,.int .i64 (base ps k 3).1,.int .i64 (base ps k 3).2,.int .i64 (base ps k 4).1,.int .i64 (base ps k 4).2,.int .i64 (base ps k 5).1,.int .i64 (base ps k 5).2,.int .i64 (base ps k 6).1,.int .i64 (base ps k 6).2] 107);have hbA:=(Below.refl yd.heap.size yd).alloc (Nat.le_refl _) (.cells #[.int .i64 (base ps k 0).1,.int .i64 (base ps k 0).2,.int .i64 (base ps k 1).1,.int .i64 (base ps k 1).2,.int .i64 (base ps k 2).1,.int .i64 (base ps k 2).2,.int .i64 (base ps k 3).1,.int .i64 (base ps k 3).2,.int .i64 (base ps k 4).1,.int .i64 (base ps k 4).2,.int .i64 (base ps k 5).1,.int .i64 (base ps k 5).2,.int .i64 (base ps k 6).1,.int .i64 (base ps k 6).2] 107);have hRB:=keepO hbA hRB;have hXB:=keepO hbA hXB;have hC:=hC.below hbA;clear hbA;generalize hnb:yd.heap.size=nb at *;generalize (yd.alloc (.cells #[.int .i64 (base ps k 0).1,.int .i64 (base ps k 0).2,.int .i64 (base ps k 1).1,.int .i64 (base ps k 1).2,.int .i64 (base ps k 2).1,.int .i64 (base ps k 2).2,.int .i64 (base ps k 3).1,.int .i64 (base ps k 3).2,.int .i64 (base ps k 4).1,.int .i64 (base ps k 4).2,.int .i64 (base ps k 5).1,.int .i64 (base ps k 5).2,.int .i64 (base ps k 6).1,.int .i64 (base ps k 6).2] 107))=yd at *;clear hnb;refine hK.out _ _ ?_ (fun hHeld=>?_)
          ·exact HST.out _
          clear hK Kq;try simp only[N0]
         |intro (t:Tag 7) Kq hK
          clear t;refine step_app _ rfl _ _ 108 rfl (w.heap.size+2) 107 ir _ 14 112 Tryd.underlying108 hir hr0 hr1 hr2 rfl (by decide) vr k (rws (base ps) k) rfl hC.rows yd.heap.size (some ⟨nb,0,none⟩) 1 1 (rowc (base ps k)) rfl (rd_row hL) (rowc_one _) (by unfold maxLen;omega) (by omega) hC.sz ?_;intro v' yd hown hgr hat;obtain⟨h4,g4⟩:=hC.grewR hgr;refine hK.out _ _ ?_ (fun hHeld=>?_)
          ·exact HST.out _
          clear hK Kq;try simp only[N0]
         |intro (t:Tag 8) Kq hK
          clear t;go_simp;refine hK.out _ _ ?_ (fun hHeld=>?_)
          ·exact HST.out _
          clear hK Kq;try simp only[N0]
         |intro (t:Tag 9) Kq hK
          clear t;go_simp;refine hK.out _ _ ?_ (fun hHeld=>?_)
          ·exact HST.out _
          clear hK Kq;try simp only[N0]
         |intro (t:Tag 10) Kq hK
          clear t;obtain⟨A2,c2,rfl⟩:=ownR_val hown;go_simp;clear h4 g4;have hC':=hC.appR hown hgr;generalize (yd.setCell ⟨w.heap.size+1,3,none⟩ (.slice A2 (k+1) c2))=yd at *;refine hK.out _ _ ?_ (fun hHeld=>?_)
          ·exact HST.out _
          clear hK Kq;try simp only[N0]
       all_goals
        refine wpAnyH_done (by kernel_rfl) ?_ _;have hX:=Lib.hid hC';clear hC' hC hown hgr hat hRB hXB hL;go_wp2;go_roundw
        case rel=>exact⟨k+1,by omega,by go_num,_,_,hX⟩
        case measure=>simp[intOf];omega
  ·obtain rfl:k=n:=(by omega);obtain⟨At,ct,rfl⟩:=ownR_val hCr.out.to_;obtain⟨Ar,cr,rfl⟩:=ownR_val hCr.out.rows;obtain⟨b0,b1,m0,m1,m2,m3,f2,f3⟩:=hCr.out.cells;(go_wp2_with fail);clear b0 b1 m0 m1 m2 m3 f2 f3;go_loopw [71] (fun v wq=>∃m:Nat,m≤n'∧v = .int .i64 m∧Hid (Std w wq (.slice A k c) (.slice A' n' c') (.slice At k ct) (.slice Ar k cr) k k (toT ps) (rowsT ps (ws.take m)))) (fun v _=>n' - (intOf v).toNat)
   case atStart=>exact⟨0,by omega,rfl,hCr⟩
   case round=>
    clear hCr;obtain⟨m,hm,rfl,hCm⟩:=hrel;by_cases hmt:m<n'
    ·have hmi:(m:Int)<(n':Int):=(by omega);have m0:(0:Int)≤(m:Int):=(by omega);have hC:=hCm.out;obtain⟨bw,ow,N,P,K,L,H,rfl,hbw,hx,x0,x1,x2,x3,x4⟩:=(HWd.out _ hC.bel).wg hmt;have hwf:=hVF.out.w_ m _ hx;simp only at hwf;have hib:=(idxP_bound ps P).2;obtain⟨ix,hix⟩:∃ix:Nat,idxP ps P=(ix:Int):=⟨(idxP ps P).toNat,by omega⟩;obtain⟨kd,rfl⟩:∃kd:Nat,K=(kd:Int):=⟨K.toNat,by omega⟩;have hixk:ix<k:=(by omega);have hkd:kd<7:=(by omega);obtain⟨g,cap,he,-,-⟩:=World.ownsRow.form hC.rows (by omega);simp only[Value.slice.injEq,true_and] at he;obtain⟨rfl,rfl⟩:=he;have hRw:=rowsT_take (ps:=ps) hx;rw[note1_put hix rfl] at hRw;have hixh:=Lib.hid hix;have hRh:=Lib.hid hRw;have hxi:((ix:Nat):Int)<(k:Int):=(by omega);have x00:(0:Int)≤(ix:Int):=(by omega);have hkdi:((kd:Nat):Int)<7:=(by omega);have k00:(0:Int)≤(kd:Int):=(by omega);have hgn:g<wr.heap.size:=(ownR_lt hC.rows rfl).2;have hXB:=heap_alloc_new wr (.cells #[.int .i64 N,.int .i64 P,.int .i64 (kd:Int),.int .i64 L,.int .i64 H] 81);have hzB:=(Below.refl wr.heap.size wr).alloc (Nat.le_refl _) (.cells #[.int .i64 N,.int .i64 P,.int .i64 (kd:Int),.int .i64 L,.int .i64 H] 81);have hC:=hC.below hzB;have hgx:wr.heap.size≠g:=(by omega);clear hwf hib hix hRw hzB hCm;(go_wp2_with fail);generalize (wr.alloc (.cells #[.int .i64 N,.int .i64 P,.int .i64 (kd:Int),.int .i64 L,.int .i64 H] 81))=z at *;obtain⟨xb,hxb⟩:∃xb,xb=wr.heap.size:=⟨_,rfl⟩;rw[←hxb] at hXB hgx ⊢;clear hxb hgn x0 x1 x2 x3 x4;obtain⟨b0,b1,m0',m1,m2,m3,f2,f3⟩:=hC.cells
     obtain⟨x0,x1,x2,x3,x4⟩:=facts5 hXB;have hxz:xb<z.heap.size:=(Array.getElem?_eq_some_iff.1 hXB).1;have hbz:w.heap.size+2≤z.heap.size:=hC.sz;have HQ:=Lib.hid (fun w' (hz:Hid (Kp z.heap.size [] z w'))=>(⟨(hz.out.cell (by simp only;omega) (by simp;try omega)).trans b0,(hz.out.cell (by simp only;omega) (by simp;try omega)).trans b1,(hz.out.cell (by simp only;omega) (by simp;try omega)).trans m3,(hz.out.cell (by simp only;omega) (by simp;try omega)).trans x1,(hz.out.cell (by simp only;omega) (by simp;try omega)).trans x2⟩:w'.cell? ⟨w.heap.size,0,none⟩=some (.slice A k c)∧w'.cell? ⟨w.heap.size,1,none⟩=some (.slice (some ⟨bw,ow,none⟩) n' c')∧w'.cell? ⟨w.heap.size+1,3,none⟩=some (.slice (some ⟨g,0,none⟩) k cr)∧w'.cell? ⟨xb,1,none⟩=some (.int .i64 P)∧w'.cell? ⟨xb,2,none⟩=some (.int .i64 (kd:Int))));obtain⟨S,hSd⟩:∃S:World→Prop,S=fun w'=>(w'.cell? ⟨w.heap.size,0,none⟩=some (.slice A k c)∧w'.cell? ⟨w.heap.size,1,none⟩=some (.slice (some ⟨bw,ow,none⟩) n' c')∧w'.cell? ⟨w.heap.size+1,3,none⟩=some (.slice (some ⟨g,0,none⟩) k cr)∧w'.cell? ⟨xb,1,none⟩=some (.int .i64 P)∧w'.cell? ⟨xb,2,none⟩=some (.int .i64 (kd:Int)))∧Hid (Kp z.heap.size [] z w'):=⟨_,rfl⟩
     have HS:=Lib.hid (fun w' (hz:Hid (Kp z.heap.size [] z w'))=>(by rw[hSd];exact⟨HQ.out w' hz,hz⟩:S w'));clear b0 b1 m0' m1 m2 m3 f2 f3 x0 x1 x2 x3 x4;refine wp_region_held_drew (S:=S) (by kernel_rfl) ?_ (fun hHeld=>?_)
     ·exact HS.out _ (Lib.hid (Kp.refl _ _ _).drew)
     have hKyd:Hid (Kp z.heap.size [] z z.drew):=Lib.hid (Kp.refl _ _ _).drew;have hSyd:z.heap.size≤z.drew.heap.size:=Nat.le_refl _;have hXB:=keepO (Below.refl z.heap.size z).drew hXB;have hC:=hC.drew;generalize z.drew=yd at *;refine tY (v:=?_) 0 75 ?_ ?_;rotate_left
     ·intro w hSw;rw[hSd] at hSw;obtain⟨⟨q0,q1,q2,q3,q4⟩,-⟩:=hSw;go_simp;(try with_reducible rfl)
     (try simp only[N0]);refine tY (v:=?_) 1 76 ?_ ?_;rotate_left
     ·intro w hSw;rw[hSd] at hSw;obtain⟨⟨q0,q1,q2,q3,q4⟩,-⟩:=hSw;go_simp;(try with_reducible rfl)
     (try simp only[N0]);refine tY (v:=?_) 2 77 ?_ ?_;rotate_left
     ·intro w hSw;rw[hSd] at hSw;obtain⟨⟨q0,q1,q2,q3,q4⟩,-⟩:=hSw;go_simp;(try with_reducible rfl)
     (try simp only[N0]);refine tY (v:=?_) 3 78 ?_ ?_;rotate_left
     ·intro w hSw;rw[hSd] at hSw;obtain⟨⟨q0,q1,q2,q3,q4⟩,-⟩:=hSw;go_simp;(try with_reducible rfl)
     (try simp only[N0]);refine tY (v:=?_) 4 79 ?_ ?_;rotate_left
     ·intro w hSw;rw[hSd] at hSw;obtain⟨⟨q0,q1,q2,q3,q4⟩,-⟩:=hSw;go_simp;(try with_reducible rfl)
     (try simp only[N0]);refine tY (v:=?_) 5 80 ?_ ?_;rotate_left
     ·intro w hSw;rw[hSd] at hSw;obtain⟨⟨q0,q1,q2,q3,q4⟩,-⟩:=hSw;go_simp;(try with_reducible rfl)
     (try simp only[N0]);refine tY (v:=?_) 6 81 ?_ ?_;rotate_left
     ·intro w hSw;rw[hSd] at hSw;obtain⟨⟨q0,q1,q2,q3,q4⟩,-⟩:=hSw;go_simp;(try with_reducible rfl)
     (try simp only[N0]);refine tY (v:=?_) 8 83 ?_ ?_;rotate_left
     ·intro w hSw;rw[hSd] at hSw;obtain⟨⟨q0,q1,q2,q3,q4⟩,-⟩:=hSw;go_simp;(try with_reducible rfl)
     (try simp only[N0]);refine tY (v:=?_) 9 84 ?_ ?_;rotate_left
     ·intro w hSw;rw[hSd] at hSw;obtain⟨⟨q0,q1,q2,q3,q4⟩,-⟩:=hSw;go_simp;(try with_reducible rfl)
     (try simp only[N0]);refine Q1 7 ?_;intro _ Kq hK;go_simp;refine(index_any A (some ⟨bw,ow,none⟩) k c n' c' ps P yd (by unfold maxLen;omega) (HRd.out yd hC.bel)).mono ?_;rintro e yd ⟨rfl,hb⟩;replace hKyd:=Lib.hid (hKyd.out.call hSyd hb);replace hXB:=keepO hb hXB;replace hSyd:=Nat.le_trans hSyd hb.size;have hC:=hC.below hb;rw[hixh.out];clear hb;(try go_simp);refine hK.out _ _ ?_ (fun hHeld=>?_)
     ·exact HS.out _ hKyd
     clear hK Kq;(try simp only[N0]);refine Q1 10 ?_;intro _ Kq hK;go_simp;refine hK.out _ _ ?_ (fun hHeld=>?_)
     ·exact HS.out _ hKyd
     clear hK Kq;(try simp only[N0]);refine Q1 11 ?_;intro _ Kq hK;go_simp;refine hK.out _ _ ?_ (fun hHeld=>?_)
     ·exact HS.out _ hKyd
     clear hK Kq;(try simp only[N0]);refine Q1 12 ?_;intro _ Kq hK;go_simp;refine hK.out _ _ ?_ (fun hHeld=>?_)
     ·exact HS.out _ hKyd
     clear hK Kq;(try simp only[N0]);refine wpAnyH_done (by kernel_rfl) ?_ _;clear HS HQ hSd;generalize yd=z6 at *;(go_wp2_with fail);obtain⟨x0,x1,x2,x3,x4⟩:=facts5 hXB;have hxz:xb<z6.heap.size:=(Array.getElem?_eq_some_iff.1 hXB).1;have hgz:g<z6.heap.size:=(ownR_lt hC.rows rfl).2;have HQ:=Lib.hid (fun w' (hz:Hid (Kp z6.heap.size [g] z6 w'))=>(⟨(hz.out.cell (by simp only;omega) (by simp;try omega)).trans x3,(hz.out.cell (by simp only;omega) (by simp;try omega)).trans x4⟩:w'.cell? ⟨xb,3,none⟩=some (.int .i64 L)∧w'.cell? ⟨xb,4,none⟩=some (.int .i64 H)));obtain⟨S,hSd⟩:∃S:World→Prop,S=fun w'=>(w'.cell? ⟨xb,3,none⟩=some (.int .i64 L)∧w'.cell? ⟨xb,4,none⟩=some (.int .i64 H))∧Hid (Kp z6.heap.size [g] z6 w'):=⟨_,rfl⟩
     have HS:=Lib.hid (fun w' (hz:Hid (Kp z6.heap.size [g] z6 w'))=>(by rw[hSd];exact⟨HQ.out w' hz,hz⟩:S w'));clear x0 x1 x2 x3 x4;refine wp_region_held_drew (S:=S) (by kernel_rfl) ?_ (fun hHeld=>?_)
     ·exact HS.out _ (Lib.hid (Kp.refl _ _ _).drew)
     have hKyd:Hid (Kp z6.heap.size [g] z6 z6.drew):=Lib.hid (Kp.refl _ _ _).drew;have hSyd:z6.heap.size≤z6.drew.heap.size:=Nat.le_refl _;have hC:=hC.drew;generalize z6.drew=yd at *;refine tY (v:=?_) 0 87 ?_ ?_;rotate_left
     ·intro w hSw;rw[hSd] at hSw;obtain⟨⟨q0,q1⟩,-⟩:=hSw;go_simp;(try with_reducible rfl)
     (try simp only[N0]);refine tY (v:=?_) 1 88 ?_ ?_;rotate_left
     ·intro w hSw;rw[hSd] at hSw;obtain⟨⟨q0,q1⟩,-⟩:=hSw;go_simp;(try with_reducible rfl)
     (try simp only[N0]);refine tY (v:=?_) 2 89 ?_ ?_;rotate_left
     ·intro w hSw;rw[hSd] at hSw;obtain⟨⟨q0,q1⟩,-⟩:=hSw;go_simp;(try with_reducible rfl)
     (try simp only[N0]);refine tY (v:=?_) 4 91 ?_ ?_;rotate_left
     ·intro w hSw;rw[hSd] at hSw;obtain⟨⟨q0,q1⟩,-⟩:=hSw;go_simp;(try with_reducible rfl)
     (try simp only[N0]);refine tY (v:=?_) 5 92 ?_ ?_;rotate_left
     ·intro w hSw;rw[hSd] at hSw;obtain⟨⟨q0,q1⟩,-⟩:=hSw;go_simp;(try with_reducible rfl)
     (try simp only[N0]);refine Q1 3 ?_;intro _ Kq hK;obtain⟨i0',i1',-,-⟩:=hC.at_ hixk hkd;go_simp;refine hK.out _ _ ?_ (fun hHeld=>?_)
     ·exact HS.out _ hKyd
     clear hK Kq;(try simp only[N0]);refine Q1 6 ?_;intro _ Kq hK;go_simp;refine(both_any (rowsT ps (ws.take m) ix kd) (L,H) _).mono ?_;rintro e yd ⟨rfl,hb⟩;replace hKyd:=Lib.hid (hKyd.out.call hSyd hb);replace hSyd:=Nat.le_trans hSyd hb.size;have hC:=hC.below hb;clear hb;(try go_simp);refine hK.out _ _ ?_ (fun hHeld=>?_)
     ·exact HS.out _ hKyd
     clear hK Kq;(try simp only[N0]);refine Q1 7 ?_;intro _ Kq hK;go_simp;refine hK.out _ _ ?_ (fun hHeld=>?_)
     ·exact HS.out _ hKyd
     clear hK Kq;(try simp only[N0]);refine Q1 8 ?_;intro _ Kq hK;obtain⟨i0',i1',g0',g1'⟩:=hC.at_ hixk hkd;go_simp;replace hKyd:=Lib.hid ((hKyd.out.set (p:=⟨g,ix*14+kd*2,none⟩) (Or.inl (by simp)) (.int .i64 (both (rowsT ps (ws.take m) ix kd) (L,H)).1)).set (p:=⟨g,ix*14+kd*2+1,none⟩) (Or.inl (by simp)) (.int .i64 (both (rowsT ps (ws.take m) ix kd) (L,H)).2));have hC:=hC.put hixk hkd (both (rowsT ps (ws.take m) ix kd) (L,H));obtain⟨yd,hz_⟩:∃z,z=((yd.setCell ⟨g,ix*14+kd*2,none⟩ (.int .i64 (both (rowsT ps (ws.take m) ix kd) (L,H)).1)).setCell ⟨g,ix*14+kd*2+1,none⟩ (.int .i64 (both (rowsT ps (ws.take m) ix kd) (L,H)).2)):=⟨_,rfl⟩;rw[←hz_];rw[←hz_] at hKyd;rw[←hz_] at hC;replace hSyd:=Nat.le_trans hSyd (show _≤yd.heap.size by rw[hz_];simp);clear hz_;refine hK.out _ _ ?_ (fun hHeld=>?_)
     ·exact HS.out _ hKyd
     clear hK Kq;(try simp only[N0]);refine wpAnyH_done (by kernel_rfl) ?_ _;have hX:=Lib.hid (hC.rws hRh.out.symm);clear HS HQ hC hXB;go_wp2;go_roundw
     case rel=>exact⟨m+1,by omega,by go_num,hX⟩
     case measure=>simp[intOf];omega
    ·obtain rfl:m=n':=(by omega);have hC:=hCm.out;rw[show ws.take m=ws from List.take_of_length_le (by omega)] at hC;have hSm:=hVF.out.smr m;rw[show ws.take m=ws from List.take_of_length_le (by omega),hl] at hSm;have hFw:=hVF.out.fwd;rw[hl] at hFw;have hcy:=carry_any (w.heap.size+1) k (toT ps) (rowsT ps ws) hFw hSm hn _ _ _ _ At Ar ct cr wr hC.m (.of_own hC.to_ (by simp)) (.of_own hC.rows (by simp));(go_wp2_with fail);refine hcy.mono ?_;rintro e z ⟨⟨v,rfl⟩,vU,gI,hK⟩;obtain⟨Au,cu,rfl⟩:=ownR_val hK.own;have hb:Below w.heap.size w z:=hC.bel.trans (hK.kp.below (by have:=hC.sz;omega) (by simp));have hto:=ownR_block hC.to_ fun q hq=>hK.kp.block q (ownR_lt hC.to_ hq).2 (by have:=(ownR_lt hC.to_ hq).1;simp;omega);have hro:=ownR_block hC.rows fun q hq=>hK.kp.block q (ownR_lt hC.rows hq).2 (by have:=(ownR_lt hC.rows hq).1;simp;omega);have hg:=hK.g;have hlt:=hK.lt;have hres:∃At' Ar' Au' ct' cr' cu' gI',MO z (w.heap.size+1) k (.slice A k c) (.slice A' m c') (toT ps) (rowsT ps ws) At' Ar' Au' ct' cr' cu' gI':=⟨At,Ar,Au,ct,cr,cu,gI,hK.m,hto,hro,Go.Joins.ownsRow_le hK.own (by omega),hK.into,by omega⟩;clear hto hro hK hC;go_wp2;exact bodyPost_ret (v:=.pointer (some ⟨w.heap.size+1,0,none⟩)) (by simp[results,go_sem]) rfl ⟨rfl,hb,hres⟩
end Go.Proofs.YtfplipbkjglmhaaDoor
