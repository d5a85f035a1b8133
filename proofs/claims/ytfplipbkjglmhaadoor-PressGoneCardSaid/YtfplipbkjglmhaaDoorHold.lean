/-
 The walk of whether there is a truth.
-/
import Derived.Test.YtfplipbkjglmhaaDoorTk
import Derived.Test.YtfplipbkjglmhaaDoorTq
import Derived.Test.YtfplipbkjglmhaaDoorKs
namespace Go.Proofs.YtfplipbkjglmhaaDoor
open Go.RowKit
set_option linter.unusedVariables false
set_option linter.unusedSimpArgs false
def inS (t:Nat→Option Nat) (R:Nat→Nat→Sp) (U I:Nat→Sp) (n i:Nat):Sp:=both (I i) (plus (downS t R U n n i) (rest1 (R i) 4))
def spanS (t:Nat→Option Nat) (R:Nat→Nat→Sp) (U I:Nat→Sp) (n i k:Nat):Sp:=
 if k=6 then both (downS t R U n n i) (U i)
 else if k=1 then both (R i 1) (minus (plus (both (downS t R U n n i) (U i)) (rest1 (R i) 4)) (minus1 (I i) (R i 1)))
 else both (R i k) (minus (I i) (plus (both (downS t R U n n i) (U i)) (minus1 (rest1 (R i) 4) (R i k))))
theorem row14{x:World}{b:Nat}{f:Nat→Sp}(h:x.heap[b]? = some (.cells #[.int .i64 (f 0).1,.int .i64 (f 0).2,.int .i64 (f 1).1,.int .i64 (f 1).2,.int .i64 (f 2).1,.int .i64 (f 2).2,.int .i64 (f 3).1,.int .i64 (f 3).2,.int .i64 (f 4).1,.int .i64 (f 4).2,.int .i64 (f 5).1,.int .i64 (f 5).2,.int .i64 (f 6).1,.int .i64 (f 6).2] 107 (0,0))){k:Nat}(hk:k<7):x.cell? ⟨b,k*2,none⟩=some (.int .i64 (f k).1)∧x.cell? ⟨b,k*2+1,none⟩=some (.int .i64 (f k).2):=by
 obtain rfl|rfl|rfl|rfl|rfl|rfl|rfl:k=0∨k=1∨k=2∨k=3∨k=4∨k=5∨k=6:=by omega
 all_goals exact⟨by simp[World.cell?,h],by simp[World.cell?,h]⟩
set_option maxRecDepth 100000 in
set_option maxHeartbeats 8000000 in
theorem inM_any(mb n:Nat)(t:Nat→Option Nat)(R:Nat→Nat→Sp)(U I:Nat→Sp)(At Ar Au Ai:Option Addr)(ct cr cu ci:Nat)(hF:Fwd n t)(hR:SmR R n)(hU:SmU U n)(hI:SmU I n)(hn:n≤10)(i:Nat)(hi:i<n)(x:World)(hM:MR x mb n t R U I At Ar Au Ai ct cr cu ci) :
  Calls Tryd.prog 80 #[.pointer (some ⟨mb,0,none⟩),.int .i64 i] x fun e x'=>
   e = .returned (.agg #[.int .i64 (inS t R U I n i).1,.int .i64 (inS t R U I n i).2])∧Below x.heap.size x x':=by
 have hlt:=hM.lt;obtain⟨y,hy⟩:∃y,y=x.alloc (.cells #[.int .i64 0,.int .i64 0] 36):=⟨_,rfl⟩;have hxy:Below x.heap.size x y:=by rw[hy];exact(Below.refl _ _).alloc (Nat.le_refl _) _
 have hyz:y.heap.size=x.heap.size+1:=by rw[hy];simp
 have hyb:y.heap[x.heap.size]? = some (.cells #[.int .i64 0,.int .i64 0] 36 (0,0)):=by rw[hy];exact heap_alloc_new x _
 have hi':(i:Int)<(n:Int):=by omega
 have i0:(0:Int)≤(i:Int):=by omega
 have HD:=down_sml hF hR hU hn n i hi;have HRr:=rest1_sml (f:=R i) (fun j hj=>hR i j hi hj) 4 (Nat.le_refl _);have HUi:=hU i hi;have HIi:=hI i hi;have hMy:=hM.below hxy;obtain⟨bi,oi,rfl,hbi,hri⟩:=hM.rr.rw_ hi;obtain⟨bj,oj,rfl,hbj,j0,j1⟩:=hM.ri.sp (m:=n) hi;have HDW:=Lib.hid (fun z (hz:Hid (Kp y.heap.size [x.heap.size] y z))=>down_any mb n t R U I At (some ⟨bi,oi,none⟩) Au (some ⟨bj,oj,none⟩) ct cr cu ci hF hR hU hn n i hi (by omega) hn z (hM.below (hxy.trans (hz.out.below (by omega) (by simp)))));have hRi:Hid (SmF (R i)):=fun j hj=>hR i j hi hj;have hs1:Hid (Sml (downS t R U n n i)):=by show Sml _;unfold Sml;omega
 have hs2:Hid (Sml (rest1 (R i) 4)):=by show Sml _;unfold Sml;omega
 have hcx:=fun(b o:Nat) (hb:b<x.heap.size) (u:Value) (hu:x.cell? ⟨b,o,none⟩=some u)=>(hxy.cell (p:=⟨b,o,none⟩) hb).trans hu
 have HQ:=Lib.hid (fun z (hz:Hid (Kp y.heap.size [x.heap.size] y z))=>(⟨(hz.out.cell (by simp only;omega) (by simp;omega)).trans hMy.c3,(hz.out.cell (by simp only;omega) (by simp;omega)).trans hMy.c5,(hz.out.cell (by simp only;omega) (by simp;omega)).trans (hcx _ _ hbi _ (hri 0 _ rfl)),(hz.out.cell (by simp only;omega) (by simp;omega)).trans (hcx _ _ hbi _ (hri 1 _ rfl)),(hz.out.cell (by simp only;omega) (by simp;omega)).trans (hcx _ _ hbi _ (hri 2 _ rfl)),(hz.out.cell (by simp only;omega) (by simp;omega)).trans (hcx _ _ hbi _ (hri 3 _ rfl)),(hz.out.cell (by simp only;omega) (by simp;omega)).trans (hcx _ _ hbi _ (hri 4 _ rfl)),(hz.out.cell (by simp only;omega) (by simp;omega)).trans (hcx _ _ hbi _ (hri 5 _ rfl)),(hz.out.cell (by simp only;omega) (by simp;omega)).trans (hcx _ _ hbi _ (hri 6 _ rfl)),(hz.out.cell (by simp only;omega) (by simp;omega)).trans (hcx _ _ hbi _ (hri 7 _ rfl)),(hz.out.cell (by simp only;omega) (by simp;omega)).trans (hcx _ _ hbi _ (hri 8 _ rfl)),(hz.out.cell (by simp only;omega) (by simp;omega)).trans (hcx _ _ hbi _ (hri 9 _ rfl)),(hz.out.cell (by simp only;omega) (by simp;omega)).trans (hcx _ _ hbi _ (hri 10 _ rfl)),(hz.out.cell (by simp only;omega) (by simp;omega)).trans (hcx _ _ hbi _ (hri 11 _ rfl)),(hz.out.cell (by simp only;omega) (by simp;omega)).trans (hcx _ _ hbi _ (hri 12 _ rfl)),(hz.out.cell (by simp only;omega) (by simp;omega)).trans (hcx _ _ hbi _ (hri 13 _ rfl)),(hz.out.cell (by simp only;omega) (by simp;omega)).trans (hcx _ _ hbj _ j0),(hz.out.cell (by simp only;omega) (by simp;omega)).trans (hcx _ _ hbj _ j1)⟩:z.cell? ⟨mb,3,none⟩=some (.slice (some ⟨bi,oi,none⟩) n cr)∧z.cell? ⟨mb,5,none⟩=some (.slice (some ⟨bj,oj,none⟩) n ci)∧z.cell? ⟨bi,oi+i*14,none⟩=some (.int .i64 (R i 0).1)∧z.cell? ⟨bi,oi+i*14+1,none⟩=some (.int .i64 (R i 0).2)∧z.cell? ⟨bi,oi+i*14+2,none⟩=some (.int .i64 (R i 1).1)∧z.cell? ⟨bi,oi+i*14+3,none⟩=some (.int .i64 (R i 1).2)∧z.cell? ⟨bi,oi+i*14+4,none⟩=some (.int .i64 (R i 2).1)∧z.cell? ⟨bi,oi+i*14+5,none⟩=some (.int .i64 (R i 2).2)∧z.cell? ⟨bi,oi+i*14+6,none⟩=some (.int .i64 (R i 3).1)∧z.cell? ⟨bi,oi+i*14+7,none⟩=some (.int .i64 (R i 3).2)∧z.cell? ⟨bi,oi+i*14+8,none⟩=some (.int .i64 (R i 4).1)∧z.cell? ⟨bi,oi+i*14+9,none⟩=some (.int .i64 (R i 4).2)∧z.cell? ⟨bi,oi+i*14+10,none⟩=some (.int .i64 (R i 5).1)∧z.cell? ⟨bi,oi+i*14+11,none⟩=some (.int .i64 (R i 5).2)∧z.cell? ⟨bi,oi+i*14+12,none⟩=some (.int .i64 (R i 6).1)∧z.cell? ⟨bi,oi+i*14+13,none⟩=some (.int .i64 (R i 6).2)∧z.cell? ⟨bj,oj+i*2,none⟩=some (.int .i64 (I i).1)∧z.cell? ⟨bj,oj+i*2+1,none⟩=some (.int .i64 (I i).2)));obtain⟨d,hd⟩:∃d,d=downS t R U n n i:=⟨_,rfl⟩
 have hres:Hid (inS t R U I n i=both (I i) (plus d (rest1 (R i) 4))):=by show _=_;rw[hd];rfl
 rw[←hd] at HDW hs1;rw[hres.out];clear hri HD HRr HUi HIi hM hMy j0 j1 hcx hF hR hU hI hd hres;subst hy
 go_enter Tryd.func80,Tryd.ntmps80
 go_wp2_with fail
 generalize (x.alloc (.cells #[.int .i64 0,.int .i64 0] 36))=y at *;obtain⟨S,hSd⟩:∃S:World→Prop,S=fun z=>(z.cell? ⟨mb,3,none⟩=some (.slice (some ⟨bi,oi,none⟩) n cr)∧z.cell? ⟨mb,5,none⟩=some (.slice (some ⟨bj,oj,none⟩) n ci)∧z.cell? ⟨bi,oi+i*14,none⟩=some (.int .i64 (R i 0).1)∧z.cell? ⟨bi,oi+i*14+1,none⟩=some (.int .i64 (R i 0).2)∧z.cell? ⟨bi,oi+i*14+2,none⟩=some (.int .i64 (R i 1).1)∧z.cell? ⟨bi,oi+i*14+3,none⟩=some (.int .i64 (R i 1).2)∧z.cell? ⟨bi,oi+i*14+4,none⟩=some (.int .i64 (R i 2).1)∧z.cell? ⟨bi,oi+i*14+5,none⟩=some (.int .i64 (R i 2).2)∧z.cell? ⟨bi,oi+i*14+6,none⟩=some (.int .i64 (R i 3).1)∧z.cell? ⟨bi,oi+i*14+7,none⟩=some (.int .i64 (R i 3).2)∧z.cell? ⟨bi,oi+i*14+8,none⟩=some (.int .i64 (R i 4).1)∧z.cell? ⟨bi,oi+i*14+9,none⟩=some (.int .i64 (R i 4).2)∧z.cell? ⟨bi,oi+i*14+10,none⟩=some (.int .i64 (R i 5).1)∧z.cell? ⟨bi,oi+i*14+11,none⟩=some (.int .i64 (R i 5).2)∧z.cell? ⟨bi,oi+i*14+12,none⟩=some (.int .i64 (R i 6).1)∧z.cell? ⟨bi,oi+i*14+13,none⟩=some (.int .i64 (R i 6).2)∧z.cell? ⟨bj,oj+i*2,none⟩=some (.int .i64 (I i).1)∧z.cell? ⟨bj,oj+i*2+1,none⟩=some (.int .i64 (I i).2))∧Hid (Kp y.heap.size [x.heap.size] y z):=⟨_,rfl⟩
 have HS:=Lib.hid (fun z (hz:Hid (Kp y.heap.size [x.heap.size] y z))=>(by rw[hSd];exact⟨HQ.out z hz,hz⟩:S z));refine wp_region_held_drew (S:=S) (by kernel_rfl) ?_ (fun hHeld=>?_)
 ·exact HS.out _ (Lib.hid (Kp.refl _ _ _).drew)
 have hKyd:Hid (Kp y.heap.size [x.heap.size] y y.drew):=Lib.hid (Kp.refl _ _ _).drew;have hSyd:y.heap.size≤y.drew.heap.size:=Nat.le_refl _;have hyb:=keepO (Below.refl y.heap.size y).drew hyb;generalize y.drew=yd at *;refine tY (v:=?_) 0 5 ?_ ?_;rotate_left
 ·intro w hSw;rw[hSd] at hSw;obtain⟨⟨qm,qn,q0,q1,q2,q3,q4,q5,q6,q7,q8,q9,q10,q11,q12,q13,u0,u1⟩,-⟩:=hSw;go_simp;(try with_reducible rfl)
 try simp only[N0]
 refine tY (v:=?_) 1 6 ?_ ?_;rotate_left
 ·intro w hSw;rw[hSd] at hSw;obtain⟨⟨qm,qn,q0,q1,q2,q3,q4,q5,q6,q7,q8,q9,q10,q11,q12,q13,u0,u1⟩,-⟩:=hSw;go_simp;(try with_reducible rfl)
 try simp only[N0]
 refine tY (v:=?_) 2 7 ?_ ?_;rotate_left
 ·intro w hSw;rw[hSd] at hSw;obtain⟨⟨qm,qn,q0,q1,q2,q3,q4,q5,q6,q7,q8,q9,q10,q11,q12,q13,u0,u1⟩,-⟩:=hSw;go_simp;(try with_reducible rfl)
 try simp only[N0]
 refine tY (v:=?_) 3 8 ?_ ?_;rotate_left
 ·intro w hSw;rw[hSd] at hSw;obtain⟨⟨qm,qn,q0,q1,q2,q3,q4,q5,q6,q7,q8,q9,q10,q11,q12,q13,u0,u1⟩,-⟩:=hSw;go_simp;(try with_reducible rfl)
 try simp only[N0]
 refine tY (v:=?_) 4 9 ?_ ?_;rotate_left
 ·intro w hSw;rw[hSd] at hSw;obtain⟨⟨qm,qn,q0,q1,q2,q3,q4,q5,q6,q7,q8,q9,q10,q11,q12,q13,u0,u1⟩,-⟩:=hSw;go_simp;(try with_reducible rfl)
 try simp only[N0]
 refine tY (v:=?_) 5 10 ?_ ?_;rotate_left
 ·intro w hSw;rw[hSd] at hSw;obtain⟨⟨qm,qn,q0,q1,q2,q3,q4,q5,q6,q7,q8,q9,q10,q11,q12,q13,u0,u1⟩,-⟩:=hSw;go_simp;(try with_reducible rfl)
 try simp only[N0]
 refine tY (v:=?_) 6 11 ?_ ?_;rotate_left
 ·intro w hSw;rw[hSd] at hSw;obtain⟨⟨qm,qn,q0,q1,q2,q3,q4,q5,q6,q7,q8,q9,q10,q11,q12,q13,u0,u1⟩,-⟩:=hSw;go_simp;(try with_reducible rfl)
 try simp only[N0]
 refine tY (v:=?_) 7 12 ?_ ?_;rotate_left
 ·intro w hSw;rw[hSd] at hSw;obtain⟨⟨qm,qn,q0,q1,q2,q3,q4,q5,q6,q7,q8,q9,q10,q11,q12,q13,u0,u1⟩,-⟩:=hSw;go_simp;(try with_reducible rfl)
 try simp only[N0]
 refine tY (v:=?_) 8 13 ?_ ?_;rotate_left
 ·intro w hSw;rw[hSd] at hSw;obtain⟨⟨qm,qn,q0,q1,q2,q3,q4,q5,q6,q7,q8,q9,q10,q11,q12,q13,u0,u1⟩,-⟩:=hSw;go_simp;(try with_reducible rfl)
 try simp only[N0]
 refine tY (v:=?_) 10 15 ?_ ?_;rotate_left
 ·intro w hSw;rw[hSd] at hSw;obtain⟨⟨qm,qn,q0,q1,q2,q3,q4,q5,q6,q7,q8,q9,q10,q11,q12,q13,u0,u1⟩,-⟩:=hSw;go_simp;(try with_reducible rfl)
 try simp only[N0]
 refine tY (v:=?_) 11 16 ?_ ?_;rotate_left
 ·intro w hSw;rw[hSd] at hSw;obtain⟨⟨qm,qn,q0,q1,q2,q3,q4,q5,q6,q7,q8,q9,q10,q11,q12,q13,u0,u1⟩,-⟩:=hSw;go_simp;(try with_reducible rfl)
 try simp only[N0]
 refine tY (v:=?_) 12 17 ?_ ?_;rotate_left
 ·intro w hSw;rw[hSd] at hSw;obtain⟨⟨qm,qn,q0,q1,q2,q3,q4,q5,q6,q7,q8,q9,q10,q11,q12,q13,u0,u1⟩,-⟩:=hSw;go_simp;(try with_reducible rfl)
 try simp only[N0]
 refine tY (v:=?_) 13 18 ?_ ?_;rotate_left
 ·intro w hSw;rw[hSd] at hSw;obtain⟨⟨qm,qn,q0,q1,q2,q3,q4,q5,q6,q7,q8,q9,q10,q11,q12,q13,u0,u1⟩,-⟩:=hSw;go_simp;(try with_reducible rfl)
 try simp only[N0]
 refine tY (v:=?_) 14 19 ?_ ?_;rotate_left
 ·intro w hSw;rw[hSd] at hSw;obtain⟨⟨qm,qn,q0,q1,q2,q3,q4,q5,q6,q7,q8,q9,q10,q11,q12,q13,u0,u1⟩,-⟩:=hSw;go_simp;(try with_reducible rfl)
 try simp only[N0]
 refine tY (v:=?_) 15 20 ?_ ?_;rotate_left
 ·intro w hSw;rw[hSd] at hSw;obtain⟨⟨qm,qn,q0,q1,q2,q3,q4,q5,q6,q7,q8,q9,q10,q11,q12,q13,u0,u1⟩,-⟩:=hSw;go_simp;(try with_reducible rfl)
 try simp only[N0]
 refine tY (v:=?_) 16 21 ?_ ?_;rotate_left
 ·intro w hSw;rw[hSd] at hSw;obtain⟨⟨qm,qn,q0,q1,q2,q3,q4,q5,q6,q7,q8,q9,q10,q11,q12,q13,u0,u1⟩,-⟩:=hSw;go_simp;(try with_reducible rfl)
 try simp only[N0]
 refine Q1 9 ?_;intro _ Kq hK;go_simp;refine(HDW.out _ hKyd).mono ?_;rintro e yd ⟨rfl,hb⟩;replace hKyd:=Lib.hid (hKyd.out.call hSyd hb);replace hyb:=keepO hb hyb;replace hSyd:=Nat.le_trans hSyd hb.size;clear hb;try go_simp
 refine hK.out _ _ ?_ (fun hHeld=>?_)
 ·exact HS.out _ hKyd
 clear hK Kq;try simp only[N0]
 refine Q1 17 ?_;intro _ Kq hK;go_simp;refine(rest_any (R i) hRi.out _).mono ?_;rintro e yd ⟨rfl,hb⟩;replace hKyd:=Lib.hid (hKyd.out.call hSyd hb);replace hyb:=keepO hb hyb;replace hSyd:=Nat.le_trans hSyd hb.size;clear hb;try go_simp
 refine hK.out _ _ ?_ (fun hHeld=>?_)
 ·exact HS.out _ hKyd
 clear hK Kq;try simp only[N0]
 refine Q1 18 ?_;intro _ Kq hK;go_simp;refine(plus_any d (rest1 (R i) 4) hs1.out hs2.out _).mono ?_;rintro e yd ⟨rfl,hb⟩;replace hKyd:=Lib.hid (hKyd.out.call hSyd hb);replace hyb:=keepO hb hyb;replace hSyd:=Nat.le_trans hSyd hb.size;clear hb;try go_simp
 refine hK.out _ _ ?_ (fun hHeld=>?_)
 ·exact HS.out _ hKyd
 clear hK Kq;try simp only[N0]
 refine Q1 19 ?_;intro _ Kq hK;go_simp;refine(both_any (I i) (plus d (rest1 (R i) 4)) _).mono ?_;rintro e yd ⟨rfl,hb⟩;replace hKyd:=Lib.hid (hKyd.out.call hSyd hb);replace hyb:=keepO hb hyb;replace hSyd:=Nat.le_trans hSyd hb.size;clear hb;try go_simp
 refine hK.out _ _ ?_ (fun hHeld=>?_)
 ·exact HS.out _ hKyd
 clear hK Kq;try simp only[N0]
 refine Q1 20 ?_;intro _ Kq hK;obtain⟨e0,e1,g0,g1⟩:=two_facts hyb;go_simp;clear e0  e1  g0  g1;replace hyb:=set_two yd x.heap.size _ (.int .i64 (both (I i) (plus d (rest1 (R i) 4))).1) (.int .i64 (both (I i) (plus d (rest1 (R i) 4))).2) _ _ hyb;replace hKyd:=Lib.hid ((hKyd.out.set (p:=⟨x.heap.size,0,none⟩) (Or.inl (by simp)) (.int .i64 (both (I i) (plus d (rest1 (R i) 4))).1)).set (p:=⟨x.heap.size,1,none⟩) (Or.inl (by simp)) (.int .i64 (both (I i) (plus d (rest1 (R i) 4))).2));obtain⟨yd,hz_⟩:∃z,z=((yd.setCell ⟨x.heap.size,0,none⟩ (.int .i64 (both (I i) (plus d (rest1 (R i) 4))).1)).setCell ⟨x.heap.size,1,none⟩ (.int .i64 (both (I i) (plus d (rest1 (R i) 4))).2)):=⟨_,rfl⟩;rw[←hz_];rw[←hz_] at hyb hKyd;replace hSyd:=Nat.le_trans hSyd (show _≤yd.heap.size by rw[hz_];simp);clear hz_;refine hK.out _ _ ?_ (fun hHeld=>?_)
 ·exact HS.out _ hKyd
 clear hK Kq;try simp only[N0]
 refine wpAnyH_done (by kernel_rfl) ?_ _;obtain⟨k0,k1,-,-⟩:=two_facts hyb;have hBe:=hxy.trans (hKyd.out.below (B':=x.heap.size) (by omega) (by simp));go_wp2;exact bodyPost_ret (v:=.agg #[.int .i64 (both (I i) (plus d (rest1 (R i) 4))).1,.int .i64 (both (I i) (plus d (rest1 (R i) 4))).2]) (by simp[results,Tryd.results80,go_sem,k0,k1]) rfl ⟨rfl,hBe⟩
set_option maxRecDepth 100000 in
set_option maxHeartbeats 8000000 in
theorem span_any(mb n:Nat)(t:Nat→Option Nat)(R:Nat→Nat→Sp)(U I:Nat→Sp)(At Ar Au Ai:Option Addr)(ct cr cu ci:Nat)(hF:Fwd n t)(hR:SmR R n)(hU:SmU U n)(hI:SmU I n)(hn:n≤10)(i k:Nat)(hi:i<n)(hk1:1≤k)(hk6:k≤6)(x:World)(hM:MR x mb n t R U I At Ar Au Ai ct cr cu ci) :
  Calls Tryd.prog 58 #[.pointer (some ⟨mb,0,none⟩),.int .i64 i,.int .i64 k] x fun e x'=>
   e = .returned (.agg #[.int .i64 (spanS t R U I n i k).1,.int .i64 (spanS t R U I n i k).2])∧Below x.heap.size x x':=by
 have hlt:=hM.lt;obtain⟨y,hy⟩:∃y,y=x.alloc (.cells #[.int .i64 0,.int .i64 0] 36):=⟨_,rfl⟩;have hxy:Below x.heap.size x y:=by rw[hy];exact(Below.refl _ _).alloc (Nat.le_refl _) _
 have hyz:y.heap.size=x.heap.size+1:=by rw[hy];simp
 have hyb:y.heap[x.heap.size]? = some (.cells #[.int .i64 0,.int .i64 0] 36 (0,0)):=by rw[hy];exact heap_alloc_new x _
 have hi':(i:Int)<(n:Int):=by omega
 have i0:(0:Int)≤(i:Int):=by omega
 have HD:=down_sml hF hR hU hn n i hi;have HRr:=rest1_sml (f:=R i) (fun j hj=>hR i j hi hj) 4 (Nat.le_refl _);have HUi:=hU i hi;have HIi:=hI i hi;have hMy:=hM.below hxy;have HMx:=Lib.hid (fun z (hz:Below x.heap.size x z)=>hM.below hz);obtain⟨bi,oi,rfl,hbi,hri⟩:=hM.rr.rw_ hi;obtain⟨bu,ou,rfl,hbu,j0,j1⟩:=hM.ru.sp (m:=n) hi;obtain⟨bj,oj,rfl,hbj,jj0,jj1⟩:=hM.ri.sp (m:=n) hi;have JJ0:=Lib.hid jj0;have JJ1:=Lib.hid jj1;clear jj0 jj1;have HDW:=Lib.hid (fun z (hz:Hid (Kp y.heap.size [] y z))=>down_any mb n t R U I At (some ⟨bi,oi,none⟩) (some ⟨bu,ou,none⟩) (some ⟨bj,oj,none⟩) ct cr cu ci hF hR hU hn n i hi (by omega) hn z (hM.below (hxy.trans (hz.out.below (by omega) (by simp)))));have hRi:Hid (SmF (R i)):=fun j hj=>hR i j hi hj;have hs2:Hid (Sml (rest1 (R i) 4)):=by show Sml _;unfold Sml;omega
 have hcx:=fun(b o:Nat) (hb:b<x.heap.size) (u:Value) (hu:x.cell? ⟨b,o,none⟩=some u)=>(hxy.cell (p:=⟨b,o,none⟩) hb).trans hu
 have HQ:=Lib.hid (fun z (hz:Hid (Kp y.heap.size [] y z))=>(⟨(hz.out.cell (by simp only;omega) (by simp)).trans hMy.c3,(hz.out.cell (by simp only;omega) (by simp)).trans hMy.c4,(hz.out.cell (by simp only;omega) (by simp)).trans (hcx _ _ hbi _ (hri 0 _ rfl)),(hz.out.cell (by simp only;omega) (by simp)).trans (hcx _ _ hbi _ (hri 1 _ rfl)),(hz.out.cell (by simp only;omega) (by simp)).trans (hcx _ _ hbi _ (hri 2 _ rfl)),(hz.out.cell (by simp only;omega) (by simp)).trans (hcx _ _ hbi _ (hri 3 _ rfl)),(hz.out.cell (by simp only;omega) (by simp)).trans (hcx _ _ hbi _ (hri 4 _ rfl)),(hz.out.cell (by simp only;omega) (by simp)).trans (hcx _ _ hbi _ (hri 5 _ rfl)),(hz.out.cell (by simp only;omega) (by simp)).trans (hcx _ _ hbi _ (hri 6 _ rfl)),(hz.out.cell (by simp only;omega) (by simp)).trans (hcx _ _ hbi _ (hri 7 _ rfl)),(hz.out.cell (by simp only;omega) (by simp)).trans (hcx _ _ hbi _ (hri 8 _ rfl)),(hz.out.cell (by simp only;omega) (by simp)).trans (hcx _ _ hbi _ (hri 9 _ rfl)),(hz.out.cell (by simp only;omega) (by simp)).trans (hcx _ _ hbi _ (hri 10 _ rfl)),(hz.out.cell (by simp only;omega) (by simp)).trans (hcx _ _ hbi _ (hri 11 _ rfl)),(hz.out.cell (by simp only;omega) (by simp)).trans (hcx _ _ hbi _ (hri 12 _ rfl)),(hz.out.cell (by simp only;omega) (by simp)).trans (hcx _ _ hbi _ (hri 13 _ rfl)),(hz.out.cell (by simp only;omega) (by simp)).trans (hcx _ _ hbu _ j0),(hz.out.cell (by simp only;omega) (by simp)).trans (hcx _ _ hbu _ j1)⟩:z.cell? ⟨mb,3,none⟩=some (.slice (some ⟨bi,oi,none⟩) n cr)∧z.cell? ⟨mb,4,none⟩=some (.slice (some ⟨bu,ou,none⟩) n cu)∧z.cell? ⟨bi,oi+i*14,none⟩=some (.int .i64 (R i 0).1)∧z.cell? ⟨bi,oi+i*14+1,none⟩=some (.int .i64 (R i 0).2)∧z.cell? ⟨bi,oi+i*14+2,none⟩=some (.int .i64 (R i 1).1)∧z.cell? ⟨bi,oi+i*14+3,none⟩=some (.int .i64 (R i 1).2)∧z.cell? ⟨bi,oi+i*14+4,none⟩=some (.int .i64 (R i 2).1)∧z.cell? ⟨bi,oi+i*14+5,none⟩=some (.int .i64 (R i 2).2)∧z.cell? ⟨bi,oi+i*14+6,none⟩=some (.int .i64 (R i 3).1)∧z.cell? ⟨bi,oi+i*14+7,none⟩=some (.int .i64 (R i 3).2)∧z.cell? ⟨bi,oi+i*14+8,none⟩=some (.int .i64 (R i 4).1)∧z.cell? ⟨bi,oi+i*14+9,none⟩=some (.int .i64 (R i 4).2)∧z.cell? ⟨bi,oi+i*14+10,none⟩=some (.int .i64 (R i 5).1)∧z.cell? ⟨bi,oi+i*14+11,none⟩=some (.int .i64 (R i 5).2)∧z.cell? ⟨bi,oi+i*14+12,none⟩=some (.int .i64 (R i 6).1)∧z.cell? ⟨bi,oi+i*14+13,none⟩=some (.int .i64 (R i 6).2)∧z.cell? ⟨bu,ou+i*2,none⟩=some (.int .i64 (U i).1)∧z.cell? ⟨bu,ou+i*2+1,none⟩=some (.int .i64 (U i).2)));obtain⟨d,hd⟩:∃d,d=downS t R U n n i:=⟨_,rfl⟩
 have hs3:Hid (Sml (both d (U i))):=by show Sml _;unfold Sml;rw[hd];simp only[both];omega
 have hs4:Hid (Sml (I i)):=by show Sml _;unfold Sml;omega
 have hsk:Hid (∀k,k<7→Sml (R i k)):=by intro k hk;have:=hR i k hi hk;unfold Sml;omega
 have hres:Hid (spanS t R U I n i k=(if k=6 then(both d (U i)) else if k=1 then both (R i 1) (minus (plus (both d (U i)) (rest1 (R i) 4)) (minus1 (I i) (R i 1))) else both (R i k) (minus (I i) (plus (both d (U i)) (minus1 (rest1 (R i) 4) (R i k)))))):=by show _=_;rw[hd];rfl
 have HB7:Hid (Sml (plus (both d (U i)) (rest1 (R i) 4))∧Sml (minus1 (I i) (R i 1))∧∀k,k<7→Sml (minus1 (rest1 (R i) 4) (R i k))∧Sml (plus (both d (U i)) (minus1 (rest1 (R i) 4) (R i k)))):=by
  show _∧_∧_;have h1:=hR i 1 hi (by omega);rw[hd];refine⟨?_,?_,fun k hk=>⟨?_,?_⟩⟩
  ·unfold Sml;simp only[plus,both];omega
  ·unfold Sml;simp only[minus1];omega
  ·have:=hR i k hi hk;unfold Sml;simp only[minus1];omega
  ·have:=hR i k hi hk;unfold Sml;simp only[minus1,plus,both];omega
 rw[←hd] at HDW;rw[hres.out];clear hri HD HRr HUi HIi hM hMy j0 j1 hcx hF hR hU hI hd hres;subst hy
 go_enter Tryd.func58,Tryd.ntmps58
 go_wp2_with fail
 generalize (x.alloc (.cells #[.int .i64 0,.int .i64 0] 36))=y at *;obtain⟨S,hSd⟩:∃S:World→Prop,S=fun z=>(z.cell? ⟨mb,3,none⟩=some (.slice (some ⟨bi,oi,none⟩) n cr)∧z.cell? ⟨mb,4,none⟩=some (.slice (some ⟨bu,ou,none⟩) n cu)∧z.cell? ⟨bi,oi+i*14,none⟩=some (.int .i64 (R i 0).1)∧z.cell? ⟨bi,oi+i*14+1,none⟩=some (.int .i64 (R i 0).2)∧z.cell? ⟨bi,oi+i*14+2,none⟩=some (.int .i64 (R i 1).1)∧z.cell? ⟨bi,oi+i*14+3,none⟩=some (.int .i64 (R i 1).2)∧z.cell? ⟨bi,oi+i*14+4,none⟩=some (.int .i64 (R i 2).1)∧z.cell? ⟨bi,oi+i*14+5,none⟩=some (.int .i64 (R i 2).2)∧z.cell? ⟨bi,oi+i*14+6,none⟩=some (.int .i64 (R i 3).1)∧z.cell? ⟨bi,oi+i*14+7,none⟩=some (.int .i64 (R i 3).2)∧z.cell? ⟨bi,oi+i*14+8,none⟩=some (.int .i64 (R i 4).1)∧z.cell? ⟨bi,oi+i*14+9,none⟩=some (.int .i64 (R i 4).2)∧z.cell? ⟨bi,oi+i*14+10,none⟩=some (.int .i64 (R i 5).1)∧z.cell? ⟨bi,oi+i*14+11,none⟩=some (.int .i64 (R i 5).2)∧z.cell? ⟨bi,oi+i*14+12,none⟩=some (.int .i64 (R i 6).1)∧z.cell? ⟨bi,oi+i*14+13,none⟩=some (.int .i64 (R i 6).2)∧z.cell? ⟨bu,ou+i*2,none⟩=some (.int .i64 (U i).1)∧z.cell? ⟨bu,ou+i*2+1,none⟩=some (.int .i64 (U i).2))∧Hid (Kp y.heap.size [] y z):=⟨_,rfl⟩
 have HS:=Lib.hid (fun z (hz:Hid (Kp y.heap.size [] y z))=>(by rw[hSd];exact⟨HQ.out z hz,hz⟩:S z))
 go_cut [7,8] (fun s7 s8 wx=>∃wl,wl=wx∧∃b7 b8,s7 = .pointer (some ⟨b7,0,none⟩)∧s8 = .pointer (some ⟨b8,0,none⟩)∧wx.heap[b7]? = some (.cells #[.int .i64 (R i 0).1,.int .i64 (R i 0).2,.int .i64 (R i 1).1,.int .i64 (R i 1).2,.int .i64 (R i 2).1,.int .i64 (R i 2).2,.int .i64 (R i 3).1,.int .i64 (R i 3).2,.int .i64 (R i 4).1,.int .i64 (R i 4).2,.int .i64 (R i 5).1,.int .i64 (R i 5).2,.int .i64 (R i 6).1,.int .i64 (R i 6).2] 107 (0,0))∧wx.heap[b8]? = some (.cells #[.int .i64 (both d (U i)).1,.int .i64 (both d (U i)).2] 36 (0,0))∧Kp y.heap.size [] y wx∧y.heap.size≤b7∧y.heap.size≤b8)
 case first=>
  refine wp_region_held_drew (S:=S) (by kernel_rfl) ?_ (fun hHeld=>?_)
  ·exact HS.out _ (Lib.hid (Kp.refl _ _ _).drew)
  have hKyd:Hid (Kp y.heap.size [] y y.drew):=Lib.hid (Kp.refl _ _ _).drew;have hSyd:y.heap.size≤y.drew.heap.size:=Nat.le_refl _;generalize y.drew=yd at *;refine tY (v:=?_) 0 10 ?_ ?_;rotate_left
  ·intro w hSw;rw[hSd] at hSw;obtain⟨⟨qm,qn,q0,q1,q2,q3,q4,q5,q6,q7,q8,q9,q10,q11,q12,q13,u0,u1⟩,-⟩:=hSw;go_simp;(try with_reducible rfl)
  (try simp only[N0]);refine tY (v:=?_) 1 11 ?_ ?_;rotate_left
  ·intro w hSw;rw[hSd] at hSw;obtain⟨⟨qm,qn,q0,q1,q2,q3,q4,q5,q6,q7,q8,q9,q10,q11,q12,q13,u0,u1⟩,-⟩:=hSw;go_simp;(try with_reducible rfl)
  (try simp only[N0]);refine tY (v:=?_) 2 12 ?_ ?_;rotate_left
  ·intro w hSw;rw[hSd] at hSw;obtain⟨⟨qm,qn,q0,q1,q2,q3,q4,q5,q6,q7,q8,q9,q10,q11,q12,q13,u0,u1⟩,-⟩:=hSw;go_simp;(try with_reducible rfl)
  (try simp only[N0]);refine tY (v:=?_) 3 13 ?_ ?_;rotate_left
  ·intro w hSw;rw[hSd] at hSw;obtain⟨⟨qm,qn,q0,q1,q2,q3,q4,q5,q6,q7,q8,q9,q10,q11,q12,q13,u0,u1⟩,-⟩:=hSw;go_simp;(try with_reducible rfl)
  (try simp only[N0]);refine tY (v:=?_) 4 14 ?_ ?_;rotate_left
  ·intro w hSw;rw[hSd] at hSw;obtain⟨⟨qm,qn,q0,q1,q2,q3,q4,q5,q6,q7,q8,q9,q10,q11,q12,q13,u0,u1⟩,-⟩:=hSw;go_simp;(try with_reducible rfl)
  (try simp only[N0]);refine tY (v:=?_) 5 15 ?_ ?_;rotate_left
  ·intro w hSw;rw[hSd] at hSw;obtain⟨⟨qm,qn,q0,q1,q2,q3,q4,q5,q6,q7,q8,q9,q10,q11,q12,q13,u0,u1⟩,-⟩:=hSw;go_simp;(try with_reducible rfl)
  (try simp only[N0]);refine tY (v:=?_) 6 16 ?_ ?_;rotate_left
  ·intro w hSw;rw[hSd] at hSw;obtain⟨⟨qm,qn,q0,q1,q2,q3,q4,q5,q6,q7,q8,q9,q10,q11,q12,q13,u0,u1⟩,-⟩:=hSw;go_simp;(try with_reducible rfl)
  (try simp only[N0]);refine tY (v:=?_) 7 17 ?_ ?_;rotate_left
  ·intro w hSw;rw[hSd] at hSw;obtain⟨⟨qm,qn,q0,q1,q2,q3,q4,q5,q6,q7,q8,q9,q10,q11,q12,q13,u0,u1⟩,-⟩:=hSw;go_simp;(try with_reducible rfl)
  (try simp only[N0]);refine tY (v:=?_) 8 18 ?_ ?_;rotate_left
  ·intro w hSw;rw[hSd] at hSw;obtain⟨⟨qm,qn,q0,q1,q2,q3,q4,q5,q6,q7,q8,q9,q10,q11,q12,q13,u0,u1⟩,-⟩:=hSw;go_simp;(try with_reducible rfl)
  (try simp only[N0]);refine tY (v:=?_) 10 20 ?_ ?_;rotate_left
  ·intro w hSw;rw[hSd] at hSw;obtain⟨⟨qm,qn,q0,q1,q2,q3,q4,q5,q6,q7,q8,q9,q10,q11,q12,q13,u0,u1⟩,-⟩:=hSw;go_simp;(try with_reducible rfl)
  (try simp only[N0]);refine tY (v:=?_) 11 21 ?_ ?_;rotate_left
  ·intro w hSw;rw[hSd] at hSw;obtain⟨⟨qm,qn,q0,q1,q2,q3,q4,q5,q6,q7,q8,q9,q10,q11,q12,q13,u0,u1⟩,-⟩:=hSw;go_simp;(try with_reducible rfl)
  (try simp only[N0]);refine tY (v:=?_) 12 22 ?_ ?_;rotate_left
  ·intro w hSw;rw[hSd] at hSw;obtain⟨⟨qm,qn,q0,q1,q2,q3,q4,q5,q6,q7,q8,q9,q10,q11,q12,q13,u0,u1⟩,-⟩:=hSw;go_simp;(try with_reducible rfl)
  (try simp only[N0]);refine tY (v:=?_) 13 23 ?_ ?_;rotate_left
  ·intro w hSw;rw[hSd] at hSw;obtain⟨⟨qm,qn,q0,q1,q2,q3,q4,q5,q6,q7,q8,q9,q10,q11,q12,q13,u0,u1⟩,-⟩:=hSw;go_simp;(try with_reducible rfl)
  (try simp only[N0]);refine tY (v:=?_) 14 24 ?_ ?_;rotate_left
  ·intro w hSw;rw[hSd] at hSw;obtain⟨⟨qm,qn,q0,q1,q2,q3,q4,q5,q6,q7,q8,q9,q10,q11,q12,q13,u0,u1⟩,-⟩:=hSw;go_simp;(try with_reducible rfl)
  (try simp only[N0]);refine tY (v:=?_) 15 25 ?_ ?_;rotate_left
  ·intro w hSw;rw[hSd] at hSw;obtain⟨⟨qm,qn,q0,q1,q2,q3,q4,q5,q6,q7,q8,q9,q10,q11,q12,q13,u0,u1⟩,-⟩:=hSw;go_simp;(try with_reducible rfl)
  (try simp only[N0]);refine tY (v:=?_) 16 26 ?_ ?_;rotate_left
  ·intro w hSw;rw[hSd] at hSw;obtain⟨⟨qm,qn,q0,q1,q2,q3,q4,q5,q6,q7,q8,q9,q10,q11,q12,q13,u0,u1⟩,-⟩:=hSw;go_simp;(try with_reducible rfl)
  try simp only[N0]
  iterate 6
   all_goals first
    |refine U3 9 18 19 ?_ ?_ ?_
    |refine U3 17 18 19 ?_ ?_ ?_
    |refine U2 9 19 ?_ ?_
    |refine U2 9 18 ?_ ?_
    |refine U2 18 19 ?_ ?_
    |refine U2 17 19 ?_ ?_
    |refine U2 17 18 ?_ ?_
    |refine U1 9 ?_
    |refine U1 19 ?_
    |refine U1 18 ?_
    |refine U1 17 ?_
    |refine U1 20 ?_
    |refine U1 21 ?_
   all_goals first
    |intro (t:Tag 9) Kq hK
     clear t;go_simp;refine(HDW.out _ hKyd).mono ?_;rintro e yd ⟨rfl,hb⟩;replace hKyd:=Lib.hid (hKyd.out.call hSyd hb);(try replace hOoB:=keepO hb hOoB);(try replace hOoA:=keepO hb hOoA);replace hSyd:=Nat.le_trans hSyd hb.size;clear hb;(try go_simp);refine hK.out _ _ ?_ (fun hHeld=>?_)
     ·exact HS.out _ hKyd
     clear hK Kq;try simp only[N0]
    |intro (t:Tag 18) Kq hK
     clear t;go_simp;obtain⟨noA,hn_⟩:∃q,q=yd.heap.size:=⟨_,rfl⟩;have hOoA:=heap_alloc_new yd (.cells #[.int .i64 0,.int .i64 0,.int .i64 0,.int .i64 0,.int .i64 0,.int .i64 0,.int .i64 0,.int .i64 0,.int .i64 0,.int .i64 0,.int .i64 0,.int .i64 0,.int .i64 0,.int .i64 0] 107);have hoboA:=hSyd;rw[←hn_] at hOoA hoboA;have hbA:=(Below.refl yd.heap.size yd).alloc (Nat.le_refl _) (.cells #[.int .i64 0,.int .i64 0,.int .i64 0,.int .i64 0,.int .i64 0,.int .i64 0,.int .i64 0,.int .i64 0,.int .i64 0,.int .i64 0,.int .i64 0,.int .i64 0,.int .i64 0,.int .i64 0] 107);(try replace hOoB:=keepO hbA hOoB);replace hKyd:=Lib.hid (hKyd.out.alloc hSyd (.cells #[.int .i64 0,.int .i64 0,.int .i64 0,.int .i64 0,.int .i64 0,.int .i64 0,.int .i64 0,.int .i64 0,.int .i64 0,.int .i64 0,.int .i64 0,.int .i64 0,.int .i64 0,.int .i64 0] 107));replace hSyd:=Nat.le_trans hSyd hbA.size;clear hbA;generalize (yd.alloc (.cells #[.int .i64 0,.int .i64 0,.int .i64 0,.int .i64 0,.int .i64 0,.int .i64 0,.int .i64 0,.int .i64 0,.int .i64 0,.int .i64 0,.int .i64 0,.int .i64 0,.int .i64 0,.int .i64 0] 107))=yd at *;refine hK.out _ _ ?_ (fun hHeld=>?_)
     ·exact HS.out _ hKyd
     clear hK Kq;(try simp only[N0]);(try rw[←hn_]);clear hn_
    |intro (t:Tag 19) Kq hK
     clear t;go_simp;obtain⟨noB,hn_⟩:∃q,q=yd.heap.size:=⟨_,rfl⟩;have hOoB:=heap_alloc_new yd (.cells #[.int .i64 0,.int .i64 0] 36);have hoboB:=hSyd;rw[←hn_] at hOoB hoboB;have hbA:=(Below.refl yd.heap.size yd).alloc (Nat.le_refl _) (.cells #[.int .i64 0,.int .i64 0] 36);(try replace hOoA:=keepO hbA hOoA);replace hKyd:=Lib.hid (hKyd.out.alloc hSyd (.cells #[.int .i64 0,.int .i64 0] 36));replace hSyd:=Nat.le_trans hSyd hbA.size;clear hbA;generalize (yd.alloc (.cells #[.int .i64 0,.int .i64 0] 36))=yd at *;refine hK.out _ _ ?_ (fun hHeld=>?_)
     ·exact HS.out _ hKyd
     clear hK Kq;(try simp only[N0]);(try rw[←hn_]);clear hn_
    |intro (t:Tag 17) Kq hK
     clear t;go_simp;refine(both_any d (U i) _).mono ?_;rintro e yd ⟨rfl,hb⟩;replace hKyd:=Lib.hid (hKyd.out.call hSyd hb);(try replace hOoB:=keepO hb hOoB);(try replace hOoA:=keepO hb hOoA);replace hSyd:=Nat.le_trans hSyd hb.size;clear hb;(try go_simp);refine hK.out _ _ ?_ (fun hHeld=>?_)
     ·exact HS.out _ hKyd
     clear hK Kq;try simp only[N0]
    |intro (t:Tag 20) Kq hK
     clear t;obtain⟨e0,e1,e2,e3,e4,e5,e6,e7,e8,e9,e10,e11,e12,e13,g0,g1,g2,g3,g4,g5,g6,g7,g8,g9,g10,g11,g12,g13⟩:=facts14 hOoA;go_simp;clear e0  e1  e2  e3  e4  e5  e6  e7  e8  e9  e10  e11  e12  e13  g0  g1  g2  g3  g4  g5  g6  g7  g8  g9  g10  g11  g12  g13;have hN0:=(heap_sets14 yd noA _ (.int .i64 (R i 0).1) (.int .i64 (R i 0).2) (.int .i64 (R i 1).1) (.int .i64 (R i 1).2) (.int .i64 (R i 2).1) (.int .i64 (R i 2).2) (.int .i64 (R i 3).1) (.int .i64 (R i 3).2) (.int .i64 (R i 4).1) (.int .i64 (R i 4).2) (.int .i64 (R i 5).1) (.int .i64 (R i 5).2) (.int .i64 (R i 6).1) (.int .i64 (R i 6).2) (by intro e;have h1:=hOoB;rw[e,hOoA] at h1;simp at h1)).trans hOoB;replace hOoA:=set14 yd noA _ (.int .i64 (R i 0).1) (.int .i64 (R i 0).2) (.int .i64 (R i 1).1) (.int .i64 (R i 1).2) (.int .i64 (R i 2).1) (.int .i64 (R i 2).2) (.int .i64 (R i 3).1) (.int .i64 (R i 3).2) (.int .i64 (R i 4).1) (.int .i64 (R i 4).2) (.int .i64 (R i 5).1) (.int .i64 (R i 5).2) (.int .i64 (R i 6).1) (.int .i64 (R i 6).2) _ _ _ _ _ _ _ _ _ _ _ _ _ _ hOoA;replace hOoB:=hN0;clear hN0;replace hKyd:=Lib.hid ((((((((((((((hKyd.out.set (p:=⟨noA,0,none⟩) (Or.inr hoboA) (.int .i64 (R i 0).1)).set (p:=⟨noA,1,none⟩) (Or.inr hoboA) (.int .i64 (R i 0).2)).set (p:=⟨noA,2,none⟩) (Or.inr hoboA) (.int .i64 (R i 1).1)).set (p:=⟨noA,3,none⟩) (Or.inr hoboA) (.int .i64 (R i 1).2)).set (p:=⟨noA,4,none⟩) (Or.inr hoboA) (.int .i64 (R i 2).1)).set (p:=⟨noA,5,none⟩) (Or.inr hoboA) (.int .i64 (R i 2).2)).set (p:=⟨noA,6,none⟩) (Or.inr hoboA) (.int .i64 (R i 3).1)).set (p:=⟨noA,7,none⟩) (Or.inr hoboA) (.int .i64 (R i 3).2)).set (p:=⟨noA,8,none⟩) (Or.inr hoboA) (.int .i64 (R i 4).1)).set (p:=⟨noA,9,none⟩) (Or.inr hoboA) (.int .i64 (R i 4).2)).set (p:=⟨noA,10,none⟩) (Or.inr hoboA) (.int .i64 (R i 5).1)).set (p:=⟨noA,11,none⟩) (Or.inr hoboA) (.int .i64 (R i 5).2)).set (p:=⟨noA,12,none⟩) (Or.inr hoboA) (.int .i64 (R i 6).1)).set (p:=⟨noA,13,none⟩) (Or.inr hoboA) (.int .i64 (R i 6).2))
     obtain⟨yd,hz_⟩:∃z,z=((((((((((((((yd.setCell ⟨noA,0,none⟩ (.int .i64 (R i 0).1)).setCell ⟨noA,1,none⟩ (.int .i64 (R i 0).2)).setCell ⟨noA,2,none⟩ (.int .i64 (R i 1).1)).setCell ⟨noA,3,none⟩ (.int .i64 (R i 1).2)).setCell ⟨noA,4,none⟩ (.int .i64 (R i 2).1)).setCell ⟨noA,5,none⟩ (.int .i64 (R i 2).2)).setCell ⟨noA,6,none⟩ (.int .i64 (R i 3).1)).setCell ⟨noA,7,none⟩ (.int .i64 (R i 3).2)).setCell ⟨noA,8,none⟩ (.int .i64 (R i 4).1)).setCell ⟨noA,9,none⟩ (.int .i64 (R i 4).2)).setCell ⟨noA,10,none⟩ (.int .i64 (R i 5).1)).setCell ⟨noA,11,none⟩ (.int .i64 (R i 5).2)).setCell ⟨noA,12,none⟩ (.int .i64 (R i 6).1)).setCell ⟨noA,13,none⟩ (.int .i64 (R i 6).2)):=⟨_,rfl⟩;rw[←hz_];rw[←hz_] at hOoA hOoB hKyd;replace hSyd:=Nat.le_trans hSyd (show _≤yd.heap.size by rw[hz_];simp);clear hz_;refine hK.out _ _ ?_ (fun hHeld=>?_)
     ·exact HS.out _ hKyd
     clear hK Kq;try simp only[N0]
    |intro (t:Tag 21) Kq hK
     clear t;obtain⟨e0,e1,g0,g1⟩:=two_facts hOoB;go_simp;clear e0  e1  g0  g1;have hN0:=(heap_sets2 yd noB _ (.int .i64 (both d (U i)).1) (.int .i64 (both d (U i)).2) (by intro e;have h1:=hOoA;rw[e,hOoB] at h1;simp at h1)).trans hOoA;replace hOoB:=set_two yd noB _ (.int .i64 (both d (U i)).1) (.int .i64 (both d (U i)).2) _ _ hOoB;replace hOoA:=hN0;clear hN0;replace hKyd:=Lib.hid ((hKyd.out.set (p:=⟨noB,0,none⟩) (Or.inr hoboB) (.int .i64 (both d (U i)).1)).set (p:=⟨noB,1,none⟩) (Or.inr hoboB) (.int .i64 (both d (U i)).2));obtain⟨yd,hz_⟩:∃z,z=((yd.setCell ⟨noB,0,none⟩ (.int .i64 (both d (U i)).1)).setCell ⟨noB,1,none⟩ (.int .i64 (both d (U i)).2)):=⟨_,rfl⟩;rw[←hz_];rw[←hz_] at hOoB hOoA hKyd;replace hSyd:=Nat.le_trans hSyd (show _≤yd.heap.size by rw[hz_];simp);clear hz_;refine hK.out _ _ ?_ (fun hHeld=>?_)
     ·exact HS.out _ hKyd
     clear hK Kq;try simp only[N0]
  all_goals
   refine wpAnyH_done (by kernel_rfl) ?_ _;(go_wp2_with fail);go_meet;exact⟨_,rfl,_,_,rfl,rfl,hOoA,hOoB,hKyd.out,hoboA,hoboB⟩
 case rest=>
  clear S hSd HS HQ HDW;obtain⟨wx,rfl,b7,b8,rfl,rfl,hO7,hO8,hKw,h7,h8⟩:=‹∃wl,wl=_∧_›;have h7x:b7<wx.heap.size:=(Array.getElem?_eq_some_iff.1 hO7).1;have h8x:b8<wx.heap.size:=(Array.getElem?_eq_some_iff.1 hO8).1;have hxx:=hxy.trans (hKw.below (B':=x.heap.size) (by omega) (by simp));have hOx0:=(hKw.block x.heap.size (by omega) (by simp)).trans hyb;have hMx:=HMx.out _ hxx;clear HMx;by_cases h6:k=6
  ·subst h6;rw[show ((6:Nat):Int)=6 from rfl];obtain⟨q0,q1,q2,q3,q4,q5,q6,q7,q8,q9,q10,q11,q12,q13,-⟩:=facts14 hO7;obtain⟨wq,hwq⟩:∃wq,wq=wx.alloc (.cells #[.int .i64 (R i 6).1,.int .i64 (R i 6).2] 36):=⟨_,rfl⟩;have hO9:=heap_alloc_new wx (.cells #[.int .i64 (R i 6).1,.int .i64 (R i 6).2] 36);have hKq:Kp wx.heap.size [] wx wq:=(by rw[hwq];exact(Kp.refl _ _ _).alloc (Nat.le_refl _) _);have hSq:wx.heap.size+1=wq.heap.size:=(by rw[hwq];simp);rw[←hwq] at hO9;have hO7':=(hKq.block b7 h7x (by simp)).trans hO7;have hO8':=(hKq.block b8 h8x (by simp)).trans hO8;have hOx:=(hKq.block x.heap.size (by omega) (by simp)).trans hOx0;have hMq:=hMx.below (hKq.below (Nat.le_refl _) (by simp));obtain⟨p0,p1,-,-⟩:=two_facts hO8';obtain⟨o0,o1,-,-⟩:=two_facts hO9;obtain⟨x0,x1,fx0,fx1⟩:=two_facts hOx;have hxw:Hid (Below x.heap.size x wq):=Lib.hid (hxx.trans (hKq.below (by omega) (by simp)));have hz1:=set_two wq x.heap.size _ (.int .i64 (both d (U i)).1) (.int .i64 (both d (U i)).2) _ _ hOx;obtain⟨k0,k1,-,-⟩:=two_facts hz1;have hBe:=(hxw.out.setCell (p:=⟨x.heap.size,0,none⟩) (by simp) (.int .i64 (both d (U i)).1)).setCell (p:=⟨x.heap.size,1,none⟩) (by simp) (.int .i64 (both d (U i)).2);clear hMx hMq hO7 hO8 hO7' hO8' hO9 hOx hz1 hKq;rw[hwq] at p0 p1 x0 x1 fx0 fx1 k0 k1 hBe;clear hwq;go_wp2;exact bodyPost_ret (v:=.agg #[.int .i64 (both d (U i)).1,.int .i64 (both d (U i)).2]) (by simp[results,Tryd.results58,go_sem,k0,k1]) rfl ⟨rfl,hBe⟩
  ·by_cases h1:k=1
   ·subst h1;rw[show ((1:Nat):Int)=1 from rfl];obtain⟨q0,q1,q2,q3,q4,q5,q6,q7,q8,q9,q10,q11,q12,q13,-⟩:=facts14 hO7;obtain⟨wq,hwq⟩:∃wq,wq=wx.alloc (.cells #[.int .i64 (R i 1).1,.int .i64 (R i 1).2] 36):=⟨_,rfl⟩;have hO9:=heap_alloc_new wx (.cells #[.int .i64 (R i 1).1,.int .i64 (R i 1).2] 36);have hKq:Kp wx.heap.size [] wx wq:=(by rw[hwq];exact(Kp.refl _ _ _).alloc (Nat.le_refl _) _);have hSq:wx.heap.size+1=wq.heap.size:=(by rw[hwq];simp);rw[←hwq] at hO9;have hO7':=(hKq.block b7 h7x (by simp)).trans hO7;have hO8':=(hKq.block b8 h8x (by simp)).trans hO8;have hOx:=(hKq.block x.heap.size (by omega) (by simp)).trans hOx0;have hMq:=hMx.below (hKq.below (Nat.le_refl _) (by simp));obtain⟨p0,p1,-,-⟩:=two_facts hO8';obtain⟨o0,o1,-,-⟩:=two_facts hO9;obtain⟨x0,x1,fx0,fx1⟩:=two_facts hOx;have hxw:Hid (Below x.heap.size x wq):=Lib.hid (hxx.trans (hKq.below (by omega) (by simp)));clear q0 q1 q2 q3 q4 q5 q6 q7 q8 q9 q10 q11 q12 q13;obtain⟨q0,q1,q2,q3,q4,q5,q6,q7,q8,q9,q10,q11,q12,q13,-⟩:=facts14 hO7';have j0:=(hxw.out.cell (p:=⟨bj,oj+i*2,none⟩) hbj).trans JJ0.out;have j1:=(hxw.out.cell (p:=⟨bj,oj+i*2+1,none⟩) hbj).trans JJ1.out;have c5:=hMq.c5;have HQ7:=Lib.hid (fun z (hz:Hid (Kp wq.heap.size [x.heap.size] wq z))=>(⟨(hz.out.cell (by simp only;omega) (by simp;omega)).trans c5,(hz.out.cell (by simp only;omega) (by simp;omega)).trans q0,(hz.out.cell (by simp only;omega) (by simp;omega)).trans q1,(hz.out.cell (by simp only;omega) (by simp;omega)).trans q2,(hz.out.cell (by simp only;omega) (by simp;omega)).trans q3,(hz.out.cell (by simp only;omega) (by simp;omega)).trans q4,(hz.out.cell (by simp only;omega) (by simp;omega)).trans q5,(hz.out.cell (by simp only;omega) (by simp;omega)).trans q6,(hz.out.cell (by simp only;omega) (by simp;omega)).trans q7,(hz.out.cell (by simp only;omega) (by simp;omega)).trans q8,(hz.out.cell (by simp only;omega) (by simp;omega)).trans q9,(hz.out.cell (by simp only;omega) (by simp;omega)).trans q10,(hz.out.cell (by simp only;omega) (by simp;omega)).trans q11,(hz.out.cell (by simp only;omega) (by simp;omega)).trans q12,(hz.out.cell (by simp only;omega) (by simp;omega)).trans q13,(hz.out.cell (by simp only;omega) (by simp;omega)).trans p0,(hz.out.cell (by simp only;omega) (by simp;omega)).trans p1,(hz.out.cell (by simp only;omega) (by simp;omega)).trans o0,(hz.out.cell (by simp only;omega) (by simp;omega)).trans o1,(hz.out.cell (by simp only;omega) (by simp;omega)).trans j0,(hz.out.cell (by simp only;omega) (by simp;omega)).trans j1⟩:z.cell? ⟨mb,5,none⟩=some (.slice (some ⟨bj,oj,none⟩) n ci)∧z.cell? ⟨b7,0,none⟩=some (.int .i64 (R i 0).1)∧z.cell? ⟨b7,1,none⟩=some (.int .i64 (R i 0).2)∧z.cell? ⟨b7,2,none⟩=some (.int .i64 (R i 1).1)∧z.cell? ⟨b7,3,none⟩=some (.int .i64 (R i 1).2)∧z.cell? ⟨b7,4,none⟩=some (.int .i64 (R i 2).1)∧z.cell? ⟨b7,5,none⟩=some (.int .i64 (R i 2).2)∧z.cell? ⟨b7,6,none⟩=some (.int .i64 (R i 3).1)∧z.cell? ⟨b7,7,none⟩=some (.int .i64 (R i 3).2)∧z.cell? ⟨b7,8,none⟩=some (.int .i64 (R i 4).1)∧z.cell? ⟨b7,9,none⟩=some (.int .i64 (R i 4).2)∧z.cell? ⟨b7,10,none⟩=some (.int .i64 (R i 5).1)∧z.cell? ⟨b7,11,none⟩=some (.int .i64 (R i 5).2)∧z.cell? ⟨b7,12,none⟩=some (.int .i64 (R i 6).1)∧z.cell? ⟨b7,13,none⟩=some (.int .i64 (R i 6).2)∧z.cell? ⟨b8,0,none⟩=some (.int .i64 (both d (U i)).1)∧z.cell? ⟨b8,1,none⟩=some (.int .i64 (both d (U i)).2)∧z.cell? ⟨wx.heap.size,0,none⟩=some (.int .i64 (R i 1).1)∧z.cell? ⟨wx.heap.size,1,none⟩=some (.int .i64 (R i 1).2)∧z.cell? ⟨bj,oj+i*2,none⟩=some (.int .i64 (I i).1)∧z.cell? ⟨bj,oj+i*2+1,none⟩=some (.int .i64 (I i).2)))
    clear q0 q1 q2 q3 q4 q5 q6 q7 q8 q9 q10 q11 q12 q13 p0 p1 o0 o1 x0 x1 fx0 fx1 j0 j1 c5 hMq hO7' hO8' hO9 hKq;have hs5:=hsk.out 1 (by omega);have hs5:=Lib.hid hs5;have hs6:=Lib.hid HB7.out.1;have hs7:=Lib.hid HB7.out.2.1;obtain⟨q0,q1,q2,q3,q4,q5,q6,q7,q8,q9,q10,q11,q12,q13,-⟩:=facts14 hO7;clear hMx hO7 hO8 HB7 hsk;(go_wp2_with fail);rw[←hwq];clear hwq q0 q1 q2 q3 q4 q5 q6 q7 q8 q9 q10 q11 q12 q13;obtain⟨S,hSd⟩:∃S:World→Prop,S=fun z=>(z.cell? ⟨mb,5,none⟩=some (.slice (some ⟨bj,oj,none⟩) n ci)∧z.cell? ⟨b7,0,none⟩=some (.int .i64 (R i 0).1)∧z.cell? ⟨b7,1,none⟩=some (.int .i64 (R i 0).2)∧z.cell? ⟨b7,2,none⟩=some (.int .i64 (R i 1).1)∧z.cell? ⟨b7,3,none⟩=some (.int .i64 (R i 1).2)∧z.cell? ⟨b7,4,none⟩=some (.int .i64 (R i 2).1)∧z.cell? ⟨b7,5,none⟩=some (.int .i64 (R i 2).2)∧z.cell? ⟨b7,6,none⟩=some (.int .i64 (R i 3).1)∧z.cell? ⟨b7,7,none⟩=some (.int .i64 (R i 3).2)∧z.cell? ⟨b7,8,none⟩=some (.int .i64 (R i 4).1)∧z.cell? ⟨b7,9,none⟩=some (.int .i64 (R i 4).2)∧z.cell? ⟨b7,10,none⟩=some (.int .i64 (R i 5).1)∧z.cell? ⟨b7,11,none⟩=some (.int .i64 (R i 5).2)∧z.cell? ⟨b7,12,none⟩=some (.int .i64 (R i 6).1)∧z.cell? ⟨b7,13,none⟩=some (.int .i64 (R i 6).2)∧z.cell? ⟨b8,0,none⟩=some (.int .i64 (both d (U i)).1)∧z.cell? ⟨b8,1,none⟩=some (.int .i64 (both d (U i)).2)∧z.cell? ⟨wx.heap.size,0,none⟩=some (.int .i64 (R i 1).1)∧z.cell? ⟨wx.heap.size,1,none⟩=some (.int .i64 (R i 1).2)∧z.cell? ⟨bj,oj+i*2,none⟩=some (.int .i64 (I i).1)∧z.cell? ⟨bj,oj+i*2+1,none⟩=some (.int .i64 (I i).2))∧Hid (Kp wq.heap.size [x.heap.size] wq z):=⟨_,rfl⟩
    have HS:=Lib.hid (fun z (hz:Hid (Kp wq.heap.size [x.heap.size] wq z))=>(by rw[hSd];exact⟨HQ7.out z hz,hz⟩:S z));refine wp_region_held_drew (S:=S) (by kernel_rfl) ?_ (fun hHeld=>?_)
    ·exact HS.out _ (Lib.hid (Kp.refl _ _ _).drew)
    have hKyd:Hid (Kp wq.heap.size [x.heap.size] wq wq.drew):=Lib.hid (Kp.refl _ _ _).drew;have hSyd:wq.heap.size≤wq.drew.heap.size:=Nat.le_refl _;have hOx:=keepO (Below.refl wq.heap.size wq).drew hOx;generalize wq.drew=yd at *;refine tY (v:=?_) 0 37 ?_ ?_;rotate_left
    ·intro w hSw;rw[hSd] at hSw;obtain⟨⟨qm,q0,q1,q2,q3,q4,q5,q6,q7,q8,q9,q10,q11,q12,q13,p0,p1,o0,o1,u0,u1⟩,-⟩:=hSw;go_simp;(try with_reducible rfl)
    (try simp only[N0]);refine tY (v:=?_) 1 38 ?_ ?_;rotate_left
    ·intro w hSw;rw[hSd] at hSw;obtain⟨⟨qm,q0,q1,q2,q3,q4,q5,q6,q7,q8,q9,q10,q11,q12,q13,p0,p1,o0,o1,u0,u1⟩,-⟩:=hSw;go_simp;(try with_reducible rfl)
    (try simp only[N0]);refine tY (v:=?_) 2 39 ?_ ?_;rotate_left
    ·intro w hSw;rw[hSd] at hSw;obtain⟨⟨qm,q0,q1,q2,q3,q4,q5,q6,q7,q8,q9,q10,q11,q12,q13,p0,p1,o0,o1,u0,u1⟩,-⟩:=hSw;go_simp;(try with_reducible rfl)
    (try simp only[N0]);refine tY (v:=?_) 5 42 ?_ ?_;rotate_left
    ·intro w hSw;rw[hSd] at hSw;obtain⟨⟨qm,q0,q1,q2,q3,q4,q5,q6,q7,q8,q9,q10,q11,q12,q13,p0,p1,o0,o1,u0,u1⟩,-⟩:=hSw;go_simp;(try with_reducible rfl)
    (try simp only[N0]);refine tY (v:=?_) 6 43 ?_ ?_;rotate_left
    ·intro w hSw;rw[hSd] at hSw;obtain⟨⟨qm,q0,q1,q2,q3,q4,q5,q6,q7,q8,q9,q10,q11,q12,q13,p0,p1,o0,o1,u0,u1⟩,-⟩:=hSw;go_simp;(try with_reducible rfl)
    (try simp only[N0]);refine tY (v:=?_) 7 44 ?_ ?_;rotate_left
    ·intro w hSw;rw[hSd] at hSw;obtain⟨⟨qm,q0,q1,q2,q3,q4,q5,q6,q7,q8,q9,q10,q11,q12,q13,p0,p1,o0,o1,u0,u1⟩,-⟩:=hSw;go_simp;(try with_reducible rfl)
    (try simp only[N0]);refine tY (v:=?_) 8 45 ?_ ?_;rotate_left
    ·intro w hSw;rw[hSd] at hSw;obtain⟨⟨qm,q0,q1,q2,q3,q4,q5,q6,q7,q8,q9,q10,q11,q12,q13,p0,p1,o0,o1,u0,u1⟩,-⟩:=hSw;go_simp;(try with_reducible rfl)
    (try simp only[N0]);refine tY (v:=?_) 9 46 ?_ ?_;rotate_left
    ·intro w hSw;rw[hSd] at hSw;obtain⟨⟨qm,q0,q1,q2,q3,q4,q5,q6,q7,q8,q9,q10,q11,q12,q13,p0,p1,o0,o1,u0,u1⟩,-⟩:=hSw;go_simp;(try with_reducible rfl)
    (try simp only[N0]);refine tY (v:=?_) 10 47 ?_ ?_;rotate_left
    ·intro w hSw;rw[hSd] at hSw;obtain⟨⟨qm,q0,q1,q2,q3,q4,q5,q6,q7,q8,q9,q10,q11,q12,q13,p0,p1,o0,o1,u0,u1⟩,-⟩:=hSw;go_simp;(try with_reducible rfl)
    (try simp only[N0]);refine tY (v:=?_) 11 48 ?_ ?_;rotate_left
    ·intro w hSw;rw[hSd] at hSw;obtain⟨⟨qm,q0,q1,q2,q3,q4,q5,q6,q7,q8,q9,q10,q11,q12,q13,p0,p1,o0,o1,u0,u1⟩,-⟩:=hSw;go_simp;(try with_reducible rfl)
    (try simp only[N0]);refine tY (v:=?_) 12 49 ?_ ?_;rotate_left
    ·intro w hSw;rw[hSd] at hSw;obtain⟨⟨qm,q0,q1,q2,q3,q4,q5,q6,q7,q8,q9,q10,q11,q12,q13,p0,p1,o0,o1,u0,u1⟩,-⟩:=hSw;go_simp;(try with_reducible rfl)
    (try simp only[N0]);refine Q1 3 ?_;intro _ Kq hK;go_simp;refine(rest_any (R i) hRi.out _).mono ?_;rintro e yd ⟨rfl,hb⟩;replace hKyd:=Lib.hid (hKyd.out.call hSyd hb);replace hOx:=keepO hb hOx;replace hSyd:=Nat.le_trans hSyd hb.size;clear hb;(try go_simp);refine hK.out _ _ ?_ (fun hHeld=>?_)
    ·exact HS.out _ hKyd
    clear hK Kq;(try simp only[N0]);refine Q1 4 ?_;intro _ Kq hK;go_simp;refine(plus_any (both d (U i)) (rest1 (R i) 4) hs3.out hs2.out _).mono ?_;rintro e yd ⟨rfl,hb⟩;replace hKyd:=Lib.hid (hKyd.out.call hSyd hb);replace hOx:=keepO hb hOx;replace hSyd:=Nat.le_trans hSyd hb.size;clear hb;(try go_simp);refine hK.out _ _ ?_ (fun hHeld=>?_)
    ·exact HS.out _ hKyd
    clear hK Kq;(try simp only[N0]);refine Q1 13 ?_;intro _ Kq hK;go_simp;refine(minus1_any (I i) (R i 1) hs4.out hs5.out _).mono ?_;rintro e yd ⟨rfl,hb⟩;replace hKyd:=Lib.hid (hKyd.out.call hSyd hb);replace hOx:=keepO hb hOx;replace hSyd:=Nat.le_trans hSyd hb.size;clear hb;(try go_simp);refine hK.out _ _ ?_ (fun hHeld=>?_)
    ·exact HS.out _ hKyd
    clear hK Kq;(try simp only[N0]);refine Q1 14 ?_;intro _ Kq hK;go_simp;refine(minus_any (plus (both d (U i)) (rest1 (R i) 4)) (minus1 (I i) (R i 1)) hs6.out hs7.out _).mono ?_;rintro e yd ⟨rfl,hb⟩;replace hKyd:=Lib.hid (hKyd.out.call hSyd hb);replace hOx:=keepO hb hOx;replace hSyd:=Nat.le_trans hSyd hb.size;clear hb;(try go_simp);refine hK.out _ _ ?_ (fun hHeld=>?_)
    ·exact HS.out _ hKyd
    clear hK Kq;(try simp only[N0]);refine Q1 15 ?_;intro _ Kq hK;go_simp;refine(both_any (R i 1) (minus (plus (both d (U i)) (rest1 (R i) 4)) (minus1 (I i) (R i 1))) _).mono ?_;rintro e yd ⟨rfl,hb⟩;replace hKyd:=Lib.hid (hKyd.out.call hSyd hb);replace hOx:=keepO hb hOx;replace hSyd:=Nat.le_trans hSyd hb.size;clear hb;(try go_simp);refine hK.out _ _ ?_ (fun hHeld=>?_)
    ·exact HS.out _ hKyd
    clear hK Kq;(try simp only[N0]);refine Q1 16 ?_;intro _ Kq hK;obtain⟨e0,e1,g0,g1⟩:=two_facts hOx;go_simp;clear e0  e1  g0  g1;replace hOx:=set_two yd x.heap.size _ (.int .i64 (both (R i 1) (minus (plus (both d (U i)) (rest1 (R i) 4)) (minus1 (I i) (R i 1)))).1) (.int .i64 (both (R i 1) (minus (plus (both d (U i)) (rest1 (R i) 4)) (minus1 (I i) (R i 1)))).2) _ _ hOx;replace hKyd:=Lib.hid ((hKyd.out.set (p:=⟨x.heap.size,0,none⟩) (Or.inl (by simp)) (.int .i64 (both (R i 1) (minus (plus (both d (U i)) (rest1 (R i) 4)) (minus1 (I i) (R i 1)))).1)).set (p:=⟨x.heap.size,1,none⟩) (Or.inl (by simp)) (.int .i64 (both (R i 1) (minus (plus (both d (U i)) (rest1 (R i) 4)) (minus1 (I i) (R i 1)))).2));obtain⟨yd,hz_⟩:∃z,z=((yd.setCell ⟨x.heap.size,0,none⟩ (.int .i64 (both (R i 1) (minus (plus (both d (U i)) (rest1 (R i) 4)) (minus1 (I i) (R i 1)))).1)).setCell ⟨x.heap.size,1,none⟩ (.int .i64 (both (R i 1) (minus (plus (both d (U i)) (rest1 (R i) 4)) (minus1 (I i) (R i 1)))).2)):=⟨_,rfl⟩;rw[←hz_];rw[←hz_] at hOx hKyd;replace hSyd:=Nat.le_trans hSyd (show _≤yd.heap.size by rw[hz_];simp);clear hz_;refine hK.out _ _ ?_ (fun hHeld=>?_)
    ·exact HS.out _ hKyd
    clear hK Kq;(try simp only[N0]);refine wpAnyH_done (by kernel_rfl) ?_ _;obtain⟨k0,k1,-,-⟩:=two_facts hOx;have hBe:=hxw.out.trans (hKyd.out.below (B':=x.heap.size) (by omega) (by simp));go_wp2;exact bodyPost_ret (v:=.agg #[.int .i64 (both (R i 1) (minus (plus (both d (U i)) (rest1 (R i) 4)) (minus1 (I i) (R i 1)))).1,.int .i64 (both (R i 1) (minus (plus (both d (U i)) (rest1 (R i) 4)) (minus1 (I i) (R i 1)))).2]) (by simp[results,Tryd.results58,go_sem,k0,k1]) rfl ⟨rfl,hBe⟩
   ·have hki:(0:Int)≤(k:Int):=(by omega);have hki7:(k:Int)<7:=(by omega);have h6i:¬(k:Int)=6:=(by omega);have h1i:¬(k:Int)=1:=(by omega);obtain⟨a0,a1⟩:=row14 hO7 (k:=k) (by omega);obtain⟨wq,hwq⟩:∃wq,wq=wx.alloc (.cells #[.int .i64 (R i k).1,.int .i64 (R i k).2] 36):=⟨_,rfl⟩;have hO9:=heap_alloc_new wx (.cells #[.int .i64 (R i k).1,.int .i64 (R i k).2] 36);have hKq:Kp wx.heap.size [] wx wq:=(by rw[hwq];exact(Kp.refl _ _ _).alloc (Nat.le_refl _) _);have hSq:wx.heap.size+1=wq.heap.size:=(by rw[hwq];simp);rw[←hwq] at hO9;have hO7':=(hKq.block b7 h7x (by simp)).trans hO7;have hO8':=(hKq.block b8 h8x (by simp)).trans hO8;have hOx:=(hKq.block x.heap.size (by omega) (by simp)).trans hOx0;have hMq:=hMx.below (hKq.below (Nat.le_refl _) (by simp));obtain⟨p0,p1,-,-⟩:=two_facts hO8';obtain⟨o0,o1,-,-⟩:=two_facts hO9;obtain⟨x0,x1,fx0,fx1⟩:=two_facts hOx;have hxw:Hid (Below x.heap.size x wq):=Lib.hid (hxx.trans (hKq.below (by omega) (by simp)));obtain⟨q0,q1,q2,q3,q4,q5,q6,q7,q8,q9,q10,q11,q12,q13,-⟩:=facts14 hO7';have j0:=(hxw.out.cell (p:=⟨bj,oj+i*2,none⟩) hbj).trans JJ0.out;have j1:=(hxw.out.cell (p:=⟨bj,oj+i*2+1,none⟩) hbj).trans JJ1.out;have c5:=hMq.c5;have HQ7:=Lib.hid (fun z (hz:Hid (Kp wq.heap.size [x.heap.size] wq z))=>(⟨(hz.out.cell (by simp only;omega) (by simp;omega)).trans c5,(hz.out.cell (by simp only;omega) (by simp;omega)).trans q0,(hz.out.cell (by simp only;omega) (by simp;omega)).trans q1,(hz.out.cell (by simp only;omega) (by simp;omega)).trans q2,(hz.out.cell (by simp only;omega) (by simp;omega)).trans q3,(hz.out.cell (by simp only;omega) (by simp;omega)).trans q4,(hz.out.cell (by simp only;omega) (by simp;omega)).trans q5,(hz.out.cell (by simp only;omega) (by simp;omega)).trans q6,(hz.out.cell (by simp only;omega) (by simp;omega)).trans q7,(hz.out.cell (by simp only;omega) (by simp;omega)).trans q8,(hz.out.cell (by simp only;omega) (by simp;omega)).trans q9,(hz.out.cell (by simp only;omega) (by simp;omega)).trans q10,(hz.out.cell (by simp only;omega) (by simp;omega)).trans q11,(hz.out.cell (by simp only;omega) (by simp;omega)).trans q12,(hz.out.cell (by simp only;omega) (by simp;omega)).trans q13,(hz.out.cell (by simp only;omega) (by simp;omega)).trans p0,(hz.out.cell (by simp only;omega) (by simp;omega)).trans p1,(hz.out.cell (by simp only;omega) (by simp;omega)).trans o0,(hz.out.cell (by simp only;omega) (by simp;omega)).trans o1,(hz.out.cell (by simp only;omega) (by simp;omega)).trans j0,(hz.out.cell (by simp only;omega) (by simp;omega)).trans j1⟩:z.cell? ⟨mb,5,none⟩=some (.slice (some ⟨bj,oj,none⟩) n ci)∧z.cell? ⟨b7,0,none⟩=some (.int .i64 (R i 0).1)∧z.cell? ⟨b7,1,none⟩=some (.int .i64 (R i 0).2)∧z.cell? ⟨b7,2,none⟩=some (.int .i64 (R i 1).1)∧z.cell? ⟨b7,3,none⟩=some (.int .i64 (R i 1).2)∧z.cell? ⟨b7,4,none⟩=some (.int .i64 (R i 2).1)∧z.cell? ⟨b7,5,none⟩=some (.int .i64 (R i 2).2)∧z.cell? ⟨b7,6,none⟩=some (.int .i64 (R i 3).1)∧z.cell? ⟨b7,7,none⟩=some (.int .i64 (R i 3).2)∧z.cell? ⟨b7,8,none⟩=some (.int .i64 (R i 4).1)∧z.cell? ⟨b7,9,none⟩=some (.int .i64 (R i 4).2)∧z.cell? ⟨b7,10,none⟩=some (.int .i64 (R i 5).1)∧z.cell? ⟨b7,11,none⟩=some (.int .i64 (R i 5).2)∧z.cell? ⟨b7,12,none⟩=some (.int .i64 (R i 6).1)∧z.cell? ⟨b7,13,none⟩=some (.int .i64 (R i 6).2)∧z.cell? ⟨b8,0,none⟩=some (.int .i64 (both d (U i)).1)∧z.cell? ⟨b8,1,none⟩=some (.int .i64 (both d (U i)).2)∧z.cell? ⟨wx.heap.size,0,none⟩=some (.int .i64 (R i k).1)∧z.cell? ⟨wx.heap.size,1,none⟩=some (.int .i64 (R i k).2)∧z.cell? ⟨bj,oj+i*2,none⟩=some (.int .i64 (I i).1)∧z.cell? ⟨bj,oj+i*2+1,none⟩=some (.int .i64 (I i).2)))
    clear q0 q1 q2 q3 q4 q5 q6 q7 q8 q9 q10 q11 q12 q13 p0 p1 o0 o1 x0 x1 fx0 fx1 j0 j1 c5 hMq hO7' hO8' hO9 hKq;have hs5:=Lib.hid (hsk.out k (by omega));have hs6:=Lib.hid (HB7.out.2.2 k (by omega)).1;have hs7:=Lib.hid (HB7.out.2.2 k (by omega)).2;clear hMx hO7 hO8 HB7 hsk;(go_wp2_with fail);rw[←hwq];clear hwq a0 a1;obtain⟨S,hSd⟩:∃S:World→Prop,S=fun z=>(z.cell? ⟨mb,5,none⟩=some (.slice (some ⟨bj,oj,none⟩) n ci)∧z.cell? ⟨b7,0,none⟩=some (.int .i64 (R i 0).1)∧z.cell? ⟨b7,1,none⟩=some (.int .i64 (R i 0).2)∧z.cell? ⟨b7,2,none⟩=some (.int .i64 (R i 1).1)∧z.cell? ⟨b7,3,none⟩=some (.int .i64 (R i 1).2)∧z.cell? ⟨b7,4,none⟩=some (.int .i64 (R i 2).1)∧z.cell? ⟨b7,5,none⟩=some (.int .i64 (R i 2).2)∧z.cell? ⟨b7,6,none⟩=some (.int .i64 (R i 3).1)∧z.cell? ⟨b7,7,none⟩=some (.int .i64 (R i 3).2)∧z.cell? ⟨b7,8,none⟩=some (.int .i64 (R i 4).1)∧z.cell? ⟨b7,9,none⟩=some (.int .i64 (R i 4).2)∧z.cell? ⟨b7,10,none⟩=some (.int .i64 (R i 5).1)∧z.cell? ⟨b7,11,none⟩=some (.int .i64 (R i 5).2)∧z.cell? ⟨b7,12,none⟩=some (.int .i64 (R i 6).1)∧z.cell? ⟨b7,13,none⟩=some (.int .i64 (R i 6).2)∧z.cell? ⟨b8,0,none⟩=some (.int .i64 (both d (U i)).1)∧z.cell? ⟨b8,1,none⟩=some (.int .i64 (both d (U i)).2)∧z.cell? ⟨wx.heap.size,0,none⟩=some (.int .i64 (R i k).1)∧z.cell? ⟨wx.heap.size,1,none⟩=some (.int .i64 (R i k).2)∧z.cell? ⟨bj,oj+i*2,none⟩=some (.int .i64 (I i).1)∧z.cell? ⟨bj,oj+i*2+1,none⟩=some (.int .i64 (I i).2))∧Hid (Kp wq.heap.size [x.heap.size] wq z):=⟨_,rfl⟩
    have HS:=Lib.hid (fun z (hz:Hid (Kp wq.heap.size [x.heap.size] wq z))=>(by rw[hSd];exact⟨HQ7.out z hz,hz⟩:S z));refine wp_region_held_drew (S:=S) (by kernel_rfl) ?_ (fun hHeld=>?_)
    ·exact HS.out _ (Lib.hid (Kp.refl _ _ _).drew)
    have hKyd:Hid (Kp wq.heap.size [x.heap.size] wq wq.drew):=Lib.hid (Kp.refl _ _ _).drew;have hSyd:wq.heap.size≤wq.drew.heap.size:=Nat.le_refl _;have hOx:=keepO (Below.refl wq.heap.size wq).drew hOx;generalize wq.drew=yd at *;refine tY (v:=?_) 0 53 ?_ ?_;rotate_left
    ·intro w hSw;rw[hSd] at hSw;obtain⟨⟨qm,q0,q1,q2,q3,q4,q5,q6,q7,q8,q9,q10,q11,q12,q13,p0,p1,o0,o1,u0,u1⟩,-⟩:=hSw;go_simp;(try with_reducible rfl)
    (try simp only[N0]);refine tY (v:=?_) 1 54 ?_ ?_;rotate_left
    ·intro w hSw;rw[hSd] at hSw;obtain⟨⟨qm,q0,q1,q2,q3,q4,q5,q6,q7,q8,q9,q10,q11,q12,q13,p0,p1,o0,o1,u0,u1⟩,-⟩:=hSw;go_simp;(try with_reducible rfl)
    (try simp only[N0]);refine tY (v:=?_) 2 55 ?_ ?_;rotate_left
    ·intro w hSw;rw[hSd] at hSw;obtain⟨⟨qm,q0,q1,q2,q3,q4,q5,q6,q7,q8,q9,q10,q11,q12,q13,p0,p1,o0,o1,u0,u1⟩,-⟩:=hSw;go_simp;(try with_reducible rfl)
    (try simp only[N0]);refine tY (v:=?_) 3 56 ?_ ?_;rotate_left
    ·intro w hSw;rw[hSd] at hSw;obtain⟨⟨qm,q0,q1,q2,q3,q4,q5,q6,q7,q8,q9,q10,q11,q12,q13,p0,p1,o0,o1,u0,u1⟩,-⟩:=hSw;go_simp;(try with_reducible rfl)
    (try simp only[N0]);refine tY (v:=?_) 4 57 ?_ ?_;rotate_left
    ·intro w hSw;rw[hSd] at hSw;obtain⟨⟨qm,q0,q1,q2,q3,q4,q5,q6,q7,q8,q9,q10,q11,q12,q13,p0,p1,o0,o1,u0,u1⟩,-⟩:=hSw;go_simp;(try with_reducible rfl)
    (try simp only[N0]);refine tY (v:=?_) 5 58 ?_ ?_;rotate_left
    ·intro w hSw;rw[hSd] at hSw;obtain⟨⟨qm,q0,q1,q2,q3,q4,q5,q6,q7,q8,q9,q10,q11,q12,q13,p0,p1,o0,o1,u0,u1⟩,-⟩:=hSw;go_simp;(try with_reducible rfl)
    (try simp only[N0]);refine tY (v:=?_) 6 59 ?_ ?_;rotate_left
    ·intro w hSw;rw[hSd] at hSw;obtain⟨⟨qm,q0,q1,q2,q3,q4,q5,q6,q7,q8,q9,q10,q11,q12,q13,p0,p1,o0,o1,u0,u1⟩,-⟩:=hSw;go_simp;(try with_reducible rfl)
    (try simp only[N0]);refine tY (v:=?_) 7 60 ?_ ?_;rotate_left
    ·intro w hSw;rw[hSd] at hSw;obtain⟨⟨qm,q0,q1,q2,q3,q4,q5,q6,q7,q8,q9,q10,q11,q12,q13,p0,p1,o0,o1,u0,u1⟩,-⟩:=hSw;go_simp;(try with_reducible rfl)
    (try simp only[N0]);refine tY (v:=?_) 8 61 ?_ ?_;rotate_left
    ·intro w hSw;rw[hSd] at hSw;obtain⟨⟨qm,q0,q1,q2,q3,q4,q5,q6,q7,q8,q9,q10,q11,q12,q13,p0,p1,o0,o1,u0,u1⟩,-⟩:=hSw;go_simp;(try with_reducible rfl)
    (try simp only[N0]);refine tY (v:=?_) 9 62 ?_ ?_;rotate_left
    ·intro w hSw;rw[hSd] at hSw;obtain⟨⟨qm,q0,q1,q2,q3,q4,q5,q6,q7,q8,q9,q10,q11,q12,q13,p0,p1,o0,o1,u0,u1⟩,-⟩:=hSw;go_simp;(try with_reducible rfl)
    (try simp only[N0]);refine tY (v:=?_) 11 64 ?_ ?_;rotate_left
    ·intro w hSw;rw[hSd] at hSw;obtain⟨⟨qm,q0,q1,q2,q3,q4,q5,q6,q7,q8,q9,q10,q11,q12,q13,p0,p1,o0,o1,u0,u1⟩,-⟩:=hSw;go_simp;(try with_reducible rfl)
    (try simp only[N0]);refine Q1 10 ?_;intro _ Kq hK;go_simp;refine(rest_any (R i) hRi.out _).mono ?_;rintro e yd ⟨rfl,hb⟩;replace hKyd:=Lib.hid (hKyd.out.call hSyd hb);replace hOx:=keepO hb hOx;replace hSyd:=Nat.le_trans hSyd hb.size;clear hb;(try go_simp);refine hK.out _ _ ?_ (fun hHeld=>?_)
    ·exact HS.out _ hKyd
    clear hK Kq;(try simp only[N0]);refine Q1 12 ?_;intro _ Kq hK;go_simp;refine(minus1_any (rest1 (R i) 4) (R i k) hs2.out hs5.out _).mono ?_;rintro e yd ⟨rfl,hb⟩;replace hKyd:=Lib.hid (hKyd.out.call hSyd hb);replace hOx:=keepO hb hOx;replace hSyd:=Nat.le_trans hSyd hb.size;clear hb;(try go_simp);refine hK.out _ _ ?_ (fun hHeld=>?_)
    ·exact HS.out _ hKyd
    clear hK Kq;(try simp only[N0]);refine Q1 13 ?_;intro _ Kq hK;go_simp;refine(plus_any (both d (U i)) (minus1 (rest1 (R i) 4) (R i k)) hs3.out hs6.out _).mono ?_;rintro e yd ⟨rfl,hb⟩;replace hKyd:=Lib.hid (hKyd.out.call hSyd hb);replace hOx:=keepO hb hOx;replace hSyd:=Nat.le_trans hSyd hb.size;clear hb;(try go_simp);refine hK.out _ _ ?_ (fun hHeld=>?_)
    ·exact HS.out _ hKyd
    clear hK Kq;(try simp only[N0]);refine Q1 14 ?_;intro _ Kq hK;go_simp;refine(minus_any (I i) (plus (both d (U i)) (minus1 (rest1 (R i) 4) (R i k))) hs4.out hs7.out _).mono ?_;rintro e yd ⟨rfl,hb⟩;replace hKyd:=Lib.hid (hKyd.out.call hSyd hb);replace hOx:=keepO hb hOx;replace hSyd:=Nat.le_trans hSyd hb.size;clear hb;(try go_simp);refine hK.out _ _ ?_ (fun hHeld=>?_)
    ·exact HS.out _ hKyd
    clear hK Kq;(try simp only[N0]);refine Q1 15 ?_;intro _ Kq hK;go_simp;refine(both_any (R i k) (minus (I i) (plus (both d (U i)) (minus1 (rest1 (R i) 4) (R i k)))) _).mono ?_;rintro e yd ⟨rfl,hb⟩;replace hKyd:=Lib.hid (hKyd.out.call hSyd hb);replace hOx:=keepO hb hOx;replace hSyd:=Nat.le_trans hSyd hb.size;clear hb;(try go_simp);refine hK.out _ _ ?_ (fun hHeld=>?_)
    ·exact HS.out _ hKyd
    clear hK Kq;(try simp only[N0]);refine Q1 16 ?_;intro _ Kq hK;obtain⟨e0,e1,g0,g1⟩:=two_facts hOx;go_simp;clear e0  e1  g0  g1;replace hOx:=set_two yd x.heap.size _ (.int .i64 (both (R i k) (minus (I i) (plus (both d (U i)) (minus1 (rest1 (R i) 4) (R i k))))).1) (.int .i64 (both (R i k) (minus (I i) (plus (both d (U i)) (minus1 (rest1 (R i) 4) (R i k))))).2) _ _ hOx;replace hKyd:=Lib.hid ((hKyd.out.set (p:=⟨x.heap.size,0,none⟩) (Or.inl (by simp)) (.int .i64 (both (R i k) (minus (I i) (plus (both d (U i)) (minus1 (rest1 (R i) 4) (R i k))))).1)).set (p:=⟨x.heap.size,1,none⟩) (Or.inl (by simp)) (.int .i64 (both (R i k) (minus (I i) (plus (both d (U i)) (minus1 (rest1 (R i) 4) (R i k))))).2));obtain⟨yd,hz_⟩:∃z,z=((yd.setCell ⟨x.heap.size,0,none⟩ (.int .i64 (both (R i k) (minus (I i) (plus (both d (U i)) (minus1 (rest1 (R i) 4) (R i k))))).1)).setCell ⟨x.heap.size,1,none⟩ (.int .i64 (both (R i k) (minus (I i) (plus (both d (U i)) (minus1 (rest1 (R i) 4) (R i k))))).2)):=⟨_,rfl⟩;rw[←hz_];rw[←hz_] at hOx hKyd;replace hSyd:=Nat.le_trans hSyd (show _≤yd.heap.size by rw[hz_];simp);clear hz_;refine hK.out _ _ ?_ (fun hHeld=>?_)
    ·exact HS.out _ hKyd
    clear hK Kq;(try simp only[N0]);refine wpAnyH_done (by kernel_rfl) ?_ _;obtain⟨k0,k1,-,-⟩:=two_facts hOx;have hBe:=hxw.out.trans (hKyd.out.below (B':=x.heap.size) (by omega) (by simp));go_wp2;exact bodyPost_ret (v:=.agg #[.int .i64 (both (R i k) (minus (I i) (plus (both d (U i)) (minus1 (rest1 (R i) 4) (R i k))))).1,.int .i64 (both (R i k) (minus (I i) (plus (both d (U i)) (minus1 (rest1 (R i) 4) (R i k))))).2]) (by simp[results,Tryd.results58,go_sem,k0,k1]) rfl ⟨rfl,hBe⟩
end Go.Proofs.YtfplipbkjglmhaaDoor

namespace Go.Proofs.YtfplipbkjglmhaaDoor
open Go.RowKit
set_option linter.unusedVariables false
set_option linter.unusedSimpArgs false
def rowBad (f:Nat→Sp):Bool:=(List.range 7).any fun k=>noneB (f k)
theorem rowBad_iff(f:Nat→Sp):rowBad f=true↔∃k,k<7∧noneB (f k)=true:=by simp[rowBad]
set_option maxRecDepth 100000 in
theorem indexS_any(f:Nat→Sp)(b c:Nat)(w:World)(hb:b<w.heap.size)(hR:∀k,k<7→w.cell? ⟨b,k*2,none⟩=some (.int .i64 (f k).1)∧w.cell? ⟨b,k*2+1,none⟩=some (.int .i64 (f k).2))
  (eg:∀args w,(callFunc 73 args).run Tryd.prog w = .ok (.enter 73 args) w) :
  Calls Tryd.prog 100 #[.slice (some ⟨b,0,none⟩) 7 c,.func (.func 73) #[] #[]] w fun e w'=>(∃r:Int,e = .returned (.int .i64 r)∧(decide (0≤r)=rowBad f))∧Below w.heap.size w w':=by
 go_enter Tryd.func100,Tryd.ntmps100
 go_wp2;go_loopw [8] (fun x wr=>∃k:Nat,k≤7∧x = .int .i64 k∧Hid (∀j,j<k→noneB (f j)=false)∧Hid (Below w.heap.size w wr)) (fun x _=>7 - (intOf x).toNat)
 case atStart=>exact⟨0,by omega,rfl,fun j h=>absurd h (by omega),Below.refl _ _⟩
 case round=>
  obtain⟨k,hk,rfl,hno,hB⟩:=hrel;by_cases hlt:k<7
  ·obtain⟨r0,r1⟩:=hR k hlt;have c0:=(hB.out.cell (p:=⟨b,k*2,none⟩) hb).trans r0;have c1:=(hB.out.cell (p:=⟨b,k*2+1,none⟩) hb).trans r1;have hF:=Lib.hid (none_any (f k) wr);have hsz:=Lib.hid hB.out.size;have hlti:(k:Int)<7:=(by omega);have k0:(0:Int)≤(k:Int):=(by omega);clear hR r0 r1;cases hp:noneB (f k)
   ·rw[hp] at hF;have hnx:Hid (∀j,j<k+1→noneB (f j)=false):=by
     intro j hj;by_cases hjk:j=k
     ·subst hjk;exact hp
     ·exact hno.out j (by omega)
    clear hno hp;(go_wp2_with fail);refine hF.out.mono ?_;rintro e w1 ⟨rfl,hb1⟩;have hB1:=Lib.hid (below_via hB.out hsz.out hb1);clear hb1;go_wp2;go_roundw
    case rel=>exact⟨k+1,by omega,by go_num,hnx,hB1⟩
    case measure=>simp[intOf];omega
   ·rw[hp] at hF;have hres:Hid (decide (0≤(k:Int))=rowBad f):=by
     show _=_;rw[(rowBad_iff f).2 ⟨k,hlt,hp⟩];exact decide_eq_true (by omega)
    clear hno hp;(go_wp2_with fail);refine hF.out.mono ?_;rintro e w1 ⟨rfl,hb1⟩;have hB1:=Lib.hid (below_via hB.out hsz.out hb1);clear hb1;go_wp2;go_ret;exact⟨⟨k,rfl,hres.out⟩,hB1.out⟩
  ·have hres:Hid (decide (0≤(-1:Int))=rowBad f):=by
    show _=_;have:rowBad f=false:=by
     rw[Bool.eq_false_iff];intro h;obtain⟨j,hj,hb⟩:=(rowBad_iff f).1 h;rw[hno.out j (by omega)] at hb;cases hb
    rw[this];rfl
   obtain rfl:k=7:=(by omega);clear hno hR;go_wp2;go_ret;exact⟨⟨-1,rfl,hres.out⟩,hB.out⟩
set_option maxRecDepth 100000 in
theorem containsS_any(f:Nat→Sp)(b c:Nat)(w:World)(hb:b<w.heap.size)(hR:∀k,k<7→w.cell? ⟨b,k*2,none⟩=some (.int .i64 (f k).1)∧w.cell? ⟨b,k*2+1,none⟩=some (.int .i64 (f k).2)) :
  Calls Tryd.prog 72 #[.slice (some ⟨b,0,none⟩) 7 c,.func (.func 73) #[] #[]] w fun e w'=>e = .returned (.bool (rowBad f))∧Below w.heap.size w w':=by
 have H:=Lib.hid (indexS_any f b c w hb hR (fun args w=>rfl));clear hR;generalize rowBad f=rb at *
 go_enter Tryd.func72,Tryd.ntmps72
 go_wp2_with fail
 refine H.out.mono ?_;rintro e w' ⟨⟨r,rfl,hr⟩,hbe⟩;have hr':=Lib.hid hr;have hbe':=Lib.hid hbe;clear hr hbe;go_wp2;go_ret;exact⟨ret_bool hr'.out,hbe'.out⟩
/-- Whether all rows, and all that comes out, are well. -/
def holdsB (R:Nat→Nat→Sp) (U:Nat→Sp) (n:Nat):Bool:=decide (∀i,i<n→noneB (U i)=false∧rowBad (R i)=false)
set_option maxRecDepth 100000 in
set_option maxHeartbeats 1000000 in
theorem holds_any(mb n:Nat)(t:Nat→Option Nat)(R:Nat→Nat→Sp)(U I:Nat→Sp)(At Ar Au Ai:Option Addr)(ct cr cu ci:Nat)(hn:n≤10)(x:World)(hM:MR x mb n t R U I At Ar Au Ai ct cr cu ci) :
  Calls Tryd.prog 57 #[.pointer (some ⟨mb,0,none⟩)] x fun e x'=>e = .returned (.bool (holdsB R U n))∧Below x.heap.size x x':=by
 have c3:=hM.c3;have hM':=Lib.hid hM;clear hM
 go_enter Tryd.func57,Tryd.ntmps57
 go_wp2;go_loopw [10] (fun v wr=>∃k:Nat,k≤n∧v = .int .i64 k∧Hid (∀j,j<k→noneB (U j)=false∧rowBad (R j)=false)∧Hid (Below x.heap.size x wr)) (fun v _=>n - (intOf v).toNat)
 case atStart=>exact⟨0,by omega,rfl,fun j h=>absurd h (by omega),Below.refl _ _⟩
 case round=>
  obtain⟨k,hk,rfl,hno,hB⟩:=hrel;by_cases hlt:k<n
  ·have hMr:=hM'.out.below hB.out;obtain⟨bi,oi,rfl,hbi,hri⟩:=hMr.rr.rw_ hlt;obtain⟨bu,ou,rfl,hbu,u0,u1⟩:=hMr.ru.sp (m:=n) hlt;have c4:=hMr.c4;have hlti:(k:Int)<(n:Int):=(by omega);have k0:(0:Int)≤(k:Int):=(by omega);have r0:wr.cell? ⟨bi,oi+k*14,none⟩=some (.int .i64 (R k 0).1):=hri 0 _ rfl;have r1:wr.cell? ⟨bi,oi+k*14+1,none⟩=some (.int .i64 (R k 0).2):=hri 1 _ rfl;have r2:wr.cell? ⟨bi,oi+k*14+2,none⟩=some (.int .i64 (R k 1).1):=hri 2 _ rfl;have r3:wr.cell? ⟨bi,oi+k*14+3,none⟩=some (.int .i64 (R k 1).2):=hri 3 _ rfl;have r4:wr.cell? ⟨bi,oi+k*14+4,none⟩=some (.int .i64 (R k 2).1):=hri 4 _ rfl;have r5:wr.cell? ⟨bi,oi+k*14+5,none⟩=some (.int .i64 (R k 2).2):=hri 5 _ rfl;have r6:wr.cell? ⟨bi,oi+k*14+6,none⟩=some (.int .i64 (R k 3).1):=hri 6 _ rfl;have r7:wr.cell? ⟨bi,oi+k*14+7,none⟩=some (.int .i64 (R k 3).2):=hri 7 _ rfl;have r8:wr.cell? ⟨bi,oi+k*14+8,none⟩=some (.int .i64 (R k 4).1):=hri 8 _ rfl;have r9:wr.cell? ⟨bi,oi+k*14+9,none⟩=some (.int .i64 (R k 4).2):=hri 9 _ rfl;have r10:wr.cell? ⟨bi,oi+k*14+10,none⟩=some (.int .i64 (R k 5).1):=hri 10 _ rfl;have r11:wr.cell? ⟨bi,oi+k*14+11,none⟩=some (.int .i64 (R k 5).2):=hri 11 _ rfl;have r12:wr.cell? ⟨bi,oi+k*14+12,none⟩=some (.int .i64 (R k 6).1):=hri 12 _ rfl;have r13:wr.cell? ⟨bi,oi+k*14+13,none⟩=some (.int .i64 (R k 6).2):=hri 13 _ rfl;have hsz:=hB.out.size;have hml:=hMr.lt;obtain⟨z,hz⟩:∃z,z=wr.alloc (.cells #[.int .i64 (R k 0).1,.int .i64 (R k 0).2,.int .i64 (R k 1).1,.int .i64 (R k 1).2,.int .i64 (R k 2).1,.int .i64 (R k 2).2,.int .i64 (R k 3).1,.int .i64 (R k 3).2,.int .i64 (R k 4).1,.int .i64 (R k 4).2,.int .i64 (R k 5).1,.int .i64 (R k 5).2,.int .i64 (R k 6).1,.int .i64 (R k 6).2] 107):=⟨_,rfl⟩
   have hzO:=heap_alloc_new wr (.cells #[.int .i64 (R k 0).1,.int .i64 (R k 0).2,.int .i64 (R k 1).1,.int .i64 (R k 1).2,.int .i64 (R k 2).1,.int .i64 (R k 2).2,.int .i64 (R k 3).1,.int .i64 (R k 3).2,.int .i64 (R k 4).1,.int .i64 (R k 4).2,.int .i64 (R k 5).1,.int .i64 (R k 5).2,.int .i64 (R k 6).1,.int .i64 (R k 6).2] 107);have hwz:Below wr.heap.size wr z:=(by rw[hz];exact(Below.refl _ _).alloc (Nat.le_refl _) _);have hzs:wr.heap.size<z.heap.size:=(by rw[hz];simp);rw[←hz] at hzO;have hBz:Hid (Below x.heap.size x z):=Lib.hid (hB.out.trans (hwz.mono hsz));have hNU:=Lib.hid (none_any (U k) z);have HCS:=Lib.hid (fun w1 (h1:Below z.heap.size z w1)=>containsS_any (R k) wr.heap.size 7 w1 (Nat.lt_of_lt_of_le hzs h1.size) (fun j hj=>by
    obtain⟨a0,a1⟩:=row14 hzO hj
    exact⟨(h1.cell (by simp only;omega)).trans a0,(h1.cell (by simp only;omega)).trans a1⟩))
   have c4z:=(hwz.cell (p:=⟨mb,4,none⟩) hml).trans c4;have u0z:=(hwz.cell (p:=⟨bu,ou+k*2,none⟩) hbu).trans u0;have u1z:=(hwz.cell (p:=⟨bu,ou+k*2+1,none⟩) hbu).trans u1;rw[hz] at c4z u0z u1z;clear hMr hri hzO hwz u0 u1 c4;cases hu:noneB (U k)
   ·rw[hu] at hNU;(go_wp2_with fail);rw[←hz];refine hNU.out.mono ?_;rintro e w1 ⟨rfl,hb1⟩;have hB1:Hid (Below x.heap.size x w1):=Lib.hid (hBz.out.trans (hb1.mono (hBz.out.size)));have HC1:=Lib.hid (HCS.out w1 hb1);clear hb1 HCS;cases hr:rowBad (R k)
    ·rw[hr] at HC1;have hnx:Hid (∀j,j<k+1→noneB (U j)=false∧rowBad (R j)=false):=by
      intro j hj;by_cases hjk:j=k
      ·subst hjk;exact⟨hu,hr⟩
      ·exact hno.out j (by omega)
     clear hno hu hr c4z u0z u1z;(go_wp2_with fail);refine HC1.out.mono ?_;rintro e w2 ⟨rfl,hb2⟩;have hB2:Hid (Below x.heap.size x w2):=Lib.hid (hB1.out.trans (hb2.mono (hB1.out.size)));clear hb2;go_wp2;go_roundw
     case rel=>exact⟨k+1,by omega,by go_num,hnx,hB2⟩
     case measure=>simp[intOf];omega
    ·rw[hr] at HC1;have hres:Hid (holdsB R U n=false):=by
      show _=_;exact decide_eq_false fun h=>by have:=(h k hlt).2;rw[hr] at this;cases this
     clear hno hu hr c4z u0z u1z;(go_wp2_with fail);refine HC1.out.mono ?_;rintro e w2 ⟨rfl,hb2⟩;have hB2:Hid (Below x.heap.size x w2):=Lib.hid (hB1.out.trans (hb2.mono (hB1.out.size)));clear hb2;go_wp2;go_ret;exact⟨ret_bool hres.out.symm,hB2.out⟩
   ·rw[hu] at hNU;have hres:Hid (holdsB R U n=false):=by
     show _=_;exact decide_eq_false fun h=>by have:=(h k hlt).1;rw[hu] at this;cases this
    clear hno hu HCS;(go_wp2_with fail);rw[←hz];refine hNU.out.mono ?_;rintro e w1 ⟨rfl,hb1⟩;have hB1:Hid (Below x.heap.size x w1):=Lib.hid (hBz.out.trans (hb1.mono (hBz.out.size)));clear hb1 c4z u0z u1z;go_wp2;go_ret;exact⟨ret_bool hres.out.symm,hB1.out⟩
  ·have hres:Hid (holdsB R U n=true):=by
    show _=_;exact decide_eq_true fun i hi=>hno.out i (by omega)
   clear hno;go_wp2;go_ret;exact⟨ret_bool hres.out.symm,hB.out⟩
end Go.Proofs.YtfplipbkjglmhaaDoor
