/-
 The walk of what tells what can go in, and what the parings can be, by what comes before.
-/
import Derived.Test.YtfplipbkjglmhaaDoorTk
import Derived.Test.YtfplipbkjglmhaaDoorTq
import Derived.Test.YtfplipbkjglmhaaDoorCst
import Derived.Deep.DeepCutAuto
import Derived.Deep.CutRange
namespace Go.Proofs.YtfplipbkjglmhaaDoor
open Go.RowKit
set_option linter.unusedVariables false
set_option linter.unusedSimpArgs false
theorem rd_two{w:World}{b:Nat}{u v:Int}{t:TypeId}(h:w.heap[b]? = some (.cells #[.int .i64 u,.int .i64 v] t (0,0))):Reads w w.heap.size 2 (some ⟨b,0,none⟩) 1 (spc (u,v)):=by
 refine⟨rfl,fun _=>⟨b,0,rfl,(Array.getElem?_eq_some_iff.1 h).1,fun j u hu=>?_⟩⟩;have hj:j<2:=(List.getElem?_eq_some_iff.1 hu).1;rcases (by omega:j=0∨j=1) with rfl|rfl
 ·simp only[spc,List.getElem?_cons_zero,Option.some.injEq] at hu;subst hu;simp[World.cell?,h]
 ·simp[spc] at hu;subst hu;simp[World.cell?,h]
set_option maxRecDepth 100000 in
set_option maxHeartbeats 8000000 in
theorem carry_any(mb n:Nat)(t:Nat→Option Nat)(R:Nat→Nat→Sp)(hF:Fwd n t)(hR:SmR R n)(hn:n≤10)(vp vw vU0 vI0:Value)(At Ar:Option Addr)(ct cr:Nat)(x:World)
  (hm:x.heap[mb]? = some (.cells #[vp,vw,.slice At n ct,.slice Ar n cr,vU0,vI0] 111 (0,0))) (rt:RdX [mb] x x.heap.size 1 At n (ints (tos t n))) (rr:RdX [mb] x x.heap.size 14 Ar n (rws R n)) :
  Calls Tryd.prog 59 #[.pointer (some ⟨mb,0,none⟩)] x fun e x'=>(∃v,e = .returned v)∧∃vU gI,CSt x x' mb gI n vp vw (.slice At n ct) (.slice Ar n cr) vU n (upP t R) (intoP t R):=by
 have hlt:mb<x.heap.size:=(Array.getElem?_eq_some_iff.1 hm).1;have hmk:=make_sps n (by omega);obtain⟨j0,hj,hj0,hj1,hj2⟩:=info_parts info_sp;have HST:Hid (∀z:World,(fun _:World=>True) z):=fun _=>trivial
 go_enter Tryd.func59,Tryd.ntmps59
 go_wp2_with fail
 go_cut [] (fun wx=>∃wl,wl=wx∧∃gI,CSt x wl mb gI n vp vw (.slice At n ct) (.slice Ar n cr) (.slice none 0 0) 0 (upP t R) (inF t R (upP t R) 0))
 case first=>
  obtain⟨S,hSd⟩:∃S:World→Prop,S=fun _=>True:=⟨_,rfl⟩;have HST:Hid (∀z:World,S z):=(by intro z;rw[hSd];trivial);refine wp_region_held_drew (S:=S) (by kernel_rfl) ?_ (fun hHeld=>?_)
  ·exact HST.out _
  have hKPyd:Hid (Kp x.heap.size [mb] x x.drew):=Lib.hid (Kp.refl _ _ _).drew;have hSZyd:x.heap.size≤x.drew.heap.size:=Nat.le_refl _;have hm:=keepO (Below.refl x.heap.size x).drew hm;generalize x.drew=yd at *;refine tY (v:=?_) 0 6 ?_ ?_;rotate_left
  ·intro w hSw;go_simp;(try with_reducible rfl)
  (try simp only[N0]);refine tY (v:=?_) 1 7 ?_ ?_;rotate_left
  ·intro w hSw;go_simp;(try with_reducible rfl)
  (try simp only[N0]);refine tY (v:=?_) 2 8 ?_ ?_;rotate_left
  ·intro w hSw;go_simp;(try with_reducible rfl)
  (try simp only[N0]);refine tY (v:=?_) 3 9 ?_ ?_;rotate_left
  ·intro w hSw;go_simp;(try with_reducible rfl)
  (try simp only[N0]);refine tY (v:=?_) 4 10 ?_ ?_;rotate_left
  ·intro w hSw;go_simp;(try with_reducible rfl)
  try simp only[N0]
  iterate 5
   all_goals first
    |refine U1 5 ?_
    |refine U2 7 10 ?_ ?_
    |refine U1 10 ?_
    |refine U1 7 ?_
    |refine U1 11 ?_
    |refine U1 13 ?_
   all_goals first
    |intro (t:Tag 5) Kq hK
     clear t;obtain⟨e1,e3,e4,e5,g4,g5⟩:=facts6 hm;go_simp;clear e1 e3 e4 e5 g4 g5;refine hK.out _ _ ?_ (fun hHeld=>?_)
     ·exact HST.out _
     clear hK Kq;(try simp only[N0]);refine tY (v:=?_) 6 12 ?_ ?_;rotate_left
     ·intro w hSw;go_simp;(try with_reducible rfl)
     (try simp only[N0]);refine tY (v:=?_) 8 14 ?_ ?_;rotate_left
     ·intro w hSw;go_simp;(try with_reducible rfl)
     (try simp only[N0]);refine tY (v:=?_) 9 15 ?_ ?_;rotate_left
     ·intro w hSw;go_simp;(try with_reducible rfl)
     try simp only[N0]
    |intro (t:Tag 7) Kq hK
     clear t;go_simp;(try rw[hmk]);(try go_simp);obtain⟨ngI,hn_⟩:∃q,q=yd.heap.size:=⟨_,rfl⟩;have hOI:=heap_alloc_new yd (.cells (madeCells #[.int .i64 0,.int .i64 0] (n*2)) 36);have hgI:=hSZyd;rw[←hn_] at hOI hgI;have hbA:=(Below.refl yd.heap.size yd).alloc (Nat.le_refl _) (.cells (madeCells #[.int .i64 0,.int .i64 0] (n*2)) 36);replace hm:=keepO hbA hm;replace hKPyd:=Lib.hid (hKPyd.out.alloc hSZyd (.cells (madeCells #[.int .i64 0,.int .i64 0] (n*2)) 36));replace hSZyd:=Nat.le_trans hSZyd hbA.size;clear hbA;generalize (yd.alloc (.cells (madeCells #[.int .i64 0,.int .i64 0] (n*2)) 36))=yd at *;refine hK.out _ _ ?_ (fun hHeld=>?_)
     ·exact HST.out _
     clear hK Kq;(try simp only[N0]);(try rw[←hn_]);clear hn_
    |intro (t:Tag 10) Kq hK
     clear t;obtain⟨e1,e3,e4,e5,g4,g5⟩:=facts6 hm;go_simp;clear e1 e3 e4 e5 g4 g5;replace hm:=set6_4 yd mb _ (.slice none 0 0) _ _ _ _ _ _ hm;(try replace hOI:=(Below.heap_setCell yd ⟨mb,4,none⟩ (.slice none 0 0) _ (by simp only;omega)).trans hOI);replace hKPyd:=Lib.hid (hKPyd.out.set (p:=⟨mb,4,none⟩) (Or.inl (by simp)) (.slice none 0 0));obtain⟨yd,hz_⟩:∃z,z=yd.setCell ⟨mb,4,none⟩ (.slice none 0 0):=⟨_,rfl⟩;rw[←hz_];rw[←hz_] at hm hKPyd;(try rw[←hz_] at hOI);replace hSZyd:=Nat.le_trans hSZyd (show _≤yd.heap.size by rw[hz_];simp);clear hz_;refine hK.out _ _ ?_ (fun hHeld=>?_)
     ·exact HST.out _
     clear hK Kq;try simp only[N0]
    |intro (t:Tag 11) Kq hK
     clear t;go_simp;refine hK.out _ _ ?_ (fun hHeld=>?_)
     ·exact HST.out _
     clear hK Kq;(try simp only[N0]);refine tY (v:=?_) 12 17 ?_ ?_;rotate_left
     ·intro w hSw;go_simp;(try with_reducible rfl)
     try simp only[N0]
    |intro (t:Tag 13) Kq hK
     clear t;obtain⟨e1,e3,e4,e5,g4,g5⟩:=facts6 hm;go_simp;clear e1 e3 e4 e5 g4 g5;replace hm:=set6_5 yd mb _ (.slice (some ⟨ngI,0,none⟩) n n) _ _ _ _ _ _ hm;replace hOI:=(Below.heap_setCell yd ⟨mb,5,none⟩ (.slice (some ⟨ngI,0,none⟩) n n) _ (by simp only;omega)).trans hOI;replace hKPyd:=Lib.hid (hKPyd.out.set (p:=⟨mb,5,none⟩) (Or.inl (by simp)) (.slice (some ⟨ngI,0,none⟩) n n));obtain⟨yd,hz_⟩:∃z,z=yd.setCell ⟨mb,5,none⟩ (.slice (some ⟨ngI,0,none⟩) n n):=⟨_,rfl⟩;rw[←hz_];rw[←hz_] at hm hKPyd;rw[←hz_] at hOI;replace hSZyd:=Nat.le_trans hSZyd (show _≤yd.heap.size by rw[hz_];simp);clear hz_;refine hK.out _ _ ?_ (fun hHeld=>?_)
     ·exact HST.out _
     clear hK Kq;try simp only[N0]
  all_goals
   refine wpAnyH_done (by kernel_rfl) ?_ _;(go_wp2_with fail);go_meet;exact⟨_,rfl,_,(CSt.start (upP t R) hm hOI hKPyd.out hlt hgI).congr (fun j _=>inF_0 t R (upP t R) j)⟩
 case rest=>
  obtain⟨wl,rfl,gI,hC0⟩:=‹∃wl,wl=_∧_›;obtain⟨m1,m2,m3,m4,m5,f4⟩:=hC0.cells;have hC0':=Lib.hid hC0;have hrt:=Lib.hid rt;have hrr:=Lib.hid rr;have hR':=Lib.hid hR;have hF':=Lib.hid hF;clear hC0 rt rr hm hR hF;(go_wp2_with fail);clear m1 m2 m3 m4 m5 f4;go_loopw [23] (fun v wr=>∃k:Nat,k≤n∧v = .int .i64 k∧∃vU,Hid (CSt x wr mb gI n vp vw (.slice At n ct) (.slice Ar n cr) vU k (upP t R) (inF t R (upP t R) k))) (fun v _=>n - (intOf v).toNat)
  case atStart=>exact⟨0,by omega,rfl,_,hC0'⟩
  case round=>
   clear hC0';obtain⟨k,hk,rfl,vU,hCr⟩:=hrel;by_cases hlt2:k<n
   ·have hki:(k:Int)<(n:Int):=(by omega);have k0:(0:Int)≤(k:Int):=(by omega);obtain⟨br,or,rfl,hbr,hri⟩:=(hrr.out.keep hCr.out.kp (Nat.le_refl _) (by simp)).1.rw_ hlt2;have r0:wr.cell? ⟨br,or+k*14,none⟩=some (.int .i64 (R k 0).1):=hri 0 _ rfl;have r1:wr.cell? ⟨br,or+k*14+1,none⟩=some (.int .i64 (R k 0).2):=hri 1 _ rfl;have r2:wr.cell? ⟨br,or+k*14+2,none⟩=some (.int .i64 (R k 1).1):=hri 2 _ rfl;have r3:wr.cell? ⟨br,or+k*14+3,none⟩=some (.int .i64 (R k 1).2):=hri 3 _ rfl;have r4:wr.cell? ⟨br,or+k*14+4,none⟩=some (.int .i64 (R k 2).1):=hri 4 _ rfl;have r5:wr.cell? ⟨br,or+k*14+5,none⟩=some (.int .i64 (R k 2).2):=hri 5 _ rfl;have r6:wr.cell? ⟨br,or+k*14+6,none⟩=some (.int .i64 (R k 3).1):=hri 6 _ rfl;have r7:wr.cell? ⟨br,or+k*14+7,none⟩=some (.int .i64 (R k 3).2):=hri 7 _ rfl;have r8:wr.cell? ⟨br,or+k*14+8,none⟩=some (.int .i64 (R k 4).1):=hri 8 _ rfl;have r9:wr.cell? ⟨br,or+k*14+9,none⟩=some (.int .i64 (R k 4).2):=hri 9 _ rfl;have r10:wr.cell? ⟨br,or+k*14+10,none⟩=some (.int .i64 (R k 5).1):=hri 10 _ rfl;have r11:wr.cell? ⟨br,or+k*14+11,none⟩=some (.int .i64 (R k 5).2):=hri 11 _ rfl;have r12:wr.cell? ⟨br,or+k*14+12,none⟩=some (.int .i64 (R k 6).1):=hri 12 _ rfl;have r13:wr.cell? ⟨br,or+k*14+13,none⟩=some (.int .i64 (R k 6).2):=hri 13 _ rfl;have hzO:=heap_alloc_new wr (.cells #[.int .i64 (R k 0).1,.int .i64 (R k 0).2,.int .i64 (R k 1).1,.int .i64 (R k 1).2,.int .i64 (R k 2).1,.int .i64 (R k 2).2,.int .i64 (R k 3).1,.int .i64 (R k 3).2,.int .i64 (R k 4).1,.int .i64 (R k 4).2,.int .i64 (R k 5).1,.int .i64 (R k 5).2,.int .i64 (R k 6).1,.int .i64 (R k 6).2] 107)
    have hzB:=(Below.refl wr.heap.size wr).alloc (Nat.le_refl _) (.cells #[.int .i64 (R k 0).1,.int .i64 (R k 0).2,.int .i64 (R k 1).1,.int .i64 (R k 1).2,.int .i64 (R k 2).1,.int .i64 (R k 2).2,.int .i64 (R k 3).1,.int .i64 (R k 3).2,.int .i64 (R k 4).1,.int .i64 (R k 4).2,.int .i64 (R k 5).1,.int .i64 (R k 5).2,.int .i64 (R k 6).1,.int .i64 (R k 6).2] 107);have hC:=hCr.out.below hzB;have hrg:wr.heap.size≠gI:=(Nat.ne_of_lt hCr.out.into.lt).symm;have hrx:x.heap.size≤wr.heap.size:=hCr.out.kp.size;have hgx:=hC.g;have hs1:=Lib.hid (inF_sml (t:=t) (j:=k) hR'.out hn hlt2 hk);have hsR:Hid (∀j,j<7→Sml (R k j)):=(by intro j hj;have:=hR'.out k j hlt2 hj;unfold Sml;omega);have hs2:=Lib.hid (hsR.out 1 (by omega));have hRk:Hid (SmF (R k)):=fun j hj=>hR'.out k j hlt2 hj;have hs3:=Lib.hid (inG_sml (t:=t) (j:=k) hR'.out hn hlt2 hlt2);have hs4:Hid (Sml (rest1 (R k) 4)):=(by have:=rest1_sml hRk.out 4 (Nat.le_refl _);show Sml _;unfold Sml;omega);have hU:Hid (upP t R k=(both (minus (inG t R (upP t R) k k) (rest1 (R k) 4)) (R k 6))):=(by show _=_;rw[upP_eq];unfold recS inG;rw[if_pos rfl];rfl);clear hri hzB hsR;obtain⟨z,hz⟩:∃z,z=wr.alloc (.cells #[.int .i64 (R k 0).1,.int .i64 (R k 0).2,.int .i64 (R k 1).1,.int .i64 (R k 1).2,.int .i64 (R k 2).1,.int .i64 (R k 2).2,.int .i64 (R k 3).1,.int .i64 (R k 3).2,.int .i64 (R k 4).1,.int .i64 (R k 4).2,.int .i64 (R k 5).1,.int .i64 (R k 5).2,.int .i64 (R k 6).1,.int .i64 (R k 6).2] 107):=⟨_,rfl⟩;rw[←hz] at hC hzO;go_wp2_with fail
    rw[←hz];generalize hrb:wr.heap.size=rb at *;have hR3:=hzO;clear hz hzO hCr hrb r0 r1 r2 r3 r4 r5 r6 r7 r8 r9 r10 r11 r12 r13;obtain⟨m1,m2,m3,m4,m5,f4⟩:=hC.cells;obtain⟨q0,q1,q2,q3,q4,q5,q6,q7,q8,q9,q10,q11,q12,q13,-⟩:=facts14 hR3;have hrz:rb<z.heap.size:=(Array.getElem?_eq_some_iff.1 hR3).1;have hmz:mb<z.heap.size:=(by have:=hC.kp.size;omega);have HQ:=Lib.hid (fun w' (hz:Hid (Kp z.heap.size [gI] z w'))=>(⟨(hz.out.cell (by simp only;omega) (by simp;try omega)).trans m5,(hz.out.cell (by simp only;omega) (by simp;try omega)).trans q2,(hz.out.cell (by simp only;omega) (by simp;try omega)).trans q3⟩:w'.cell? ⟨mb,5,none⟩=some (.slice (some ⟨gI,0,none⟩) n n)∧w'.cell? ⟨rb,2,none⟩=some (.int .i64 (R k 1).1)∧w'.cell? ⟨rb,3,none⟩=some (.int .i64 (R k 1).2)));obtain⟨S,hSd⟩:∃S:World→Prop,S=fun w'=>(w'.cell? ⟨mb,5,none⟩=some (.slice (some ⟨gI,0,none⟩) n n)∧w'.cell? ⟨rb,2,none⟩=some (.int .i64 (R k 1).1)∧w'.cell? ⟨rb,3,none⟩=some (.int .i64 (R k 1).2))∧Hid (Kp z.heap.size [gI] z w'):=⟨_,rfl⟩
    have HS:=Lib.hid (fun w' (hz:Hid (Kp z.heap.size [gI] z w'))=>(by rw[hSd];exact⟨HQ.out w' hz,hz⟩:S w'));clear m1 m2 m3 m4 m5 f4 q0 q1 q2 q3 q4 q5 q6 q7 q8 q9 q10 q11 q12 q13;refine wp_region_held_drew (S:=S) (by kernel_rfl) ?_ (fun hHeld=>?_)
    ·exact HS.out _ (Lib.hid (Kp.refl _ _ _).drew)
    have hKyd:Hid (Kp z.heap.size [gI] z z.drew):=Lib.hid (Kp.refl _ _ _).drew;have hSyd:z.heap.size≤z.drew.heap.size:=Nat.le_refl _;have hR3:=keepO (Below.refl z.heap.size z).drew hR3;have hC:=hC.drew;generalize z.drew=yd at *;refine tY (v:=?_) 0 28 ?_ ?_;rotate_left
    ·intro w hSw;rw[hSd] at hSw;obtain⟨⟨qm,q0,q1⟩,-⟩:=hSw;go_simp;(try with_reducible rfl)
    (try simp only[N0]);refine tY (v:=?_) 1 29 ?_ ?_;rotate_left
    ·intro w hSw;rw[hSd] at hSw;obtain⟨⟨qm,q0,q1⟩,-⟩:=hSw;go_simp;(try with_reducible rfl)
    (try simp only[N0]);refine tY (v:=?_) 2 30 ?_ ?_;rotate_left
    ·intro w hSw;rw[hSd] at hSw;obtain⟨⟨qm,q0,q1⟩,-⟩:=hSw;go_simp;(try with_reducible rfl)
    (try simp only[N0]);refine tY (v:=?_) 3 31 ?_ ?_;rotate_left
    ·intro w hSw;rw[hSd] at hSw;obtain⟨⟨qm,q0,q1⟩,-⟩:=hSw;go_simp;(try with_reducible rfl)
    (try simp only[N0]);refine tY (v:=?_) 4 32 ?_ ?_;rotate_left
    ·intro w hSw;rw[hSd] at hSw;obtain⟨⟨qm,q0,q1⟩,-⟩:=hSw;go_simp;(try with_reducible rfl)
    (try simp only[N0]);refine tY (v:=?_) 5 33 ?_ ?_;rotate_left
    ·intro w hSw;rw[hSd] at hSw;obtain⟨⟨qm,q0,q1⟩,-⟩:=hSw;go_simp;(try with_reducible rfl)
    (try simp only[N0]);refine tY (v:=?_) 6 34 ?_ ?_;rotate_left
    ·intro w hSw;rw[hSd] at hSw;obtain⟨⟨qm,q0,q1⟩,-⟩:=hSw;go_simp;(try with_reducible rfl)
    (try simp only[N0]);refine tY (v:=?_) 7 35 ?_ ?_;rotate_left
    ·intro w hSw;rw[hSd] at hSw;obtain⟨⟨qm,q0,q1⟩,-⟩:=hSw;go_simp;(try with_reducible rfl)
    (try simp only[N0]);refine tY (v:=?_) 8 36 ?_ ?_;rotate_left
    ·intro w hSw;rw[hSd] at hSw;obtain⟨⟨qm,q0,q1⟩,-⟩:=hSw;go_simp;(try with_reducible rfl)
    (try simp only[N0]);refine tY (v:=?_) 9 37 ?_ ?_;rotate_left
    ·intro w hSw;rw[hSd] at hSw;obtain⟨⟨qm,q0,q1⟩,-⟩:=hSw;go_simp;(try with_reducible rfl)
    (try simp only[N0]);refine tY (v:=?_) 10 38 ?_ ?_;rotate_left
    ·intro w hSw;rw[hSd] at hSw;obtain⟨⟨qm,q0,q1⟩,-⟩:=hSw;go_simp;(try with_reducible rfl)
    (try simp only[N0]);refine tY (v:=?_) 12 40 ?_ ?_;rotate_left
    ·intro w hSw;rw[hSd] at hSw;obtain⟨⟨qm,q0,q1⟩,-⟩:=hSw;go_simp;(try with_reducible rfl)
    (try simp only[N0]);refine tY (v:=?_) 13 41 ?_ ?_;rotate_left
    ·intro w hSw;rw[hSd] at hSw;obtain⟨⟨qm,q0,q1⟩,-⟩:=hSw;go_simp;(try with_reducible rfl)
    (try simp only[N0]);refine Q1 11 ?_;intro _ Kq hK;obtain⟨i0',i1',-,-⟩:=hC.at_ hlt2;go_simp;refine hK.out _ _ ?_ (fun hHeld=>?_)
    ·exact HS.out _ hKyd
    clear hK Kq;(try simp only[N0]);refine Q1 14 ?_;intro _ Kq hK;go_simp;refine(plus_any (inF t R (upP t R) k k) (R k 1) hs1.out hs2.out _).mono ?_;rintro e yd ⟨rfl,hb⟩;replace hKyd:=Lib.hid (hKyd.out.call hSyd hb);replace hR3:=keepO hb hR3;replace hSyd:=Nat.le_trans hSyd hb.size;have hC:=hC.below hb;clear hb;(try go_simp);refine hK.out _ _ ?_ (fun hHeld=>?_)
    ·exact HS.out _ hKyd
    clear hK Kq;(try simp only[N0]);refine Q1 15 ?_;intro _ Kq hK;go_simp;refine hK.out _ _ ?_ (fun hHeld=>?_)
    ·exact HS.out _ hKyd
    clear hK Kq;(try simp only[N0]);refine Q1 16 ?_;intro _ Kq hK;obtain⟨i0',i1',g0',g1'⟩:=hC.at_ hlt2;go_simp;replace hR3:=((Below.heap_setCell (yd.setCell ⟨gI,k*2,none⟩ (.int .i64 (plus (inF t R (upP t R) k k) (R k 1)).1)) ⟨gI,k*2+1,none⟩ (.int .i64 (plus (inF t R (upP t R) k k) (R k 1)).2) _ (by simp only;omega)).trans ((Below.heap_setCell yd ⟨gI,k*2,none⟩ (.int .i64 (plus (inF t R (upP t R) k k) (R k 1)).1) _ (by simp only;omega)).trans hR3));replace hKyd:=Lib.hid ((hKyd.out.set (p:=⟨gI,k*2,none⟩) (Or.inl (by simp)) (.int .i64 (plus (inF t R (upP t R) k k) (R k 1)).1)).set (p:=⟨gI,k*2+1,none⟩) (Or.inl (by simp)) (.int .i64 (plus (inF t R (upP t R) k k) (R k 1)).2));have hC:=hC.put k (plus (inF t R (upP t R) k k) (R k 1));obtain⟨yd,hz_⟩:∃z,z=((yd.setCell ⟨gI,k*2,none⟩ (.int .i64 (plus (inF t R (upP t R) k k) (R k 1)).1)).setCell ⟨gI,k*2+1,none⟩ (.int .i64 (plus (inF t R (upP t R) k k) (R k 1)).2)):=⟨_,rfl⟩;rw[←hz_];rw[←hz_] at hR3 hKyd;rw[←hz_] at hC;replace hSyd:=Nat.le_trans hSyd (show _≤yd.heap.size by rw[hz_];simp);clear hz_;refine hK.out _ _ ?_ (fun hHeld=>?_)
    ·exact HS.out _ hKyd
    clear hK Kq;(try simp only[N0]);refine wpAnyH_done (by kernel_rfl) ?_ _;have hC:=hC.congr (fun j _=>inG_eq t R (upP t R) k j);clear HS hKyd HQ hSd;generalize yd=z4 at *;go_wp2_with fail
    go_cut [4] from 24 to 91 (fun s wx=>∃wl,wl=wx∧∃sb,s = .pointer (some ⟨sb,0,none⟩)∧CSt x wl mb gI n vp vw (.slice At n ct) (.slice (some ⟨br,or,none⟩) n cr) vU k (upP t R) (inG t R (upP t R) k)∧wl.heap[sb]? = some (.cells #[.int .i64 (upP t R k).1,.int .i64 (upP t R k).2] 36 (0,0))∧x.heap.size≤sb∧sb≠gI∧(∀q,vU.ownBlock=some q→q≠sb))
    case first=>
     obtain⟨m1,m2,m3,m4,m5,f4⟩:=hC.cells;obtain⟨q0,q1,q2,q3,q4,q5,q6,q7,q8,q9,q10,q11,q12,q13,-⟩:=facts14 hR3;obtain⟨i0',i1',-,-⟩:=hC.at_ hlt2;have hrz:rb<z4.heap.size:=(Array.getElem?_eq_some_iff.1 hR3).1;have hmz:mb<z4.heap.size:=(by have:=hC.kp.size;omega);have hgz:gI<z4.heap.size:=hC.into.lt;have HQ:=Lib.hid (fun w' (hz:Hid (Kp z4.heap.size [] z4 w'))=>(⟨(hz.out.cell (by simp only;omega) (by simp;try omega)).trans m5,(hz.out.cell (by simp only;omega) (by simp;try omega)).trans i0',(hz.out.cell (by simp only;omega) (by simp;try omega)).trans i1',(hz.out.cell (by simp only;omega) (by simp;try omega)).trans q0,(hz.out.cell (by simp only;omega) (by simp;try omega)).trans q1,(hz.out.cell (by simp only;omega) (by simp;try omega)).trans q2,(hz.out.cell (by simp only;omega) (by simp;try omega)).trans q3,(hz.out.cell (by simp only;omega) (by simp;try omega)).trans q4,(hz.out.cell (by simp only;omega) (by simp;try omega)).trans q5,(hz.out.cell (by simp only;omega) (by simp;try omega)).trans q6,(hz.out.cell (by simp only;omega) (by simp;try omega)).trans q7,(hz.out.cell (by simp only;omega) (by simp;try omega)).trans q8,(hz.out.cell (by simp only;omega) (by simp;try omega)).trans q9,(hz.out.cell (by simp only;omega) (by simp;try omega)).trans q10,(hz.out.cell (by simp only;omega) (by simp;try omega)).trans q11,(hz.out.cell (by simp only;omega) (by simp;try omega)).trans q12,(hz.out.cell (by simp only;omega) (by simp;try omega)).trans q13⟩:w'.cell? ⟨mb,5,none⟩=some (.slice (some ⟨gI,0,none⟩) n n)∧w'.cell? ⟨gI,k*2,none⟩=some (.int .i64 (inG t R (upP t R) k k).1)∧w'.cell? ⟨gI,k*2+1,none⟩=some (.int .i64 (inG t R (upP t R) k k).2)∧w'.cell? ⟨rb,0,none⟩=some (.int .i64 (R k 0).1)∧w'.cell? ⟨rb,1,none⟩=some (.int .i64 (R k 0).2)∧w'.cell? ⟨rb,2,none⟩=some (.int .i64 (R k 1).1)∧w'.cell? ⟨rb,3,none⟩=some (.int .i64 (R k 1).2)∧w'.cell? ⟨rb,4,none⟩=some (.int .i64 (R k 2).1)∧w'.cell? ⟨rb,5,none⟩=some (.int .i64 (R k 2).2)∧w'.cell? ⟨rb,6,none⟩=some (.int .i64 (R k 3).1)∧w'.cell? ⟨rb,7,none⟩=some (.int .i64 (R k 3).2)∧w'.cell? ⟨rb,8,none⟩=some (.int .i64 (R k 4).1)∧w'.cell? ⟨rb,9,none⟩=some (.int .i64 (R k 4).2)∧w'.cell? ⟨rb,10,none⟩=some (.int .i64 (R k 5).1)∧w'.cell? ⟨rb,11,none⟩=some (.int .i64 (R k 5).2)∧w'.cell? ⟨rb,12,none⟩=some (.int .i64 (R k 6).1)∧w'.cell? ⟨rb,13,none⟩=some (.int .i64 (R k 6).2)))
     obtain⟨S,hSd⟩:∃S:World→Prop,S=fun w'=>(w'.cell? ⟨mb,5,none⟩=some (.slice (some ⟨gI,0,none⟩) n n)∧w'.cell? ⟨gI,k*2,none⟩=some (.int .i64 (inG t R (upP t R) k k).1)∧w'.cell? ⟨gI,k*2+1,none⟩=some (.int .i64 (inG t R (upP t R) k k).2)∧w'.cell? ⟨rb,0,none⟩=some (.int .i64 (R k 0).1)∧w'.cell? ⟨rb,1,none⟩=some (.int .i64 (R k 0).2)∧w'.cell? ⟨rb,2,none⟩=some (.int .i64 (R k 1).1)∧w'.cell? ⟨rb,3,none⟩=some (.int .i64 (R k 1).2)∧w'.cell? ⟨rb,4,none⟩=some (.int .i64 (R k 2).1)∧w'.cell? ⟨rb,5,none⟩=some (.int .i64 (R k 2).2)∧w'.cell? ⟨rb,6,none⟩=some (.int .i64 (R k 3).1)∧w'.cell? ⟨rb,7,none⟩=some (.int .i64 (R k 3).2)∧w'.cell? ⟨rb,8,none⟩=some (.int .i64 (R k 4).1)∧w'.cell? ⟨rb,9,none⟩=some (.int .i64 (R k 4).2)∧w'.cell? ⟨rb,10,none⟩=some (.int .i64 (R k 5).1)∧w'.cell? ⟨rb,11,none⟩=some (.int .i64 (R k 5).2)∧w'.cell? ⟨rb,12,none⟩=some (.int .i64 (R k 6).1)∧w'.cell? ⟨rb,13,none⟩=some (.int .i64 (R k 6).2))∧Hid (Kp z4.heap.size [] z4 w'):=⟨_,rfl⟩
     have HS:=Lib.hid (fun w' (hz:Hid (Kp z4.heap.size [] z4 w'))=>(by rw[hSd];exact⟨HQ.out w' hz,hz⟩:S w'));clear m1 m2 m3 m4 m5 f4 q0 q1 q2 q3 q4 q5 q6 q7 q8 q9 q10 q11 q12 q13 i0' i1';refine wp_region_held_drew (S:=S) (by kernel_rfl) ?_ (fun hHeld=>?_)
     ·exact HS.out _ (Lib.hid (Kp.refl _ _ _).drew)
     have hKyd:Hid (Kp z4.heap.size [] z4 z4.drew):=Lib.hid (Kp.refl _ _ _).drew;have hSyd:z4.heap.size≤z4.drew.heap.size:=Nat.le_refl _;have hC:=hC.drew;generalize z4.drew=yd at *;refine tY (v:=?_) 0 44 ?_ ?_;rotate_left
     ·intro w hSw;rw[hSd] at hSw;obtain⟨⟨qm,i0',i1',q0,q1,q2,q3,q4,q5,q6,q7,q8,q9,q10,q11,q12,q13⟩,-⟩:=hSw;go_simp;(try with_reducible rfl)
     (try simp only[N0]);refine tY (v:=?_) 1 45 ?_ ?_;rotate_left
     ·intro w hSw;rw[hSd] at hSw;obtain⟨⟨qm,i0',i1',q0,q1,q2,q3,q4,q5,q6,q7,q8,q9,q10,q11,q12,q13⟩,-⟩:=hSw;go_simp;(try with_reducible rfl)
     (try simp only[N0]);refine tY (v:=?_) 2 46 ?_ ?_;rotate_left
     ·intro w hSw;rw[hSd] at hSw;obtain⟨⟨qm,i0',i1',q0,q1,q2,q3,q4,q5,q6,q7,q8,q9,q10,q11,q12,q13⟩,-⟩:=hSw;go_simp;(try with_reducible rfl)
     (try simp only[N0]);refine tY (v:=?_) 3 47 ?_ ?_;rotate_left
     ·intro w hSw;rw[hSd] at hSw;obtain⟨⟨qm,i0',i1',q0,q1,q2,q3,q4,q5,q6,q7,q8,q9,q10,q11,q12,q13⟩,-⟩:=hSw;go_simp;(try with_reducible rfl)
     (try simp only[N0]);refine tY (v:=?_) 4 48 ?_ ?_;rotate_left
     ·intro w hSw;rw[hSd] at hSw;obtain⟨⟨qm,i0',i1',q0,q1,q2,q3,q4,q5,q6,q7,q8,q9,q10,q11,q12,q13⟩,-⟩:=hSw;go_simp;(try with_reducible rfl)
     (try simp only[N0]);refine tY (v:=?_) 5 49 ?_ ?_;rotate_left
     ·intro w hSw;rw[hSd] at hSw;obtain⟨⟨qm,i0',i1',q0,q1,q2,q3,q4,q5,q6,q7,q8,q9,q10,q11,q12,q13⟩,-⟩:=hSw;go_simp;(try with_reducible rfl)
     (try simp only[N0]);refine tY (v:=?_) 6 50 ?_ ?_;rotate_left
     ·intro w hSw;rw[hSd] at hSw;obtain⟨⟨qm,i0',i1',q0,q1,q2,q3,q4,q5,q6,q7,q8,q9,q10,q11,q12,q13⟩,-⟩:=hSw;go_simp;(try with_reducible rfl)
     (try simp only[N0]);refine tY (v:=?_) 7 51 ?_ ?_;rotate_left
     ·intro w hSw;rw[hSd] at hSw;obtain⟨⟨qm,i0',i1',q0,q1,q2,q3,q4,q5,q6,q7,q8,q9,q10,q11,q12,q13⟩,-⟩:=hSw;go_simp;(try with_reducible rfl)
     (try simp only[N0]);refine tY (v:=?_) 10 54 ?_ ?_;rotate_left
     ·intro w hSw;rw[hSd] at hSw;obtain⟨⟨qm,i0',i1',q0,q1,q2,q3,q4,q5,q6,q7,q8,q9,q10,q11,q12,q13⟩,-⟩:=hSw;go_simp;(try with_reducible rfl)
     (try simp only[N0]);refine tY (v:=?_) 11 55 ?_ ?_;rotate_left
     ·intro w hSw;rw[hSd] at hSw;obtain⟨⟨qm,i0',i1',q0,q1,q2,q3,q4,q5,q6,q7,q8,q9,q10,q11,q12,q13⟩,-⟩:=hSw;go_simp;(try with_reducible rfl)
     try simp only[N0]
     iterate 5
      all_goals first
       |refine U2 8 13 ?_ ?_
       |refine U2 9 13 ?_ ?_
       |refine U1 8 ?_
       |refine U2 12 13 ?_ ?_
       |refine U1 9 ?_
       |refine U1 13 ?_
       |refine U1 12 ?_
       |refine U1 14 ?_
      all_goals first
       |intro (t:Tag 8) Kq hK
        clear t;go_simp;refine(rest_any (R k) hRk.out _).mono ?_;rintro e yd ⟨rfl,hb⟩;replace hKyd:=Lib.hid (hKyd.out.call hSyd hb);(try replace hOs:=keepO hb hOs);replace hSyd:=Nat.le_trans hSyd hb.size;have hC:=hC.below hb;clear hb;(try go_simp);refine hK.out _ _ ?_ (fun hHeld=>?_)
        ·exact HS.out _ hKyd
        clear hK Kq;try simp only[N0]
       |intro (t:Tag 13) Kq hK
        clear t;go_simp;obtain⟨ns,hn_⟩:∃q,q=yd.heap.size:=⟨_,rfl⟩;have hOs:=heap_alloc_new yd (.cells #[.int .i64 0,.int .i64 0] 36);have hobs:=hSyd;rw[←hn_] at hOs hobs;have hbA:=(Below.refl yd.heap.size yd).alloc (Nat.le_refl _) (.cells #[.int .i64 0,.int .i64 0] 36);have hVq:∀q,vU.ownBlock=some q→q≠ns:=fun q hq=>(by rw[hn_];exact Nat.ne_of_lt (ownR_lt hC.own hq).2);have hsg:ns≠gI:=(by rw[hn_];exact(Nat.ne_of_lt hC.into.lt).symm);have hsx:x.heap.size≤ns:=(by rw[hn_];exact hC.kp.size);replace hC:=hC.below hbA;replace hKyd:=Lib.hid (hKyd.out.alloc hSyd (.cells #[.int .i64 0,.int .i64 0] 36));replace hSyd:=Nat.le_trans hSyd hbA.size;clear hbA;generalize (yd.alloc (.cells #[.int .i64 0,.int .i64 0] 36))=yd at *;refine hK.out _ _ ?_ (fun hHeld=>?_)
        ·exact HS.out _ hKyd
        clear hK Kq;(try simp only[N0]);(try rw[←hn_]);clear hn_
       |intro (t:Tag 9) Kq hK
        clear t;go_simp;refine(minus_any (inG t R (upP t R) k k) (rest1 (R k) 4) hs3.out hs4.out _).mono ?_;rintro e yd ⟨rfl,hb⟩;replace hKyd:=Lib.hid (hKyd.out.call hSyd hb);(try replace hOs:=keepO hb hOs);replace hSyd:=Nat.le_trans hSyd hb.size;have hC:=hC.below hb;clear hb;(try go_simp);refine hK.out _ _ ?_ (fun hHeld=>?_)
        ·exact HS.out _ hKyd
        clear hK Kq;try simp only[N0]
       |intro (t:Tag 12) Kq hK
        clear t;go_simp;refine(both_any (minus (inG t R (upP t R) k k) (rest1 (R k) 4)) (R k 6) _).mono ?_;rintro e yd ⟨rfl,hb⟩;replace hKyd:=Lib.hid (hKyd.out.call hSyd hb);(try replace hOs:=keepO hb hOs);replace hSyd:=Nat.le_trans hSyd hb.size;have hC:=hC.below hb;clear hb;(try go_simp);refine hK.out _ _ ?_ (fun hHeld=>?_)
        ·exact HS.out _ hKyd
        clear hK Kq;try simp only[N0]
       |intro (t:Tag 14) Kq hK
        clear t;obtain⟨e0,e1,g0,g1⟩:=two_facts hOs;go_simp;clear e0  e1  g0  g1;replace hOs:=set_two yd ns _ (.int .i64 (both (minus (inG t R (upP t R) k k) (rest1 (R k) 4)) (R k 6)).1) (.int .i64 (both (minus (inG t R (upP t R) k k) (rest1 (R k) 4)) (R k 6)).2) _ _ hOs;replace hKyd:=Lib.hid ((hKyd.out.set (p:=⟨ns,0,none⟩) (Or.inr hobs) (.int .i64 (both (minus (inG t R (upP t R) k k) (rest1 (R k) 4)) (R k 6)).1)).set (p:=⟨ns,1,none⟩) (Or.inr hobs) (.int .i64 (both (minus (inG t R (upP t R) k k) (rest1 (R k) 4)) (R k 6)).2));replace hC:=hC.far hsx hsg hVq (.int .i64 (both (minus (inG t R (upP t R) k k) (rest1 (R k) 4)) (R k 6)).1) (.int .i64 (both (minus (inG t R (upP t R) k k) (rest1 (R k) 4)) (R k 6)).2);obtain⟨yd,hz_⟩:∃z,z=((yd.setCell ⟨ns,0,none⟩ (.int .i64 (both (minus (inG t R (upP t R) k k) (rest1 (R k) 4)) (R k 6)).1)).setCell ⟨ns,1,none⟩ (.int .i64 (both (minus (inG t R (upP t R) k k) (rest1 (R k) 4)) (R k 6)).2)):=⟨_,rfl⟩;rw[←hz_];rw[←hz_] at hOs hKyd;rw[←hz_] at hC;replace hSyd:=Nat.le_trans hSyd (show _≤yd.heap.size by rw[hz_];simp);clear hz_;refine hK.out _ _ ?_ (fun hHeld=>?_)
        ·exact HS.out _ hKyd
        clear hK Kq;try simp only[N0]
     all_goals
      refine wpAnyH_done (by kernel_rfl) ?_ _;(go_wp2_with fail);go_meet;exact⟨_,rfl,_,rfl,hC,by rw[hU.out];exact hOs,hsx,hsg,hVq⟩
    case rest=>
     clear hC hR3;obtain⟨z5,rfl,sb,rfl,hC,hOs,hsx,hsg,hVq⟩:=‹∃wl,wl=_∧_›;go_wp2_with fail
     go_cut [] from 24 to 91 (fun wx=>∃wl,wl=wx∧∃v',CSt x wl mb gI n vp vw (.slice At n ct) (.slice (some ⟨br,or,none⟩) n cr) v' (k+1) (upP t R) (inG t R (upP t R) k)∧wl.heap[sb]? = some (.cells #[.int .i64 (upP t R k).1,.int .i64 (upP t R k).2] 36 (0,0)))
     case first=>
      obtain⟨S,hSd⟩:∃S:World→Prop,S=fun _=>True:=⟨_,rfl⟩;have HST:Hid (∀z:World,S z):=(by intro z;rw[hSd];trivial);refine wp_region_held_drew (S:=S) (by kernel_rfl) ?_ (fun hHeld=>?_)
      ·exact HST.out _
      have hKyd:Hid (Kp z5.heap.size [] z5 z5.drew):=Lib.hid (Kp.refl _ _ _).drew;have hSyd:z5.heap.size≤z5.drew.heap.size:=Nat.le_refl _;have hOs:=keepO (Below.refl z5.heap.size z5).drew hOs;have hC:=hC.drew;generalize z5.drew=yd at *;refine tY (v:=?_) 0 57 ?_ ?_;rotate_left
      ·intro w hSw;go_simp;(try with_reducible rfl)
      (try simp only[N0]);refine tY (v:=?_) 1 58 ?_ ?_;rotate_left
      ·intro w hSw;go_simp;(try with_reducible rfl)
      (try simp only[N0]);refine tY (v:=?_) 2 59 ?_ ?_;rotate_left
      ·intro w hSw;go_simp;(try with_reducible rfl)
      (try simp only[N0]);refine tY (v:=?_) 3 60 ?_ ?_;rotate_left
      ·intro w hSw;go_simp;(try with_reducible rfl)
      try simp only[N0]
      iterate 7
       all_goals first
        |refine U2 4 5 ?_ ?_
        |refine U1 5 ?_
        |refine U2 4 6 ?_ ?_
        |refine U1 6 ?_
        |refine U1 4 ?_
        |refine U1 7 ?_
        |refine U1 8 ?_
        |refine U1 9 ?_
        |refine U1 10 ?_
       all_goals first
        |intro (t:Tag 4) Kq hK
         clear t;obtain⟨m1,m2,m3,m4,m5,f4⟩:=hC.cells;go_simp;refine hK.out _ _ ?_ (fun hHeld=>?_)
         ·exact HST.out _
         clear hK Kq;try simp only[N0]
        |intro (t:Tag 5) Kq hK
         clear t;obtain⟨o0,o1,-,-⟩:=two_facts hOs;go_simp;refine hK.out _ _ ?_ (fun hHeld=>?_)
         ·exact HST.out _
         clear hK Kq;try simp only[N0]
        |intro (t:Tag 6) Kq hK
         clear t;go_simp;have hL:=heap_alloc_new yd (.cells #[.int .i64 (upP t R k).1,.int .i64 (upP t R k).2] 36);have hbA:=(Below.refl yd.heap.size yd).alloc (Nat.le_refl _) (.cells #[.int .i64 (upP t R k).1,.int .i64 (upP t R k).2] 36);have hOs:=keepO hbA hOs;have hC:=hC.below hbA;clear hbA;generalize hnb:yd.heap.size=nb at *;generalize (yd.alloc (.cells #[.int .i64 (upP t R k).1,.int .i64 (upP t R k).2] 36))=yd at *;clear hnb;refine hK.out _ _ ?_ (fun hHeld=>?_)
         ·exact HST.out _
         clear hK Kq;try simp only[N0]
        |intro (t:Tag 7) Kq hK
         clear t;refine step_app _ rfl _ _ 109 rfl (gI+1) 36 j0 _ 2 16 Tryd.underlying109 hj hj0 hj1 hj2 rfl (by decide) vU k (sps (upP t R) k) rfl hC.own yd.heap.size (some ⟨nb,0,none⟩) 1 1 (spc (upP t R k)) rfl (rd_two hL) (spc_one _) (by unfold maxLen;omega) (by omega) hC.into.lt ?_;intro v' yd hown hgr hat;obtain⟨h4,g4⟩:=hC.grew hgr;have hOs:=(hgr.block sb (Array.getElem?_eq_some_iff.1 hOs).1 (fun e=>hVq sb e.symm rfl)).trans hOs;refine hK.out _ _ ?_ (fun hHeld=>?_)
         ·exact HST.out _
         clear hK Kq;try simp only[N0]
        |intro (t:Tag 8) Kq hK
         clear t;go_simp;refine hK.out _ _ ?_ (fun hHeld=>?_)
         ·exact HST.out _
         clear hK Kq;try simp only[N0]
        |intro (t:Tag 9) Kq hK
         clear t;go_simp;refine hK.out _ _ ?_ (fun hHeld=>?_)
         ·exact HST.out _
         clear hK Kq;try simp only[N0]
        |intro (t:Tag 10) Kq hK
         clear t;obtain⟨A',c',rfl⟩:=ownR_val hown;go_simp;clear h4 g4;have hC':=hC.app (Below.refl _ _) hown hgr;have hOs:=(Below.heap_setCell yd ⟨mb,4,none⟩ (.slice A' (k+1) c') sb (by simp only;omega)).trans hOs;generalize (yd.setCell ⟨mb,4,none⟩ (.slice A' (k+1) c'))=yd at *;refine hK.out _ _ ?_ (fun hHeld=>?_)
         ·exact HST.out _
         clear hK Kq;try simp only[N0]
      all_goals
       refine wpAnyH_done (by kernel_rfl) ?_ _;(go_wp2_with fail);go_meet;exact⟨_,rfl,_,hC',hOs⟩
     case rest=>
      clear hC hOs hVq;obtain⟨z6,rfl,v',hC,hOs⟩:=‹∃wl,wl=_∧_›;obtain⟨m1,m2,m3,m4,m5,f4⟩:=hC.cells;obtain⟨bt,ot,rfl,hbt,cto⟩:=(hrt.out.keep hC.kp (Nat.le_refl _) (by simp)).1.to_ hlt2;cases htk:t k with
      |none=>
       have hv:toV t k = -1:=(by unfold toV;rw[htk]);rw[hv] at cto;have hX:=Lib.hid (hC.congr (fun j _=>inF_none htk j));clear hC hOs hv htk;go_wp2;go_roundw
       case rel=>exact⟨k+1,by omega,by go_num,_,hX⟩
       case measure=>simp[intOf];omega
      |some q=>
       obtain⟨hkq,hqn⟩:=hF'.out k q hlt2 htk;have hv:toV t k=q:=(by unfold toV;rw[htk]);rw[hv] at cto;have htk:=Lib.hid htk;have hqi:(q:Int)<(n:Int):=(by omega);have q0:(0:Int)≤(q:Int):=(by omega);have hs5:=Lib.hid (inG_sml (t:=t) (j:=q) hR'.out hn hqn hlt2);have hs6:Hid (Sml (upP t R k)):=(by have:=up_smu (t:=t) hR'.out hn k hlt2;show Sml _;unfold Sml;omega);have hgx:=hC.g;clear hv;(go_wp2_with fail);obtain⟨o0,o1,-,-⟩:=two_facts hOs;have hrz:sb<z6.heap.size:=(Array.getElem?_eq_some_iff.1 hOs).1;have hmz:mb<z6.heap.size:=(by have:=hC.kp.size;omega);have HQ:=Lib.hid (fun w' (hz:Hid (Kp z6.heap.size [gI] z6 w'))=>(⟨(hz.out.cell (by simp only;omega) (by simp;try omega)).trans m5,(hz.out.cell (by simp only;omega) (by simp;try omega)).trans o0,(hz.out.cell (by simp only;omega) (by simp;try omega)).trans o1⟩:w'.cell? ⟨mb,5,none⟩=some (.slice (some ⟨gI,0,none⟩) n n)∧w'.cell? ⟨sb,0,none⟩=some (.int .i64 (upP t R k).1)∧w'.cell? ⟨sb,1,none⟩=some (.int .i64 (upP t R k).2)));obtain⟨S,hSd⟩:∃S:World→Prop,S=fun w'=>(w'.cell? ⟨mb,5,none⟩=some (.slice (some ⟨gI,0,none⟩) n n)∧w'.cell? ⟨sb,0,none⟩=some (.int .i64 (upP t R k).1)∧w'.cell? ⟨sb,1,none⟩=some (.int .i64 (upP t R k).2))∧Hid (Kp z6.heap.size [gI] z6 w'):=⟨_,rfl⟩
       have HS:=Lib.hid (fun w' (hz:Hid (Kp z6.heap.size [gI] z6 w'))=>(by rw[hSd];exact⟨HQ.out w' hz,hz⟩:S w'));clear m1 m2 m3 m4 m5 f4 o0 o1 hOs;refine wp_region_held_drew (S:=S) (by kernel_rfl) ?_ (fun hHeld=>?_)
       ·exact HS.out _ (Lib.hid (Kp.refl _ _ _).drew)
       have hKyd:Hid (Kp z6.heap.size [gI] z6 z6.drew):=Lib.hid (Kp.refl _ _ _).drew;have hSyd:z6.heap.size≤z6.drew.heap.size:=Nat.le_refl _;have hC:=hC.drew;generalize z6.drew=yd at *;refine tY (v:=?_) 0 76 ?_ ?_;rotate_left
       ·intro w hSw;rw[hSd] at hSw;obtain⟨⟨qm,q0,q1⟩,-⟩:=hSw;go_simp;(try with_reducible rfl)
       (try simp only[N0]);refine tY (v:=?_) 1 77 ?_ ?_;rotate_left
       ·intro w hSw;rw[hSd] at hSw;obtain⟨⟨qm,q0,q1⟩,-⟩:=hSw;go_simp;(try with_reducible rfl)
       (try simp only[N0]);refine tY (v:=?_) 2 78 ?_ ?_;rotate_left
       ·intro w hSw;rw[hSd] at hSw;obtain⟨⟨qm,q0,q1⟩,-⟩:=hSw;go_simp;(try with_reducible rfl)
       (try simp only[N0]);refine tY (v:=?_) 3 79 ?_ ?_;rotate_left
       ·intro w hSw;rw[hSd] at hSw;obtain⟨⟨qm,q0,q1⟩,-⟩:=hSw;go_simp;(try with_reducible rfl)
       (try simp only[N0]);refine tY (v:=?_) 4 80 ?_ ?_;rotate_left
       ·intro w hSw;rw[hSd] at hSw;obtain⟨⟨qm,q0,q1⟩,-⟩:=hSw;go_simp;(try with_reducible rfl)
       (try simp only[N0]);refine tY (v:=?_) 5 81 ?_ ?_;rotate_left
       ·intro w hSw;rw[hSd] at hSw;obtain⟨⟨qm,q0,q1⟩,-⟩:=hSw;go_simp;(try with_reducible rfl)
       (try simp only[N0]);refine tY (v:=?_) 6 82 ?_ ?_;rotate_left
       ·intro w hSw;rw[hSd] at hSw;obtain⟨⟨qm,q0,q1⟩,-⟩:=hSw;go_simp;(try with_reducible rfl)
       (try simp only[N0]);refine tY (v:=?_) 7 83 ?_ ?_;rotate_left
       ·intro w hSw;rw[hSd] at hSw;obtain⟨⟨qm,q0,q1⟩,-⟩:=hSw;go_simp;(try with_reducible rfl)
       (try simp only[N0]);refine tY (v:=?_) 8 84 ?_ ?_;rotate_left
       ·intro w hSw;rw[hSd] at hSw;obtain⟨⟨qm,q0,q1⟩,-⟩:=hSw;go_simp;(try with_reducible rfl)
       (try simp only[N0]);refine tY (v:=?_) 9 85 ?_ ?_;rotate_left
       ·intro w hSw;rw[hSd] at hSw;obtain⟨⟨qm,q0,q1⟩,-⟩:=hSw;go_simp;(try with_reducible rfl)
       (try simp only[N0]);refine tY (v:=?_) 10 86 ?_ ?_;rotate_left
       ·intro w hSw;rw[hSd] at hSw;obtain⟨⟨qm,q0,q1⟩,-⟩:=hSw;go_simp;(try with_reducible rfl)
       (try simp only[N0]);refine tY (v:=?_) 12 88 ?_ ?_;rotate_left
       ·intro w hSw;rw[hSd] at hSw;obtain⟨⟨qm,q0,q1⟩,-⟩:=hSw;go_simp;(try with_reducible rfl)
       (try simp only[N0]);refine Q1 11 ?_;intro _ Kq hK;obtain⟨i0',i1',-,-⟩:=hC.at_ hqn;go_simp;refine hK.out _ _ ?_ (fun hHeld=>?_)
       ·exact HS.out _ hKyd
       clear hK Kq;(try simp only[N0]);refine Q1 13 ?_;intro _ Kq hK;go_simp;refine(plus_any (inG t R (upP t R) k q) (upP t R k) hs5.out hs6.out _).mono ?_;rintro e yd ⟨rfl,hb⟩;replace hKyd:=Lib.hid (hKyd.out.call hSyd hb);replace hSyd:=Nat.le_trans hSyd hb.size;have hC:=hC.below hb;clear hb;(try go_simp);refine hK.out _ _ ?_ (fun hHeld=>?_)
       ·exact HS.out _ hKyd
       clear hK Kq;(try simp only[N0]);refine Q1 14 ?_;intro _ Kq hK;go_simp;refine hK.out _ _ ?_ (fun hHeld=>?_)
       ·exact HS.out _ hKyd
       clear hK Kq;(try simp only[N0]);refine Q1 15 ?_;intro _ Kq hK;obtain⟨i0',i1',g0',g1'⟩:=hC.at_ hqn;go_simp;replace hKyd:=Lib.hid ((hKyd.out.set (p:=⟨gI,q*2,none⟩) (Or.inl (by simp)) (.int .i64 (plus (inG t R (upP t R) k q) (upP t R k)).1)).set (p:=⟨gI,q*2+1,none⟩) (Or.inl (by simp)) (.int .i64 (plus (inG t R (upP t R) k q) (upP t R k)).2));have hC:=hC.put q (plus (inG t R (upP t R) k q) (upP t R k));obtain⟨yd,hz_⟩:∃z,z=((yd.setCell ⟨gI,q*2,none⟩ (.int .i64 (plus (inG t R (upP t R) k q) (upP t R k)).1)).setCell ⟨gI,q*2+1,none⟩ (.int .i64 (plus (inG t R (upP t R) k q) (upP t R k)).2)):=⟨_,rfl⟩;rw[←hz_];rw[←hz_] at hKyd;rw[←hz_] at hC;replace hSyd:=Nat.le_trans hSyd (show _≤yd.heap.size by rw[hz_];simp);clear hz_;refine hK.out _ _ ?_ (fun hHeld=>?_)
       ·exact HS.out _ hKyd
       clear hK Kq;(try simp only[N0]);refine wpAnyH_done (by kernel_rfl) ?_ _;have hX:=Lib.hid (hC.congr (fun j _=>inF_some htk.out hkq j));clear HS hKyd HQ hC;go_wp2;go_roundw
       case rel=>exact⟨k+1,by omega,by go_num,_,hX⟩
       case measure=>simp[intOf];omega
   ·obtain rfl:n=k:=(by omega);go_wp2;exact bodyPost_end (results_none rfl _ _ _) rfl ⟨⟨_,rfl⟩,_,_,hCr.out.congr (fun j hj=>(inF_n hj).symm)⟩
end Go.Proofs.YtfplipbkjglmhaaDoor
