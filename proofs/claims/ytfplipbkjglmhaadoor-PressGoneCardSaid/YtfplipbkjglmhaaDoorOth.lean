/-
 The walk of all that goes in but what becomes oil.
-/
import Derived.Test.YtfplipbkjglmhaaDoorYld
import Derived.Test.YtfplipbkjglmhaaDoorLead
import Derived.BigQuiet
import Derived.StillTailTactics
import Derived.Test.YtfplipbkjglmhaaDoorTk
import Derived.Test.YtfplipbkjglmhaaDoorHold
namespace Go.Proofs.YtfplipbkjglmhaaDoor
open Go.RowKit
set_option linter.unusedVariables false
set_option linter.unusedSimpArgs false
theorem gcd_step(a b:Int)(ha:0≤a)(hb:0≤b):((Int.gcd b (a%b):Nat):Int)=((Int.gcd a b:Nat):Int):=by
 obtain⟨n,rfl⟩:=Int.eq_ofNat_of_zero_le ha;obtain⟨m,rfl⟩:=Int.eq_ofNat_of_zero_le hb;have h1:((n:Int)%(m:Int))=((n%m:Nat):Int):=by omega
 rw[h1];simp only[Int.gcd,Int.natAbs_natCast];rw[Nat.gcd_comm n m,Nat.gcd_rec m n,Nat.gcd_comm]
set_option maxRecDepth 100000 in
theorem lowest_any(a b:Int)(ha:0≤a)(ha':a≤1000000000000000)(hb:1≤b)(hb':b≤1000000000000000)(w:World) :
  Calls Tryd.prog 81 #[.int .i64 a,.int .i64 b] w fun e w'=>
   e = .returned (.agg #[.int .i64 (redu a b).1,.int .i64 (redu a b).2])∧Below w.heap.size w w':=by
 have hg:1≤((Int.gcd a b:Nat):Int):=by
  have:0<Int.gcd a b:=Int.gcd_pos_of_ne_zero_right _ (by omega);omega
 have HE:=Lib.hid (show redu a b=(a/((Int.gcd a b:Nat):Int),b/((Int.gcd a b:Nat):Int)) from rfl);have HF:=Lib.hid (heap_alloc_new w (.cells #[.int .i64 0,.int .i64 0] 68));have hB:=Lib.hid ((Below.refl w.heap.size w).alloc (Nat.le_refl _) (.cells #[.int .i64 0,.int .i64 0] 68));have HM:=Lib.hid (And.intro ha (And.intro ha' (And.intro hb hb')));have hgh:=Lib.hid hg;clear hg
 go_enter Tryd.func81,Tryd.ntmps81
 go_wp2;generalize (w.alloc (.cells #[.int .i64 0,.int .i64 0] 68))=wz at *;go_loopw [5,6] (fun x y wr=>∃c d:Int,0≤c∧0≤d∧x = .int .i64 c∧y = .int .i64 d∧Hid (((Int.gcd c d:Nat):Int)=Int.gcd a b)∧∃n,wr=wz.drewN n) (fun _ y _=>(intOf y).toNat)
 case atStart=>exact⟨a,b,ha,by omega,rfl,rfl,rfl,0,rfl⟩
 case round=>
  obtain⟨c,d,hc,hd,rfl,rfl,hg,k,rfl⟩:=hrel;by_cases hz:d=0
  ·have hz':¬d > 0:=(by omega);have hgc:((Int.gcd c d:Nat):Int)=c:=(by rw[hz,Int.gcd_zero_right];omega);have hr:((Int.gcd a b:Nat):Int)=c:=(by rw[←hg.out];exact hgc);rw[hr] at HE hgh;have hE1:Hid ((redu a b).1=a/c∧(redu a b).2=b/c):=(by show _∧_;rw[HE.out];exact⟨rfl,rfl⟩);have hB':=Lib.hid (below_drewN hB.out k);have hO:=keepO (below_drewN (Below.refl _ _) k) HF.out;have g1:=hgh.out;have q1:a.tdiv c=a/c:=Int.tdiv_eq_ediv_of_nonneg ha;have q2:b.tdiv c=b/c:=Int.tdiv_eq_ediv_of_nonneg (by omega);have l1:a/c≤a:=Int.ediv_le_self _ ha;have l2:b/c≤b:=Int.ediv_le_self _ (by omega);have p1:0≤a/c:=Int.ediv_nonneg ha (by omega);have p2:0≤b/c:=Int.ediv_nonneg (by omega) (by omega);have e1:IntKind.i64.wrap (a/c)=a/c:=IntWalk.i64_in _ (by omega);have e2:IntKind.i64.wrap (b/c)=b/c:=IntWalk.i64_in _ (by omega);clear l1 l2 p1 p2 hgc hg HE HF hB hr;generalize wz.drewN k=wq at *;have gz:¬c=0:=(by omega);have gz':(c==0)=false:=(by simpa using gz);clear g1 hgh;obtain⟨c3,c4,f3,f4⟩:=two_facts hO;go_wp2
   go_still_tail 7,(by kernel_rfl)
   clear c3 c4 f3 f4;change wpList _ _ _ _ _ wq.drew;have hB2:=Lib.hid hB'.out.drew;have hO2:=keepO (Below.refl _ _).drew hO;clear hB' hO;generalize wq.drew=w2 at *;obtain⟨c3,c4,f3,f4⟩:=two_facts hO2;go_wp2;obtain⟨g0,g1⟩:=set_back hO2 (.int .i64 (a/c)) (.int .i64 (b/c));exact bodyPost_ret (v:=.agg #[.int .i64 (a/c),.int .i64 (b/c)]) (by simp[results,Tryd.results81,go_sem,g0,g1]) rfl ⟨by rw[hE1.out.1,hE1.out.2],below_two hB2.out (Nat.le_refl _) _ _⟩
  ·have hz':d > 0:=(by omega);have hlt:c%d<d:=Int.emod_lt_of_pos _ (by omega);have hnn:0≤c%d:=Int.emod_nonneg _ hz;have hg':Hid (((Int.gcd d (c%d):Nat):Int)=Int.gcd a b):=(gcd_step c d hc hd).trans hg.out;clear hg;go_wp2;(go_quiet (fail));go_wp2;go_roundw
   case rel=>exact⟨d,c%d,hd,hnn,rfl,rfl,hg',_,World.drewN_drewN _ _ _⟩
   case measure=>simp[intOf];omega
end Go.Proofs.YtfplipbkjglmhaaDoor
namespace Go.Proofs.YtfplipbkjglmhaaDoor
open Go.RowKit
set_option linter.unusedVariables false
set_option linter.unusedSimpArgs false
def othersS (t:Nat→Option Nat) (R:Nat→Nat→Sp) (U I:Nat→Sp) (n i:Nat):Sp:=both (plus (downS t R U n n i) (minus1 (rest1 (R i) 4) (R i 2))) (minus (I i) (R i 2))
set_option maxRecDepth 100000 in
set_option maxHeartbeats 8000000 in
theorem others_any(mb n:Nat)(t:Nat→Option Nat)(R:Nat→Nat→Sp)(U I:Nat→Sp)(At Ar Au Ai:Option Addr)(ct cr cu ci:Nat)(hF:Fwd n t)(hR:SmR R n)(hU:SmU U n)(hI:SmU I n)(hn:n≤10)(i:Nat)(hi:i<n)(x:World)(hM:MR x mb n t R U I At Ar Au Ai ct cr cu ci) :
  Calls Tryd.prog 79 #[.pointer (some ⟨mb,0,none⟩),.int .i64 i] x fun e x'=>
   e = .returned (.agg #[.int .i64 (othersS t R U I n i).1,.int .i64 (othersS t R U I n i).2])∧Below x.heap.size x x':=by
 have hlt:=hM.lt;have hxy1:Below x.heap.size x (x.alloc (.cells #[.int .i64 0,.int .i64 0] 36)):=(Below.refl _ _).alloc (Nat.le_refl _) _;obtain⟨y,hy⟩:∃y,y=((x.alloc (.cells #[.int .i64 0,.int .i64 0] 36)).alloc (.cells #[.int .i64 ((R i) 0).1,.int .i64 ((R i) 0).2,.int .i64 ((R i) 1).1,.int .i64 ((R i) 1).2,.int .i64 ((R i) 2).1,.int .i64 ((R i) 2).2,.int .i64 ((R i) 3).1,.int .i64 ((R i) 3).2,.int .i64 ((R i) 4).1,.int .i64 ((R i) 4).2,.int .i64 ((R i) 5).1,.int .i64 ((R i) 5).2,.int .i64 ((R i) 6).1,.int .i64 ((R i) 6).2] 107)):=⟨_,rfl⟩;have hxy:Below x.heap.size x y:=by rw[hy];exact hxy1.alloc (by simp) _
 have hyz:y.heap.size=x.heap.size+2:=by rw[hy];simp
 have hyb:y.heap[x.heap.size]? = some (.cells #[.int .i64 0,.int .i64 0] 36 (0,0)):=by rw[hy,heap_lt_alloc' _ _ _ (by simp)];exact heap_alloc_new x _
 have hyr:y.heap[x.heap.size+1]? = some (.cells #[.int .i64 ((R i) 0).1,.int .i64 ((R i) 0).2,.int .i64 ((R i) 1).1,.int .i64 ((R i) 1).2,.int .i64 ((R i) 2).1,.int .i64 ((R i) 2).2,.int .i64 ((R i) 3).1,.int .i64 ((R i) 3).2,.int .i64 ((R i) 4).1,.int .i64 ((R i) 4).2,.int .i64 ((R i) 5).1,.int .i64 ((R i) 5).2,.int .i64 ((R i) 6).1,.int .i64 ((R i) 6).2] 107 (0,0)):=by rw[hy];have:=heap_alloc_new (x.alloc (.cells #[.int .i64 0,.int .i64 0] 36)) (.cells #[.int .i64 ((R i) 0).1,.int .i64 ((R i) 0).2,.int .i64 ((R i) 1).1,.int .i64 ((R i) 1).2,.int .i64 ((R i) 2).1,.int .i64 ((R i) 2).2,.int .i64 ((R i) 3).1,.int .i64 ((R i) 3).2,.int .i64 ((R i) 4).1,.int .i64 ((R i) 4).2,.int .i64 ((R i) 5).1,.int .i64 ((R i) 5).2,.int .i64 ((R i) 6).1,.int .i64 ((R i) 6).2] 107);simpa using this
 have hi':(i:Int)<(n:Int):=by omega
 have i0:(0:Int)≤(i:Int):=by omega
 have HD:=down_sml hF hR hU hn n i hi;have HRr:=rest1_sml (f:=R i) (fun j hj=>hR i j hi hj) 4 (Nat.le_refl _);have HUi:=hU i hi;have HIi:=hI i hi;have HR2:=hR i 2 hi (by omega);have HMx:=Lib.hid (fun z (hz:Below x.heap.size x z)=>hM.below hz);obtain⟨bi,oi,rfl,hbi,hri⟩:=hM.rr.rw_ hi;obtain⟨bj,oj,rfl,hbj,jj0,jj1⟩:=hM.ri.sp (m:=n) hi;have JJ0:=Lib.hid jj0;have JJ1:=Lib.hid jj1;clear jj0 jj1;have c3:=(hM.below hxy1).c3;have hcx:=fun(b o:Nat) (hb:b<x.heap.size) (u:Value) (hu:x.cell? ⟨b,o,none⟩=some u)=>(hxy1.cell (p:=⟨b,o,none⟩) hb).trans hu
 have m0:=hcx _ _ hbi _ (hri 0 _ rfl);have m1:=hcx _ _ hbi _ (hri 1 _ rfl);have m2:=hcx _ _ hbi _ (hri 2 _ rfl);have m3:=hcx _ _ hbi _ (hri 3 _ rfl);have m4:=hcx _ _ hbi _ (hri 4 _ rfl);have m5:=hcx _ _ hbi _ (hri 5 _ rfl);have m6:=hcx _ _ hbi _ (hri 6 _ rfl);have m7:=hcx _ _ hbi _ (hri 7 _ rfl);have m8:=hcx _ _ hbi _ (hri 8 _ rfl);have m9:=hcx _ _ hbi _ (hri 9 _ rfl);have m10:=hcx _ _ hbi _ (hri 10 _ rfl);have m11:=hcx _ _ hbi _ (hri 11 _ rfl);have m12:=hcx _ _ hbi _ (hri 12 _ rfl);have m13:=hcx _ _ hbi _ (hri 13 _ rfl);try simp only[Nat.add_zero] at m0
 have HDW:=Lib.hid (fun z (hz:Below x.heap.size x z)=>down_any mb n t R U I At (some ⟨bi,oi,none⟩) Au (some ⟨bj,oj,none⟩) ct cr cu ci hF hR hU hn n i hi (by omega) hn z (hM.below hz));have hRi:Hid (SmF (R i)):=fun j hj=>hR i j hi hj;have hs2:Hid (Sml (rest1 (R i) 4)):=by show Sml _;unfold Sml;omega
 have hs5:Hid (Sml (R i 2)):=by show Sml _;unfold Sml;omega
 have hs6:Hid (Sml (minus1 (rest1 (R i) 4) (R i 2))):=by show Sml _;unfold Sml;simp only[minus1];omega
 have hs4:Hid (Sml (I i)):=by show Sml _;unfold Sml;omega
 obtain⟨d,hd⟩:∃d,d=downS t R U n n i:=⟨_,rfl⟩;have hs1:Hid (Sml d):=by show Sml _;unfold Sml;rw[hd];omega
 have hres:Hid (othersS t R U I n i=both (plus d (minus1 (rest1 (R i) 4) (R i 2))) (minus (I i) (R i 2))):=by show _=_;rw[hd];rfl
 rw[←hd] at HDW;rw[hres.out];clear hri HD HRr HUi HIi HR2 hM hcx hF hR hU hI hd hres hxy1
 go_enter Tryd.func79,Tryd.ntmps79
 go_wp2_with fail
 rw[←hy];clear hy c3 m0 m1 m2 m3 m4 m5 m6 m7 m8 m9 m10 m11 m12 m13;obtain⟨q0,q1,q2,q3,q4,q5,q6,q7,q8,q9,q10,q11,q12,q13,-⟩:=facts14 hyr;have HQ:=Lib.hid (fun z (hz:Hid (Kp y.heap.size [] y z))=>(⟨(hz.out.cell (by simp only;omega) (by simp)).trans q0,(hz.out.cell (by simp only;omega) (by simp)).trans q1,(hz.out.cell (by simp only;omega) (by simp)).trans q2,(hz.out.cell (by simp only;omega) (by simp)).trans q3,(hz.out.cell (by simp only;omega) (by simp)).trans q4,(hz.out.cell (by simp only;omega) (by simp)).trans q5,(hz.out.cell (by simp only;omega) (by simp)).trans q6,(hz.out.cell (by simp only;omega) (by simp)).trans q7,(hz.out.cell (by simp only;omega) (by simp)).trans q8,(hz.out.cell (by simp only;omega) (by simp)).trans q9,(hz.out.cell (by simp only;omega) (by simp)).trans q10,(hz.out.cell (by simp only;omega) (by simp)).trans q11,(hz.out.cell (by simp only;omega) (by simp)).trans q12,(hz.out.cell (by simp only;omega) (by simp)).trans q13⟩:z.cell? ⟨(x.heap.size+1),0,none⟩=some (.int .i64 (R i 0).1)∧z.cell? ⟨(x.heap.size+1),1,none⟩=some (.int .i64 (R i 0).2)∧z.cell? ⟨(x.heap.size+1),2,none⟩=some (.int .i64 (R i 1).1)∧z.cell? ⟨(x.heap.size+1),3,none⟩=some (.int .i64 (R i 1).2)∧z.cell? ⟨(x.heap.size+1),4,none⟩=some (.int .i64 (R i 2).1)∧z.cell? ⟨(x.heap.size+1),5,none⟩=some (.int .i64 (R i 2).2)∧z.cell? ⟨(x.heap.size+1),6,none⟩=some (.int .i64 (R i 3).1)∧z.cell? ⟨(x.heap.size+1),7,none⟩=some (.int .i64 (R i 3).2)∧z.cell? ⟨(x.heap.size+1),8,none⟩=some (.int .i64 (R i 4).1)∧z.cell? ⟨(x.heap.size+1),9,none⟩=some (.int .i64 (R i 4).2)∧z.cell? ⟨(x.heap.size+1),10,none⟩=some (.int .i64 (R i 5).1)∧z.cell? ⟨(x.heap.size+1),11,none⟩=some (.int .i64 (R i 5).2)∧z.cell? ⟨(x.heap.size+1),12,none⟩=some (.int .i64 (R i 6).1)∧z.cell? ⟨(x.heap.size+1),13,none⟩=some (.int .i64 (R i 6).2)))
 clear q0 q1 q2 q3 q4 q5 q6 q7 q8 q9 q10 q11 q12 q13;obtain⟨S,hSd⟩:∃S:World→Prop,S=fun z=>(z.cell? ⟨(x.heap.size+1),0,none⟩=some (.int .i64 (R i 0).1)∧z.cell? ⟨(x.heap.size+1),1,none⟩=some (.int .i64 (R i 0).2)∧z.cell? ⟨(x.heap.size+1),2,none⟩=some (.int .i64 (R i 1).1)∧z.cell? ⟨(x.heap.size+1),3,none⟩=some (.int .i64 (R i 1).2)∧z.cell? ⟨(x.heap.size+1),4,none⟩=some (.int .i64 (R i 2).1)∧z.cell? ⟨(x.heap.size+1),5,none⟩=some (.int .i64 (R i 2).2)∧z.cell? ⟨(x.heap.size+1),6,none⟩=some (.int .i64 (R i 3).1)∧z.cell? ⟨(x.heap.size+1),7,none⟩=some (.int .i64 (R i 3).2)∧z.cell? ⟨(x.heap.size+1),8,none⟩=some (.int .i64 (R i 4).1)∧z.cell? ⟨(x.heap.size+1),9,none⟩=some (.int .i64 (R i 4).2)∧z.cell? ⟨(x.heap.size+1),10,none⟩=some (.int .i64 (R i 5).1)∧z.cell? ⟨(x.heap.size+1),11,none⟩=some (.int .i64 (R i 5).2)∧z.cell? ⟨(x.heap.size+1),12,none⟩=some (.int .i64 (R i 6).1)∧z.cell? ⟨(x.heap.size+1),13,none⟩=some (.int .i64 (R i 6).2))∧Hid (Kp y.heap.size [] y z):=⟨_,rfl⟩
 have HS:=Lib.hid (fun z (hz:Hid (Kp y.heap.size [] y z))=>(by rw[hSd];exact⟨HQ.out z hz,hz⟩:S z))
 go_cut [6] (fun s6 wx=>∃wl,wl=wx∧∃b6,s6 = .pointer (some ⟨b6,0,none⟩)∧wx.heap[b6]? = some (.cells #[.int .i64 (minus1 (rest1 (R i) 4) (R i 2)).1,.int .i64 (minus1 (rest1 (R i) 4) (R i 2)).2] 36 (0,0))∧Kp y.heap.size [] y wx∧y.heap.size≤b6)
 case first=>
  refine wp_region_held_drew (S:=S) (by kernel_rfl) ?_ (fun hHeld=>?_)
  ·exact HS.out _ (Lib.hid (Kp.refl _ _ _).drew)
  have hKyd:Hid (Kp y.heap.size [] y y.drew):=Lib.hid (Kp.refl _ _ _).drew;have hSyd:y.heap.size≤y.drew.heap.size:=Nat.le_refl _;generalize y.drew=yd at *;refine tY (v:=?_) 0 14 ?_ ?_;rotate_left
  ·intro w hSw;rw[hSd] at hSw;obtain⟨⟨q0,q1,q2,q3,q4,q5,q6,q7,q8,q9,q10,q11,q12,q13⟩,-⟩:=hSw;go_simp;(try with_reducible rfl)
  (try simp only[N0]);refine tY (v:=?_) 2 16 ?_ ?_;rotate_left
  ·intro w hSw;rw[hSd] at hSw;obtain⟨⟨q0,q1,q2,q3,q4,q5,q6,q7,q8,q9,q10,q11,q12,q13⟩,-⟩:=hSw;go_simp;(try with_reducible rfl)
  (try simp only[N0]);refine tY (v:=?_) 3 17 ?_ ?_;rotate_left
  ·intro w hSw;rw[hSd] at hSw;obtain⟨⟨q0,q1,q2,q3,q4,q5,q6,q7,q8,q9,q10,q11,q12,q13⟩,-⟩:=hSw;go_simp;(try with_reducible rfl)
  (try simp only[N0]);refine wpAnyH_ready (rs:=[1,5]) (by kernel_rfl) (by simp) ?_;refine AllReadyH.cons (o:=_) rfl (fun Kq hK=>?_) ?_
  ·go_simp;refine(rest_any (R i) hRi.out _).mono ?_;rintro e zc0 ⟨rfl,hb⟩;have hKzc0:=Lib.hid (hKyd.out.call hSyd hb);have hSzc0:=Nat.le_trans hSyd hb.size;clear hb;(try go_simp);refine hK.out _ _ ?_ (fun hHeld=>?_)
   ·exact HS.out _ hKzc0
   clear hK Kq;(try simp only[N0]);refine wpAnyH_ready (rs:=[4,5]) (by kernel_rfl) (by simp) ?_;refine AllReadyH.cons (o:=_) rfl (fun Kq hK=>?_) ?_
   ·go_simp;refine(minus1_any (rest1 (R i) 4) (R i 2) hs2.out hs5.out _).mono ?_;rintro e zc1 ⟨rfl,hb⟩;have hKzc1:=Lib.hid (hKzc0.out.call hSzc0 hb);have hSzc1:=Nat.le_trans hSzc0 hb.size;clear hb;(try go_simp);refine hK.out _ _ ?_ (fun hHeld=>?_)
    ·exact HS.out _ hKzc1
    clear hK Kq;(try simp only[N0]);refine wpAnyH_ready (rs:=[5]) (by kernel_rfl) (by simp) ?_;refine AllReadyH.cons (o:=_) rfl (fun Kq hK=>?_) AllReadyH.nil;go_simp;have hOoA:=heap_alloc_new zc1 (.cells #[.int .i64 0,.int .i64 0] 36);have hoboA:=hSzc1;have hKz5f2:=Lib.hid (hKzc1.out.alloc hSzc1 (.cells #[.int .i64 0,.int .i64 0] 36));have hSz5f2:=Nat.le_trans hSzc1 ((Below.refl zc1.heap.size zc1).alloc (Nat.le_refl _) (.cells #[.int .i64 0,.int .i64 0] 36)).size;generalize (zc1.alloc (.cells #[.int .i64 0,.int .i64 0] 36))=z5f2 at *;refine hK.out _ _ ?_ (fun hHeld=>?_)
    ·exact HS.out _ hKz5f2
    clear hK Kq;(try simp only[N0]);refine wpAnyH_ready (rs:=[6]) (by kernel_rfl) (by simp) ?_;refine AllReadyH.cons (o:=_) rfl (fun Kq hK=>?_) AllReadyH.nil;obtain⟨e0,e1,g0,g1⟩:=two_facts hOoA;go_simp;clear e0  e1  g0  g1;obtain⟨s6z5f2,hz_⟩:∃z,z=((z5f2.setCell ⟨zc1.heap.size,0,none⟩ (.int .i64 (minus1 (rest1 (R i) 4) (R i 2)).1)).setCell ⟨zc1.heap.size,1,none⟩ (.int .i64 (minus1 (rest1 (R i) 4) (R i 2)).2)):=⟨_,rfl⟩;rw[←hz_];have hOoA:=set_two z5f2 zc1.heap.size _ (.int .i64 (minus1 (rest1 (R i) 4) (R i 2)).1) (.int .i64 (minus1 (rest1 (R i) 4) (R i 2)).2) _ _ hOoA;rw[←hz_] at hOoA;have hKs6z5f2:=Lib.hid ((hKz5f2.out.set (p:=⟨zc1.heap.size,0,none⟩) (Or.inr hoboA) (.int .i64 (minus1 (rest1 (R i) 4) (R i 2)).1)).set (p:=⟨zc1.heap.size,1,none⟩) (Or.inr hoboA) (.int .i64 (minus1 (rest1 (R i) 4) (R i 2)).2));rw[←hz_] at hKs6z5f2;have hSs6z5f2:=Nat.le_trans hSz5f2 (show z5f2.heap.size≤s6z5f2.heap.size by rw[hz_];simp);clear hz_;refine hK.out _ _ ?_ (fun hHeld=>?_)
    ·exact HS.out _ hKs6z5f2
    clear hK Kq;(try simp only[N0]);refine wpAnyH_done (by kernel_rfl) ?_ _;(go_wp2_with fail);go_meet;exact⟨_,rfl,_,rfl,hOoA,hKs6z5f2.out,hoboA⟩
   refine AllReadyH.cons (o:=_) rfl (fun Kq hK=>?_) AllReadyH.nil;go_simp;have hOoA:=heap_alloc_new zc0 (.cells #[.int .i64 0,.int .i64 0] 36);have hoboA:=hSzc0;have hKz5f1:=Lib.hid (hKzc0.out.alloc hSzc0 (.cells #[.int .i64 0,.int .i64 0] 36));have hSz5f1:=Nat.le_trans hSzc0 ((Below.refl zc0.heap.size zc0).alloc (Nat.le_refl _) (.cells #[.int .i64 0,.int .i64 0] 36)).size;generalize (zc0.alloc (.cells #[.int .i64 0,.int .i64 0] 36))=z5f1 at *;refine hK.out _ _ ?_ (fun hHeld=>?_)
   ·exact HS.out _ hKz5f1
   clear hK Kq;(try simp only[N0]);refine wpAnyH_ready (rs:=[4]) (by kernel_rfl) (by simp) ?_;refine AllReadyH.cons (o:=_) rfl (fun Kq hK=>?_) AllReadyH.nil;go_simp;refine(minus1_any (rest1 (R i) 4) (R i 2) hs2.out hs5.out _).mono ?_;rintro e zc1a5 ⟨rfl,hb⟩;have hKzc1a5:=Lib.hid (hKz5f1.out.call hSz5f1 hb);have hOoA:=keepO hb hOoA;have hSzc1a5:=Nat.le_trans hSz5f1 hb.size;clear hb;(try go_simp);refine hK.out _ _ ?_ (fun hHeld=>?_)
   ·exact HS.out _ hKzc1a5
   clear hK Kq;(try simp only[N0]);refine wpAnyH_ready (rs:=[6]) (by kernel_rfl) (by simp) ?_;refine AllReadyH.cons (o:=_) rfl (fun Kq hK=>?_) AllReadyH.nil;obtain⟨e0,e1,g0,g1⟩:=two_facts hOoA;go_simp;clear e0  e1  g0  g1;obtain⟨s6zc1a5,hz_⟩:∃z,z=((zc1a5.setCell ⟨zc0.heap.size,0,none⟩ (.int .i64 (minus1 (rest1 (R i) 4) (R i 2)).1)).setCell ⟨zc0.heap.size,1,none⟩ (.int .i64 (minus1 (rest1 (R i) 4) (R i 2)).2)):=⟨_,rfl⟩;rw[←hz_];have hOoA:=set_two zc1a5 zc0.heap.size _ (.int .i64 (minus1 (rest1 (R i) 4) (R i 2)).1) (.int .i64 (minus1 (rest1 (R i) 4) (R i 2)).2) _ _ hOoA;rw[←hz_] at hOoA;have hKs6zc1a5:=Lib.hid ((hKzc1a5.out.set (p:=⟨zc0.heap.size,0,none⟩) (Or.inr hoboA) (.int .i64 (minus1 (rest1 (R i) 4) (R i 2)).1)).set (p:=⟨zc0.heap.size,1,none⟩) (Or.inr hoboA) (.int .i64 (minus1 (rest1 (R i) 4) (R i 2)).2));rw[←hz_] at hKs6zc1a5;have hSs6zc1a5:=Nat.le_trans hSzc1a5 (show zc1a5.heap.size≤s6zc1a5.heap.size by rw[hz_];simp);clear hz_;refine hK.out _ _ ?_ (fun hHeld=>?_)
   ·exact HS.out _ hKs6zc1a5
   clear hK Kq;(try simp only[N0]);refine wpAnyH_done (by kernel_rfl) ?_ _;(go_wp2_with fail);go_meet;exact⟨_,rfl,_,rfl,hOoA,hKs6zc1a5.out,hoboA⟩
  refine AllReadyH.cons (o:=_) rfl (fun Kq hK=>?_) AllReadyH.nil;go_simp;have hOoA:=heap_alloc_new yd (.cells #[.int .i64 0,.int .i64 0] 36);have hoboA:=hSyd;have hKz5f0:=Lib.hid (hKyd.out.alloc hSyd (.cells #[.int .i64 0,.int .i64 0] 36));have hSz5f0:=Nat.le_trans hSyd ((Below.refl yd.heap.size yd).alloc (Nat.le_refl _) (.cells #[.int .i64 0,.int .i64 0] 36)).size;generalize (yd.alloc (.cells #[.int .i64 0,.int .i64 0] 36))=z5f0 at *;refine hK.out _ _ ?_ (fun hHeld=>?_)
  ·exact HS.out _ hKz5f0
  clear hK Kq;(try simp only[N0]);refine wpAnyH_ready (rs:=[1]) (by kernel_rfl) (by simp) ?_;refine AllReadyH.cons (o:=_) rfl (fun Kq hK=>?_) AllReadyH.nil;go_simp;refine(rest_any (R i) hRi.out _).mono ?_;rintro e zc0a5 ⟨rfl,hb⟩;have hKzc0a5:=Lib.hid (hKz5f0.out.call hSz5f0 hb);have hOoA:=keepO hb hOoA;have hSzc0a5:=Nat.le_trans hSz5f0 hb.size;clear hb;(try go_simp);refine hK.out _ _ ?_ (fun hHeld=>?_)
  ·exact HS.out _ hKzc0a5
  clear hK Kq;(try simp only[N0]);refine wpAnyH_ready (rs:=[4]) (by kernel_rfl) (by simp) ?_;refine AllReadyH.cons (o:=_) rfl (fun Kq hK=>?_) AllReadyH.nil;go_simp;refine(minus1_any (rest1 (R i) 4) (R i 2) hs2.out hs5.out _).mono ?_;rintro e zc1a5 ⟨rfl,hb⟩;have hKzc1a5:=Lib.hid (hKzc0a5.out.call hSzc0a5 hb);have hOoA:=keepO hb hOoA;have hSzc1a5:=Nat.le_trans hSzc0a5 hb.size;clear hb;(try go_simp);refine hK.out _ _ ?_ (fun hHeld=>?_)
  ·exact HS.out _ hKzc1a5
  clear hK Kq;(try simp only[N0]);refine wpAnyH_ready (rs:=[6]) (by kernel_rfl) (by simp) ?_;refine AllReadyH.cons (o:=_) rfl (fun Kq hK=>?_) AllReadyH.nil;obtain⟨e0,e1,g0,g1⟩:=two_facts hOoA;go_simp;clear e0  e1  g0  g1;obtain⟨s6zc1a5,hz_⟩:∃z,z=((zc1a5.setCell ⟨yd.heap.size,0,none⟩ (.int .i64 (minus1 (rest1 (R i) 4) (R i 2)).1)).setCell ⟨yd.heap.size,1,none⟩ (.int .i64 (minus1 (rest1 (R i) 4) (R i 2)).2)):=⟨_,rfl⟩;rw[←hz_];have hOoA:=set_two zc1a5 yd.heap.size _ (.int .i64 (minus1 (rest1 (R i) 4) (R i 2)).1) (.int .i64 (minus1 (rest1 (R i) 4) (R i 2)).2) _ _ hOoA;rw[←hz_] at hOoA;have hKs6zc1a5:=Lib.hid ((hKzc1a5.out.set (p:=⟨yd.heap.size,0,none⟩) (Or.inr hoboA) (.int .i64 (minus1 (rest1 (R i) 4) (R i 2)).1)).set (p:=⟨yd.heap.size,1,none⟩) (Or.inr hoboA) (.int .i64 (minus1 (rest1 (R i) 4) (R i 2)).2));rw[←hz_] at hKs6zc1a5;have hSs6zc1a5:=Nat.le_trans hSzc1a5 (show zc1a5.heap.size≤s6zc1a5.heap.size by rw[hz_];simp);clear hz_;refine hK.out _ _ ?_ (fun hHeld=>?_)
  ·exact HS.out _ hKs6zc1a5
  clear hK Kq;(try simp only[N0]);refine wpAnyH_done (by kernel_rfl) ?_ _;(go_wp2_with fail);go_meet;exact⟨_,rfl,_,rfl,hOoA,hKs6zc1a5.out,hoboA⟩
 case rest=>
  clear S hSd HS HQ;obtain⟨wq,rfl,b6,rfl,hO6,hKw,h6⟩:=‹∃wl,wl=_∧_›;have h6x:b6<wq.heap.size:=(Array.getElem?_eq_some_iff.1 hO6).1;have hxw:=Lib.hid (hxy.trans (hKw.below (B':=x.heap.size) (by omega) (by simp)));have hOx:=(hKw.block x.heap.size (by omega) (by simp)).trans hyb;have hOr:=(hKw.block (x.heap.size+1) (by omega) (by simp)).trans hyr;have hxs:=hxw.out.size;have hSq:x.heap.size+2≤wq.heap.size:=(by have:=hKw.size;omega);have c5:=(HMx.out _ hxw.out).c5;have j0:=(hxw.out.cell (p:=⟨bj,oj+i*2,none⟩) hbj).trans JJ0.out;have j1:=(hxw.out.cell (p:=⟨bj,oj+i*2+1,none⟩) hbj).trans JJ1.out;obtain⟨p0,p1,-,-⟩:=two_facts hO6;obtain⟨q0,q1,q2,q3,q4,q5,q6,q7,q8,q9,q10,q11,q12,q13,-⟩:=facts14 hOr;have HQ:=Lib.hid (fun z (hz:Hid (Kp wq.heap.size [x.heap.size] wq z))=>(⟨(hz.out.cell (by simp only;omega) (by simp<;>omega)).trans c5,(hz.out.cell (by simp only;omega) (by simp<;>omega)).trans j0,(hz.out.cell (by simp only;omega) (by simp<;>omega)).trans j1,(hz.out.cell (by simp only;omega) (by simp<;>omega)).trans p0,(hz.out.cell (by simp only;omega) (by simp<;>omega)).trans p1,(hz.out.cell (by simp only;omega) (by simp<;>omega)).trans q4,(hz.out.cell (by simp only;omega) (by simp<;>omega)).trans q5⟩:z.cell? ⟨mb,5,none⟩=some (.slice (some ⟨bj,oj,none⟩) n ci)∧z.cell? ⟨bj,oj+i*2,none⟩=some (.int .i64 (I i).1)∧z.cell? ⟨bj,oj+i*2+1,none⟩=some (.int .i64 (I i).2)∧z.cell? ⟨b6,0,none⟩=some (.int .i64 (minus1 (rest1 (R i) 4) (R i 2)).1)∧z.cell? ⟨b6,1,none⟩=some (.int .i64 (minus1 (rest1 (R i) 4) (R i 2)).2)∧z.cell? ⟨(x.heap.size+1),4,none⟩=some (.int .i64 (R i 2).1)∧z.cell? ⟨(x.heap.size+1),5,none⟩=some (.int .i64 (R i 2).2)))
  have HDW':=Lib.hid (fun z (hz:Hid (Kp wq.heap.size [x.heap.size] wq z))=>HDW.out z (hxw.out.trans (hz.out.below (B':=x.heap.size) (by omega) (by simp))));clear HDW c5 j0 j1 p0 p1 q0 q1 q2 q3 q4 q5 q6 q7 q8 q9 q10 q11 q12 q13 hOr hO6 hKw hyb hyr HMx;have HDW:=HDW';clear HDW';(go_wp2_with fail);obtain⟨S,hSd⟩:∃S:World→Prop,S=fun z=>(z.cell? ⟨mb,5,none⟩=some (.slice (some ⟨bj,oj,none⟩) n ci)∧z.cell? ⟨bj,oj+i*2,none⟩=some (.int .i64 (I i).1)∧z.cell? ⟨bj,oj+i*2+1,none⟩=some (.int .i64 (I i).2)∧z.cell? ⟨b6,0,none⟩=some (.int .i64 (minus1 (rest1 (R i) 4) (R i 2)).1)∧z.cell? ⟨b6,1,none⟩=some (.int .i64 (minus1 (rest1 (R i) 4) (R i 2)).2)∧z.cell? ⟨(x.heap.size+1),4,none⟩=some (.int .i64 (R i 2).1)∧z.cell? ⟨(x.heap.size+1),5,none⟩=some (.int .i64 (R i 2).2))∧Hid (Kp wq.heap.size [x.heap.size] wq z):=⟨_,rfl⟩
  have HS:=Lib.hid (fun z (hz:Hid (Kp wq.heap.size [x.heap.size] wq z))=>(by rw[hSd];exact⟨HQ.out z hz,hz⟩:S z));refine wp_region_held_drew (S:=S) (by kernel_rfl) ?_ (fun hHeld=>?_)
  ·exact HS.out _ (Lib.hid (Kp.refl _ _ _).drew)
  have hKyd:Hid (Kp wq.heap.size [x.heap.size] wq wq.drew):=Lib.hid (Kp.refl _ _ _).drew;have hSyd:wq.heap.size≤wq.drew.heap.size:=Nat.le_refl _;have hOx:=keepO (Below.refl wq.heap.size wq).drew hOx;generalize wq.drew=yd at *;refine tY (v:=?_) 0 19 ?_ ?_;rotate_left
  ·intro w hSw;rw[hSd] at hSw;obtain⟨⟨qm,u0,u1,p0,p1,r0,r1⟩,-⟩:=hSw;go_simp;(try with_reducible rfl)
  (try simp only[N0]);refine tY (v:=?_) 1 20 ?_ ?_;rotate_left
  ·intro w hSw;rw[hSd] at hSw;obtain⟨⟨qm,u0,u1,p0,p1,r0,r1⟩,-⟩:=hSw;go_simp;(try with_reducible rfl)
  (try simp only[N0]);refine tY (v:=?_) 3 22 ?_ ?_;rotate_left
  ·intro w hSw;rw[hSd] at hSw;obtain⟨⟨qm,u0,u1,p0,p1,r0,r1⟩,-⟩:=hSw;go_simp;(try with_reducible rfl)
  (try simp only[N0]);refine tY (v:=?_) 5 24 ?_ ?_;rotate_left
  ·intro w hSw;rw[hSd] at hSw;obtain⟨⟨qm,u0,u1,p0,p1,r0,r1⟩,-⟩:=hSw;go_simp;(try with_reducible rfl)
  (try simp only[N0]);refine tY (v:=?_) 6 25 ?_ ?_;rotate_left
  ·intro w hSw;rw[hSd] at hSw;obtain⟨⟨qm,u0,u1,p0,p1,r0,r1⟩,-⟩:=hSw;go_simp;(try with_reducible rfl)
  (try simp only[N0]);refine tY (v:=?_) 7 26 ?_ ?_;rotate_left
  ·intro w hSw;rw[hSd] at hSw;obtain⟨⟨qm,u0,u1,p0,p1,r0,r1⟩,-⟩:=hSw;go_simp;(try with_reducible rfl)
  (try simp only[N0]);refine tY (v:=?_) 8 27 ?_ ?_;rotate_left
  ·intro w hSw;rw[hSd] at hSw;obtain⟨⟨qm,u0,u1,p0,p1,r0,r1⟩,-⟩:=hSw;go_simp;(try with_reducible rfl)
  (try simp only[N0]);refine tY (v:=?_) 9 28 ?_ ?_;rotate_left
  ·intro w hSw;rw[hSd] at hSw;obtain⟨⟨qm,u0,u1,p0,p1,r0,r1⟩,-⟩:=hSw;go_simp;(try with_reducible rfl)
  (try simp only[N0]);refine tY (v:=?_) 10 29 ?_ ?_;rotate_left
  ·intro w hSw;rw[hSd] at hSw;obtain⟨⟨qm,u0,u1,p0,p1,r0,r1⟩,-⟩:=hSw;go_simp;(try with_reducible rfl)
  (try simp only[N0]);refine tY (v:=?_) 11 30 ?_ ?_;rotate_left
  ·intro w hSw;rw[hSd] at hSw;obtain⟨⟨qm,u0,u1,p0,p1,r0,r1⟩,-⟩:=hSw;go_simp;(try with_reducible rfl)
  (try simp only[N0]);refine tY (v:=?_) 12 31 ?_ ?_;rotate_left
  ·intro w hSw;rw[hSd] at hSw;obtain⟨⟨qm,u0,u1,p0,p1,r0,r1⟩,-⟩:=hSw;go_simp;(try with_reducible rfl)
  (try simp only[N0]);refine tY (v:=?_) 13 32 ?_ ?_;rotate_left
  ·intro w hSw;rw[hSd] at hSw;obtain⟨⟨qm,u0,u1,p0,p1,r0,r1⟩,-⟩:=hSw;go_simp;(try with_reducible rfl)
  (try simp only[N0]);refine wpAnyH_ready (rs:=[2]) (by kernel_rfl) (by simp) ?_;refine AllReadyH.cons (o:=_) rfl (fun Kq hK=>?_) AllReadyH.nil;go_simp;refine(HDW.out _ hKyd).mono ?_;rintro e zc0 ⟨rfl,hb⟩;have hKzc0:=Lib.hid (hKyd.out.call hSyd hb);have hOx:=keepO hb hOx;have hSzc0:=Nat.le_trans hSyd hb.size;clear hb;(try go_simp);refine hK.out _ _ ?_ (fun hHeld=>?_)
  ·exact HS.out _ hKzc0
  clear hK Kq;(try simp only[N0]);refine wpAnyH_ready (rs:=[4]) (by kernel_rfl) (by simp) ?_;refine AllReadyH.cons (o:=_) rfl (fun Kq hK=>?_) AllReadyH.nil;go_simp;refine(plus_any d (minus1 (rest1 (R i) 4) (R i 2)) hs1.out hs6.out _).mono ?_;rintro e zc1 ⟨rfl,hb⟩;have hKzc1:=Lib.hid (hKzc0.out.call hSzc0 hb);have hOx:=keepO hb hOx;have hSzc1:=Nat.le_trans hSzc0 hb.size;clear hb;(try go_simp);refine hK.out _ _ ?_ (fun hHeld=>?_)
  ·exact HS.out _ hKzc1
  clear hK Kq;(try simp only[N0]);refine wpAnyH_ready (rs:=[14]) (by kernel_rfl) (by simp) ?_;refine AllReadyH.cons (o:=_) rfl (fun Kq hK=>?_) AllReadyH.nil;go_simp;refine(minus_any (I i) (R i 2) hs4.out hs5.out _).mono ?_;rintro e zc2 ⟨rfl,hb⟩;have hKzc2:=Lib.hid (hKzc1.out.call hSzc1 hb);have hOx:=keepO hb hOx;have hSzc2:=Nat.le_trans hSzc1 hb.size;clear hb;(try go_simp);refine hK.out _ _ ?_ (fun hHeld=>?_)
  ·exact HS.out _ hKzc2
  clear hK Kq;(try simp only[N0]);refine wpAnyH_ready (rs:=[15]) (by kernel_rfl) (by simp) ?_;refine AllReadyH.cons (o:=_) rfl (fun Kq hK=>?_) AllReadyH.nil;go_simp;refine(both_any (plus d (minus1 (rest1 (R i) 4) (R i 2))) (minus (I i) (R i 2)) _).mono ?_;rintro e zc3 ⟨rfl,hb⟩;have hKzc3:=Lib.hid (hKzc2.out.call hSzc2 hb);have hOx:=keepO hb hOx;have hSzc3:=Nat.le_trans hSzc2 hb.size;clear hb;(try go_simp);refine hK.out _ _ ?_ (fun hHeld=>?_)
  ·exact HS.out _ hKzc3
  clear hK Kq;(try simp only[N0]);refine wpAnyH_ready (rs:=[16]) (by kernel_rfl) (by simp) ?_;refine AllReadyH.cons (o:=_) rfl (fun Kq hK=>?_) AllReadyH.nil;obtain⟨e0,e1,g0,g1⟩:=two_facts hOx;go_simp;clear e0  e1  g0  g1;obtain⟨s16zc3,hz_⟩:∃z,z=((zc3.setCell ⟨x.heap.size,0,none⟩ (.int .i64 (both (plus d (minus1 (rest1 (R i) 4) (R i 2))) (minus (I i) (R i 2))).1)).setCell ⟨x.heap.size,1,none⟩ (.int .i64 (both (plus d (minus1 (rest1 (R i) 4) (R i 2))) (minus (I i) (R i 2))).2)):=⟨_,rfl⟩;rw[←hz_];have hOx:=set_two zc3 x.heap.size _ (.int .i64 (both (plus d (minus1 (rest1 (R i) 4) (R i 2))) (minus (I i) (R i 2))).1) (.int .i64 (both (plus d (minus1 (rest1 (R i) 4) (R i 2))) (minus (I i) (R i 2))).2) _ _ hOx;rw[←hz_] at hOx;have hKs16zc3:=Lib.hid ((hKzc3.out.set (p:=⟨x.heap.size,0,none⟩) (Or.inl (by simp)) (.int .i64 (both (plus d (minus1 (rest1 (R i) 4) (R i 2))) (minus (I i) (R i 2))).1)).set (p:=⟨x.heap.size,1,none⟩) (Or.inl (by simp)) (.int .i64 (both (plus d (minus1 (rest1 (R i) 4) (R i 2))) (minus (I i) (R i 2))).2));rw[←hz_] at hKs16zc3;have hSs16zc3:=Nat.le_trans hSzc3 (show zc3.heap.size≤s16zc3.heap.size by rw[hz_];simp);clear hz_;refine hK.out _ _ ?_ (fun hHeld=>?_)
  ·exact HS.out _ hKs16zc3
  clear hK Kq;(try simp only[N0]);refine wpAnyH_done (by kernel_rfl) ?_ _;obtain⟨k0,k1,-,-⟩:=two_facts hOx;have hBe:=hxw.out.trans (hKs16zc3.out.below (B':=x.heap.size) (by omega) (by simp));go_wp2;exact bodyPost_ret (v:=.agg #[.int .i64 (both (plus d (minus1 (rest1 (R i) 4) (R i 2))) (minus (I i) (R i 2))).1,.int .i64 (both (plus d (minus1 (rest1 (R i) 4) (R i 2))) (minus (I i) (R i 2))).2]) (by simp[results,Tryd.results79,go_sem,k0,k1]) rfl ⟨rfl,hBe⟩
end Go.Proofs.YtfplipbkjglmhaaDoor
