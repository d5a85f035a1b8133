/-
 The walk of the reference's question whether a press is valid: its pressings.
-/
import Derived.Test.YtfplipbkjglmhaaDoorTk
import Derived.Test.YtfplipbkjglmhaaDoorPChk4
namespace Go.Proofs.YtfplipbkjglmhaaDoor
open Go.RowKit
open Go.Act renaming put → aP
open List renaming setIfInBounds_toArray → lB, set_cons_zero → lZ, set_cons_succ → lS
set_option linter.unusedVariables false
set_option linter.unusedSimpArgs false
theorem withinR(x lo hi:Int)(w:World):Calls Tryd.prog 92 #[.int .i64 x,.int .i64 lo,.int .i64 hi] w fun e w'=>e = .returned (.bool (rng lo hi x))∧w'=w:=within_any x lo hi w
theorem valid_not{ps:List PR}{ws:List WE}(h:allP ps=false):validP ps ws=false:=by simp[validP,h]
theorem okW_eqR{ps:List PR}{last N P K L H:Int}:okW ps last (N,P,K,L,H)=(rng 1 9999 N && decide (0≤idxP ps P) && rng 1 6 K && rng 0 1000000 L && rng L 1000000 H && decide (last<N)):=by
 unfold okW rng;rw[Bool.eq_iff_iff];simp only[Bool.and_eq_true,decide_eq_true_eq];omega
set_option maxRecDepth 100000 in
set_option maxHeartbeats 4000000 in
theorem Press_any(A A':Option Addr)(n c n' c':Nat)(ps:List PR)(ws:List WE)(w:World)(hnm:n≤maxLen)(hnm':n'≤maxLen)(hR:Reads w w.heap.size 4 A n (pgs ps))(hW:Reads w w.heap.size 5 A' n' (wgs ws)) :
  Calls Tryd.prog 55 #[.agg #[.slice A n c,.slice A' n' c']] w fun e w'=>e = .returned (.bool (validP ps ws))∧Below w.heap.size w w':=by
 have hl:=hR.pg_len;have hl':=hW.wg_len;by_cases hn:n≤10
 ·by_cases hn':n'≤30
  ·have hn0:n≤maxLen:=hnm;have HM:Hid (∀z,Below (w.heap.size+1) (w.alloc (.cells #[.slice A n c,.slice A' n' c'] 25)) z→z.cell? ⟨w.heap.size,0,none⟩=some (.slice A n c)∧z.cell? ⟨w.heap.size,1,none⟩=some (.slice A' n' c')∧w.heap.size+1≤z.heap.size):=fun z hz=>press_box hz;have HR:Hid (∀z,Below (w.heap.size+1) (w.alloc (.cells #[.slice A n c,.slice A' n' c'] 25)) z→Reads z z.heap.size 4 A n (pgs ps)):=fun z hz=>keep_reads hR hz;have HRw:Hid (∀z,Below (w.heap.size+1) (w.alloc (.cells #[.slice A n c,.slice A' n' c'] 25)) z→Reads z z.heap.size 5 A' n' (wgs ws)):=fun z hz=>keep_reads hW hz;have HX:Hid (∀z,Below (w.heap.size+1) (w.alloc (.cells #[.slice A n c,.slice A' n' c'] 25)) z→Below w.heap.size w z):=fun z hz=>box_below hz;have hBx:Hid (Below (w.heap.size+1) (w.alloc (.cells #[.slice A n c,.slice A' n' c'] 25)) (w.alloc (.cells #[.slice A n c,.slice A' n' c'] 25))):=Below.refl _ _;have g1:¬(10:Int)<n:=(by omega);have g2:¬(30:Int)<n':=(by omega);have hv0:Hid (validP ps ws=(allP ps && allW ps 0 ws)):=by
    show _=_;simp[validP,hl,hl',hn,hn']
   clear hR hW
   go_enter Tryd.func55,Tryd.ntmps55
   go_wp2;clear g1 g2;generalize w.alloc (.cells #[.slice A n c,.slice A' n' c'] 25)=wb at *;go_loopw [3] (fun x wr=>∃k:Nat,k≤n∧x = .int .i64 k∧Hid (∀(i:Nat) (y:PR),i<k→ps[i]? = some y→okP ps i y=true)∧Hid (Below (w.heap.size+1) wb wr)) (fun x _=>n - (intOf x).toNat)
   case atStart=>exact⟨0,by omega,rfl,fun i y h=>absurd h (by omega),hBx⟩
   case round=>
    clear hBx;obtain⟨k,hk,rfl,hall,hBr⟩:=hrel;obtain⟨m0,m1,hsz⟩:=HM.out wr hBr.out;by_cases hlt:k<n
    ·obtain⟨b,o,I,D,P,T,rfl,hb,hx,c0,c1,c2,c3⟩:=(HR.out wr hBr.out).pg hlt;have Hx:=Lib.hid hx;clear hx HM;have m0w0:=m0;rcases k with _|k
     ·rw[show ((0:Nat):Int)=0 from rfl];simp only[Nat.zero_mul,Nat.add_zero] at c0 c1 c2 c3;have HS0:Hid (∀z,Below (wr.heap.size+1) (wr.alloc (.cells #[.int .i64 I,.int .i64 D,.int .i64 P,.int .i64 T] 51)) z→((z.cell? ⟨w.heap.size,0,none⟩=some (.slice (some ⟨b,o,none⟩) n c)∧z.cell? ⟨w.heap.size,1,none⟩=some (.slice A' n' c'))∧z.cell? ⟨wr.heap.size,0,none⟩=some (.int .i64 I)∧z.cell? ⟨wr.heap.size,1,none⟩=some (.int .i64 D)∧z.cell? ⟨wr.heap.size,2,none⟩=some (.int .i64 P)∧z.cell? ⟨wr.heap.size,3,none⟩=some (.int .i64 T))):=by
       intro z hz;refine⟨⟨(hz.cell (p:=⟨w.heap.size,0,none⟩) (by simp;omega)).trans ((World.cell?_alloc_lt _ _ _ (by simp;omega)).trans m0),(hz.cell (p:=⟨w.heap.size,1,none⟩) (by simp;omega)).trans ((World.cell?_alloc_lt _ _ _ (by simp;omega)).trans m1)⟩,?_,?_,?_,?_⟩
       ·rw[hz.cell (p:=⟨wr.heap.size,0,none⟩) (by simp),World.cell?_alloc_at _ _ _ _ rfl];rfl
       ·rw[hz.cell (p:=⟨wr.heap.size,1,none⟩) (by simp),World.cell?_alloc_at _ _ _ _ rfl];rfl
       ·rw[hz.cell (p:=⟨wr.heap.size,2,none⟩) (by simp),World.cell?_alloc_at _ _ _ _ rfl];rfl
       ·rw[hz.cell (p:=⟨wr.heap.size,3,none⟩) (by simp),World.cell?_alloc_at _ _ _ _ rfl];rfl
      have hBz:=Lib.hid (hBr.out.alloc (o:=(.cells #[.int .i64 I,.int .i64 D,.int .i64 P,.int .i64 T] 51)) hsz);have HT0:Hid (∀z,Below (wr.heap.size+1) (wr.alloc (.cells #[.int .i64 I,.int .i64 D,.int .i64 P,.int .i64 T] 51)) z→Below (w.heap.size+1) wb z):=fun z hz=>hBz.out.trans (hz.mono (by omega));have hZ0:Hid (Below (wr.heap.size+1) (wr.alloc (.cells #[.int .i64 I,.int .i64 D,.int .i64 P,.int .i64 T] 51)) (wr.alloc (.cells #[.int .i64 I,.int .i64 D,.int .i64 P,.int .i64 T] 51))):=Below.refl _ _;have hzz:wr.heap.size+1≤(wr.alloc (.cells #[.int .i64 I,.int .i64 D,.int .i64 P,.int .i64 T] 51)).heap.size:=(by simp);clear m0 m1;obtain⟨⟨m0,m1⟩,e0,e1,e2,e3⟩:=HS0.out _ hZ0.out;have m0w:=m0w0;clear m0w0;(go_wp2_with fail);clear c0 c1 c2 c3;generalize wr.alloc (.cells #[.int .i64 I,.int .i64 D,.int .i64 P,.int .i64 T] 51)=wz at *;refine(withinR I 1 9999 _).mono ?_;rintro e w' ⟨rfl,hw'⟩;rw[hw'];clear hw' w';cases T1:rng 1 9999 I
      ·have hbad:Hid (validP ps ws=false):=valid_not (allP_false Hx.out (by simp[okP,T1]));go_wp2;go_ret;exact⟨ret_bool hbad.out.symm,HX.out _ (HT0.out _ hZ0.out)⟩
      ·(go_wp2_with fail);refine(withinR D 0 3652 _).mono ?_;rintro e w' ⟨rfl,hw'⟩;rw[hw'];clear hw' w';cases T2:rng 0 3652 D
       ·have hbad:Hid (validP ps ws=false):=valid_not (allP_false Hx.out (by simp[okP,T2]));go_wp2;go_ret;exact⟨ret_bool hbad.out.symm,HX.out _ (HT0.out _ hZ0.out)⟩
       ·(go_wp2_with fail);refine(withinR P 1 6 _).mono ?_;rintro e w' ⟨rfl,hw'⟩;rw[hw'];clear hw' w';cases T3:rng 1 6 P
        ·have hbad:Hid (validP ps ws=false):=valid_not (allP_false Hx.out (by simp[okP,T3]));go_wp2;go_ret;exact⟨ret_bool hbad.out.symm,HX.out _ (HT0.out _ hZ0.out)⟩
        ·by_cases hT:T=0
         ·have hT':(T != 0)=false:=(by simpa using hT);have hto:Hid (okTo ps 0 (I,D,P,T)=true):=okTo_zero hT;have hok:Hid (okP ps 0 (I,D,P,T)=true):=(by show _=_;simp only[okP,okPrev,hto.out,T1,T2,T3,Bool.and_self]);have hnx:=Lib.hid (allP_next hall.out Hx.out hok.out);(go_wp2_with fail);(go_quiet (fail));go_wp2;go_roundw
          case rel=>exact⟨1,by omega,by go_num,hnx,Lib.hid (below_drewN (HT0.out _ hZ0.out) _)⟩
          case measure=>simp[intOf];omega
         ·have hT':(T != 0)=true:=(by simpa using hT);have H6:=Lib.hid (Pressing_any _ A' n c n' c' ps T _ hn0 (HR.out _ (HT0.out _ hZ0.out)));obtain⟨j0,j1⟩:=idxP_bound ps T;(go_wp2_with fail);refine H6.out.mono ?_;rintro e z1 ⟨rfl,hb1⟩;have hZ1:=Lib.hid (below_via hZ0.out hzz hb1);clear m0 m1 e0 e1 e2 e3 hb1;obtain⟨⟨m0,m1⟩,e0,e1,e2,e3⟩:=HS0.out _ hZ1.out;by_cases hj:idxP ps T≤((0:Nat):Int)
          ·have hbad:Hid (validP ps ws=false):=valid_not (allP_false Hx.out (okP_to hT hj));generalize idxP ps T=jx at *;go_wp2;go_ret;exact⟨ret_bool hbad.out.symm,HX.out _ (HT0.out _ hZ1.out)⟩
          ·have hto0:=Lib.hid (okTo_idx (ps:=ps) (I:=I) (D:=D) (P:=P) hj);generalize idxP ps T=jx at *;have hto:Hid (okTo ps 0 (I,D,P,T)=true):=hto0.out;have hok:Hid (okP ps 0 (I,D,P,T)=true):=(by show _=_;simp only[okP,okPrev,hto.out,T1,T2,T3,Bool.and_self]);have hnx:=Lib.hid (allP_next hall.out Hx.out hok.out);(go_wp2_with fail);(go_quiet (fail));go_wp2;go_roundw
           case rel=>exact⟨1,by omega,by go_num,hnx,Lib.hid (below_drewN (HT0.out _ hZ1.out) _)⟩
           case measure=>simp[intOf];omega
     ·obtain⟨b2,o2,I',D',P',T',e2,hb2,hy,y0,y1,-,-⟩:=(HR.out wr hBr.out).pg (k:=k) (by omega);simp only[Option.some.injEq,Addr.mk.injEq,and_true] at e2;obtain⟨rfl,rfl⟩:=e2;have Hy:=Lib.hid hy;clear hy;have HS0:Hid (∀z,Below (wr.heap.size+1) (wr.alloc (.cells #[.int .i64 I,.int .i64 D,.int .i64 P,.int .i64 T] 51)) z→((z.cell? ⟨w.heap.size,0,none⟩=some (.slice (some ⟨b,o,none⟩) n c)∧z.cell? ⟨w.heap.size,1,none⟩=some (.slice A' n' c'))∧z.cell? ⟨wr.heap.size,0,none⟩=some (.int .i64 I)∧z.cell? ⟨wr.heap.size,1,none⟩=some (.int .i64 D)∧z.cell? ⟨wr.heap.size,2,none⟩=some (.int .i64 P)∧z.cell? ⟨wr.heap.size,3,none⟩=some (.int .i64 T))∧z.cell? ⟨b,o+k*4,none⟩=some (.int .i64 I')∧z.cell? ⟨b,o+k*4+1,none⟩=some (.int .i64 D')):=by
       intro z hz;refine⟨⟨⟨(hz.cell (p:=⟨w.heap.size,0,none⟩) (by simp;omega)).trans ((World.cell?_alloc_lt _ _ _ (by simp;omega)).trans m0),(hz.cell (p:=⟨w.heap.size,1,none⟩) (by simp;omega)).trans ((World.cell?_alloc_lt _ _ _ (by simp;omega)).trans m1)⟩,?_,?_,?_,?_⟩,(hz.cell (p:=⟨b,o+k*4,none⟩) (by simp;omega)).trans ((World.cell?_alloc_lt _ _ _ (by simp;omega)).trans y0),(hz.cell (p:=⟨b,o+k*4+1,none⟩) (by simp;omega)).trans ((World.cell?_alloc_lt _ _ _ (by simp;omega)).trans y1)⟩
       ·rw[hz.cell (p:=⟨wr.heap.size,0,none⟩) (by simp),World.cell?_alloc_at _ _ _ _ rfl];rfl
       ·rw[hz.cell (p:=⟨wr.heap.size,1,none⟩) (by simp),World.cell?_alloc_at _ _ _ _ rfl];rfl
       ·rw[hz.cell (p:=⟨wr.heap.size,2,none⟩) (by simp),World.cell?_alloc_at _ _ _ _ rfl];rfl
       ·rw[hz.cell (p:=⟨wr.heap.size,3,none⟩) (by simp),World.cell?_alloc_at _ _ _ _ rfl];rfl
      have hBz:=Lib.hid (hBr.out.alloc (o:=(.cells #[.int .i64 I,.int .i64 D,.int .i64 P,.int .i64 T] 51)) hsz);have HT0:Hid (∀z,Below (wr.heap.size+1) (wr.alloc (.cells #[.int .i64 I,.int .i64 D,.int .i64 P,.int .i64 T] 51)) z→Below (w.heap.size+1) wb z):=fun z hz=>hBz.out.trans (hz.mono (by omega));have hZ0:Hid (Below (wr.heap.size+1) (wr.alloc (.cells #[.int .i64 I,.int .i64 D,.int .i64 P,.int .i64 T] 51)) (wr.alloc (.cells #[.int .i64 I,.int .i64 D,.int .i64 P,.int .i64 T] 51))):=Below.refl _ _;have hzz:wr.heap.size+1≤(wr.alloc (.cells #[.int .i64 I,.int .i64 D,.int .i64 P,.int .i64 T] 51)).heap.size:=(by simp);have hk0:k≤4096:=(by omega);have hkn:k<n:=(by omega);have hkp:(0:Int)<((k+1:Nat):Int):=(by omega);clear m0 m1 y0 y1;obtain⟨⟨⟨m0,m1⟩,e0,e1,e2,e3⟩,y0,y1⟩:=HS0.out _ hZ0.out;have m0w:=m0w0;clear m0w0;(go_wp2_with fail);clear c0 c1 c2 c3;generalize wr.alloc (.cells #[.int .i64 I,.int .i64 D,.int .i64 P,.int .i64 T] 51)=wz at *;refine(withinR I 1 9999 _).mono ?_;rintro e w' ⟨rfl,hw'⟩;rw[hw'];clear hw' w';cases T1:rng 1 9999 I
      ·have hbad:Hid (validP ps ws=false):=valid_not (allP_false Hx.out (by simp[okP,T1]));go_wp2;go_ret;exact⟨ret_bool hbad.out.symm,HX.out _ (HT0.out _ hZ0.out)⟩
      ·(go_wp2_with fail);refine(withinR D 0 3652 _).mono ?_;rintro e w' ⟨rfl,hw'⟩;rw[hw'];clear hw' w';cases T2:rng 0 3652 D
       ·have hbad:Hid (validP ps ws=false):=valid_not (allP_false Hx.out (by simp[okP,T2]));go_wp2;go_ret;exact⟨ret_bool hbad.out.symm,HX.out _ (HT0.out _ hZ0.out)⟩
       ·(go_wp2_with fail);refine(withinR P 1 6 _).mono ?_;rintro e w' ⟨rfl,hw'⟩;rw[hw'];clear hw' w';cases T3:rng 1 6 P
        ·have hbad:Hid (validP ps ws=false):=valid_not (allP_false Hx.out (by simp[okP,T3]));go_wp2;go_ret;exact⟨ret_bool hbad.out.symm,HX.out _ (HT0.out _ hZ0.out)⟩
        ·by_cases hT:T=0
         ·have hT':(T != 0)=false:=(by simpa using hT);have hto:Hid (okTo ps (k+1) (I,D,P,T)=true):=okTo_zero hT;by_cases hI:I≤I'
          ·have hI':decide (I≤I')=true:=(by simpa using hI);have hbad:Hid (validP ps ws=false):=valid_not (allP_false Hx.out (okP_prev Hy.out (Or.inl hI)));clear hI
           skip
           obtain⟨S,hSd⟩:∃S:World→Prop,S=fun z=>((z.cell? ⟨w.heap.size,0,none⟩=some (.slice (some ⟨b,o,none⟩) n c)∧z.cell? ⟨w.heap.size,1,none⟩=some (.slice A' n' c'))∧z.cell? ⟨wr.heap.size,0,none⟩=some (.int .i64 I)∧z.cell? ⟨wr.heap.size,1,none⟩=some (.int .i64 D)∧z.cell? ⟨wr.heap.size,2,none⟩=some (.int .i64 P)∧z.cell? ⟨wr.heap.size,3,none⟩=some (.int .i64 T))∧z.cell? ⟨b,o+k*4,none⟩=some (.int .i64 I')∧z.cell? ⟨b,o+k*4+1,none⟩=some (.int .i64 D'):=⟨_,rfl⟩
           have HS:=Lib.hid (fun z hz=>(by rw[hSd];exact HS0.out z hz:S z));(go_wp2_with fail);have wk3:=pw3 hk0;have wk4:=pw4 hk0;refine wp_region_held_drew (S:=S) (by kernel_rfl) ?_ (fun hHeld=>?_)
           ·exact HS.out _ hZ0.out.drew
           refine tY (v:=?_) 0 58 ?_ ?_;rotate_left
           ·intro w hSw;rw[hSd] at hSw;obtain⟨⟨⟨q0,q1⟩,q2,q3,q4,q5⟩,q6,q7⟩:=hSw;go_simp;(try with_reducible rfl)
           (try simp only[aP,lB,lZ,lS]);refine tY (v:=?_) 1 59 ?_ ?_;rotate_left
           ·intro w hSw;rw[hSd] at hSw;obtain⟨⟨⟨q0,q1⟩,q2,q3,q4,q5⟩,q6,q7⟩:=hSw;go_simp;(try with_reducible rfl)
           (try simp only[aP,lB,lZ,lS]);refine tY (v:=?_) 2 60 ?_ ?_;rotate_left
           ·intro w hSw;rw[hSd] at hSw;obtain⟨⟨⟨q0,q1⟩,q2,q3,q4,q5⟩,q6,q7⟩:=hSw;go_simp;(try with_reducible rfl)
           (try simp only[aP,lB,lZ,lS]);refine tY (v:=?_) 3 61 ?_ ?_;rotate_left
           ·intro w hSw;rw[hSd] at hSw;obtain⟨⟨⟨q0,q1⟩,q2,q3,q4,q5⟩,q6,q7⟩:=hSw;go_simp;(try with_reducible rfl)
           (try simp only[aP,lB,lZ,lS]);refine tY (v:=?_) 4 62 ?_ ?_;rotate_left
           ·intro w hSw;rw[hSd] at hSw;obtain⟨⟨⟨q0,q1⟩,q2,q3,q4,q5⟩,q6,q7⟩:=hSw;go_simp;(try with_reducible rfl)
           (try simp only[aP,lB,lZ,lS]);refine tY (v:=?_) 5 63 ?_ ?_;rotate_left
           ·intro w hSw;rw[hSd] at hSw;obtain⟨⟨⟨q0,q1⟩,q2,q3,q4,q5⟩,q6,q7⟩:=hSw;go_simp;(try with_reducible rfl)
           (try simp only[aP,lB,lZ,lS]);refine tY (v:=?_) 6 64 ?_ ?_;rotate_left
           ·intro w hSw;rw[hSd] at hSw;obtain⟨⟨⟨q0,q1⟩,q2,q3,q4,q5⟩,q6,q7⟩:=hSw;go_simp;(try with_reducible rfl)
           (try simp only[aP,lB,lZ,lS]);refine tY (v:=?_) 7 65 ?_ ?_;rotate_left
           ·intro w hSw;rw[hSd] at hSw;obtain⟨⟨⟨q0,q1⟩,q2,q3,q4,q5⟩,q6,q7⟩:=hSw;go_simp;(try with_reducible rfl)
           (try simp only[aP,lB,lZ,lS]);refine tY (v:=?_) 8 66 ?_ ?_;rotate_left
           ·intro w hSw;rw[hSd] at hSw;obtain⟨⟨⟨q0,q1⟩,q2,q3,q4,q5⟩,q6,q7⟩:=hSw;go_simp;(try with_reducible rfl)
           (try simp only[aP,lB,lZ,lS]);refine tY (v:=?_) 9 67 ?_ ?_;rotate_left
           ·intro w hSw;rw[hSd] at hSw;obtain⟨⟨⟨q0,q1⟩,q2,q3,q4,q5⟩,q6,q7⟩:=hSw;go_simp;(try with_reducible rfl)
           (try simp only[aP,lB,lZ,lS]);refine tY (v:=?_) 10 68 ?_ ?_;rotate_left
           ·intro w hSw;rw[hSd] at hSw;obtain⟨⟨⟨q0,q1⟩,q2,q3,q4,q5⟩,q6,q7⟩:=hSw;go_simp;(try with_reducible rfl)
           (try simp only[aP,lB,lZ,lS]);refine tY (v:=?_) 11 69 ?_ ?_;rotate_left
           ·intro w hSw;rw[hSd] at hSw;obtain⟨⟨⟨q0,q1⟩,q2,q3,q4,q5⟩,q6,q7⟩:=hSw;go_simp;(try with_reducible rfl)
           (try simp only[aP,lB,lZ,lS]);refine tY (v:=?_) 12 70 ?_ ?_;rotate_left
           ·intro w hSw;rw[hSd] at hSw;obtain⟨⟨⟨q0,q1⟩,q2,q3,q4,q5⟩,q6,q7⟩:=hSw;go_simp;(try with_reducible rfl)
           (try simp only[aP,lB,lZ,lS]);refine tY (v:=?_) 13 71 ?_ ?_;rotate_left
           ·intro w hSw;rw[hSd] at hSw;obtain⟨⟨⟨q0,q1⟩,q2,q3,q4,q5⟩,q6,q7⟩:=hSw;go_simp;(try with_reducible rfl)
           (try simp only[aP,lB,lZ,lS]);refine tN 14 72 ?_;(try simp only[aP,lB,lZ,lS]);refine tN 15 73 ?_;(try simp only[aP,lB,lZ,lS]);refine tN 16 74 ?_;(try simp only[aP,lB,lZ,lS]);refine tN 17 75 ?_;(try simp only[aP,lB,lZ,lS]);refine tN 18 76 ?_;(try simp only[aP,lB,lZ,lS]);refine tN 19 77 ?_;(try simp only[aP,lB,lZ,lS]);refine tN 20 78 ?_;(try simp only[aP,lB,lZ,lS]);refine tN 21 79 ?_;(try simp only[aP,lB,lZ,lS]);refine tN 22 80 ?_;(try simp only[aP,lB,lZ,lS]);refine tN 23 81 ?_;(try simp only[aP,lB,lZ,lS]);refine tY (v:=?_) 24 82 ?_ ?_;rotate_left
           ·intro w hSw;rw[hSd] at hSw;obtain⟨⟨⟨q0,q1⟩,q2,q3,q4,q5⟩,q6,q7⟩:=hSw;go_simp;(try with_reducible rfl)
           (try simp only[aP,lB,lZ,lS]);refine tY (v:=?_) 25 83 ?_ ?_;rotate_left
           ·intro w hSw;rw[hSd] at hSw;obtain⟨⟨⟨q0,q1⟩,q2,q3,q4,q5⟩,q6,q7⟩:=hSw;go_simp;(try with_reducible rfl)
           (try simp only[aP,lB,lZ,lS]);refine wpAnyH_done (by kernel_rfl) ?_ _;clear wk3 wk4;go_wp2;go_ret;exact⟨ret_bool hbad.out.symm,(HX.out _ (HT0.out _ hZ0.out)).drew⟩
          ·have hI':decide (I≤I')=false:=(by simpa using hI);by_cases hD:D<D'
           ·have hD':decide (D<D')=true:=(by simpa using hD);have hbad:Hid (validP ps ws=false):=valid_not (allP_false Hx.out (okP_prev Hy.out (Or.inr hD)));clear hD hI
            skip
            obtain⟨S,hSd⟩:∃S:World→Prop,S=fun z=>((z.cell? ⟨w.heap.size,0,none⟩=some (.slice (some ⟨b,o,none⟩) n c)∧z.cell? ⟨w.heap.size,1,none⟩=some (.slice A' n' c'))∧z.cell? ⟨wr.heap.size,0,none⟩=some (.int .i64 I)∧z.cell? ⟨wr.heap.size,1,none⟩=some (.int .i64 D)∧z.cell? ⟨wr.heap.size,2,none⟩=some (.int .i64 P)∧z.cell? ⟨wr.heap.size,3,none⟩=some (.int .i64 T))∧z.cell? ⟨b,o+k*4,none⟩=some (.int .i64 I')∧z.cell? ⟨b,o+k*4+1,none⟩=some (.int .i64 D'):=⟨_,rfl⟩
            have HS:=Lib.hid (fun z hz=>(by rw[hSd];exact HS0.out z hz:S z));(go_wp2_with fail);have wk3:=pw3 hk0;have wk4:=pw4 hk0;refine wp_region_held_drew (S:=S) (by kernel_rfl) ?_ (fun hHeld=>?_)
            ·exact HS.out _ hZ0.out.drew
            refine tY (v:=?_) 0 58 ?_ ?_;rotate_left
            ·intro w hSw;rw[hSd] at hSw;obtain⟨⟨⟨q0,q1⟩,q2,q3,q4,q5⟩,q6,q7⟩:=hSw;go_simp;(try with_reducible rfl)
            (try simp only[aP,lB,lZ,lS]);refine tY (v:=?_) 1 59 ?_ ?_;rotate_left
            ·intro w hSw;rw[hSd] at hSw;obtain⟨⟨⟨q0,q1⟩,q2,q3,q4,q5⟩,q6,q7⟩:=hSw;go_simp;(try with_reducible rfl)
            (try simp only[aP,lB,lZ,lS]);refine tY (v:=?_) 2 60 ?_ ?_;rotate_left
            ·intro w hSw;rw[hSd] at hSw;obtain⟨⟨⟨q0,q1⟩,q2,q3,q4,q5⟩,q6,q7⟩:=hSw;go_simp;(try with_reducible rfl)
            (try simp only[aP,lB,lZ,lS]);refine tY (v:=?_) 3 61 ?_ ?_;rotate_left
            ·intro w hSw;rw[hSd] at hSw;obtain⟨⟨⟨q0,q1⟩,q2,q3,q4,q5⟩,q6,q7⟩:=hSw;go_simp;(try with_reducible rfl)
            (try simp only[aP,lB,lZ,lS]);refine tY (v:=?_) 4 62 ?_ ?_;rotate_left
            ·intro w hSw;rw[hSd] at hSw;obtain⟨⟨⟨q0,q1⟩,q2,q3,q4,q5⟩,q6,q7⟩:=hSw;go_simp;(try with_reducible rfl)
            (try simp only[aP,lB,lZ,lS]);refine tY (v:=?_) 5 63 ?_ ?_;rotate_left
            ·intro w hSw;rw[hSd] at hSw;obtain⟨⟨⟨q0,q1⟩,q2,q3,q4,q5⟩,q6,q7⟩:=hSw;go_simp;(try with_reducible rfl)
            (try simp only[aP,lB,lZ,lS]);refine tY (v:=?_) 6 64 ?_ ?_;rotate_left
            ·intro w hSw;rw[hSd] at hSw;obtain⟨⟨⟨q0,q1⟩,q2,q3,q4,q5⟩,q6,q7⟩:=hSw;go_simp;(try with_reducible rfl)
            (try simp only[aP,lB,lZ,lS]);refine tY (v:=?_) 7 65 ?_ ?_;rotate_left
            ·intro w hSw;rw[hSd] at hSw;obtain⟨⟨⟨q0,q1⟩,q2,q3,q4,q5⟩,q6,q7⟩:=hSw;go_simp;(try with_reducible rfl)
            (try simp only[aP,lB,lZ,lS]);refine tY (v:=?_) 8 66 ?_ ?_;rotate_left
            ·intro w hSw;rw[hSd] at hSw;obtain⟨⟨⟨q0,q1⟩,q2,q3,q4,q5⟩,q6,q7⟩:=hSw;go_simp;(try with_reducible rfl)
            (try simp only[aP,lB,lZ,lS]);refine tY (v:=?_) 9 67 ?_ ?_;rotate_left
            ·intro w hSw;rw[hSd] at hSw;obtain⟨⟨⟨q0,q1⟩,q2,q3,q4,q5⟩,q6,q7⟩:=hSw;go_simp;(try with_reducible rfl)
            (try simp only[aP,lB,lZ,lS]);refine tY (v:=?_) 10 68 ?_ ?_;rotate_left
            ·intro w hSw;rw[hSd] at hSw;obtain⟨⟨⟨q0,q1⟩,q2,q3,q4,q5⟩,q6,q7⟩:=hSw;go_simp;(try with_reducible rfl)
            (try simp only[aP,lB,lZ,lS]);refine tY (v:=?_) 11 69 ?_ ?_;rotate_left
            ·intro w hSw;rw[hSd] at hSw;obtain⟨⟨⟨q0,q1⟩,q2,q3,q4,q5⟩,q6,q7⟩:=hSw;go_simp;(try with_reducible rfl)
            (try simp only[aP,lB,lZ,lS]);refine tY (v:=?_) 12 70 ?_ ?_;rotate_left
            ·intro w hSw;rw[hSd] at hSw;obtain⟨⟨⟨q0,q1⟩,q2,q3,q4,q5⟩,q6,q7⟩:=hSw;go_simp;(try with_reducible rfl)
            (try simp only[aP,lB,lZ,lS]);refine tY (v:=?_) 13 71 ?_ ?_;rotate_left
            ·intro w hSw;rw[hSd] at hSw;obtain⟨⟨⟨q0,q1⟩,q2,q3,q4,q5⟩,q6,q7⟩:=hSw;go_simp;(try with_reducible rfl)
            (try simp only[aP,lB,lZ,lS]);refine tY (v:=?_) 14 72 ?_ ?_;rotate_left
            ·intro w hSw;rw[hSd] at hSw;obtain⟨⟨⟨q0,q1⟩,q2,q3,q4,q5⟩,q6,q7⟩:=hSw;go_simp;(try with_reducible rfl)
            (try simp only[aP,lB,lZ,lS]);refine tY (v:=?_) 15 73 ?_ ?_;rotate_left
            ·intro w hSw;rw[hSd] at hSw;obtain⟨⟨⟨q0,q1⟩,q2,q3,q4,q5⟩,q6,q7⟩:=hSw;go_simp;(try with_reducible rfl)
            (try simp only[aP,lB,lZ,lS]);refine tY (v:=?_) 16 74 ?_ ?_;rotate_left
            ·intro w hSw;rw[hSd] at hSw;obtain⟨⟨⟨q0,q1⟩,q2,q3,q4,q5⟩,q6,q7⟩:=hSw;go_simp;(try with_reducible rfl)
            (try simp only[aP,lB,lZ,lS]);refine tY (v:=?_) 17 75 ?_ ?_;rotate_left
            ·intro w hSw;rw[hSd] at hSw;obtain⟨⟨⟨q0,q1⟩,q2,q3,q4,q5⟩,q6,q7⟩:=hSw;go_simp;(try with_reducible rfl)
            (try simp only[aP,lB,lZ,lS]);refine tY (v:=?_) 18 76 ?_ ?_;rotate_left
            ·intro w hSw;rw[hSd] at hSw;obtain⟨⟨⟨q0,q1⟩,q2,q3,q4,q5⟩,q6,q7⟩:=hSw;go_simp;(try with_reducible rfl)
            (try simp only[aP,lB,lZ,lS]);refine tY (v:=?_) 19 77 ?_ ?_;rotate_left
            ·intro w hSw;rw[hSd] at hSw;obtain⟨⟨⟨q0,q1⟩,q2,q3,q4,q5⟩,q6,q7⟩:=hSw;go_simp;(try with_reducible rfl)
            (try simp only[aP,lB,lZ,lS]);refine tY (v:=?_) 20 78 ?_ ?_;rotate_left
            ·intro w hSw;rw[hSd] at hSw;obtain⟨⟨⟨q0,q1⟩,q2,q3,q4,q5⟩,q6,q7⟩:=hSw;go_simp;(try with_reducible rfl)
            (try simp only[aP,lB,lZ,lS]);refine tY (v:=?_) 21 79 ?_ ?_;rotate_left
            ·intro w hSw;rw[hSd] at hSw;obtain⟨⟨⟨q0,q1⟩,q2,q3,q4,q5⟩,q6,q7⟩:=hSw;go_simp;(try with_reducible rfl)
            (try simp only[aP,lB,lZ,lS]);refine tY (v:=?_) 22 80 ?_ ?_;rotate_left
            ·intro w hSw;rw[hSd] at hSw;obtain⟨⟨⟨q0,q1⟩,q2,q3,q4,q5⟩,q6,q7⟩:=hSw;go_simp;(try with_reducible rfl)
            (try simp only[aP,lB,lZ,lS]);refine tY (v:=?_) 23 81 ?_ ?_;rotate_left
            ·intro w hSw;rw[hSd] at hSw;obtain⟨⟨⟨q0,q1⟩,q2,q3,q4,q5⟩,q6,q7⟩:=hSw;go_simp;(try with_reducible rfl)
            (try simp only[aP,lB,lZ,lS]);refine tY (v:=?_) 24 82 ?_ ?_;rotate_left
            ·intro w hSw;rw[hSd] at hSw;obtain⟨⟨⟨q0,q1⟩,q2,q3,q4,q5⟩,q6,q7⟩:=hSw;go_simp;(try with_reducible rfl)
            (try simp only[aP,lB,lZ,lS]);refine tY (v:=?_) 25 83 ?_ ?_;rotate_left
            ·intro w hSw;rw[hSd] at hSw;obtain⟨⟨⟨q0,q1⟩,q2,q3,q4,q5⟩,q6,q7⟩:=hSw;go_simp;(try with_reducible rfl)
            (try simp only[aP,lB,lZ,lS]);refine wpAnyH_done (by kernel_rfl) ?_ _;clear wk3 wk4;go_wp2;go_ret;exact⟨ret_bool hbad.out.symm,(HX.out _ (HT0.out _ hZ0.out)).drew⟩
           ·have hD':decide (D<D')=false:=(by simpa using hD);have hok:Hid (okP ps (k+1) (I,D,P,T)=true):=(by show _=_;simp only[okP,okPrev_succ Hy.out hI hD,hto.out,T1,T2,T3,Bool.and_self]);have hnx:=Lib.hid (allP_next hall.out Hx.out hok.out);clear hD hI
            skip
            obtain⟨S,hSd⟩:∃S:World→Prop,S=fun z=>((z.cell? ⟨w.heap.size,0,none⟩=some (.slice (some ⟨b,o,none⟩) n c)∧z.cell? ⟨w.heap.size,1,none⟩=some (.slice A' n' c'))∧z.cell? ⟨wr.heap.size,0,none⟩=some (.int .i64 I)∧z.cell? ⟨wr.heap.size,1,none⟩=some (.int .i64 D)∧z.cell? ⟨wr.heap.size,2,none⟩=some (.int .i64 P)∧z.cell? ⟨wr.heap.size,3,none⟩=some (.int .i64 T))∧z.cell? ⟨b,o+k*4,none⟩=some (.int .i64 I')∧z.cell? ⟨b,o+k*4+1,none⟩=some (.int .i64 D'):=⟨_,rfl⟩
            have HS:=Lib.hid (fun z hz=>(by rw[hSd];exact HS0.out z hz:S z));(go_wp2_with fail);have wk3:=pw3 hk0;have wk4:=pw4 hk0;refine wp_region_held_drew (S:=S) (by kernel_rfl) ?_ (fun hHeld=>?_)
            ·exact HS.out _ hZ0.out.drew
            refine tY (v:=?_) 0 58 ?_ ?_;rotate_left
            ·intro w hSw;rw[hSd] at hSw;obtain⟨⟨⟨q0,q1⟩,q2,q3,q4,q5⟩,q6,q7⟩:=hSw;go_simp;(try with_reducible rfl)
            (try simp only[aP,lB,lZ,lS]);refine tY (v:=?_) 1 59 ?_ ?_;rotate_left
            ·intro w hSw;rw[hSd] at hSw;obtain⟨⟨⟨q0,q1⟩,q2,q3,q4,q5⟩,q6,q7⟩:=hSw;go_simp;(try with_reducible rfl)
            (try simp only[aP,lB,lZ,lS]);refine tY (v:=?_) 2 60 ?_ ?_;rotate_left
            ·intro w hSw;rw[hSd] at hSw;obtain⟨⟨⟨q0,q1⟩,q2,q3,q4,q5⟩,q6,q7⟩:=hSw;go_simp;(try with_reducible rfl)
            (try simp only[aP,lB,lZ,lS]);refine tY (v:=?_) 3 61 ?_ ?_;rotate_left
            ·intro w hSw;rw[hSd] at hSw;obtain⟨⟨⟨q0,q1⟩,q2,q3,q4,q5⟩,q6,q7⟩:=hSw;go_simp;(try with_reducible rfl)
            (try simp only[aP,lB,lZ,lS]);refine tY (v:=?_) 4 62 ?_ ?_;rotate_left
            ·intro w hSw;rw[hSd] at hSw;obtain⟨⟨⟨q0,q1⟩,q2,q3,q4,q5⟩,q6,q7⟩:=hSw;go_simp;(try with_reducible rfl)
            (try simp only[aP,lB,lZ,lS]);refine tY (v:=?_) 5 63 ?_ ?_;rotate_left
            ·intro w hSw;rw[hSd] at hSw;obtain⟨⟨⟨q0,q1⟩,q2,q3,q4,q5⟩,q6,q7⟩:=hSw;go_simp;(try with_reducible rfl)
            (try simp only[aP,lB,lZ,lS]);refine tY (v:=?_) 6 64 ?_ ?_;rotate_left
            ·intro w hSw;rw[hSd] at hSw;obtain⟨⟨⟨q0,q1⟩,q2,q3,q4,q5⟩,q6,q7⟩:=hSw;go_simp;(try with_reducible rfl)
            (try simp only[aP,lB,lZ,lS]);refine tY (v:=?_) 7 65 ?_ ?_;rotate_left
            ·intro w hSw;rw[hSd] at hSw;obtain⟨⟨⟨q0,q1⟩,q2,q3,q4,q5⟩,q6,q7⟩:=hSw;go_simp;(try with_reducible rfl)
            (try simp only[aP,lB,lZ,lS]);refine tY (v:=?_) 8 66 ?_ ?_;rotate_left
            ·intro w hSw;rw[hSd] at hSw;obtain⟨⟨⟨q0,q1⟩,q2,q3,q4,q5⟩,q6,q7⟩:=hSw;go_simp;(try with_reducible rfl)
            (try simp only[aP,lB,lZ,lS]);refine tY (v:=?_) 9 67 ?_ ?_;rotate_left
            ·intro w hSw;rw[hSd] at hSw;obtain⟨⟨⟨q0,q1⟩,q2,q3,q4,q5⟩,q6,q7⟩:=hSw;go_simp;(try with_reducible rfl)
            (try simp only[aP,lB,lZ,lS]);refine tY (v:=?_) 10 68 ?_ ?_;rotate_left
            ·intro w hSw;rw[hSd] at hSw;obtain⟨⟨⟨q0,q1⟩,q2,q3,q4,q5⟩,q6,q7⟩:=hSw;go_simp;(try with_reducible rfl)
            (try simp only[aP,lB,lZ,lS]);refine tY (v:=?_) 11 69 ?_ ?_;rotate_left
            ·intro w hSw;rw[hSd] at hSw;obtain⟨⟨⟨q0,q1⟩,q2,q3,q4,q5⟩,q6,q7⟩:=hSw;go_simp;(try with_reducible rfl)
            (try simp only[aP,lB,lZ,lS]);refine tY (v:=?_) 12 70 ?_ ?_;rotate_left
            ·intro w hSw;rw[hSd] at hSw;obtain⟨⟨⟨q0,q1⟩,q2,q3,q4,q5⟩,q6,q7⟩:=hSw;go_simp;(try with_reducible rfl)
            (try simp only[aP,lB,lZ,lS]);refine tY (v:=?_) 13 71 ?_ ?_;rotate_left
            ·intro w hSw;rw[hSd] at hSw;obtain⟨⟨⟨q0,q1⟩,q2,q3,q4,q5⟩,q6,q7⟩:=hSw;go_simp;(try with_reducible rfl)
            (try simp only[aP,lB,lZ,lS]);refine tY (v:=?_) 14 72 ?_ ?_;rotate_left
            ·intro w hSw;rw[hSd] at hSw;obtain⟨⟨⟨q0,q1⟩,q2,q3,q4,q5⟩,q6,q7⟩:=hSw;go_simp;(try with_reducible rfl)
            (try simp only[aP,lB,lZ,lS]);refine tY (v:=?_) 15 73 ?_ ?_;rotate_left
            ·intro w hSw;rw[hSd] at hSw;obtain⟨⟨⟨q0,q1⟩,q2,q3,q4,q5⟩,q6,q7⟩:=hSw;go_simp;(try with_reducible rfl)
            (try simp only[aP,lB,lZ,lS]);refine tY (v:=?_) 16 74 ?_ ?_;rotate_left
            ·intro w hSw;rw[hSd] at hSw;obtain⟨⟨⟨q0,q1⟩,q2,q3,q4,q5⟩,q6,q7⟩:=hSw;go_simp;(try with_reducible rfl)
            (try simp only[aP,lB,lZ,lS]);refine tY (v:=?_) 17 75 ?_ ?_;rotate_left
            ·intro w hSw;rw[hSd] at hSw;obtain⟨⟨⟨q0,q1⟩,q2,q3,q4,q5⟩,q6,q7⟩:=hSw;go_simp;(try with_reducible rfl)
            (try simp only[aP,lB,lZ,lS]);refine tY (v:=?_) 18 76 ?_ ?_;rotate_left
            ·intro w hSw;rw[hSd] at hSw;obtain⟨⟨⟨q0,q1⟩,q2,q3,q4,q5⟩,q6,q7⟩:=hSw;go_simp;(try with_reducible rfl)
            (try simp only[aP,lB,lZ,lS]);refine tY (v:=?_) 19 77 ?_ ?_;rotate_left
            ·intro w hSw;rw[hSd] at hSw;obtain⟨⟨⟨q0,q1⟩,q2,q3,q4,q5⟩,q6,q7⟩:=hSw;go_simp;(try with_reducible rfl)
            (try simp only[aP,lB,lZ,lS]);refine tY (v:=?_) 20 78 ?_ ?_;rotate_left
            ·intro w hSw;rw[hSd] at hSw;obtain⟨⟨⟨q0,q1⟩,q2,q3,q4,q5⟩,q6,q7⟩:=hSw;go_simp;(try with_reducible rfl)
            (try simp only[aP,lB,lZ,lS]);refine tY (v:=?_) 21 79 ?_ ?_;rotate_left
            ·intro w hSw;rw[hSd] at hSw;obtain⟨⟨⟨q0,q1⟩,q2,q3,q4,q5⟩,q6,q7⟩:=hSw;go_simp;(try with_reducible rfl)
            (try simp only[aP,lB,lZ,lS]);refine tY (v:=?_) 22 80 ?_ ?_;rotate_left
            ·intro w hSw;rw[hSd] at hSw;obtain⟨⟨⟨q0,q1⟩,q2,q3,q4,q5⟩,q6,q7⟩:=hSw;go_simp;(try with_reducible rfl)
            (try simp only[aP,lB,lZ,lS]);refine tY (v:=?_) 23 81 ?_ ?_;rotate_left
            ·intro w hSw;rw[hSd] at hSw;obtain⟨⟨⟨q0,q1⟩,q2,q3,q4,q5⟩,q6,q7⟩:=hSw;go_simp;(try with_reducible rfl)
            (try simp only[aP,lB,lZ,lS]);refine tY (v:=?_) 24 82 ?_ ?_;rotate_left
            ·intro w hSw;rw[hSd] at hSw;obtain⟨⟨⟨q0,q1⟩,q2,q3,q4,q5⟩,q6,q7⟩:=hSw;go_simp;(try with_reducible rfl)
            (try simp only[aP,lB,lZ,lS]);refine tY (v:=?_) 25 83 ?_ ?_;rotate_left
            ·intro w hSw;rw[hSd] at hSw;obtain⟨⟨⟨q0,q1⟩,q2,q3,q4,q5⟩,q6,q7⟩:=hSw;go_simp;(try with_reducible rfl)
            (try simp only[aP,lB,lZ,lS]);refine wpAnyH_done (by kernel_rfl) ?_ _;clear wk3 wk4;go_wp2;go_roundw
            case rel=>exact⟨k+1+1,by omega,by go_num,hnx,Lib.hid (HT0.out _ hZ0.out).drew⟩
            case measure=>simp[intOf];omega
         ·have hT':(T != 0)=true:=(by simpa using hT);have H6:=Lib.hid (Pressing_any _ A' n c n' c' ps T _ hn0 (HR.out _ (HT0.out _ hZ0.out)));obtain⟨j0,j1⟩:=idxP_bound ps T;(go_wp2_with fail);refine H6.out.mono ?_;rintro e z1 ⟨rfl,hb1⟩;have hZ1:=Lib.hid (below_via hZ0.out hzz hb1);clear m0 m1 e0 e1 e2 e3 hb1 y0 y1;obtain⟨⟨⟨m0,m1⟩,e0,e1,e2,e3⟩,y0,y1⟩:=HS0.out _ hZ1.out;by_cases hj:idxP ps T≤((k+1:Nat):Int)
          ·have hbad:Hid (validP ps ws=false):=valid_not (allP_false Hx.out (okP_to hT hj));generalize idxP ps T=jx at *;go_wp2;go_ret;exact⟨ret_bool hbad.out.symm,HX.out _ (HT0.out _ hZ1.out)⟩
          ·have hto0:=Lib.hid (okTo_idx (ps:=ps) (I:=I) (D:=D) (P:=P) hj);generalize idxP ps T=jx at *;have hto:Hid (okTo ps (k+1) (I,D,P,T)=true):=hto0.out;by_cases hI:I≤I'
           ·have hI':decide (I≤I')=true:=(by simpa using hI);have hbad:Hid (validP ps ws=false):=valid_not (allP_false Hx.out (okP_prev Hy.out (Or.inl hI)));clear hI
            skip
            obtain⟨S,hSd⟩:∃S:World→Prop,S=fun z=>((z.cell? ⟨w.heap.size,0,none⟩=some (.slice (some ⟨b,o,none⟩) n c)∧z.cell? ⟨w.heap.size,1,none⟩=some (.slice A' n' c'))∧z.cell? ⟨wr.heap.size,0,none⟩=some (.int .i64 I)∧z.cell? ⟨wr.heap.size,1,none⟩=some (.int .i64 D)∧z.cell? ⟨wr.heap.size,2,none⟩=some (.int .i64 P)∧z.cell? ⟨wr.heap.size,3,none⟩=some (.int .i64 T))∧z.cell? ⟨b,o+k*4,none⟩=some (.int .i64 I')∧z.cell? ⟨b,o+k*4+1,none⟩=some (.int .i64 D'):=⟨_,rfl⟩
            have HS:=Lib.hid (fun z hz=>(by rw[hSd];exact HS0.out z hz:S z));(go_wp2_with fail);have wk3:=pw3 hk0;have wk4:=pw4 hk0;refine wp_region_held_drew (S:=S) (by kernel_rfl) ?_ (fun hHeld=>?_)
            ·exact HS.out _ hZ1.out.drew
            refine tY (v:=?_) 0 58 ?_ ?_;rotate_left
            ·intro w hSw;rw[hSd] at hSw;obtain⟨⟨⟨q0,q1⟩,q2,q3,q4,q5⟩,q6,q7⟩:=hSw;go_simp;(try with_reducible rfl)
            (try simp only[aP,lB,lZ,lS]);refine tY (v:=?_) 1 59 ?_ ?_;rotate_left
            ·intro w hSw;rw[hSd] at hSw;obtain⟨⟨⟨q0,q1⟩,q2,q3,q4,q5⟩,q6,q7⟩:=hSw;go_simp;(try with_reducible rfl)
            (try simp only[aP,lB,lZ,lS]);refine tY (v:=?_) 2 60 ?_ ?_;rotate_left
            ·intro w hSw;rw[hSd] at hSw;obtain⟨⟨⟨q0,q1⟩,q2,q3,q4,q5⟩,q6,q7⟩:=hSw;go_simp;(try with_reducible rfl)
            (try simp only[aP,lB,lZ,lS]);refine tY (v:=?_) 3 61 ?_ ?_;rotate_left
            ·intro w hSw;rw[hSd] at hSw;obtain⟨⟨⟨q0,q1⟩,q2,q3,q4,q5⟩,q6,q7⟩:=hSw;go_simp;(try with_reducible rfl)
            (try simp only[aP,lB,lZ,lS]);refine tY (v:=?_) 4 62 ?_ ?_;rotate_left
            ·intro w hSw;rw[hSd] at hSw;obtain⟨⟨⟨q0,q1⟩,q2,q3,q4,q5⟩,q6,q7⟩:=hSw;go_simp;(try with_reducible rfl)
            (try simp only[aP,lB,lZ,lS]);refine tY (v:=?_) 5 63 ?_ ?_;rotate_left
            ·intro w hSw;rw[hSd] at hSw;obtain⟨⟨⟨q0,q1⟩,q2,q3,q4,q5⟩,q6,q7⟩:=hSw;go_simp;(try with_reducible rfl)
            (try simp only[aP,lB,lZ,lS]);refine tY (v:=?_) 6 64 ?_ ?_;rotate_left
            ·intro w hSw;rw[hSd] at hSw;obtain⟨⟨⟨q0,q1⟩,q2,q3,q4,q5⟩,q6,q7⟩:=hSw;go_simp;(try with_reducible rfl)
            (try simp only[aP,lB,lZ,lS]);refine tY (v:=?_) 7 65 ?_ ?_;rotate_left
            ·intro w hSw;rw[hSd] at hSw;obtain⟨⟨⟨q0,q1⟩,q2,q3,q4,q5⟩,q6,q7⟩:=hSw;go_simp;(try with_reducible rfl)
            (try simp only[aP,lB,lZ,lS]);refine tY (v:=?_) 8 66 ?_ ?_;rotate_left
            ·intro w hSw;rw[hSd] at hSw;obtain⟨⟨⟨q0,q1⟩,q2,q3,q4,q5⟩,q6,q7⟩:=hSw;go_simp;(try with_reducible rfl)
            (try simp only[aP,lB,lZ,lS]);refine tY (v:=?_) 9 67 ?_ ?_;rotate_left
            ·intro w hSw;rw[hSd] at hSw;obtain⟨⟨⟨q0,q1⟩,q2,q3,q4,q5⟩,q6,q7⟩:=hSw;go_simp;(try with_reducible rfl)
            (try simp only[aP,lB,lZ,lS]);refine tY (v:=?_) 10 68 ?_ ?_;rotate_left
            ·intro w hSw;rw[hSd] at hSw;obtain⟨⟨⟨q0,q1⟩,q2,q3,q4,q5⟩,q6,q7⟩:=hSw;go_simp;(try with_reducible rfl)
            (try simp only[aP,lB,lZ,lS]);refine tY (v:=?_) 11 69 ?_ ?_;rotate_left
            ·intro w hSw;rw[hSd] at hSw;obtain⟨⟨⟨q0,q1⟩,q2,q3,q4,q5⟩,q6,q7⟩:=hSw;go_simp;(try with_reducible rfl)
            (try simp only[aP,lB,lZ,lS]);refine tY (v:=?_) 12 70 ?_ ?_;rotate_left
            ·intro w hSw;rw[hSd] at hSw;obtain⟨⟨⟨q0,q1⟩,q2,q3,q4,q5⟩,q6,q7⟩:=hSw;go_simp;(try with_reducible rfl)
            (try simp only[aP,lB,lZ,lS]);refine tY (v:=?_) 13 71 ?_ ?_;rotate_left
            ·intro w hSw;rw[hSd] at hSw;obtain⟨⟨⟨q0,q1⟩,q2,q3,q4,q5⟩,q6,q7⟩:=hSw;go_simp;(try with_reducible rfl)
            (try simp only[aP,lB,lZ,lS]);refine tN 14 72 ?_;(try simp only[aP,lB,lZ,lS]);refine tN 15 73 ?_;(try simp only[aP,lB,lZ,lS]);refine tN 16 74 ?_;(try simp only[aP,lB,lZ,lS]);refine tN 17 75 ?_;(try simp only[aP,lB,lZ,lS]);refine tN 18 76 ?_;(try simp only[aP,lB,lZ,lS]);refine tN 19 77 ?_;(try simp only[aP,lB,lZ,lS]);refine tN 20 78 ?_;(try simp only[aP,lB,lZ,lS]);refine tN 21 79 ?_;(try simp only[aP,lB,lZ,lS]);refine tN 22 80 ?_;(try simp only[aP,lB,lZ,lS]);refine tN 23 81 ?_;(try simp only[aP,lB,lZ,lS]);refine tY (v:=?_) 24 82 ?_ ?_;rotate_left
            ·intro w hSw;rw[hSd] at hSw;obtain⟨⟨⟨q0,q1⟩,q2,q3,q4,q5⟩,q6,q7⟩:=hSw;go_simp;(try with_reducible rfl)
            (try simp only[aP,lB,lZ,lS]);refine tY (v:=?_) 25 83 ?_ ?_;rotate_left
            ·intro w hSw;rw[hSd] at hSw;obtain⟨⟨⟨q0,q1⟩,q2,q3,q4,q5⟩,q6,q7⟩:=hSw;go_simp;(try with_reducible rfl)
            (try simp only[aP,lB,lZ,lS]);refine wpAnyH_done (by kernel_rfl) ?_ _;clear wk3 wk4;go_wp2;go_ret;exact⟨ret_bool hbad.out.symm,(HX.out _ (HT0.out _ hZ1.out)).drew⟩
           ·have hI':decide (I≤I')=false:=(by simpa using hI);by_cases hD:D<D'
            ·have hD':decide (D<D')=true:=(by simpa using hD);have hbad:Hid (validP ps ws=false):=valid_not (allP_false Hx.out (okP_prev Hy.out (Or.inr hD)));clear hD hI
             skip
             obtain⟨S,hSd⟩:∃S:World→Prop,S=fun z=>((z.cell? ⟨w.heap.size,0,none⟩=some (.slice (some ⟨b,o,none⟩) n c)∧z.cell? ⟨w.heap.size,1,none⟩=some (.slice A' n' c'))∧z.cell? ⟨wr.heap.size,0,none⟩=some (.int .i64 I)∧z.cell? ⟨wr.heap.size,1,none⟩=some (.int .i64 D)∧z.cell? ⟨wr.heap.size,2,none⟩=some (.int .i64 P)∧z.cell? ⟨wr.heap.size,3,none⟩=some (.int .i64 T))∧z.cell? ⟨b,o+k*4,none⟩=some (.int .i64 I')∧z.cell? ⟨b,o+k*4+1,none⟩=some (.int .i64 D'):=⟨_,rfl⟩
             have HS:=Lib.hid (fun z hz=>(by rw[hSd];exact HS0.out z hz:S z));(go_wp2_with fail);have wk3:=pw3 hk0;have wk4:=pw4 hk0;refine wp_region_held_drew (S:=S) (by kernel_rfl) ?_ (fun hHeld=>?_)
             ·exact HS.out _ hZ1.out.drew
             refine tY (v:=?_) 0 58 ?_ ?_;rotate_left
             ·intro w hSw;rw[hSd] at hSw;obtain⟨⟨⟨q0,q1⟩,q2,q3,q4,q5⟩,q6,q7⟩:=hSw;go_simp;(try with_reducible rfl)
             (try simp only[aP,lB,lZ,lS]);refine tY (v:=?_) 1 59 ?_ ?_;rotate_left
             ·intro w hSw;rw[hSd] at hSw;obtain⟨⟨⟨q0,q1⟩,q2,q3,q4,q5⟩,q6,q7⟩:=hSw;go_simp;(try with_reducible rfl)
             (try simp only[aP,lB,lZ,lS]);refine tY (v:=?_) 2 60 ?_ ?_;rotate_left
             ·intro w hSw;rw[hSd] at hSw;obtain⟨⟨⟨q0,q1⟩,q2,q3,q4,q5⟩,q6,q7⟩:=hSw;go_simp;(try with_reducible rfl)
             (try simp only[aP,lB,lZ,lS]);refine tY (v:=?_) 3 61 ?_ ?_;rotate_left
             ·intro w hSw;rw[hSd] at hSw;obtain⟨⟨⟨q0,q1⟩,q2,q3,q4,q5⟩,q6,q7⟩:=hSw;go_simp;(try with_reducible rfl)
             (try simp only[aP,lB,lZ,lS]);refine tY (v:=?_) 4 62 ?_ ?_;rotate_left
             ·intro w hSw;rw[hSd] at hSw;obtain⟨⟨⟨q0,q1⟩,q2,q3,q4,q5⟩,q6,q7⟩:=hSw;go_simp;(try with_reducible rfl)
             (try simp only[aP,lB,lZ,lS]);refine tY (v:=?_) 5 63 ?_ ?_;rotate_left
             ·intro w hSw;rw[hSd] at hSw;obtain⟨⟨⟨q0,q1⟩,q2,q3,q4,q5⟩,q6,q7⟩:=hSw;go_simp;(try with_reducible rfl)
             (try simp only[aP,lB,lZ,lS]);refine tY (v:=?_) 6 64 ?_ ?_;rotate_left
             ·intro w hSw;rw[hSd] at hSw;obtain⟨⟨⟨q0,q1⟩,q2,q3,q4,q5⟩,q6,q7⟩:=hSw;go_simp;(try with_reducible rfl)
             (try simp only[aP,lB,lZ,lS]);refine tY (v:=?_) 7 65 ?_ ?_;rotate_left
             ·intro w hSw;rw[hSd] at hSw;obtain⟨⟨⟨q0,q1⟩,q2,q3,q4,q5⟩,q6,q7⟩:=hSw;go_simp;(try with_reducible rfl)
             (try simp only[aP,lB,lZ,lS]);refine tY (v:=?_) 8 66 ?_ ?_;rotate_left
             ·intro w hSw;rw[hSd] at hSw;obtain⟨⟨⟨q0,q1⟩,q2,q3,q4,q5⟩,q6,q7⟩:=hSw;go_simp;(try with_reducible rfl)
             (try simp only[aP,lB,lZ,lS]);refine tY (v:=?_) 9 67 ?_ ?_;rotate_left
             ·intro w hSw;rw[hSd] at hSw;obtain⟨⟨⟨q0,q1⟩,q2,q3,q4,q5⟩,q6,q7⟩:=hSw;go_simp;(try with_reducible rfl)
             (try simp only[aP,lB,lZ,lS]);refine tY (v:=?_) 10 68 ?_ ?_;rotate_left
             ·intro w hSw;rw[hSd] at hSw;obtain⟨⟨⟨q0,q1⟩,q2,q3,q4,q5⟩,q6,q7⟩:=hSw;go_simp;(try with_reducible rfl)
             (try simp only[aP,lB,lZ,lS]);refine tY (v:=?_) 11 69 ?_ ?_;rotate_left
             ·intro w hSw;rw[hSd] at hSw;obtain⟨⟨⟨q0,q1⟩,q2,q3,q4,q5⟩,q6,q7⟩:=hSw;go_simp;(try with_reducible rfl)
             (try simp only[aP,lB,lZ,lS]);refine tY (v:=?_) 12 70 ?_ ?_;rotate_left
             ·intro w hSw;rw[hSd] at hSw;obtain⟨⟨⟨q0,q1⟩,q2,q3,q4,q5⟩,q6,q7⟩:=hSw;go_simp;(try with_reducible rfl)
             (try simp only[aP,lB,lZ,lS]);refine tY (v:=?_) 13 71 ?_ ?_;rotate_left
             ·intro w hSw;rw[hSd] at hSw;obtain⟨⟨⟨q0,q1⟩,q2,q3,q4,q5⟩,q6,q7⟩:=hSw;go_simp;(try with_reducible rfl)
             (try simp only[aP,lB,lZ,lS]);refine tY (v:=?_) 14 72 ?_ ?_;rotate_left
             ·intro w hSw;rw[hSd] at hSw;obtain⟨⟨⟨q0,q1⟩,q2,q3,q4,q5⟩,q6,q7⟩:=hSw;go_simp;(try with_reducible rfl)
             (try simp only[aP,lB,lZ,lS]);refine tY (v:=?_) 15 73 ?_ ?_;rotate_left
             ·intro w hSw;rw[hSd] at hSw;obtain⟨⟨⟨q0,q1⟩,q2,q3,q4,q5⟩,q6,q7⟩:=hSw;go_simp;(try with_reducible rfl)
             (try simp only[aP,lB,lZ,lS]);refine tY (v:=?_) 16 74 ?_ ?_;rotate_left
             ·intro w hSw;rw[hSd] at hSw;obtain⟨⟨⟨q0,q1⟩,q2,q3,q4,q5⟩,q6,q7⟩:=hSw;go_simp;(try with_reducible rfl)
             (try simp only[aP,lB,lZ,lS]);refine tY (v:=?_) 17 75 ?_ ?_;rotate_left
             ·intro w hSw;rw[hSd] at hSw;obtain⟨⟨⟨q0,q1⟩,q2,q3,q4,q5⟩,q6,q7⟩:=hSw;go_simp;(try with_reducible rfl)
             (try simp only[aP,lB,lZ,lS]);refine tY (v:=?_) 18 76 ?_ ?_;rotate_left
             ·intro w hSw;rw[hSd] at hSw;obtain⟨⟨⟨q0,q1⟩,q2,q3,q4,q5⟩,q6,q7⟩:=hSw;go_simp;(try with_reducible rfl)
             (try simp only[aP,lB,lZ,lS]);refine tY (v:=?_) 19 77 ?_ ?_;rotate_left
             ·intro w hSw;rw[hSd] at hSw;obtain⟨⟨⟨q0,q1⟩,q2,q3,q4,q5⟩,q6,q7⟩:=hSw;go_simp;(try with_reducible rfl)
             (try simp only[aP,lB,lZ,lS]);refine tY (v:=?_) 20 78 ?_ ?_;rotate_left
             ·intro w hSw;rw[hSd] at hSw;obtain⟨⟨⟨q0,q1⟩,q2,q3,q4,q5⟩,q6,q7⟩:=hSw;go_simp;(try with_reducible rfl)
             (try simp only[aP,lB,lZ,lS]);refine tY (v:=?_) 21 79 ?_ ?_;rotate_left
             ·intro w hSw;rw[hSd] at hSw;obtain⟨⟨⟨q0,q1⟩,q2,q3,q4,q5⟩,q6,q7⟩:=hSw;go_simp;(try with_reducible rfl)
             (try simp only[aP,lB,lZ,lS]);refine tY (v:=?_) 22 80 ?_ ?_;rotate_left
             ·intro w hSw;rw[hSd] at hSw;obtain⟨⟨⟨q0,q1⟩,q2,q3,q4,q5⟩,q6,q7⟩:=hSw;go_simp;(try with_reducible rfl)
             (try simp only[aP,lB,lZ,lS]);refine tY (v:=?_) 23 81 ?_ ?_;rotate_left
             ·intro w hSw;rw[hSd] at hSw;obtain⟨⟨⟨q0,q1⟩,q2,q3,q4,q5⟩,q6,q7⟩:=hSw;go_simp;(try with_reducible rfl)
             (try simp only[aP,lB,lZ,lS]);refine tY (v:=?_) 24 82 ?_ ?_;rotate_left
             ·intro w hSw;rw[hSd] at hSw;obtain⟨⟨⟨q0,q1⟩,q2,q3,q4,q5⟩,q6,q7⟩:=hSw;go_simp;(try with_reducible rfl)
             (try simp only[aP,lB,lZ,lS]);refine tY (v:=?_) 25 83 ?_ ?_;rotate_left
             ·intro w hSw;rw[hSd] at hSw;obtain⟨⟨⟨q0,q1⟩,q2,q3,q4,q5⟩,q6,q7⟩:=hSw;go_simp;(try with_reducible rfl)
             (try simp only[aP,lB,lZ,lS]);refine wpAnyH_done (by kernel_rfl) ?_ _;clear wk3 wk4;go_wp2;go_ret;exact⟨ret_bool hbad.out.symm,(HX.out _ (HT0.out _ hZ1.out)).drew⟩
            ·have hD':decide (D<D')=false:=(by simpa using hD);have hok:Hid (okP ps (k+1) (I,D,P,T)=true):=(by show _=_;simp only[okP,okPrev_succ Hy.out hI hD,hto.out,T1,T2,T3,Bool.and_self]);have hnx:=Lib.hid (allP_next hall.out Hx.out hok.out);clear hD hI
             skip
             obtain⟨S,hSd⟩:∃S:World→Prop,S=fun z=>((z.cell? ⟨w.heap.size,0,none⟩=some (.slice (some ⟨b,o,none⟩) n c)∧z.cell? ⟨w.heap.size,1,none⟩=some (.slice A' n' c'))∧z.cell? ⟨wr.heap.size,0,none⟩=some (.int .i64 I)∧z.cell? ⟨wr.heap.size,1,none⟩=some (.int .i64 D)∧z.cell? ⟨wr.heap.size,2,none⟩=some (.int .i64 P)∧z.cell? ⟨wr.heap.size,3,none⟩=some (.int .i64 T))∧z.cell? ⟨b,o+k*4,none⟩=some (.int .i64 I')∧z.cell? ⟨b,o+k*4+1,none⟩=some (.int .i64 D'):=⟨_,rfl⟩
             have HS:=Lib.hid (fun z hz=>(by rw[hSd];exact HS0.out z hz:S z));(go_wp2_with fail);have wk3:=pw3 hk0;have wk4:=pw4 hk0;refine wp_region_held_drew (S:=S) (by kernel_rfl) ?_ (fun hHeld=>?_)
             ·exact HS.out _ hZ1.out.drew
             refine tY (v:=?_) 0 58 ?_ ?_;rotate_left
             ·intro w hSw;rw[hSd] at hSw;obtain⟨⟨⟨q0,q1⟩,q2,q3,q4,q5⟩,q6,q7⟩:=hSw;go_simp;(try with_reducible rfl)
             (try simp only[aP,lB,lZ,lS]);refine tY (v:=?_) 1 59 ?_ ?_;rotate_left
             ·intro w hSw;rw[hSd] at hSw;obtain⟨⟨⟨q0,q1⟩,q2,q3,q4,q5⟩,q6,q7⟩:=hSw;go_simp;(try with_reducible rfl)
             (try simp only[aP,lB,lZ,lS]);refine tY (v:=?_) 2 60 ?_ ?_;rotate_left
             ·intro w hSw;rw[hSd] at hSw;obtain⟨⟨⟨q0,q1⟩,q2,q3,q4,q5⟩,q6,q7⟩:=hSw;go_simp;(try with_reducible rfl)
             (try simp only[aP,lB,lZ,lS]);refine tY (v:=?_) 3 61 ?_ ?_;rotate_left
             ·intro w hSw;rw[hSd] at hSw;obtain⟨⟨⟨q0,q1⟩,q2,q3,q4,q5⟩,q6,q7⟩:=hSw;go_simp;(try with_reducible rfl)
             (try simp only[aP,lB,lZ,lS]);refine tY (v:=?_) 4 62 ?_ ?_;rotate_left
             ·intro w hSw;rw[hSd] at hSw;obtain⟨⟨⟨q0,q1⟩,q2,q3,q4,q5⟩,q6,q7⟩:=hSw;go_simp;(try with_reducible rfl)
             (try simp only[aP,lB,lZ,lS]);refine tY (v:=?_) 5 63 ?_ ?_;rotate_left
             ·intro w hSw;rw[hSd] at hSw;obtain⟨⟨⟨q0,q1⟩,q2,q3,q4,q5⟩,q6,q7⟩:=hSw;go_simp;(try with_reducible rfl)
             (try simp only[aP,lB,lZ,lS]);refine tY (v:=?_) 6 64 ?_ ?_;rotate_left
             ·intro w hSw;rw[hSd] at hSw;obtain⟨⟨⟨q0,q1⟩,q2,q3,q4,q5⟩,q6,q7⟩:=hSw;go_simp;(try with_reducible rfl)
             (try simp only[aP,lB,lZ,lS]);refine tY (v:=?_) 7 65 ?_ ?_;rotate_left
             ·intro w hSw;rw[hSd] at hSw;obtain⟨⟨⟨q0,q1⟩,q2,q3,q4,q5⟩,q6,q7⟩:=hSw;go_simp;(try with_reducible rfl)
             (try simp only[aP,lB,lZ,lS]);refine tY (v:=?_) 8 66 ?_ ?_;rotate_left
             ·intro w hSw;rw[hSd] at hSw;obtain⟨⟨⟨q0,q1⟩,q2,q3,q4,q5⟩,q6,q7⟩:=hSw;go_simp;(try with_reducible rfl)
             (try simp only[aP,lB,lZ,lS]);refine tY (v:=?_) 9 67 ?_ ?_;rotate_left
             ·intro w hSw;rw[hSd] at hSw;obtain⟨⟨⟨q0,q1⟩,q2,q3,q4,q5⟩,q6,q7⟩:=hSw;go_simp;(try with_reducible rfl)
             (try simp only[aP,lB,lZ,lS]);refine tY (v:=?_) 10 68 ?_ ?_;rotate_left
             ·intro w hSw;rw[hSd] at hSw;obtain⟨⟨⟨q0,q1⟩,q2,q3,q4,q5⟩,q6,q7⟩:=hSw;go_simp;(try with_reducible rfl)
             (try simp only[aP,lB,lZ,lS]);refine tY (v:=?_) 11 69 ?_ ?_;rotate_left
             ·intro w hSw;rw[hSd] at hSw;obtain⟨⟨⟨q0,q1⟩,q2,q3,q4,q5⟩,q6,q7⟩:=hSw;go_simp;(try with_reducible rfl)
             (try simp only[aP,lB,lZ,lS]);refine tY (v:=?_) 12 70 ?_ ?_;rotate_left
             ·intro w hSw;rw[hSd] at hSw;obtain⟨⟨⟨q0,q1⟩,q2,q3,q4,q5⟩,q6,q7⟩:=hSw;go_simp;(try with_reducible rfl)
             (try simp only[aP,lB,lZ,lS]);refine tY (v:=?_) 13 71 ?_ ?_;rotate_left
             ·intro w hSw;rw[hSd] at hSw;obtain⟨⟨⟨q0,q1⟩,q2,q3,q4,q5⟩,q6,q7⟩:=hSw;go_simp;(try with_reducible rfl)
             (try simp only[aP,lB,lZ,lS]);refine tY (v:=?_) 14 72 ?_ ?_;rotate_left
             ·intro w hSw;rw[hSd] at hSw;obtain⟨⟨⟨q0,q1⟩,q2,q3,q4,q5⟩,q6,q7⟩:=hSw;go_simp;(try with_reducible rfl)
             (try simp only[aP,lB,lZ,lS]);refine tY (v:=?_) 15 73 ?_ ?_;rotate_left
             ·intro w hSw;rw[hSd] at hSw;obtain⟨⟨⟨q0,q1⟩,q2,q3,q4,q5⟩,q6,q7⟩:=hSw;go_simp;(try with_reducible rfl)
             (try simp only[aP,lB,lZ,lS]);refine tY (v:=?_) 16 74 ?_ ?_;rotate_left
             ·intro w hSw;rw[hSd] at hSw;obtain⟨⟨⟨q0,q1⟩,q2,q3,q4,q5⟩,q6,q7⟩:=hSw;go_simp;(try with_reducible rfl)
             (try simp only[aP,lB,lZ,lS]);refine tY (v:=?_) 17 75 ?_ ?_;rotate_left
             ·intro w hSw;rw[hSd] at hSw;obtain⟨⟨⟨q0,q1⟩,q2,q3,q4,q5⟩,q6,q7⟩:=hSw;go_simp;(try with_reducible rfl)
             (try simp only[aP,lB,lZ,lS]);refine tY (v:=?_) 18 76 ?_ ?_;rotate_left
             ·intro w hSw;rw[hSd] at hSw;obtain⟨⟨⟨q0,q1⟩,q2,q3,q4,q5⟩,q6,q7⟩:=hSw;go_simp;(try with_reducible rfl)
             (try simp only[aP,lB,lZ,lS]);refine tY (v:=?_) 19 77 ?_ ?_;rotate_left
             ·intro w hSw;rw[hSd] at hSw;obtain⟨⟨⟨q0,q1⟩,q2,q3,q4,q5⟩,q6,q7⟩:=hSw;go_simp;(try with_reducible rfl)
             (try simp only[aP,lB,lZ,lS]);refine tY (v:=?_) 20 78 ?_ ?_;rotate_left
             ·intro w hSw;rw[hSd] at hSw;obtain⟨⟨⟨q0,q1⟩,q2,q3,q4,q5⟩,q6,q7⟩:=hSw;go_simp;(try with_reducible rfl)
             (try simp only[aP,lB,lZ,lS]);refine tY (v:=?_) 21 79 ?_ ?_;rotate_left
             ·intro w hSw;rw[hSd] at hSw;obtain⟨⟨⟨q0,q1⟩,q2,q3,q4,q5⟩,q6,q7⟩:=hSw;go_simp;(try with_reducible rfl)
             (try simp only[aP,lB,lZ,lS]);refine tY (v:=?_) 22 80 ?_ ?_;rotate_left
             ·intro w hSw;rw[hSd] at hSw;obtain⟨⟨⟨q0,q1⟩,q2,q3,q4,q5⟩,q6,q7⟩:=hSw;go_simp;(try with_reducible rfl)
             (try simp only[aP,lB,lZ,lS]);refine tY (v:=?_) 23 81 ?_ ?_;rotate_left
             ·intro w hSw;rw[hSd] at hSw;obtain⟨⟨⟨q0,q1⟩,q2,q3,q4,q5⟩,q6,q7⟩:=hSw;go_simp;(try with_reducible rfl)
             (try simp only[aP,lB,lZ,lS]);refine tY (v:=?_) 24 82 ?_ ?_;rotate_left
             ·intro w hSw;rw[hSd] at hSw;obtain⟨⟨⟨q0,q1⟩,q2,q3,q4,q5⟩,q6,q7⟩:=hSw;go_simp;(try with_reducible rfl)
             (try simp only[aP,lB,lZ,lS]);refine tY (v:=?_) 25 83 ?_ ?_;rotate_left
             ·intro w hSw;rw[hSd] at hSw;obtain⟨⟨⟨q0,q1⟩,q2,q3,q4,q5⟩,q6,q7⟩:=hSw;go_simp;(try with_reducible rfl)
             (try simp only[aP,lB,lZ,lS]);refine wpAnyH_done (by kernel_rfl) ?_ _;clear wk3 wk4;go_wp2;go_roundw
             case rel=>exact⟨k+1+1,by omega,by go_num,hnx,Lib.hid (HT0.out _ hZ1.out).drew⟩
             case measure=>simp[intOf];omega
    ·have hfin:=Lib.hid (allP_true (ps:=ps) (fun i y hy=>hall.out i y (by have:=(List.getElem?_eq_some_iff.1 hy).1;omega) hy));clear hall;rw[hfin.out,Bool.true_and] at hv0;go_wp2;have hB2:=hBr;clear hBr m0 m1;go_loopw [5] (fun x wr=>∃(k:Nat) (last:Int),k≤n'∧x = .int .i64 k∧0≤last∧last≤9999∧((k=0∧last=0)∨∃j N P K L H,k=j+1∧ws[j]? = some (N,P,K,L,H)∧last=N)∧Hid (allW ps 0 ws=allW ps last (ws.drop k))∧Hid (Below (w.heap.size+1) wb wr)) (fun x _=>n' - (intOf x).toNat)
     case atStart=>exact⟨0,0,by omega,rfl,by omega,by omega,Or.inl ⟨rfl,rfl⟩,rfl,hB2⟩
     case round=>
      clear hB2;obtain⟨k,last,hk',rfl,hl0,hl1,hpr,hallw,hBr⟩:=hrel;obtain⟨m0,m1,hsz⟩:=HM.out _ hBr.out;by_cases hlt':k<n'
      ·obtain⟨b,o,N,P,K,L,H,rfl,hb,hx,c0,c1,c2,c3,c4⟩:=(HRw.out _ hBr.out).wg hlt';have Hx:=Lib.hid hx;have hst:=allW_step (ps:=ps) (last:=last) hx;rw[okW_eqR] at hst;have E:=Lib.hid (hallw.out.trans hst);clear hx hst hallw;rcases hpr with ⟨rfl,rfl⟩|⟨k,N',P',K',L',H',rfl,hy,rfl⟩
       ·rw[show ((0:Nat):Int)=0 from rfl];simp only[Nat.zero_mul,Nat.add_zero] at c0 c1 c2 c3 c4;have HS0:Hid (∀z,Below (wr.heap.size+1) (wr.alloc (.cells #[.int .i64 N,.int .i64 P,.int .i64 K,.int .i64 L,.int .i64 H] 81)) z→((z.cell? ⟨w.heap.size,0,none⟩=some (.slice A n c)∧z.cell? ⟨w.heap.size,1,none⟩=some (.slice (some ⟨b,o,none⟩) n' c'))∧z.cell? ⟨wr.heap.size,0,none⟩=some (.int .i64 N)∧z.cell? ⟨wr.heap.size,1,none⟩=some (.int .i64 P)∧z.cell? ⟨wr.heap.size,2,none⟩=some (.int .i64 K)∧z.cell? ⟨wr.heap.size,3,none⟩=some (.int .i64 L)∧z.cell? ⟨wr.heap.size,4,none⟩=some (.int .i64 H))):=by
         intro z hz;refine⟨⟨(hz.cell (p:=⟨w.heap.size,0,none⟩) (by simp;omega)).trans ((World.cell?_alloc_lt _ _ _ (by simp;omega)).trans m0),(hz.cell (p:=⟨w.heap.size,1,none⟩) (by simp;omega)).trans ((World.cell?_alloc_lt _ _ _ (by simp;omega)).trans m1)⟩,?_,?_,?_,?_,?_⟩
         ·rw[hz.cell (p:=⟨wr.heap.size,0,none⟩) (by simp),World.cell?_alloc_at _ _ _ _ rfl];rfl
         ·rw[hz.cell (p:=⟨wr.heap.size,1,none⟩) (by simp),World.cell?_alloc_at _ _ _ _ rfl];rfl
         ·rw[hz.cell (p:=⟨wr.heap.size,2,none⟩) (by simp),World.cell?_alloc_at _ _ _ _ rfl];rfl
         ·rw[hz.cell (p:=⟨wr.heap.size,3,none⟩) (by simp),World.cell?_alloc_at _ _ _ _ rfl];rfl
         ·rw[hz.cell (p:=⟨wr.heap.size,4,none⟩) (by simp),World.cell?_alloc_at _ _ _ _ rfl];rfl
        have hBz:=Lib.hid (hBr.out.alloc (o:=(.cells #[.int .i64 N,.int .i64 P,.int .i64 K,.int .i64 L,.int .i64 H] 81)) hsz);have HT0:Hid (∀z,Below (wr.heap.size+1) (wr.alloc (.cells #[.int .i64 N,.int .i64 P,.int .i64 K,.int .i64 L,.int .i64 H] 81)) z→Below (w.heap.size+1) wb z):=fun z hz=>hBz.out.trans (hz.mono (by omega));have hzz:wr.heap.size+1≤(wr.alloc (.cells #[.int .i64 N,.int .i64 P,.int .i64 K,.int .i64 L,.int .i64 H] 81)).heap.size:=(by simp);have HPr:=Lib.hid (fun z (hz:Below (wr.heap.size+1) (wr.alloc (.cells #[.int .i64 N,.int .i64 P,.int .i64 K,.int .i64 L,.int .i64 H] 81)) z)=>Pressing_any A (some ⟨b,o,none⟩) n c n' c' ps P z hnm (HR.out _ (HT0.out _ hz)));(go_wp2_with fail);clear m0 m1 c0 c1 c2 c3 c4;generalize wr.alloc (.cells #[.int .i64 N,.int .i64 P,.int .i64 K,.int .i64 L,.int .i64 H] 81)=wz at *;obtain⟨S,hSd⟩:∃S:World→Prop,S=fun z=>(((z.cell? ⟨w.heap.size,0,none⟩=some (.slice A n c)∧z.cell? ⟨w.heap.size,1,none⟩=some (.slice (some ⟨b,o,none⟩) n' c'))∧z.cell? ⟨wr.heap.size,0,none⟩=some (.int .i64 N)∧z.cell? ⟨wr.heap.size,1,none⟩=some (.int .i64 P)∧z.cell? ⟨wr.heap.size,2,none⟩=some (.int .i64 K)∧z.cell? ⟨wr.heap.size,3,none⟩=some (.int .i64 L)∧z.cell? ⟨wr.heap.size,4,none⟩=some (.int .i64 H)))∧Hid (Below (wr.heap.size+1) wz z):=⟨_,rfl⟩
        have HS:=Lib.hid (fun z (hz:Hid (Below (wr.heap.size+1) wz z))=>(by rw[hSd];exact⟨HS0.out z hz.out,hz⟩:S z));have HSB:=Lib.hid (fun z (hz:S z)=>(show Hid (Below (wr.heap.size+1) wz z) from(by rw[hSd] at hz;exact hz.2)).out);refine wp_region_held_drew (S:=S) (by kernel_rfl) ?_ (fun hHeld=>?_)
        ·exact HS.out _ (Lib.hid (Below.refl _ _).drew)
        refine tY (v:=?_) 0 96 ?_ ?_;rotate_left
        ·intro w hSw;rw[hSd] at hSw;obtain⟨⟨⟨q0,q1⟩,q2,q3,q4,q5,q6⟩,-⟩:=hSw;go_simp;(try with_reducible rfl)
        (try simp only[aP,lB,lZ,lS]);refine tY (v:=?_) 1 97 ?_ ?_;rotate_left
        ·intro w hSw;rw[hSd] at hSw;obtain⟨⟨⟨q0,q1⟩,q2,q3,q4,q5,q6⟩,-⟩:=hSw;go_simp;(try with_reducible rfl)
        (try simp only[aP,lB,lZ,lS]);refine wpAnyH_ready (rs:=[2]) (by kernel_rfl) (by simp) ?_;refine AllReadyH.cons (o:=_) rfl (fun Kq hK=>?_) AllReadyH.nil;go_simp;refine(withinR N 1 9999 _).mono ?_;rintro e w' ⟨rfl,hw'⟩;rw[hw'];clear hw' w';(try go_simp);refine hK.out _ _ ?_ (fun hHeld=>?_)
        ·first|assumption|exact HS.out _ (by assumption)
        clear hK Kq;(try simp only[aP,lB,lZ,lS]);cases T1:rng 1 9999 N
        ·refine tY (v:=?_) 3 99 ?_ ?_;rotate_left
         ·intro w hSw;rw[hSd] at hSw;obtain⟨⟨⟨q0,q1⟩,q2,q3,q4,q5,q6⟩,-⟩:=hSw;go_simp;(try with_reducible rfl)
         (try simp only[aP,lB,lZ,lS]);refine tY (v:=?_) 4 100 ?_ ?_;rotate_left
         ·intro w hSw;rw[hSd] at hSw;obtain⟨⟨⟨q0,q1⟩,q2,q3,q4,q5,q6⟩,-⟩:=hSw;go_simp;(try with_reducible rfl)
         (try simp only[aP,lB,lZ,lS]);refine tN 5 101 ?_;(try simp only[aP,lB,lZ,lS]);refine tN 6 102 ?_;(try simp only[aP,lB,lZ,lS]);refine tN 7 103 ?_;(try simp only[aP,lB,lZ,lS]);refine tN 8 104 ?_;(try simp only[aP,lB,lZ,lS]);refine tN 9 105 ?_;(try simp only[aP,lB,lZ,lS]);refine tY (v:=?_) 10 106 ?_ ?_;rotate_left
         ·intro w hSw;rw[hSd] at hSw;obtain⟨⟨⟨q0,q1⟩,q2,q3,q4,q5,q6⟩,-⟩:=hSw;go_simp;(try with_reducible rfl)
         (try simp only[aP,lB,lZ,lS]);refine tY (v:=?_) 11 107 ?_ ?_;rotate_left
         ·intro w hSw;rw[hSd] at hSw;obtain⟨⟨⟨q0,q1⟩,q2,q3,q4,q5,q6⟩,-⟩:=hSw;go_simp;(try with_reducible rfl)
         (try simp only[aP,lB,lZ,lS]);refine tN 12 108 ?_;(try simp only[aP,lB,lZ,lS]);refine tN 13 109 ?_;(try simp only[aP,lB,lZ,lS]);refine tN 14 110 ?_;(try simp only[aP,lB,lZ,lS]);refine tN 15 111 ?_;(try simp only[aP,lB,lZ,lS]);refine tY (v:=?_) 16 112 ?_ ?_;rotate_left
         ·intro w hSw;rw[hSd] at hSw;obtain⟨⟨⟨q0,q1⟩,q2,q3,q4,q5,q6⟩,-⟩:=hSw;go_simp;(try with_reducible rfl)
         (try simp only[aP,lB,lZ,lS]);refine tY (v:=?_) 17 113 ?_ ?_;rotate_left
         ·intro w hSw;rw[hSd] at hSw;obtain⟨⟨⟨q0,q1⟩,q2,q3,q4,q5,q6⟩,-⟩:=hSw;go_simp;(try with_reducible rfl)
         (try simp only[aP,lB,lZ,lS]);refine tN 18 114 ?_;(try simp only[aP,lB,lZ,lS]);refine tN 19 115 ?_;(try simp only[aP,lB,lZ,lS]);refine tN 20 116 ?_;(try simp only[aP,lB,lZ,lS]);refine tN 21 117 ?_;(try simp only[aP,lB,lZ,lS]);refine tN 22 118 ?_;(try simp only[aP,lB,lZ,lS]);refine tY (v:=?_) 23 119 ?_ ?_;rotate_left
         ·intro w hSw;rw[hSd] at hSw;obtain⟨⟨⟨q0,q1⟩,q2,q3,q4,q5,q6⟩,-⟩:=hSw;go_simp;(try with_reducible rfl)
         (try simp only[aP,lB,lZ,lS]);refine tY (v:=?_) 24 120 ?_ ?_;rotate_left
         ·intro w hSw;rw[hSd] at hSw;obtain⟨⟨⟨q0,q1⟩,q2,q3,q4,q5,q6⟩,-⟩:=hSw;go_simp;(try with_reducible rfl)
         (try simp only[aP,lB,lZ,lS]);refine tN 25 121 ?_;(try simp only[aP,lB,lZ,lS]);refine tN 26 122 ?_;(try simp only[aP,lB,lZ,lS]);refine tN 27 123 ?_;(try simp only[aP,lB,lZ,lS]);refine tN 28 124 ?_;(try simp only[aP,lB,lZ,lS]);refine tN 29 125 ?_;(try simp only[aP,lB,lZ,lS]);refine tN 30 126 ?_;(try simp only[aP,lB,lZ,lS]);refine tN 31 127 ?_;(try simp only[aP,lB,lZ,lS]);refine tN 32 128 ?_;(try simp only[aP,lB,lZ,lS]);refine tY (v:=?_) 33 129 ?_ ?_;rotate_left
         ·intro w hSw;rw[hSd] at hSw;obtain⟨⟨⟨q0,q1⟩,q2,q3,q4,q5,q6⟩,-⟩:=hSw;go_simp;(try with_reducible rfl)
         (try simp only[aP,lB,lZ,lS]);refine tY (v:=?_) 34 130 ?_ ?_;rotate_left
         ·intro w hSw;rw[hSd] at hSw;obtain⟨⟨⟨q0,q1⟩,q2,q3,q4,q5,q6⟩,-⟩:=hSw;go_simp;(try with_reducible rfl)
         (try simp only[aP,lB,lZ,lS]);refine tN 35 131 ?_;(try simp only[aP,lB,lZ,lS]);refine tN 36 132 ?_;(try simp only[aP,lB,lZ,lS]);refine tN 37 133 ?_;(try simp only[aP,lB,lZ,lS]);refine tN 38 134 ?_;(try simp only[aP,lB,lZ,lS]);refine tN 39 135 ?_;(try simp only[aP,lB,lZ,lS]);refine tN 40 136 ?_;(try simp only[aP,lB,lZ,lS]);refine tN 41 137 ?_;(try simp only[aP,lB,lZ,lS]);refine tN 42 138 ?_;(try simp only[aP,lB,lZ,lS]);refine tN 43 139 ?_;(try simp only[aP,lB,lZ,lS]);refine tN 44 140 ?_;(try simp only[aP,lB,lZ,lS]);refine tN 45 141 ?_;(try simp only[aP,lB,lZ,lS]);refine tN 46 142 ?_;(try simp only[aP,lB,lZ,lS]);refine tN 47 143 ?_;(try simp only[aP,lB,lZ,lS]);refine tN 48 144 ?_;(try simp only[aP,lB,lZ,lS]);refine tY (v:=?_) 49 145 ?_ ?_;rotate_left
         ·intro w hSw;rw[hSd] at hSw;obtain⟨⟨⟨q0,q1⟩,q2,q3,q4,q5,q6⟩,-⟩:=hSw;go_simp;(try with_reducible rfl)
         (try simp only[aP,lB,lZ,lS]);refine wpAnyH_done (by kernel_rfl) ?_ _;have HB9:=Lib.hid (HT0.out _ (HSB.out _ (by assumption)));have hbad:Hid (validP ps ws=false):=(by show _=_;rw[hv0.out,E.out,T1];simp);go_wp2;go_ret;exact⟨ret_bool hbad.out.symm,HX.out _ HB9.out⟩
        ·refine tY (v:=?_) 3 99 ?_ ?_;rotate_left
         ·intro w hSw;rw[hSd] at hSw;obtain⟨⟨⟨q0,q1⟩,q2,q3,q4,q5,q6⟩,-⟩:=hSw;go_simp;(try with_reducible rfl)
         (try simp only[aP,lB,lZ,lS]);refine tY (v:=?_) 4 100 ?_ ?_;rotate_left
         ·intro w hSw;rw[hSd] at hSw;obtain⟨⟨⟨q0,q1⟩,q2,q3,q4,q5,q6⟩,-⟩:=hSw;go_simp;(try with_reducible rfl)
         (try simp only[aP,lB,lZ,lS]);refine tY (v:=?_) 5 101 ?_ ?_;rotate_left
         ·intro w hSw;rw[hSd] at hSw;obtain⟨⟨⟨q0,q1⟩,q2,q3,q4,q5,q6⟩,-⟩:=hSw;go_simp;(try with_reducible rfl)
         (try simp only[aP,lB,lZ,lS]);refine tY (v:=?_) 6 102 ?_ ?_;rotate_left
         ·intro w hSw;rw[hSd] at hSw;obtain⟨⟨⟨q0,q1⟩,q2,q3,q4,q5,q6⟩,-⟩:=hSw;go_simp;(try with_reducible rfl)
         (try simp only[aP,lB,lZ,lS]);refine tY (v:=?_) 7 103 ?_ ?_;rotate_left
         ·intro w hSw;rw[hSd] at hSw;obtain⟨⟨⟨q0,q1⟩,q2,q3,q4,q5,q6⟩,-⟩:=hSw;go_simp;(try with_reducible rfl)
         (try simp only[aP,lB,lZ,lS]);refine wpAnyH_ready (rs:=[8]) (by kernel_rfl) (by simp) ?_;refine AllReadyH.cons (o:=_) rfl (fun Kq hK=>?_) AllReadyH.nil;go_simp;refine(HPr.out _ (HSB.out _ (by assumption))).mono ?_;rintro e w' ⟨rfl,hb'⟩;have HB':=Lib.hid (below_via (HSB.out _ (by assumption)) (Nat.le_trans hzz (HSB.out _ (by assumption)).size) hb');clear hb';(try go_simp);refine hK.out _ _ ?_ (fun hHeld=>?_)
         ·first|assumption|exact HS.out _ (by assumption)
         clear hK Kq;(try simp only[aP,lB,lZ,lS]);by_cases T2:0≤idxP ps P
         ·have T2':decide (0≤idxP ps P)=true:=(by simpa using T2);have T2n:decide (idxP ps P<0)=false:=(by simpa using T2);refine tY (v:=?_) 9 105 ?_ ?_;rotate_left
          ·intro w hSw;rw[hSd] at hSw;obtain⟨⟨⟨q0,q1⟩,q2,q3,q4,q5,q6⟩,-⟩:=hSw;go_simp;(try with_reducible rfl)
          (try simp only[aP,lB,lZ,lS]);refine tY (v:=?_) 10 106 ?_ ?_;rotate_left
          ·intro w hSw;rw[hSd] at hSw;obtain⟨⟨⟨q0,q1⟩,q2,q3,q4,q5,q6⟩,-⟩:=hSw;go_simp;(try with_reducible rfl)
          (try simp only[aP,lB,lZ,lS]);refine tY (v:=?_) 11 107 ?_ ?_;rotate_left
          ·intro w hSw;rw[hSd] at hSw;obtain⟨⟨⟨q0,q1⟩,q2,q3,q4,q5,q6⟩,-⟩:=hSw;go_simp;(try with_reducible rfl)
          (try simp only[aP,lB,lZ,lS]);refine tY (v:=?_) 12 108 ?_ ?_;rotate_left
          ·intro w hSw;rw[hSd] at hSw;obtain⟨⟨⟨q0,q1⟩,q2,q3,q4,q5,q6⟩,-⟩:=hSw;go_simp;(try with_reducible rfl)
          (try simp only[aP,lB,lZ,lS]);refine tY (v:=?_) 13 109 ?_ ?_;rotate_left
          ·intro w hSw;rw[hSd] at hSw;obtain⟨⟨⟨q0,q1⟩,q2,q3,q4,q5,q6⟩,-⟩:=hSw;go_simp;(try with_reducible rfl)
          (try simp only[aP,lB,lZ,lS]);refine wpAnyH_ready (rs:=[14]) (by kernel_rfl) (by simp) ?_;refine AllReadyH.cons (o:=_) rfl (fun Kq hK=>?_) AllReadyH.nil;go_simp;refine(withinR K 1 6 _).mono ?_;rintro e w' ⟨rfl,hw'⟩;rw[hw'];clear hw' w';(try go_simp);refine hK.out _ _ ?_ (fun hHeld=>?_)
          ·first|assumption|exact HS.out _ (by assumption)
          clear hK Kq;(try simp only[aP,lB,lZ,lS]);cases T3:rng 1 6 K
          ·refine tY (v:=?_) 15 111 ?_ ?_;rotate_left
           ·intro w hSw;rw[hSd] at hSw;obtain⟨⟨⟨q0,q1⟩,q2,q3,q4,q5,q6⟩,-⟩:=hSw;go_simp;(try with_reducible rfl)
           (try simp only[aP,lB,lZ,lS]);refine tY (v:=?_) 16 112 ?_ ?_;rotate_left
           ·intro w hSw;rw[hSd] at hSw;obtain⟨⟨⟨q0,q1⟩,q2,q3,q4,q5,q6⟩,-⟩:=hSw;go_simp;(try with_reducible rfl)
           (try simp only[aP,lB,lZ,lS]);refine tY (v:=?_) 17 113 ?_ ?_;rotate_left
           ·intro w hSw;rw[hSd] at hSw;obtain⟨⟨⟨q0,q1⟩,q2,q3,q4,q5,q6⟩,-⟩:=hSw;go_simp;(try with_reducible rfl)
           (try simp only[aP,lB,lZ,lS]);refine tN 18 114 ?_;(try simp only[aP,lB,lZ,lS]);refine tN 19 115 ?_;(try simp only[aP,lB,lZ,lS]);refine tN 20 116 ?_;(try simp only[aP,lB,lZ,lS]);refine tN 21 117 ?_;(try simp only[aP,lB,lZ,lS]);refine tN 22 118 ?_;(try simp only[aP,lB,lZ,lS]);refine tY (v:=?_) 23 119 ?_ ?_;rotate_left
           ·intro w hSw;rw[hSd] at hSw;obtain⟨⟨⟨q0,q1⟩,q2,q3,q4,q5,q6⟩,-⟩:=hSw;go_simp;(try with_reducible rfl)
           (try simp only[aP,lB,lZ,lS]);refine tY (v:=?_) 24 120 ?_ ?_;rotate_left
           ·intro w hSw;rw[hSd] at hSw;obtain⟨⟨⟨q0,q1⟩,q2,q3,q4,q5,q6⟩,-⟩:=hSw;go_simp;(try with_reducible rfl)
           (try simp only[aP,lB,lZ,lS]);refine tN 25 121 ?_;(try simp only[aP,lB,lZ,lS]);refine tN 26 122 ?_;(try simp only[aP,lB,lZ,lS]);refine tN 27 123 ?_;(try simp only[aP,lB,lZ,lS]);refine tN 28 124 ?_;(try simp only[aP,lB,lZ,lS]);refine tN 29 125 ?_;(try simp only[aP,lB,lZ,lS]);refine tN 30 126 ?_;(try simp only[aP,lB,lZ,lS]);refine tN 31 127 ?_;(try simp only[aP,lB,lZ,lS]);refine tN 32 128 ?_;(try simp only[aP,lB,lZ,lS]);refine tY (v:=?_) 33 129 ?_ ?_;rotate_left
           ·intro w hSw;rw[hSd] at hSw;obtain⟨⟨⟨q0,q1⟩,q2,q3,q4,q5,q6⟩,-⟩:=hSw;go_simp;(try with_reducible rfl)
           (try simp only[aP,lB,lZ,lS]);refine tY (v:=?_) 34 130 ?_ ?_;rotate_left
           ·intro w hSw;rw[hSd] at hSw;obtain⟨⟨⟨q0,q1⟩,q2,q3,q4,q5,q6⟩,-⟩:=hSw;go_simp;(try with_reducible rfl)
           (try simp only[aP,lB,lZ,lS]);refine tN 35 131 ?_;(try simp only[aP,lB,lZ,lS]);refine tN 36 132 ?_;(try simp only[aP,lB,lZ,lS]);refine tN 37 133 ?_;(try simp only[aP,lB,lZ,lS]);refine tN 38 134 ?_;(try simp only[aP,lB,lZ,lS]);refine tN 39 135 ?_;(try simp only[aP,lB,lZ,lS]);refine tN 40 136 ?_;(try simp only[aP,lB,lZ,lS]);refine tN 41 137 ?_;(try simp only[aP,lB,lZ,lS]);refine tN 42 138 ?_;(try simp only[aP,lB,lZ,lS]);refine tN 43 139 ?_;(try simp only[aP,lB,lZ,lS]);refine tN 44 140 ?_;(try simp only[aP,lB,lZ,lS]);refine tN 45 141 ?_;(try simp only[aP,lB,lZ,lS]);refine tN 46 142 ?_;(try simp only[aP,lB,lZ,lS]);refine tN 47 143 ?_;(try simp only[aP,lB,lZ,lS]);refine tN 48 144 ?_;(try simp only[aP,lB,lZ,lS]);refine tY (v:=?_) 49 145 ?_ ?_;rotate_left
           ·intro w hSw;rw[hSd] at hSw;obtain⟨⟨⟨q0,q1⟩,q2,q3,q4,q5,q6⟩,-⟩:=hSw;go_simp;(try with_reducible rfl)
           (try simp only[aP,lB,lZ,lS]);refine wpAnyH_done (by kernel_rfl) ?_ _;have HB9:=Lib.hid (HT0.out _ (HSB.out _ (by assumption)));have hbad:Hid (validP ps ws=false):=(by show _=_;rw[hv0.out,E.out,T3];simp);go_wp2;go_ret;exact⟨ret_bool hbad.out.symm,HX.out _ HB9.out⟩
          ·refine tY (v:=?_) 15 111 ?_ ?_;rotate_left
           ·intro w hSw;rw[hSd] at hSw;obtain⟨⟨⟨q0,q1⟩,q2,q3,q4,q5,q6⟩,-⟩:=hSw;go_simp;(try with_reducible rfl)
           (try simp only[aP,lB,lZ,lS]);refine tY (v:=?_) 16 112 ?_ ?_;rotate_left
           ·intro w hSw;rw[hSd] at hSw;obtain⟨⟨⟨q0,q1⟩,q2,q3,q4,q5,q6⟩,-⟩:=hSw;go_simp;(try with_reducible rfl)
           (try simp only[aP,lB,lZ,lS]);refine tY (v:=?_) 17 113 ?_ ?_;rotate_left
           ·intro w hSw;rw[hSd] at hSw;obtain⟨⟨⟨q0,q1⟩,q2,q3,q4,q5,q6⟩,-⟩:=hSw;go_simp;(try with_reducible rfl)
           (try simp only[aP,lB,lZ,lS]);refine tY (v:=?_) 18 114 ?_ ?_;rotate_left
           ·intro w hSw;rw[hSd] at hSw;obtain⟨⟨⟨q0,q1⟩,q2,q3,q4,q5,q6⟩,-⟩:=hSw;go_simp;(try with_reducible rfl)
           (try simp only[aP,lB,lZ,lS]);refine tY (v:=?_) 19 115 ?_ ?_;rotate_left
           ·intro w hSw;rw[hSd] at hSw;obtain⟨⟨⟨q0,q1⟩,q2,q3,q4,q5,q6⟩,-⟩:=hSw;go_simp;(try with_reducible rfl)
           (try simp only[aP,lB,lZ,lS]);refine tY (v:=?_) 20 116 ?_ ?_;rotate_left
           ·intro w hSw;rw[hSd] at hSw;obtain⟨⟨⟨q0,q1⟩,q2,q3,q4,q5,q6⟩,-⟩:=hSw;go_simp;(try with_reducible rfl)
           (try simp only[aP,lB,lZ,lS]);refine wpAnyH_ready (rs:=[21]) (by kernel_rfl) (by simp) ?_;refine AllReadyH.cons (o:=_) rfl (fun Kq hK=>?_) AllReadyH.nil;go_simp;refine(withinR L 0 1000000 _).mono ?_;rintro e w' ⟨rfl,hw'⟩;rw[hw'];clear hw' w';(try go_simp);refine hK.out _ _ ?_ (fun hHeld=>?_)
           ·first|assumption|exact HS.out _ (by assumption)
           clear hK Kq;(try simp only[aP,lB,lZ,lS]);cases T4:rng 0 1000000 L
           ·refine tY (v:=?_) 22 118 ?_ ?_;rotate_left
            ·intro w hSw;rw[hSd] at hSw;obtain⟨⟨⟨q0,q1⟩,q2,q3,q4,q5,q6⟩,-⟩:=hSw;go_simp;(try with_reducible rfl)
            (try simp only[aP,lB,lZ,lS]);refine tY (v:=?_) 23 119 ?_ ?_;rotate_left
            ·intro w hSw;rw[hSd] at hSw;obtain⟨⟨⟨q0,q1⟩,q2,q3,q4,q5,q6⟩,-⟩:=hSw;go_simp;(try with_reducible rfl)
            (try simp only[aP,lB,lZ,lS]);refine tY (v:=?_) 24 120 ?_ ?_;rotate_left
            ·intro w hSw;rw[hSd] at hSw;obtain⟨⟨⟨q0,q1⟩,q2,q3,q4,q5,q6⟩,-⟩:=hSw;go_simp;(try with_reducible rfl)
            (try simp only[aP,lB,lZ,lS]);refine tN 25 121 ?_;(try simp only[aP,lB,lZ,lS]);refine tN 26 122 ?_;(try simp only[aP,lB,lZ,lS]);refine tN 27 123 ?_;(try simp only[aP,lB,lZ,lS]);refine tN 28 124 ?_;(try simp only[aP,lB,lZ,lS]);refine tN 29 125 ?_;(try simp only[aP,lB,lZ,lS]);refine tN 30 126 ?_;(try simp only[aP,lB,lZ,lS]);refine tN 31 127 ?_;(try simp only[aP,lB,lZ,lS]);refine tN 32 128 ?_;(try simp only[aP,lB,lZ,lS]);refine tY (v:=?_) 33 129 ?_ ?_;rotate_left
            ·intro w hSw;rw[hSd] at hSw;obtain⟨⟨⟨q0,q1⟩,q2,q3,q4,q5,q6⟩,-⟩:=hSw;go_simp;(try with_reducible rfl)
            (try simp only[aP,lB,lZ,lS]);refine tY (v:=?_) 34 130 ?_ ?_;rotate_left
            ·intro w hSw;rw[hSd] at hSw;obtain⟨⟨⟨q0,q1⟩,q2,q3,q4,q5,q6⟩,-⟩:=hSw;go_simp;(try with_reducible rfl)
            (try simp only[aP,lB,lZ,lS]);refine tN 35 131 ?_;(try simp only[aP,lB,lZ,lS]);refine tN 36 132 ?_;(try simp only[aP,lB,lZ,lS]);refine tN 37 133 ?_;(try simp only[aP,lB,lZ,lS]);refine tN 38 134 ?_;(try simp only[aP,lB,lZ,lS]);refine tN 39 135 ?_;(try simp only[aP,lB,lZ,lS]);refine tN 40 136 ?_;(try simp only[aP,lB,lZ,lS]);refine tN 41 137 ?_;(try simp only[aP,lB,lZ,lS]);refine tN 42 138 ?_;(try simp only[aP,lB,lZ,lS]);refine tN 43 139 ?_;(try simp only[aP,lB,lZ,lS]);refine tN 44 140 ?_;(try simp only[aP,lB,lZ,lS]);refine tN 45 141 ?_;(try simp only[aP,lB,lZ,lS]);refine tN 46 142 ?_;(try simp only[aP,lB,lZ,lS]);refine tN 47 143 ?_;(try simp only[aP,lB,lZ,lS]);refine tN 48 144 ?_;(try simp only[aP,lB,lZ,lS]);refine tY (v:=?_) 49 145 ?_ ?_;rotate_left
            ·intro w hSw;rw[hSd] at hSw;obtain⟨⟨⟨q0,q1⟩,q2,q3,q4,q5,q6⟩,-⟩:=hSw;go_simp;(try with_reducible rfl)
            (try simp only[aP,lB,lZ,lS]);refine wpAnyH_done (by kernel_rfl) ?_ _;have HB9:=Lib.hid (HT0.out _ (HSB.out _ (by assumption)));have hbad:Hid (validP ps ws=false):=(by show _=_;rw[hv0.out,E.out,T4];simp);go_wp2;go_ret;exact⟨ret_bool hbad.out.symm,HX.out _ HB9.out⟩
           ·refine tY (v:=?_) 22 118 ?_ ?_;rotate_left
            ·intro w hSw;rw[hSd] at hSw;obtain⟨⟨⟨q0,q1⟩,q2,q3,q4,q5,q6⟩,-⟩:=hSw;go_simp;(try with_reducible rfl)
            (try simp only[aP,lB,lZ,lS]);refine tY (v:=?_) 23 119 ?_ ?_;rotate_left
            ·intro w hSw;rw[hSd] at hSw;obtain⟨⟨⟨q0,q1⟩,q2,q3,q4,q5,q6⟩,-⟩:=hSw;go_simp;(try with_reducible rfl)
            (try simp only[aP,lB,lZ,lS]);refine tY (v:=?_) 24 120 ?_ ?_;rotate_left
            ·intro w hSw;rw[hSd] at hSw;obtain⟨⟨⟨q0,q1⟩,q2,q3,q4,q5,q6⟩,-⟩:=hSw;go_simp;(try with_reducible rfl)
            (try simp only[aP,lB,lZ,lS]);refine tY (v:=?_) 25 121 ?_ ?_;rotate_left
            ·intro w hSw;rw[hSd] at hSw;obtain⟨⟨⟨q0,q1⟩,q2,q3,q4,q5,q6⟩,-⟩:=hSw;go_simp;(try with_reducible rfl)
            (try simp only[aP,lB,lZ,lS]);refine tY (v:=?_) 26 122 ?_ ?_;rotate_left
            ·intro w hSw;rw[hSd] at hSw;obtain⟨⟨⟨q0,q1⟩,q2,q3,q4,q5,q6⟩,-⟩:=hSw;go_simp;(try with_reducible rfl)
            (try simp only[aP,lB,lZ,lS]);refine tY (v:=?_) 27 123 ?_ ?_;rotate_left
            ·intro w hSw;rw[hSd] at hSw;obtain⟨⟨⟨q0,q1⟩,q2,q3,q4,q5,q6⟩,-⟩:=hSw;go_simp;(try with_reducible rfl)
            (try simp only[aP,lB,lZ,lS]);refine tY (v:=?_) 28 124 ?_ ?_;rotate_left
            ·intro w hSw;rw[hSd] at hSw;obtain⟨⟨⟨q0,q1⟩,q2,q3,q4,q5,q6⟩,-⟩:=hSw;go_simp;(try with_reducible rfl)
            (try simp only[aP,lB,lZ,lS]);refine tY (v:=?_) 29 125 ?_ ?_;rotate_left
            ·intro w hSw;rw[hSd] at hSw;obtain⟨⟨⟨q0,q1⟩,q2,q3,q4,q5,q6⟩,-⟩:=hSw;go_simp;(try with_reducible rfl)
            (try simp only[aP,lB,lZ,lS]);refine tY (v:=?_) 30 126 ?_ ?_;rotate_left
            ·intro w hSw;rw[hSd] at hSw;obtain⟨⟨⟨q0,q1⟩,q2,q3,q4,q5,q6⟩,-⟩:=hSw;go_simp;(try with_reducible rfl)
            (try simp only[aP,lB,lZ,lS]);refine wpAnyH_ready (rs:=[31]) (by kernel_rfl) (by simp) ?_;refine AllReadyH.cons (o:=_) rfl (fun Kq hK=>?_) AllReadyH.nil;go_simp;refine(withinR H L 1000000 _).mono ?_;rintro e w' ⟨rfl,hw'⟩;rw[hw'];clear hw' w';(try go_simp);refine hK.out _ _ ?_ (fun hHeld=>?_)
            ·first|assumption|exact HS.out _ (by assumption)
            clear hK Kq;(try simp only[aP,lB,lZ,lS]);cases T5:rng L 1000000 H
            ·refine tY (v:=?_) 32 128 ?_ ?_;rotate_left
             ·intro w hSw;rw[hSd] at hSw;obtain⟨⟨⟨q0,q1⟩,q2,q3,q4,q5,q6⟩,-⟩:=hSw;go_simp;(try with_reducible rfl)
             (try simp only[aP,lB,lZ,lS]);refine tY (v:=?_) 33 129 ?_ ?_;rotate_left
             ·intro w hSw;rw[hSd] at hSw;obtain⟨⟨⟨q0,q1⟩,q2,q3,q4,q5,q6⟩,-⟩:=hSw;go_simp;(try with_reducible rfl)
             (try simp only[aP,lB,lZ,lS]);refine tY (v:=?_) 34 130 ?_ ?_;rotate_left
             ·intro w hSw;rw[hSd] at hSw;obtain⟨⟨⟨q0,q1⟩,q2,q3,q4,q5,q6⟩,-⟩:=hSw;go_simp;(try with_reducible rfl)
             (try simp only[aP,lB,lZ,lS]);refine tN 35 131 ?_;(try simp only[aP,lB,lZ,lS]);refine tN 36 132 ?_;(try simp only[aP,lB,lZ,lS]);refine tN 37 133 ?_;(try simp only[aP,lB,lZ,lS]);refine tN 38 134 ?_;(try simp only[aP,lB,lZ,lS]);refine tN 39 135 ?_;(try simp only[aP,lB,lZ,lS]);refine tN 40 136 ?_;(try simp only[aP,lB,lZ,lS]);refine tN 41 137 ?_;(try simp only[aP,lB,lZ,lS]);refine tN 42 138 ?_;(try simp only[aP,lB,lZ,lS]);refine tN 43 139 ?_;(try simp only[aP,lB,lZ,lS]);refine tN 44 140 ?_;(try simp only[aP,lB,lZ,lS]);refine tN 45 141 ?_;(try simp only[aP,lB,lZ,lS]);refine tN 46 142 ?_;(try simp only[aP,lB,lZ,lS]);refine tN 47 143 ?_;(try simp only[aP,lB,lZ,lS]);refine tN 48 144 ?_;(try simp only[aP,lB,lZ,lS]);refine tY (v:=?_) 49 145 ?_ ?_;rotate_left
             ·intro w hSw;rw[hSd] at hSw;obtain⟨⟨⟨q0,q1⟩,q2,q3,q4,q5,q6⟩,-⟩:=hSw;go_simp;(try with_reducible rfl)
             (try simp only[aP,lB,lZ,lS]);refine wpAnyH_done (by kernel_rfl) ?_ _;have HB9:=Lib.hid (HT0.out _ (HSB.out _ (by assumption)));have hbad:Hid (validP ps ws=false):=(by show _=_;rw[hv0.out,E.out,T5];simp);go_wp2;go_ret;exact⟨ret_bool hbad.out.symm,HX.out _ HB9.out⟩
            ·refine tY (v:=?_) 32 128 ?_ ?_;rotate_left
             ·intro w hSw;rw[hSd] at hSw;obtain⟨⟨⟨q0,q1⟩,q2,q3,q4,q5,q6⟩,-⟩:=hSw;go_simp;(try with_reducible rfl)
             (try simp only[aP,lB,lZ,lS]);refine tY (v:=?_) 33 129 ?_ ?_;rotate_left
             ·intro w hSw;rw[hSd] at hSw;obtain⟨⟨⟨q0,q1⟩,q2,q3,q4,q5,q6⟩,-⟩:=hSw;go_simp;(try with_reducible rfl)
             (try simp only[aP,lB,lZ,lS]);refine tY (v:=?_) 34 130 ?_ ?_;rotate_left
             ·intro w hSw;rw[hSd] at hSw;obtain⟨⟨⟨q0,q1⟩,q2,q3,q4,q5,q6⟩,-⟩:=hSw;go_simp;(try with_reducible rfl)
             (try simp only[aP,lB,lZ,lS]);refine tY (v:=?_) 35 131 ?_ ?_;rotate_left
             ·intro w hSw;rw[hSd] at hSw;obtain⟨⟨⟨q0,q1⟩,q2,q3,q4,q5,q6⟩,-⟩:=hSw;go_simp;(try with_reducible rfl)
             (try simp only[aP,lB,lZ,lS]);refine tY (v:=?_) 36 132 ?_ ?_;rotate_left
             ·intro w hSw;rw[hSd] at hSw;obtain⟨⟨⟨q0,q1⟩,q2,q3,q4,q5,q6⟩,-⟩:=hSw;go_simp;(try with_reducible rfl)
             (try simp only[aP,lB,lZ,lS]);refine tY (v:=?_) 37 133 ?_ ?_;rotate_left
             ·intro w hSw;rw[hSd] at hSw;obtain⟨⟨⟨q0,q1⟩,q2,q3,q4,q5,q6⟩,-⟩:=hSw;go_simp;(try with_reducible rfl)
             (try simp only[aP,lB,lZ,lS]);refine tN 38 134 ?_;(try simp only[aP,lB,lZ,lS]);refine tN 39 135 ?_;(try simp only[aP,lB,lZ,lS]);refine tN 40 136 ?_;(try simp only[aP,lB,lZ,lS]);refine tN 41 137 ?_;(try simp only[aP,lB,lZ,lS]);refine tN 42 138 ?_;(try simp only[aP,lB,lZ,lS]);refine tN 43 139 ?_;(try simp only[aP,lB,lZ,lS]);refine tN 44 140 ?_;(try simp only[aP,lB,lZ,lS]);refine tN 45 141 ?_;(try simp only[aP,lB,lZ,lS]);refine tN 46 142 ?_;(try simp only[aP,lB,lZ,lS]);refine tN 47 143 ?_;(try simp only[aP,lB,lZ,lS]);refine tY (v:=?_) 48 144 ?_ ?_;rotate_left
             ·intro w hSw;rw[hSd] at hSw;obtain⟨⟨⟨q0,q1⟩,q2,q3,q4,q5,q6⟩,-⟩:=hSw;go_simp;(try with_reducible rfl)
             (try simp only[aP,lB,lZ,lS]);refine tY (v:=?_) 49 145 ?_ ?_;rotate_left
             ·intro w hSw;rw[hSd] at hSw;obtain⟨⟨⟨q0,q1⟩,q2,q3,q4,q5,q6⟩,-⟩:=hSw;go_simp;(try with_reducible rfl)
             (try simp only[aP,lB,lZ,lS]);refine wpAnyH_done (by kernel_rfl) ?_ _;have HB9:=Lib.hid (HT0.out _ (HSB.out _ (by assumption)));have hN:=rng_iff T1;have hok:Hid (allW ps 0 ws=allW ps N (ws.drop 1)):=by
              show _=_;rw[E.out,T1,T2',T3,T4,T5,show decide (0<N)=true by simp;omega];simp
             go_wp2;go_roundw
             case rel=>exact⟨1,N,by omega,by go_num,Int.le_trans (by decide) hN.1,hN.2,Or.inr ⟨0,N,P,K,L,H,rfl,Hx.out,rfl⟩,hok,HB9⟩
             case measure=>simp[intOf];omega
         ·have T2':decide (0≤idxP ps P)=false:=(by simpa using T2);have T2n:decide (idxP ps P<0)=true:=(by simpa using T2);refine tY (v:=?_) 9 105 ?_ ?_;rotate_left
          ·intro w hSw;rw[hSd] at hSw;obtain⟨⟨⟨q0,q1⟩,q2,q3,q4,q5,q6⟩,-⟩:=hSw;go_simp;(try with_reducible rfl)
          (try simp only[aP,lB,lZ,lS]);refine tY (v:=?_) 10 106 ?_ ?_;rotate_left
          ·intro w hSw;rw[hSd] at hSw;obtain⟨⟨⟨q0,q1⟩,q2,q3,q4,q5,q6⟩,-⟩:=hSw;go_simp;(try with_reducible rfl)
          (try simp only[aP,lB,lZ,lS]);refine tY (v:=?_) 11 107 ?_ ?_;rotate_left
          ·intro w hSw;rw[hSd] at hSw;obtain⟨⟨⟨q0,q1⟩,q2,q3,q4,q5,q6⟩,-⟩:=hSw;go_simp;(try with_reducible rfl)
          (try simp only[aP,lB,lZ,lS]);refine tN 12 108 ?_;(try simp only[aP,lB,lZ,lS]);refine tN 13 109 ?_;(try simp only[aP,lB,lZ,lS]);refine tN 14 110 ?_;(try simp only[aP,lB,lZ,lS]);refine tN 15 111 ?_;(try simp only[aP,lB,lZ,lS]);refine tY (v:=?_) 16 112 ?_ ?_;rotate_left
          ·intro w hSw;rw[hSd] at hSw;obtain⟨⟨⟨q0,q1⟩,q2,q3,q4,q5,q6⟩,-⟩:=hSw;go_simp;(try with_reducible rfl)
          (try simp only[aP,lB,lZ,lS]);refine tY (v:=?_) 17 113 ?_ ?_;rotate_left
          ·intro w hSw;rw[hSd] at hSw;obtain⟨⟨⟨q0,q1⟩,q2,q3,q4,q5,q6⟩,-⟩:=hSw;go_simp;(try with_reducible rfl)
          (try simp only[aP,lB,lZ,lS]);refine tN 18 114 ?_;(try simp only[aP,lB,lZ,lS]);refine tN 19 115 ?_;(try simp only[aP,lB,lZ,lS]);refine tN 20 116 ?_;(try simp only[aP,lB,lZ,lS]);refine tN 21 117 ?_;(try simp only[aP,lB,lZ,lS]);refine tN 22 118 ?_;(try simp only[aP,lB,lZ,lS]);refine tY (v:=?_) 23 119 ?_ ?_;rotate_left
          ·intro w hSw;rw[hSd] at hSw;obtain⟨⟨⟨q0,q1⟩,q2,q3,q4,q5,q6⟩,-⟩:=hSw;go_simp;(try with_reducible rfl)
          (try simp only[aP,lB,lZ,lS]);refine tY (v:=?_) 24 120 ?_ ?_;rotate_left
          ·intro w hSw;rw[hSd] at hSw;obtain⟨⟨⟨q0,q1⟩,q2,q3,q4,q5,q6⟩,-⟩:=hSw;go_simp;(try with_reducible rfl)
          (try simp only[aP,lB,lZ,lS]);refine tN 25 121 ?_;(try simp only[aP,lB,lZ,lS]);refine tN 26 122 ?_;(try simp only[aP,lB,lZ,lS]);refine tN 27 123 ?_;(try simp only[aP,lB,lZ,lS]);refine tN 28 124 ?_;(try simp only[aP,lB,lZ,lS]);refine tN 29 125 ?_;(try simp only[aP,lB,lZ,lS]);refine tN 30 126 ?_;(try simp only[aP,lB,lZ,lS]);refine tN 31 127 ?_;(try simp only[aP,lB,lZ,lS]);refine tN 32 128 ?_;(try simp only[aP,lB,lZ,lS]);refine tY (v:=?_) 33 129 ?_ ?_;rotate_left
          ·intro w hSw;rw[hSd] at hSw;obtain⟨⟨⟨q0,q1⟩,q2,q3,q4,q5,q6⟩,-⟩:=hSw;go_simp;(try with_reducible rfl)
          (try simp only[aP,lB,lZ,lS]);refine tY (v:=?_) 34 130 ?_ ?_;rotate_left
          ·intro w hSw;rw[hSd] at hSw;obtain⟨⟨⟨q0,q1⟩,q2,q3,q4,q5,q6⟩,-⟩:=hSw;go_simp;(try with_reducible rfl)
          (try simp only[aP,lB,lZ,lS]);refine tN 35 131 ?_;(try simp only[aP,lB,lZ,lS]);refine tN 36 132 ?_;(try simp only[aP,lB,lZ,lS]);refine tN 37 133 ?_;(try simp only[aP,lB,lZ,lS]);refine tN 38 134 ?_;(try simp only[aP,lB,lZ,lS]);refine tN 39 135 ?_;(try simp only[aP,lB,lZ,lS]);refine tN 40 136 ?_;(try simp only[aP,lB,lZ,lS]);refine tN 41 137 ?_;(try simp only[aP,lB,lZ,lS]);refine tN 42 138 ?_;(try simp only[aP,lB,lZ,lS]);refine tN 43 139 ?_;(try simp only[aP,lB,lZ,lS]);refine tN 44 140 ?_;(try simp only[aP,lB,lZ,lS]);refine tN 45 141 ?_;(try simp only[aP,lB,lZ,lS]);refine tN 46 142 ?_;(try simp only[aP,lB,lZ,lS]);refine tN 47 143 ?_;(try simp only[aP,lB,lZ,lS]);refine tN 48 144 ?_;(try simp only[aP,lB,lZ,lS]);refine tY (v:=?_) 49 145 ?_ ?_;rotate_left
          ·intro w hSw;rw[hSd] at hSw;obtain⟨⟨⟨q0,q1⟩,q2,q3,q4,q5,q6⟩,-⟩:=hSw;go_simp;(try with_reducible rfl)
          (try simp only[aP,lB,lZ,lS]);refine wpAnyH_done (by kernel_rfl) ?_ _;have HB9:=Lib.hid (HT0.out _ (HSB.out _ (by assumption)));have hbad:Hid (validP ps ws=false):=(by show _=_;rw[hv0.out,E.out,T2'];simp);go_wp2;go_ret;exact⟨ret_bool hbad.out.symm,HX.out _ HB9.out⟩
       ·obtain⟨b2,o2,N2,P2,K2,L2,H2,e2,hb2,hy2,y0,-,-,-,-⟩:=(HRw.out _ hBr.out).wg (k:=k) (by omega);simp only[Option.some.injEq,Addr.mk.injEq,and_true] at e2;obtain⟨rfl,rfl⟩:=e2;rw[hy] at hy2;simp only[Option.some.injEq,Prod.mk.injEq] at hy2;obtain⟨rfl,rfl,rfl,rfl,rfl⟩:=hy2;clear hy;have HS0:Hid (∀z,Below (wr.heap.size+1) (wr.alloc (.cells #[.int .i64 N,.int .i64 P,.int .i64 K,.int .i64 L,.int .i64 H] 81)) z→((z.cell? ⟨w.heap.size,0,none⟩=some (.slice A n c)∧z.cell? ⟨w.heap.size,1,none⟩=some (.slice (some ⟨b,o,none⟩) n' c'))∧z.cell? ⟨wr.heap.size,0,none⟩=some (.int .i64 N)∧z.cell? ⟨wr.heap.size,1,none⟩=some (.int .i64 P)∧z.cell? ⟨wr.heap.size,2,none⟩=some (.int .i64 K)∧z.cell? ⟨wr.heap.size,3,none⟩=some (.int .i64 L)∧z.cell? ⟨wr.heap.size,4,none⟩=some (.int .i64 H))∧z.cell? ⟨b,o+k*5,none⟩=some (.int .i64 last)):=by
         intro z hz;refine⟨⟨⟨(hz.cell (p:=⟨w.heap.size,0,none⟩) (by simp;omega)).trans ((World.cell?_alloc_lt _ _ _ (by simp;omega)).trans m0),(hz.cell (p:=⟨w.heap.size,1,none⟩) (by simp;omega)).trans ((World.cell?_alloc_lt _ _ _ (by simp;omega)).trans m1)⟩,?_,?_,?_,?_,?_⟩,(hz.cell (p:=⟨b,o+k*5,none⟩) (by simp;omega)).trans ((World.cell?_alloc_lt _ _ _ (by simp;omega)).trans y0)⟩
         ·rw[hz.cell (p:=⟨wr.heap.size,0,none⟩) (by simp),World.cell?_alloc_at _ _ _ _ rfl];rfl
         ·rw[hz.cell (p:=⟨wr.heap.size,1,none⟩) (by simp),World.cell?_alloc_at _ _ _ _ rfl];rfl
         ·rw[hz.cell (p:=⟨wr.heap.size,2,none⟩) (by simp),World.cell?_alloc_at _ _ _ _ rfl];rfl
         ·rw[hz.cell (p:=⟨wr.heap.size,3,none⟩) (by simp),World.cell?_alloc_at _ _ _ _ rfl];rfl
         ·rw[hz.cell (p:=⟨wr.heap.size,4,none⟩) (by simp),World.cell?_alloc_at _ _ _ _ rfl];rfl
        have hBz:=Lib.hid (hBr.out.alloc (o:=(.cells #[.int .i64 N,.int .i64 P,.int .i64 K,.int .i64 L,.int .i64 H] 81)) hsz);have HT0:Hid (∀z,Below (wr.heap.size+1) (wr.alloc (.cells #[.int .i64 N,.int .i64 P,.int .i64 K,.int .i64 L,.int .i64 H] 81)) z→Below (w.heap.size+1) wb z):=fun z hz=>hBz.out.trans (hz.mono (by omega));have hzz:wr.heap.size+1≤(wr.alloc (.cells #[.int .i64 N,.int .i64 P,.int .i64 K,.int .i64 L,.int .i64 H] 81)).heap.size:=(by simp);have HPr:=Lib.hid (fun z (hz:Below (wr.heap.size+1) (wr.alloc (.cells #[.int .i64 N,.int .i64 P,.int .i64 K,.int .i64 L,.int .i64 H] 81)) z)=>Pressing_any A (some ⟨b,o,none⟩) n c n' c' ps P z hnm (HR.out _ (HT0.out _ hz)));have hk0:k≤4096:=(by omega);have hkn:k<n':=(by omega);have hkp:(0:Int)<((k+1:Nat):Int):=(by omega);(go_wp2_with fail);clear m0 m1 c0 c1 c2 c3 c4 y0;generalize wr.alloc (.cells #[.int .i64 N,.int .i64 P,.int .i64 K,.int .i64 L,.int .i64 H] 81)=wz at *;obtain⟨S,hSd⟩:∃S:World→Prop,S=fun z=>(((z.cell? ⟨w.heap.size,0,none⟩=some (.slice A n c)∧z.cell? ⟨w.heap.size,1,none⟩=some (.slice (some ⟨b,o,none⟩) n' c'))∧z.cell? ⟨wr.heap.size,0,none⟩=some (.int .i64 N)∧z.cell? ⟨wr.heap.size,1,none⟩=some (.int .i64 P)∧z.cell? ⟨wr.heap.size,2,none⟩=some (.int .i64 K)∧z.cell? ⟨wr.heap.size,3,none⟩=some (.int .i64 L)∧z.cell? ⟨wr.heap.size,4,none⟩=some (.int .i64 H))∧z.cell? ⟨b,o+k*5,none⟩=some (.int .i64 last))∧Hid (Below (wr.heap.size+1) wz z):=⟨_,rfl⟩
        have HS:=Lib.hid (fun z (hz:Hid (Below (wr.heap.size+1) wz z))=>(by rw[hSd];exact⟨HS0.out z hz.out,hz⟩:S z));have HSB:=Lib.hid (fun z (hz:S z)=>(show Hid (Below (wr.heap.size+1) wz z) from(by rw[hSd] at hz;exact hz.2)).out);have wk:=pw1 hk0;have wk2:=pw2 hk0;have wk3:=pw3 hk0;have wk4:=pw4 hk0;refine wp_region_held_drew (S:=S) (by kernel_rfl) ?_ (fun hHeld=>?_)
        ·exact HS.out _ (Lib.hid (Below.refl _ _).drew)
        refine tY (v:=?_) 0 96 ?_ ?_;rotate_left
        ·intro w hSw;rw[hSd] at hSw;obtain⟨⟨⟨⟨q0,q1⟩,q2,q3,q4,q5,q6⟩,q7⟩,-⟩:=hSw;go_simp;(try with_reducible rfl)
        (try simp only[aP,lB,lZ,lS]);refine tY (v:=?_) 1 97 ?_ ?_;rotate_left
        ·intro w hSw;rw[hSd] at hSw;obtain⟨⟨⟨⟨q0,q1⟩,q2,q3,q4,q5,q6⟩,q7⟩,-⟩:=hSw;go_simp;(try with_reducible rfl)
        (try simp only[aP,lB,lZ,lS]);refine wpAnyH_ready (rs:=[2]) (by kernel_rfl) (by simp) ?_;refine AllReadyH.cons (o:=_) rfl (fun Kq hK=>?_) AllReadyH.nil;go_simp;refine(withinR N 1 9999 _).mono ?_;rintro e w' ⟨rfl,hw'⟩;rw[hw'];clear hw' w';(try go_simp);refine hK.out _ _ ?_ (fun hHeld=>?_)
        ·first|assumption|exact HS.out _ (by assumption)
        clear hK Kq;(try simp only[aP,lB,lZ,lS]);cases T1:rng 1 9999 N
        ·refine tY (v:=?_) 3 99 ?_ ?_;rotate_left
         ·intro w hSw;rw[hSd] at hSw;obtain⟨⟨⟨⟨q0,q1⟩,q2,q3,q4,q5,q6⟩,q7⟩,-⟩:=hSw;go_simp;(try with_reducible rfl)
         (try simp only[aP,lB,lZ,lS]);refine tY (v:=?_) 4 100 ?_ ?_;rotate_left
         ·intro w hSw;rw[hSd] at hSw;obtain⟨⟨⟨⟨q0,q1⟩,q2,q3,q4,q5,q6⟩,q7⟩,-⟩:=hSw;go_simp;(try with_reducible rfl)
         (try simp only[aP,lB,lZ,lS]);refine tN 5 101 ?_;(try simp only[aP,lB,lZ,lS]);refine tN 6 102 ?_;(try simp only[aP,lB,lZ,lS]);refine tN 7 103 ?_;(try simp only[aP,lB,lZ,lS]);refine tN 8 104 ?_;(try simp only[aP,lB,lZ,lS]);refine tN 9 105 ?_;(try simp only[aP,lB,lZ,lS]);refine tY (v:=?_) 10 106 ?_ ?_;rotate_left
         ·intro w hSw;rw[hSd] at hSw;obtain⟨⟨⟨⟨q0,q1⟩,q2,q3,q4,q5,q6⟩,q7⟩,-⟩:=hSw;go_simp;(try with_reducible rfl)
         (try simp only[aP,lB,lZ,lS]);refine tY (v:=?_) 11 107 ?_ ?_;rotate_left
         ·intro w hSw;rw[hSd] at hSw;obtain⟨⟨⟨⟨q0,q1⟩,q2,q3,q4,q5,q6⟩,q7⟩,-⟩:=hSw;go_simp;(try with_reducible rfl)
         (try simp only[aP,lB,lZ,lS]);refine tN 12 108 ?_;(try simp only[aP,lB,lZ,lS]);refine tN 13 109 ?_;(try simp only[aP,lB,lZ,lS]);refine tN 14 110 ?_;(try simp only[aP,lB,lZ,lS]);refine tN 15 111 ?_;(try simp only[aP,lB,lZ,lS]);refine tY (v:=?_) 16 112 ?_ ?_;rotate_left
         ·intro w hSw;rw[hSd] at hSw;obtain⟨⟨⟨⟨q0,q1⟩,q2,q3,q4,q5,q6⟩,q7⟩,-⟩:=hSw;go_simp;(try with_reducible rfl)
         (try simp only[aP,lB,lZ,lS]);refine tY (v:=?_) 17 113 ?_ ?_;rotate_left
         ·intro w hSw;rw[hSd] at hSw;obtain⟨⟨⟨⟨q0,q1⟩,q2,q3,q4,q5,q6⟩,q7⟩,-⟩:=hSw;go_simp;(try with_reducible rfl)
         (try simp only[aP,lB,lZ,lS]);refine tN 18 114 ?_;(try simp only[aP,lB,lZ,lS]);refine tN 19 115 ?_;(try simp only[aP,lB,lZ,lS]);refine tN 20 116 ?_;(try simp only[aP,lB,lZ,lS]);refine tN 21 117 ?_;(try simp only[aP,lB,lZ,lS]);refine tN 22 118 ?_;(try simp only[aP,lB,lZ,lS]);refine tY (v:=?_) 23 119 ?_ ?_;rotate_left
         ·intro w hSw;rw[hSd] at hSw;obtain⟨⟨⟨⟨q0,q1⟩,q2,q3,q4,q5,q6⟩,q7⟩,-⟩:=hSw;go_simp;(try with_reducible rfl)
         (try simp only[aP,lB,lZ,lS]);refine tY (v:=?_) 24 120 ?_ ?_;rotate_left
         ·intro w hSw;rw[hSd] at hSw;obtain⟨⟨⟨⟨q0,q1⟩,q2,q3,q4,q5,q6⟩,q7⟩,-⟩:=hSw;go_simp;(try with_reducible rfl)
         (try simp only[aP,lB,lZ,lS]);refine tN 25 121 ?_;(try simp only[aP,lB,lZ,lS]);refine tN 26 122 ?_;(try simp only[aP,lB,lZ,lS]);refine tN 27 123 ?_;(try simp only[aP,lB,lZ,lS]);refine tN 28 124 ?_;(try simp only[aP,lB,lZ,lS]);refine tN 29 125 ?_;(try simp only[aP,lB,lZ,lS]);refine tN 30 126 ?_;(try simp only[aP,lB,lZ,lS]);refine tN 31 127 ?_;(try simp only[aP,lB,lZ,lS]);refine tN 32 128 ?_;(try simp only[aP,lB,lZ,lS]);refine tY (v:=?_) 33 129 ?_ ?_;rotate_left
         ·intro w hSw;rw[hSd] at hSw;obtain⟨⟨⟨⟨q0,q1⟩,q2,q3,q4,q5,q6⟩,q7⟩,-⟩:=hSw;go_simp;(try with_reducible rfl)
         (try simp only[aP,lB,lZ,lS]);refine tY (v:=?_) 34 130 ?_ ?_;rotate_left
         ·intro w hSw;rw[hSd] at hSw;obtain⟨⟨⟨⟨q0,q1⟩,q2,q3,q4,q5,q6⟩,q7⟩,-⟩:=hSw;go_simp;(try with_reducible rfl)
         (try simp only[aP,lB,lZ,lS]);refine tN 35 131 ?_;(try simp only[aP,lB,lZ,lS]);refine tN 36 132 ?_;(try simp only[aP,lB,lZ,lS]);refine tN 37 133 ?_;(try simp only[aP,lB,lZ,lS]);refine tN 38 134 ?_;(try simp only[aP,lB,lZ,lS]);refine tN 39 135 ?_;(try simp only[aP,lB,lZ,lS]);refine tN 40 136 ?_;(try simp only[aP,lB,lZ,lS]);refine tN 41 137 ?_;(try simp only[aP,lB,lZ,lS]);refine tN 42 138 ?_;(try simp only[aP,lB,lZ,lS]);refine tN 43 139 ?_;(try simp only[aP,lB,lZ,lS]);refine tN 44 140 ?_;(try simp only[aP,lB,lZ,lS]);refine tN 45 141 ?_;(try simp only[aP,lB,lZ,lS]);refine tN 46 142 ?_;(try simp only[aP,lB,lZ,lS]);refine tN 47 143 ?_;(try simp only[aP,lB,lZ,lS]);refine tN 48 144 ?_;(try simp only[aP,lB,lZ,lS]);refine tY (v:=?_) 49 145 ?_ ?_;rotate_left
         ·intro w hSw;rw[hSd] at hSw;obtain⟨⟨⟨⟨q0,q1⟩,q2,q3,q4,q5,q6⟩,q7⟩,-⟩:=hSw;go_simp;(try with_reducible rfl)
         (try simp only[aP,lB,lZ,lS]);refine wpAnyH_done (by kernel_rfl) ?_ _;clear wk wk2 wk3 wk4;have HB9:=Lib.hid (HT0.out _ (HSB.out _ (by assumption)));have hbad:Hid (validP ps ws=false):=(by show _=_;rw[hv0.out,E.out,T1];simp);go_wp2;go_ret;exact⟨ret_bool hbad.out.symm,HX.out _ HB9.out⟩
        ·refine tY (v:=?_) 3 99 ?_ ?_;rotate_left
         ·intro w hSw;rw[hSd] at hSw;obtain⟨⟨⟨⟨q0,q1⟩,q2,q3,q4,q5,q6⟩,q7⟩,-⟩:=hSw;go_simp;(try with_reducible rfl)
         (try simp only[aP,lB,lZ,lS]);refine tY (v:=?_) 4 100 ?_ ?_;rotate_left
         ·intro w hSw;rw[hSd] at hSw;obtain⟨⟨⟨⟨q0,q1⟩,q2,q3,q4,q5,q6⟩,q7⟩,-⟩:=hSw;go_simp;(try with_reducible rfl)
         (try simp only[aP,lB,lZ,lS]);refine tY (v:=?_) 5 101 ?_ ?_;rotate_left
         ·intro w hSw;rw[hSd] at hSw;obtain⟨⟨⟨⟨q0,q1⟩,q2,q3,q4,q5,q6⟩,q7⟩,-⟩:=hSw;go_simp;(try with_reducible rfl)
         (try simp only[aP,lB,lZ,lS]);refine tY (v:=?_) 6 102 ?_ ?_;rotate_left
         ·intro w hSw;rw[hSd] at hSw;obtain⟨⟨⟨⟨q0,q1⟩,q2,q3,q4,q5,q6⟩,q7⟩,-⟩:=hSw;go_simp;(try with_reducible rfl)
         (try simp only[aP,lB,lZ,lS]);refine tY (v:=?_) 7 103 ?_ ?_;rotate_left
         ·intro w hSw;rw[hSd] at hSw;obtain⟨⟨⟨⟨q0,q1⟩,q2,q3,q4,q5,q6⟩,q7⟩,-⟩:=hSw;go_simp;(try with_reducible rfl)
         (try simp only[aP,lB,lZ,lS]);refine wpAnyH_ready (rs:=[8]) (by kernel_rfl) (by simp) ?_;refine AllReadyH.cons (o:=_) rfl (fun Kq hK=>?_) AllReadyH.nil;go_simp;refine(HPr.out _ (HSB.out _ (by assumption))).mono ?_;rintro e w' ⟨rfl,hb'⟩;have HB':=Lib.hid (below_via (HSB.out _ (by assumption)) (Nat.le_trans hzz (HSB.out _ (by assumption)).size) hb');clear hb';(try go_simp);refine hK.out _ _ ?_ (fun hHeld=>?_)
         ·first|assumption|exact HS.out _ (by assumption)
         clear hK Kq;(try simp only[aP,lB,lZ,lS]);by_cases T2:0≤idxP ps P
         ·have T2':decide (0≤idxP ps P)=true:=(by simpa using T2);have T2n:decide (idxP ps P<0)=false:=(by simpa using T2);refine tY (v:=?_) 9 105 ?_ ?_;rotate_left
          ·intro w hSw;rw[hSd] at hSw;obtain⟨⟨⟨⟨q0,q1⟩,q2,q3,q4,q5,q6⟩,q7⟩,-⟩:=hSw;go_simp;(try with_reducible rfl)
          (try simp only[aP,lB,lZ,lS]);refine tY (v:=?_) 10 106 ?_ ?_;rotate_left
          ·intro w hSw;rw[hSd] at hSw;obtain⟨⟨⟨⟨q0,q1⟩,q2,q3,q4,q5,q6⟩,q7⟩,-⟩:=hSw;go_simp;(try with_reducible rfl)
          (try simp only[aP,lB,lZ,lS]);refine tY (v:=?_) 11 107 ?_ ?_;rotate_left
          ·intro w hSw;rw[hSd] at hSw;obtain⟨⟨⟨⟨q0,q1⟩,q2,q3,q4,q5,q6⟩,q7⟩,-⟩:=hSw;go_simp;(try with_reducible rfl)
          (try simp only[aP,lB,lZ,lS]);refine tY (v:=?_) 12 108 ?_ ?_;rotate_left
          ·intro w hSw;rw[hSd] at hSw;obtain⟨⟨⟨⟨q0,q1⟩,q2,q3,q4,q5,q6⟩,q7⟩,-⟩:=hSw;go_simp;(try with_reducible rfl)
          (try simp only[aP,lB,lZ,lS]);refine tY (v:=?_) 13 109 ?_ ?_;rotate_left
          ·intro w hSw;rw[hSd] at hSw;obtain⟨⟨⟨⟨q0,q1⟩,q2,q3,q4,q5,q6⟩,q7⟩,-⟩:=hSw;go_simp;(try with_reducible rfl)
          (try simp only[aP,lB,lZ,lS]);refine wpAnyH_ready (rs:=[14]) (by kernel_rfl) (by simp) ?_;refine AllReadyH.cons (o:=_) rfl (fun Kq hK=>?_) AllReadyH.nil;go_simp;refine(withinR K 1 6 _).mono ?_;rintro e w' ⟨rfl,hw'⟩;rw[hw'];clear hw' w';(try go_simp);refine hK.out _ _ ?_ (fun hHeld=>?_)
          ·first|assumption|exact HS.out _ (by assumption)
          clear hK Kq;(try simp only[aP,lB,lZ,lS]);cases T3:rng 1 6 K
          ·refine tY (v:=?_) 15 111 ?_ ?_;rotate_left
           ·intro w hSw;rw[hSd] at hSw;obtain⟨⟨⟨⟨q0,q1⟩,q2,q3,q4,q5,q6⟩,q7⟩,-⟩:=hSw;go_simp;(try with_reducible rfl)
           (try simp only[aP,lB,lZ,lS]);refine tY (v:=?_) 16 112 ?_ ?_;rotate_left
           ·intro w hSw;rw[hSd] at hSw;obtain⟨⟨⟨⟨q0,q1⟩,q2,q3,q4,q5,q6⟩,q7⟩,-⟩:=hSw;go_simp;(try with_reducible rfl)
           (try simp only[aP,lB,lZ,lS]);refine tY (v:=?_) 17 113 ?_ ?_;rotate_left
           ·intro w hSw;rw[hSd] at hSw;obtain⟨⟨⟨⟨q0,q1⟩,q2,q3,q4,q5,q6⟩,q7⟩,-⟩:=hSw;go_simp;(try with_reducible rfl)
           (try simp only[aP,lB,lZ,lS]);refine tN 18 114 ?_;(try simp only[aP,lB,lZ,lS]);refine tN 19 115 ?_;(try simp only[aP,lB,lZ,lS]);refine tN 20 116 ?_;(try simp only[aP,lB,lZ,lS]);refine tN 21 117 ?_;(try simp only[aP,lB,lZ,lS]);refine tN 22 118 ?_;(try simp only[aP,lB,lZ,lS]);refine tY (v:=?_) 23 119 ?_ ?_;rotate_left
           ·intro w hSw;rw[hSd] at hSw;obtain⟨⟨⟨⟨q0,q1⟩,q2,q3,q4,q5,q6⟩,q7⟩,-⟩:=hSw;go_simp;(try with_reducible rfl)
           (try simp only[aP,lB,lZ,lS]);refine tY (v:=?_) 24 120 ?_ ?_;rotate_left
           ·intro w hSw;rw[hSd] at hSw;obtain⟨⟨⟨⟨q0,q1⟩,q2,q3,q4,q5,q6⟩,q7⟩,-⟩:=hSw;go_simp;(try with_reducible rfl)
           (try simp only[aP,lB,lZ,lS]);refine tN 25 121 ?_;(try simp only[aP,lB,lZ,lS]);refine tN 26 122 ?_;(try simp only[aP,lB,lZ,lS]);refine tN 27 123 ?_;(try simp only[aP,lB,lZ,lS]);refine tN 28 124 ?_;(try simp only[aP,lB,lZ,lS]);refine tN 29 125 ?_;(try simp only[aP,lB,lZ,lS]);refine tN 30 126 ?_;(try simp only[aP,lB,lZ,lS]);refine tN 31 127 ?_;(try simp only[aP,lB,lZ,lS]);refine tN 32 128 ?_;(try simp only[aP,lB,lZ,lS]);refine tY (v:=?_) 33 129 ?_ ?_;rotate_left
           ·intro w hSw;rw[hSd] at hSw;obtain⟨⟨⟨⟨q0,q1⟩,q2,q3,q4,q5,q6⟩,q7⟩,-⟩:=hSw;go_simp;(try with_reducible rfl)
           (try simp only[aP,lB,lZ,lS]);refine tY (v:=?_) 34 130 ?_ ?_;rotate_left
           ·intro w hSw;rw[hSd] at hSw;obtain⟨⟨⟨⟨q0,q1⟩,q2,q3,q4,q5,q6⟩,q7⟩,-⟩:=hSw;go_simp;(try with_reducible rfl)
           (try simp only[aP,lB,lZ,lS]);refine tN 35 131 ?_;(try simp only[aP,lB,lZ,lS]);refine tN 36 132 ?_;(try simp only[aP,lB,lZ,lS]);refine tN 37 133 ?_;(try simp only[aP,lB,lZ,lS]);refine tN 38 134 ?_;(try simp only[aP,lB,lZ,lS]);refine tN 39 135 ?_;(try simp only[aP,lB,lZ,lS]);refine tN 40 136 ?_;(try simp only[aP,lB,lZ,lS]);refine tN 41 137 ?_;(try simp only[aP,lB,lZ,lS]);refine tN 42 138 ?_;(try simp only[aP,lB,lZ,lS]);refine tN 43 139 ?_;(try simp only[aP,lB,lZ,lS]);refine tN 44 140 ?_;(try simp only[aP,lB,lZ,lS]);refine tN 45 141 ?_;(try simp only[aP,lB,lZ,lS]);refine tN 46 142 ?_;(try simp only[aP,lB,lZ,lS]);refine tN 47 143 ?_;(try simp only[aP,lB,lZ,lS]);refine tN 48 144 ?_;(try simp only[aP,lB,lZ,lS]);refine tY (v:=?_) 49 145 ?_ ?_;rotate_left
           ·intro w hSw;rw[hSd] at hSw;obtain⟨⟨⟨⟨q0,q1⟩,q2,q3,q4,q5,q6⟩,q7⟩,-⟩:=hSw;go_simp;(try with_reducible rfl)
           (try simp only[aP,lB,lZ,lS]);refine wpAnyH_done (by kernel_rfl) ?_ _;clear wk wk2 wk3 wk4;have HB9:=Lib.hid (HT0.out _ (HSB.out _ (by assumption)));have hbad:Hid (validP ps ws=false):=(by show _=_;rw[hv0.out,E.out,T3];simp);go_wp2;go_ret;exact⟨ret_bool hbad.out.symm,HX.out _ HB9.out⟩
          ·refine tY (v:=?_) 15 111 ?_ ?_;rotate_left
           ·intro w hSw;rw[hSd] at hSw;obtain⟨⟨⟨⟨q0,q1⟩,q2,q3,q4,q5,q6⟩,q7⟩,-⟩:=hSw;go_simp;(try with_reducible rfl)
           (try simp only[aP,lB,lZ,lS]);refine tY (v:=?_) 16 112 ?_ ?_;rotate_left
           ·intro w hSw;rw[hSd] at hSw;obtain⟨⟨⟨⟨q0,q1⟩,q2,q3,q4,q5,q6⟩,q7⟩,-⟩:=hSw;go_simp;(try with_reducible rfl)
           (try simp only[aP,lB,lZ,lS]);refine tY (v:=?_) 17 113 ?_ ?_;rotate_left
           ·intro w hSw;rw[hSd] at hSw;obtain⟨⟨⟨⟨q0,q1⟩,q2,q3,q4,q5,q6⟩,q7⟩,-⟩:=hSw;go_simp;(try with_reducible rfl)
           (try simp only[aP,lB,lZ,lS]);refine tY (v:=?_) 18 114 ?_ ?_;rotate_left
           ·intro w hSw;rw[hSd] at hSw;obtain⟨⟨⟨⟨q0,q1⟩,q2,q3,q4,q5,q6⟩,q7⟩,-⟩:=hSw;go_simp;(try with_reducible rfl)
           (try simp only[aP,lB,lZ,lS]);refine tY (v:=?_) 19 115 ?_ ?_;rotate_left
           ·intro w hSw;rw[hSd] at hSw;obtain⟨⟨⟨⟨q0,q1⟩,q2,q3,q4,q5,q6⟩,q7⟩,-⟩:=hSw;go_simp;(try with_reducible rfl)
           (try simp only[aP,lB,lZ,lS]);refine tY (v:=?_) 20 116 ?_ ?_;rotate_left
           ·intro w hSw;rw[hSd] at hSw;obtain⟨⟨⟨⟨q0,q1⟩,q2,q3,q4,q5,q6⟩,q7⟩,-⟩:=hSw;go_simp;(try with_reducible rfl)
           (try simp only[aP,lB,lZ,lS]);refine wpAnyH_ready (rs:=[21]) (by kernel_rfl) (by simp) ?_;refine AllReadyH.cons (o:=_) rfl (fun Kq hK=>?_) AllReadyH.nil;go_simp;refine(withinR L 0 1000000 _).mono ?_;rintro e w' ⟨rfl,hw'⟩;rw[hw'];clear hw' w';(try go_simp);refine hK.out _ _ ?_ (fun hHeld=>?_)
           ·first|assumption|exact HS.out _ (by assumption)
           clear hK Kq;(try simp only[aP,lB,lZ,lS]);cases T4:rng 0 1000000 L
           ·refine tY (v:=?_) 22 118 ?_ ?_;rotate_left
            ·intro w hSw;rw[hSd] at hSw;obtain⟨⟨⟨⟨q0,q1⟩,q2,q3,q4,q5,q6⟩,q7⟩,-⟩:=hSw;go_simp;(try with_reducible rfl)
            (try simp only[aP,lB,lZ,lS]);refine tY (v:=?_) 23 119 ?_ ?_;rotate_left
            ·intro w hSw;rw[hSd] at hSw;obtain⟨⟨⟨⟨q0,q1⟩,q2,q3,q4,q5,q6⟩,q7⟩,-⟩:=hSw;go_simp;(try with_reducible rfl)
            (try simp only[aP,lB,lZ,lS]);refine tY (v:=?_) 24 120 ?_ ?_;rotate_left
            ·intro w hSw;rw[hSd] at hSw;obtain⟨⟨⟨⟨q0,q1⟩,q2,q3,q4,q5,q6⟩,q7⟩,-⟩:=hSw;go_simp;(try with_reducible rfl)
            (try simp only[aP,lB,lZ,lS]);refine tN 25 121 ?_;(try simp only[aP,lB,lZ,lS]);refine tN 26 122 ?_;(try simp only[aP,lB,lZ,lS]);refine tN 27 123 ?_;(try simp only[aP,lB,lZ,lS]);refine tN 28 124 ?_;(try simp only[aP,lB,lZ,lS]);refine tN 29 125 ?_;(try simp only[aP,lB,lZ,lS]);refine tN 30 126 ?_;(try simp only[aP,lB,lZ,lS]);refine tN 31 127 ?_;(try simp only[aP,lB,lZ,lS]);refine tN 32 128 ?_;(try simp only[aP,lB,lZ,lS]);refine tY (v:=?_) 33 129 ?_ ?_;rotate_left
            ·intro w hSw;rw[hSd] at hSw;obtain⟨⟨⟨⟨q0,q1⟩,q2,q3,q4,q5,q6⟩,q7⟩,-⟩:=hSw;go_simp;(try with_reducible rfl)
            (try simp only[aP,lB,lZ,lS]);refine tY (v:=?_) 34 130 ?_ ?_;rotate_left
            ·intro w hSw;rw[hSd] at hSw;obtain⟨⟨⟨⟨q0,q1⟩,q2,q3,q4,q5,q6⟩,q7⟩,-⟩:=hSw;go_simp;(try with_reducible rfl)
            (try simp only[aP,lB,lZ,lS]);refine tN 35 131 ?_;(try simp only[aP,lB,lZ,lS]);refine tN 36 132 ?_;(try simp only[aP,lB,lZ,lS]);refine tN 37 133 ?_;(try simp only[aP,lB,lZ,lS]);refine tN 38 134 ?_;(try simp only[aP,lB,lZ,lS]);refine tN 39 135 ?_;(try simp only[aP,lB,lZ,lS]);refine tN 40 136 ?_;(try simp only[aP,lB,lZ,lS]);refine tN 41 137 ?_;(try simp only[aP,lB,lZ,lS]);refine tN 42 138 ?_;(try simp only[aP,lB,lZ,lS]);refine tN 43 139 ?_;(try simp only[aP,lB,lZ,lS]);refine tN 44 140 ?_;(try simp only[aP,lB,lZ,lS]);refine tN 45 141 ?_;(try simp only[aP,lB,lZ,lS]);refine tN 46 142 ?_;(try simp only[aP,lB,lZ,lS]);refine tN 47 143 ?_;(try simp only[aP,lB,lZ,lS]);refine tN 48 144 ?_;(try simp only[aP,lB,lZ,lS]);refine tY (v:=?_) 49 145 ?_ ?_;rotate_left
            ·intro w hSw;rw[hSd] at hSw;obtain⟨⟨⟨⟨q0,q1⟩,q2,q3,q4,q5,q6⟩,q7⟩,-⟩:=hSw;go_simp;(try with_reducible rfl)
            (try simp only[aP,lB,lZ,lS]);refine wpAnyH_done (by kernel_rfl) ?_ _;clear wk wk2 wk3 wk4;have HB9:=Lib.hid (HT0.out _ (HSB.out _ (by assumption)));have hbad:Hid (validP ps ws=false):=(by show _=_;rw[hv0.out,E.out,T4];simp);go_wp2;go_ret;exact⟨ret_bool hbad.out.symm,HX.out _ HB9.out⟩
           ·refine tY (v:=?_) 22 118 ?_ ?_;rotate_left
            ·intro w hSw;rw[hSd] at hSw;obtain⟨⟨⟨⟨q0,q1⟩,q2,q3,q4,q5,q6⟩,q7⟩,-⟩:=hSw;go_simp;(try with_reducible rfl)
            (try simp only[aP,lB,lZ,lS]);refine tY (v:=?_) 23 119 ?_ ?_;rotate_left
            ·intro w hSw;rw[hSd] at hSw;obtain⟨⟨⟨⟨q0,q1⟩,q2,q3,q4,q5,q6⟩,q7⟩,-⟩:=hSw;go_simp;(try with_reducible rfl)
            (try simp only[aP,lB,lZ,lS]);refine tY (v:=?_) 24 120 ?_ ?_;rotate_left
            ·intro w hSw;rw[hSd] at hSw;obtain⟨⟨⟨⟨q0,q1⟩,q2,q3,q4,q5,q6⟩,q7⟩,-⟩:=hSw;go_simp;(try with_reducible rfl)
            (try simp only[aP,lB,lZ,lS]);refine tY (v:=?_) 25 121 ?_ ?_;rotate_left
            ·intro w hSw;rw[hSd] at hSw;obtain⟨⟨⟨⟨q0,q1⟩,q2,q3,q4,q5,q6⟩,q7⟩,-⟩:=hSw;go_simp;(try with_reducible rfl)
            (try simp only[aP,lB,lZ,lS]);refine tY (v:=?_) 26 122 ?_ ?_;rotate_left
            ·intro w hSw;rw[hSd] at hSw;obtain⟨⟨⟨⟨q0,q1⟩,q2,q3,q4,q5,q6⟩,q7⟩,-⟩:=hSw;go_simp;(try with_reducible rfl)
            (try simp only[aP,lB,lZ,lS]);refine tY (v:=?_) 27 123 ?_ ?_;rotate_left
            ·intro w hSw;rw[hSd] at hSw;obtain⟨⟨⟨⟨q0,q1⟩,q2,q3,q4,q5,q6⟩,q7⟩,-⟩:=hSw;go_simp;(try with_reducible rfl)
            (try simp only[aP,lB,lZ,lS]);refine tY (v:=?_) 28 124 ?_ ?_;rotate_left
            ·intro w hSw;rw[hSd] at hSw;obtain⟨⟨⟨⟨q0,q1⟩,q2,q3,q4,q5,q6⟩,q7⟩,-⟩:=hSw;go_simp;(try with_reducible rfl)
            (try simp only[aP,lB,lZ,lS]);refine tY (v:=?_) 29 125 ?_ ?_;rotate_left
            ·intro w hSw;rw[hSd] at hSw;obtain⟨⟨⟨⟨q0,q1⟩,q2,q3,q4,q5,q6⟩,q7⟩,-⟩:=hSw;go_simp;(try with_reducible rfl)
            (try simp only[aP,lB,lZ,lS]);refine tY (v:=?_) 30 126 ?_ ?_;rotate_left
            ·intro w hSw;rw[hSd] at hSw;obtain⟨⟨⟨⟨q0,q1⟩,q2,q3,q4,q5,q6⟩,q7⟩,-⟩:=hSw;go_simp;(try with_reducible rfl)
            (try simp only[aP,lB,lZ,lS]);refine wpAnyH_ready (rs:=[31]) (by kernel_rfl) (by simp) ?_;refine AllReadyH.cons (o:=_) rfl (fun Kq hK=>?_) AllReadyH.nil;go_simp;refine(withinR H L 1000000 _).mono ?_;rintro e w' ⟨rfl,hw'⟩;rw[hw'];clear hw' w';(try go_simp);refine hK.out _ _ ?_ (fun hHeld=>?_)
            ·first|assumption|exact HS.out _ (by assumption)
            clear hK Kq;(try simp only[aP,lB,lZ,lS]);cases T5:rng L 1000000 H
            ·refine tY (v:=?_) 32 128 ?_ ?_;rotate_left
             ·intro w hSw;rw[hSd] at hSw;obtain⟨⟨⟨⟨q0,q1⟩,q2,q3,q4,q5,q6⟩,q7⟩,-⟩:=hSw;go_simp;(try with_reducible rfl)
             (try simp only[aP,lB,lZ,lS]);refine tY (v:=?_) 33 129 ?_ ?_;rotate_left
             ·intro w hSw;rw[hSd] at hSw;obtain⟨⟨⟨⟨q0,q1⟩,q2,q3,q4,q5,q6⟩,q7⟩,-⟩:=hSw;go_simp;(try with_reducible rfl)
             (try simp only[aP,lB,lZ,lS]);refine tY (v:=?_) 34 130 ?_ ?_;rotate_left
             ·intro w hSw;rw[hSd] at hSw;obtain⟨⟨⟨⟨q0,q1⟩,q2,q3,q4,q5,q6⟩,q7⟩,-⟩:=hSw;go_simp;(try with_reducible rfl)
             (try simp only[aP,lB,lZ,lS]);refine tN 35 131 ?_;(try simp only[aP,lB,lZ,lS]);refine tN 36 132 ?_;(try simp only[aP,lB,lZ,lS]);refine tN 37 133 ?_;(try simp only[aP,lB,lZ,lS]);refine tN 38 134 ?_;(try simp only[aP,lB,lZ,lS]);refine tN 39 135 ?_;(try simp only[aP,lB,lZ,lS]);refine tN 40 136 ?_;(try simp only[aP,lB,lZ,lS]);refine tN 41 137 ?_;(try simp only[aP,lB,lZ,lS]);refine tN 42 138 ?_;(try simp only[aP,lB,lZ,lS]);refine tN 43 139 ?_;(try simp only[aP,lB,lZ,lS]);refine tN 44 140 ?_;(try simp only[aP,lB,lZ,lS]);refine tN 45 141 ?_;(try simp only[aP,lB,lZ,lS]);refine tN 46 142 ?_;(try simp only[aP,lB,lZ,lS]);refine tN 47 143 ?_;(try simp only[aP,lB,lZ,lS]);refine tN 48 144 ?_;(try simp only[aP,lB,lZ,lS]);refine tY (v:=?_) 49 145 ?_ ?_;rotate_left
             ·intro w hSw;rw[hSd] at hSw;obtain⟨⟨⟨⟨q0,q1⟩,q2,q3,q4,q5,q6⟩,q7⟩,-⟩:=hSw;go_simp;(try with_reducible rfl)
             (try simp only[aP,lB,lZ,lS]);refine wpAnyH_done (by kernel_rfl) ?_ _;clear wk wk2 wk3 wk4;have HB9:=Lib.hid (HT0.out _ (HSB.out _ (by assumption)));have hbad:Hid (validP ps ws=false):=(by show _=_;rw[hv0.out,E.out,T5];simp);go_wp2;go_ret;exact⟨ret_bool hbad.out.symm,HX.out _ HB9.out⟩
            ·refine tY (v:=?_) 32 128 ?_ ?_;rotate_left
             ·intro w hSw;rw[hSd] at hSw;obtain⟨⟨⟨⟨q0,q1⟩,q2,q3,q4,q5,q6⟩,q7⟩,-⟩:=hSw;go_simp;(try with_reducible rfl)
             (try simp only[aP,lB,lZ,lS]);refine tY (v:=?_) 33 129 ?_ ?_;rotate_left
             ·intro w hSw;rw[hSd] at hSw;obtain⟨⟨⟨⟨q0,q1⟩,q2,q3,q4,q5,q6⟩,q7⟩,-⟩:=hSw;go_simp;(try with_reducible rfl)
             (try simp only[aP,lB,lZ,lS]);refine tY (v:=?_) 34 130 ?_ ?_;rotate_left
             ·intro w hSw;rw[hSd] at hSw;obtain⟨⟨⟨⟨q0,q1⟩,q2,q3,q4,q5,q6⟩,q7⟩,-⟩:=hSw;go_simp;(try with_reducible rfl)
             (try simp only[aP,lB,lZ,lS]);refine tY (v:=?_) 35 131 ?_ ?_;rotate_left
             ·intro w hSw;rw[hSd] at hSw;obtain⟨⟨⟨⟨q0,q1⟩,q2,q3,q4,q5,q6⟩,q7⟩,-⟩:=hSw;go_simp;(try with_reducible rfl)
             (try simp only[aP,lB,lZ,lS]);refine tY (v:=?_) 36 132 ?_ ?_;rotate_left
             ·intro w hSw;rw[hSd] at hSw;obtain⟨⟨⟨⟨q0,q1⟩,q2,q3,q4,q5,q6⟩,q7⟩,-⟩:=hSw;go_simp;(try with_reducible rfl)
             (try simp only[aP,lB,lZ,lS]);refine tY (v:=?_) 37 133 ?_ ?_;rotate_left
             ·intro w hSw;rw[hSd] at hSw;obtain⟨⟨⟨⟨q0,q1⟩,q2,q3,q4,q5,q6⟩,q7⟩,-⟩:=hSw;go_simp;(try with_reducible rfl)
             (try simp only[aP,lB,lZ,lS]);refine tY (v:=?_) 38 134 ?_ ?_;rotate_left
             ·intro w hSw;rw[hSd] at hSw;obtain⟨⟨⟨⟨q0,q1⟩,q2,q3,q4,q5,q6⟩,q7⟩,-⟩:=hSw;go_simp;(try with_reducible rfl)
             (try simp only[aP,lB,lZ,lS]);refine tY (v:=?_) 39 135 ?_ ?_;rotate_left
             ·intro w hSw;rw[hSd] at hSw;obtain⟨⟨⟨⟨q0,q1⟩,q2,q3,q4,q5,q6⟩,q7⟩,-⟩:=hSw;go_simp;(try with_reducible rfl)
             (try simp only[aP,lB,lZ,lS]);refine tY (v:=?_) 40 136 ?_ ?_;rotate_left
             ·intro w hSw;rw[hSd] at hSw;obtain⟨⟨⟨⟨q0,q1⟩,q2,q3,q4,q5,q6⟩,q7⟩,-⟩:=hSw;go_simp;(try with_reducible rfl)
             (try simp only[aP,lB,lZ,lS]);refine tY (v:=?_) 41 137 ?_ ?_;rotate_left
             ·intro w hSw;rw[hSd] at hSw;obtain⟨⟨⟨⟨q0,q1⟩,q2,q3,q4,q5,q6⟩,q7⟩,-⟩:=hSw;go_simp;(try with_reducible rfl)
             (try simp only[aP,lB,lZ,lS]);refine tY (v:=?_) 42 138 ?_ ?_;rotate_left
             ·intro w hSw;rw[hSd] at hSw;obtain⟨⟨⟨⟨q0,q1⟩,q2,q3,q4,q5,q6⟩,q7⟩,-⟩:=hSw;go_simp;(try with_reducible rfl)
             (try simp only[aP,lB,lZ,lS]);refine tY (v:=?_) 43 139 ?_ ?_;rotate_left
             ·intro w hSw;rw[hSd] at hSw;obtain⟨⟨⟨⟨q0,q1⟩,q2,q3,q4,q5,q6⟩,q7⟩,-⟩:=hSw;go_simp;(try with_reducible rfl)
             (try simp only[aP,lB,lZ,lS]);refine tY (v:=?_) 44 140 ?_ ?_;rotate_left
             ·intro w hSw;rw[hSd] at hSw;obtain⟨⟨⟨⟨q0,q1⟩,q2,q3,q4,q5,q6⟩,q7⟩,-⟩:=hSw;go_simp;(try with_reducible rfl)
             (try simp only[aP,lB,lZ,lS]);refine tY (v:=?_) 45 141 ?_ ?_;rotate_left
             ·intro w hSw;rw[hSd] at hSw;obtain⟨⟨⟨⟨q0,q1⟩,q2,q3,q4,q5,q6⟩,q7⟩,-⟩:=hSw;go_simp;(try with_reducible rfl)
             (try simp only[aP,lB,lZ,lS]);refine tY (v:=?_) 46 142 ?_ ?_;rotate_left
             ·intro w hSw;rw[hSd] at hSw;obtain⟨⟨⟨⟨q0,q1⟩,q2,q3,q4,q5,q6⟩,q7⟩,-⟩:=hSw;go_simp;(try with_reducible rfl)
             (try simp only[aP,lB,lZ,lS]);by_cases hNN:N≤last
             ·have hNl:decide (N≤last)=true:=(by simpa using hNN);have hN':decide (last<N)=false:=(by simpa using hNN);refine tY (v:=?_) 47 143 ?_ ?_;rotate_left
              ·intro w hSw;rw[hSd] at hSw;obtain⟨⟨⟨⟨q0,q1⟩,q2,q3,q4,q5,q6⟩,q7⟩,-⟩:=hSw;go_simp;(try with_reducible rfl)
              (try simp only[aP,lB,lZ,lS]);refine tY (v:=?_) 48 144 ?_ ?_;rotate_left
              ·intro w hSw;rw[hSd] at hSw;obtain⟨⟨⟨⟨q0,q1⟩,q2,q3,q4,q5,q6⟩,q7⟩,-⟩:=hSw;go_simp;(try with_reducible rfl)
              (try simp only[aP,lB,lZ,lS]);refine tY (v:=?_) 49 145 ?_ ?_;rotate_left
              ·intro w hSw;rw[hSd] at hSw;obtain⟨⟨⟨⟨q0,q1⟩,q2,q3,q4,q5,q6⟩,q7⟩,-⟩:=hSw;go_simp;(try with_reducible rfl)
              (try simp only[aP,lB,lZ,lS]);refine wpAnyH_done (by kernel_rfl) ?_ _;clear wk wk2 wk3 wk4;have HB9:=Lib.hid (HT0.out _ (HSB.out _ (by assumption)));have hbad:Hid (validP ps ws=false):=(by show _=_;rw[hv0.out,E.out,hN'];simp);go_wp2;go_ret;exact⟨ret_bool hbad.out.symm,HX.out _ HB9.out⟩
             ·have hNl:decide (N≤last)=false:=(by simpa using hNN);have hN':decide (last<N)=true:=(by simpa using hNN);refine tY (v:=?_) 47 143 ?_ ?_;rotate_left
              ·intro w hSw;rw[hSd] at hSw;obtain⟨⟨⟨⟨q0,q1⟩,q2,q3,q4,q5,q6⟩,q7⟩,-⟩:=hSw;go_simp;(try with_reducible rfl)
              (try simp only[aP,lB,lZ,lS]);refine tY (v:=?_) 48 144 ?_ ?_;rotate_left
              ·intro w hSw;rw[hSd] at hSw;obtain⟨⟨⟨⟨q0,q1⟩,q2,q3,q4,q5,q6⟩,q7⟩,-⟩:=hSw;go_simp;(try with_reducible rfl)
              (try simp only[aP,lB,lZ,lS]);refine tY (v:=?_) 49 145 ?_ ?_;rotate_left
              ·intro w hSw;rw[hSd] at hSw;obtain⟨⟨⟨⟨q0,q1⟩,q2,q3,q4,q5,q6⟩,q7⟩,-⟩:=hSw;go_simp;(try with_reducible rfl)
              (try simp only[aP,lB,lZ,lS]);refine wpAnyH_done (by kernel_rfl) ?_ _;clear wk wk2 wk3 wk4;have HB9:=Lib.hid (HT0.out _ (HSB.out _ (by assumption)));have hok:Hid (allW ps 0 ws=allW ps N (ws.drop (k+1+1))):=by
               show _=_;rw[E.out,T1,T2',T3,T4,T5,hN'];simp
              have hN:=rng_iff T1;go_wp2;go_roundw
              case rel=>exact⟨k+1+1,N,by omega,by go_num,Int.le_trans (by decide) hN.1,hN.2,Or.inr ⟨k+1,N,P,K,L,H,rfl,Hx.out,rfl⟩,hok,HB9⟩
              case measure=>simp[intOf];omega
         ·have T2':decide (0≤idxP ps P)=false:=(by simpa using T2);have T2n:decide (idxP ps P<0)=true:=(by simpa using T2);refine tY (v:=?_) 9 105 ?_ ?_;rotate_left
          ·intro w hSw;rw[hSd] at hSw;obtain⟨⟨⟨⟨q0,q1⟩,q2,q3,q4,q5,q6⟩,q7⟩,-⟩:=hSw;go_simp;(try with_reducible rfl)
          (try simp only[aP,lB,lZ,lS]);refine tY (v:=?_) 10 106 ?_ ?_;rotate_left
          ·intro w hSw;rw[hSd] at hSw;obtain⟨⟨⟨⟨q0,q1⟩,q2,q3,q4,q5,q6⟩,q7⟩,-⟩:=hSw;go_simp;(try with_reducible rfl)
          (try simp only[aP,lB,lZ,lS]);refine tY (v:=?_) 11 107 ?_ ?_;rotate_left
          ·intro w hSw;rw[hSd] at hSw;obtain⟨⟨⟨⟨q0,q1⟩,q2,q3,q4,q5,q6⟩,q7⟩,-⟩:=hSw;go_simp;(try with_reducible rfl)
          (try simp only[aP,lB,lZ,lS]);refine tN 12 108 ?_;(try simp only[aP,lB,lZ,lS]);refine tN 13 109 ?_;(try simp only[aP,lB,lZ,lS]);refine tN 14 110 ?_;(try simp only[aP,lB,lZ,lS]);refine tN 15 111 ?_;(try simp only[aP,lB,lZ,lS]);refine tY (v:=?_) 16 112 ?_ ?_;rotate_left
          ·intro w hSw;rw[hSd] at hSw;obtain⟨⟨⟨⟨q0,q1⟩,q2,q3,q4,q5,q6⟩,q7⟩,-⟩:=hSw;go_simp;(try with_reducible rfl)
          (try simp only[aP,lB,lZ,lS]);refine tY (v:=?_) 17 113 ?_ ?_;rotate_left
          ·intro w hSw;rw[hSd] at hSw;obtain⟨⟨⟨⟨q0,q1⟩,q2,q3,q4,q5,q6⟩,q7⟩,-⟩:=hSw;go_simp;(try with_reducible rfl)
          (try simp only[aP,lB,lZ,lS]);refine tN 18 114 ?_;(try simp only[aP,lB,lZ,lS]);refine tN 19 115 ?_;(try simp only[aP,lB,lZ,lS]);refine tN 20 116 ?_;(try simp only[aP,lB,lZ,lS]);refine tN 21 117 ?_;(try simp only[aP,lB,lZ,lS]);refine tN 22 118 ?_;(try simp only[aP,lB,lZ,lS]);refine tY (v:=?_) 23 119 ?_ ?_;rotate_left
          ·intro w hSw;rw[hSd] at hSw;obtain⟨⟨⟨⟨q0,q1⟩,q2,q3,q4,q5,q6⟩,q7⟩,-⟩:=hSw;go_simp;(try with_reducible rfl)
          (try simp only[aP,lB,lZ,lS]);refine tY (v:=?_) 24 120 ?_ ?_;rotate_left
          ·intro w hSw;rw[hSd] at hSw;obtain⟨⟨⟨⟨q0,q1⟩,q2,q3,q4,q5,q6⟩,q7⟩,-⟩:=hSw;go_simp;(try with_reducible rfl)
          (try simp only[aP,lB,lZ,lS]);refine tN 25 121 ?_;(try simp only[aP,lB,lZ,lS]);refine tN 26 122 ?_;(try simp only[aP,lB,lZ,lS]);refine tN 27 123 ?_;(try simp only[aP,lB,lZ,lS]);refine tN 28 124 ?_;(try simp only[aP,lB,lZ,lS]);refine tN 29 125 ?_;(try simp only[aP,lB,lZ,lS]);refine tN 30 126 ?_;(try simp only[aP,lB,lZ,lS]);refine tN 31 127 ?_;(try simp only[aP,lB,lZ,lS]);refine tN 32 128 ?_;(try simp only[aP,lB,lZ,lS]);refine tY (v:=?_) 33 129 ?_ ?_;rotate_left
          ·intro w hSw;rw[hSd] at hSw;obtain⟨⟨⟨⟨q0,q1⟩,q2,q3,q4,q5,q6⟩,q7⟩,-⟩:=hSw;go_simp;(try with_reducible rfl)
          (try simp only[aP,lB,lZ,lS]);refine tY (v:=?_) 34 130 ?_ ?_;rotate_left
          ·intro w hSw;rw[hSd] at hSw;obtain⟨⟨⟨⟨q0,q1⟩,q2,q3,q4,q5,q6⟩,q7⟩,-⟩:=hSw;go_simp;(try with_reducible rfl)
          (try simp only[aP,lB,lZ,lS]);refine tN 35 131 ?_;(try simp only[aP,lB,lZ,lS]);refine tN 36 132 ?_;(try simp only[aP,lB,lZ,lS]);refine tN 37 133 ?_;(try simp only[aP,lB,lZ,lS]);refine tN 38 134 ?_;(try simp only[aP,lB,lZ,lS]);refine tN 39 135 ?_;(try simp only[aP,lB,lZ,lS]);refine tN 40 136 ?_;(try simp only[aP,lB,lZ,lS]);refine tN 41 137 ?_;(try simp only[aP,lB,lZ,lS]);refine tN 42 138 ?_;(try simp only[aP,lB,lZ,lS]);refine tN 43 139 ?_;(try simp only[aP,lB,lZ,lS]);refine tN 44 140 ?_;(try simp only[aP,lB,lZ,lS]);refine tN 45 141 ?_;(try simp only[aP,lB,lZ,lS]);refine tN 46 142 ?_;(try simp only[aP,lB,lZ,lS]);refine tN 47 143 ?_;(try simp only[aP,lB,lZ,lS]);refine tN 48 144 ?_;(try simp only[aP,lB,lZ,lS]);refine tY (v:=?_) 49 145 ?_ ?_;rotate_left
          ·intro w hSw;rw[hSd] at hSw;obtain⟨⟨⟨⟨q0,q1⟩,q2,q3,q4,q5,q6⟩,q7⟩,-⟩:=hSw;go_simp;(try with_reducible rfl)
          (try simp only[aP,lB,lZ,lS]);refine wpAnyH_done (by kernel_rfl) ?_ _;clear wk wk2 wk3 wk4;have HB9:=Lib.hid (HT0.out _ (HSB.out _ (by assumption)));have hbad:Hid (validP ps ws=false):=(by show _=_;rw[hv0.out,E.out,T2'];simp);go_wp2;go_ret;exact⟨ret_bool hbad.out.symm,HX.out _ HB9.out⟩
      ·have hfin2:Hid (validP ps ws=true):=by
        show _=_;rw[hv0.out,hallw.out,List.drop_eq_nil_of_le (by omega)];rfl
       clear hallw;go_wp2;go_ret;exact⟨ret_bool hfin2.out.symm,HX.out _ hBr.out⟩
  ·have g2:(30:Int)<n':=(by omega);have g1:¬(10:Int)<n:=(by omega);have hv0:Hid (validP ps ws=false):=(by show _=_;simp[validP,hl',hn']);clear hR hW hn hn'
   go_enter Tryd.func55,Tryd.ntmps55
   go_wp2;go_ret;exact⟨ret_bool hv0.out.symm,(Below.refl _ _).alloc (Nat.le_refl _) _⟩
 ·have g1:(10:Int)<n:=(by omega);have hv0:Hid (validP ps ws=false):=(by show _=_;simp[validP,hl,hn]);clear hR hW hn
  go_enter Tryd.func55,Tryd.ntmps55
  go_wp2;go_ret;exact⟨ret_bool hv0.out.symm,(Below.refl _ _).alloc (Nat.le_refl _) _⟩
end Go.Proofs.YtfplipbkjglmhaaDoor
