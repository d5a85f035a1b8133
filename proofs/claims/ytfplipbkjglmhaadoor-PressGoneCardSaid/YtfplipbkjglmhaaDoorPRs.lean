/-
 What a weight rests on: the program's walk.
-/
import Derived.Test.YtfplipbkjglmhaaDoorTk
import Derived.Test.YtfplipbkjglmhaaDoorFal
import Derived.Test.YtfplipbkjglmhaaDoorAsk
import Derived.Test.YtfplipbkjglmhaaDoorWith
import Derived.Test.YtfplipbkjglmhaaDoorApp0
import Derived.Test.YtfplipbkjglmhaaDoorRAsk
namespace Go.Proofs.YtfplipbkjglmhaaDoor
open Go.RowKit
set_option linter.unusedVariables false
set_option linter.unusedSimpArgs false
theorem ints_app(a b:List Int):ints (a++b)=ints a++ints b:=by simp[ints]
theorem rst_bad{ps:List PR}{ws:List WE}{id kind:Int}(h:askE ps ws id kind≠0):rstL ps ws id kind = []:=by unfold rstL;rw[if_neg h]
theorem rst_ok{ps:List PR}{ws:List WE}{id kind:Int}(h:askE ps ws id kind=0){i k:Nat}(hi:idxP ps id=i)(hk:kind=k):rstL ps ws id kind=rstS ps ws ws i k:=by
 unfold rstL;rw[if_pos h,hi,hk];rfl
theorem rstP_ne{ps:List PR}{ws:List WE}{i k:Nat}{x:WE}{a b a' b':Int}(h:spanSp ps ws i k=(a,b))(h':spanSp ps (lessW ws [x.1]) i k=(a',b')):rstP ps ws i k x=decide (¬(a'=a∧b'=b)):=by
 unfold rstP;rw[h,h'];simp only[ne_eq,Prod.mk.injEq]
set_option maxRecDepth 100000 in
set_option maxHeartbeats 4000000 in
theorem pRests_any(A A':Option Addr)(n c n' c':Nat)(ps:List PR)(ws:List WE)(id kind:Int)(w:World)(hnm:n≤maxLen)(hR:Reads w w.heap.size 4 A n (pgs ps))(hW:Reads w w.heap.size 5 A' n' (wgs ws))(hL:Laid w) :
  Calls Tryd.prog 38 #[.agg #[.slice A n c,.slice A' n' c'],.int .i64 id,.int .i64 kind] w fun e w'=>(∃A1 m c1,e = .returned (.tuple #[.slice A1 m c1,.int .i64 (askE ps ws id kind)])∧m≤30∧Reads w' w'.heap.size 1 A1 m (ints (rstL ps ws id kind)))∧Below w.heap.size w w':=by
 have gEq:Tryd.prog.eqGuardType Tryd.prog.depth 36=false:=by kernel_rfl
 obtain⟨i0,hi,hz0,hz1,hz2⟩:=info_parts info_int;have hl:=hR.pg_len;have hwl:=hW.wg_len;have HP0:=Lib.hid (PX.start (c:=c) (c':=c') hR hW hL);have HA:=Lib.hid (fun z (hz:PX w A A' n c n' c' ps ws z)=>asked_any A A' n c n' c' ps ws id kind z hnm hz.rp hz.rw_ hz.laid);clear hR hW hL
 go_enter Tryd.func38,Tryd.ntmps38
 go_wp2_with fail
 refine(HA.out _ HP0.out).mono ?_;rintro e z1 ⟨hb1,hbad,hok⟩;have HP1:=Lib.hid (HP0.out.below hb1);clear hb1 HP0 HA;by_cases h0:askE ps ws id kind=0
 ·obtain⟨mb,At,Ar,Au,Ai,ct,cr,cu,ci,rfl,hM⟩:=hok h0;obtain⟨hv,hi0,hk1,hk6,-⟩:=askE_ok h0;have hn:n≤10:=by
   have h:=(valid_facts hv).n10;omega
  have hn30:n'≤30:=by
   have h:=(valid_facts hv).m30;omega
  obtain⟨i,hix⟩:∃i:Nat,idxP ps id=i:=⟨(idxP ps id).toNat,by omega⟩;obtain⟨k,rfl⟩:∃k:Nat,kind=k:=⟨kind.toNat,by omega⟩;have hin:i<n:=(by have:=(idxP_bound ps id).2;omega);have hrl:=Lib.hid (rst_ok h0 hix rfl);rw[hix]
  have HSL:Hid (∀(ws':List WE),validP ps ws'=true→∀(mb:Nat) (At Ar Au Ai:Option Addr) (ct cr cu ci:Nat) (z:World),MR z mb n (toT ps) (rowsT ps ws') (upP (toT ps) (rowsT ps ws')) (intoP (toT ps) (rowsT ps ws')) At Ar Au Ai ct cr cu ci→
    Calls Tryd.prog 58 #[.pointer (some ⟨mb,0,none⟩),.int .i64 i,.int .i64 k] z fun e z'=>e = .returned (.agg #[.int .i64 (spanSp ps ws' i k).1,.int .i64 (spanSp ps ws' i k).2])∧Below z.heap.size z z'):=by
   intro ws' hv' mb At Ar Au Ai ct cr cu ci z hM;have hVF:=valid_facts hv';have hSm:=hVF.smr ws'.length;rw[List.take_length,hl] at hSm;have hFw:=hVF.fwd;rw[hl] at hFw;have hso:spanSp ps ws' i k=spanS (toT ps) (rowsT ps ws') (upP (toT ps) (rowsT ps ws')) (intoP (toT ps) (rowsT ps ws')) n i k:=(by unfold spanSp;rw[hl]);rw[hso];exact span_any mb n (toT ps) (rowsT ps ws') _ _ At Ar Au Ai ct cr cu ci hFw hSm (up_smu hSm hn) (into_smu hSm hn) hn i k hin (by omega) (by omega) z hM
  have HSp:=Lib.hid (HSL.out ws hv _ _ _ _ _ _ _ _ _ z1 hM);have hvh:=Lib.hid hv;have h0h:=Lib.hid h0;clear hM hok hbad hv hi0 hk1 hk6 hix h0 hin;obtain⟨a,b,hs_⟩:∃a b,spanSp ps ws i k=(a,b):=⟨_,_,rfl⟩;rw[hs_] at HSp;have hs:=Lib.hid hs_;clear hs_;(go_wp2_with fail);refine HSp.out.mono ?_;rintro e z2 ⟨rfl,hb2⟩;have HP2:=Lib.hid (HP1.out.below hb2);clear hb2 HSp HP1;obtain⟨zs,hzs⟩:∃zs,zs=z2.alloc (.cells #[.int .i64 a,.int .i64 b] 36):=⟨_,rfl⟩;have hbs:Below z2.heap.size z2 zs:=(by rw[hzs];exact(Below.refl _ _).alloc (Nat.le_refl _) _);have HPs:=Lib.hid (HP2.out.below hbs);have HOs:Hid (zs.heap[z2.heap.size]? = some (.cells #[.int .i64 a,.int .i64 b] 36 (0,0))):=by
   show _=_;rw[hzs];exact heap_alloc_new z2 _
  obtain⟨p0,p1⟩:=HPs.out.cells;have hzsh:=Lib.hid hzs;rw[hzs] at p0 p1;clear hzs hbs HP2;(go_wp2_with fail);rw[←hzsh.out];clear p0 p1 hzsh;generalize z2.heap.size=sb at *;go_loopw [12,33] (fun vA vk wr=>∃wl,wl=wr∧∃j Al m cl,j≤n'∧m≤j∧vA = .slice Al m cl∧vk = .int .i64 (j:Nat)∧Hid (wl.ownsRow zs.heap.size 3 1 (.slice Al m cl) m (ints (rstS ps ws (ws.take j) i k)))∧Hid (Below zs.heap.size zs wl)) (fun _ vk _=>n' - (intOf vk).toNat)
  case atStart=>exact⟨_,rfl,0,none,0,0,by omega,by omega,rfl,rfl,Lib.hid (World.ownsRow_nil _ _ _ _),Lib.hid (Below.refl _ _)⟩
  case round=>
   obtain⟨wq,rfl,j,Al,m,cl,hjn,hmj,rfl,rfl,HOr,HBb⟩:=hrel;have HPq:=Lib.hid (HPs.out.below HBb.out);by_cases hj:j<n'
   ·have hji:(j:Int)<(n':Int):=(by omega);have j0:(0:Int)≤(j:Int):=(by omega);obtain⟨bw,ow,N,P,K,Lo,Hi,rfl,hbw,hx,y0,-,-,-,-⟩:=HPq.out.rw_.wg hj;have hst:=Lib.hid (rst_step (ps:=ps) (ws:=ws) (i:=i) (k:=k) hx);obtain⟨p0,p1⟩:=HPq.out.cells;have hOq:=keepO HBb.out HOs.out;obtain⟨s0,s1,-,-⟩:=two_facts hOq;have hlt1:w.heap.size<wq.heap.size:=(Array.getElem?_eq_some_iff.1 HPq.out.b0).1;have hlt2:sb<wq.heap.size:=(Array.getElem?_eq_some_iff.1 hOq).1;have hVL:=Lib.hid (valid_less [N] hvh.out);have H7:=Lib.hid (HSL.out (lessW ws [N]) hVL.out);obtain⟨a',b',hs2⟩:∃a' b',spanSp ps (lessW ws [N]) i k=(a',b'):=⟨_,_,rfl⟩;rw[hs2] at H7;have hp:=Lib.hid (rstP_ne (x:=(N,P,K,Lo,Hi)) hs.out hs2);clear hx hOq hs2;(go_wp2_with fail);have HQ:=Lib.hid (fun w' (hz:Hid (Kp wq.heap.size [] wq w'))=>(⟨(hz.out.cell (by simp only;omega) (by simp;try omega)).trans p0,(hz.out.cell (by simp only;omega) (by simp;try omega)).trans p1,(hz.out.cell (by simp only;omega) (by simp;try omega)).trans s0,(hz.out.cell (by simp only;omega) (by simp;try omega)).trans s1⟩:w'.cell? ⟨w.heap.size,0,none⟩=some (.slice A n c)∧w'.cell? ⟨w.heap.size,1,none⟩=some (.slice (some ⟨bw,ow,none⟩) n' c')∧w'.cell? ⟨sb,0,none⟩=some (.int .i64 a)∧w'.cell? ⟨sb,1,none⟩=some (.int .i64 b)));obtain⟨S,hSd⟩:∃S:World→Prop,S=fun w'=>(w'.cell? ⟨w.heap.size,0,none⟩=some (.slice A n c)∧w'.cell? ⟨w.heap.size,1,none⟩=some (.slice (some ⟨bw,ow,none⟩) n' c')∧w'.cell? ⟨sb,0,none⟩=some (.int .i64 a)∧w'.cell? ⟨sb,1,none⟩=some (.int .i64 b))∧Hid (Kp wq.heap.size [] wq w'):=⟨_,rfl⟩
    have HS:=Lib.hid (fun w' (hz:Hid (Kp wq.heap.size [] wq w'))=>(by rw[hSd];exact⟨HQ.out w' hz,hz⟩:S w'));clear p0 p1 s0 s1 y0;by_cases q1:a'=a
    ·by_cases q2:b'=b
     ·subst q1;subst q2;replace hp:Hid (rstP ps ws i k (N,P,K,Lo,Hi)=false):=(by show _=_;rw[hp.out];simp);refine wp_region_held_drew (S:=S) (by kernel_rfl) ?_ (fun hHeld=>?_)
      ·exact HS.out _ (Lib.hid (Kp.refl _ _ _).drew)
      have hKyd:Hid (Kp wq.heap.size [] wq wq.drew):=Lib.hid (Kp.refl _ _ _).drew;have hSyd:wq.heap.size≤wq.drew.heap.size:=Nat.le_refl _;generalize wq.drew=yd at *;refine tY (v:=?_) 0 42 ?_ ?_;rotate_left
      ·intro w hSw;rw[hSd] at hSw;obtain⟨⟨q0,q1,q2,q3⟩,-⟩:=hSw;go_simp;(try with_reducible rfl)
      (try simp only[N0]);refine tY (v:=?_) 1 43 ?_ ?_;rotate_left
      ·intro w hSw;rw[hSd] at hSw;obtain⟨⟨q0,q1,q2,q3⟩,-⟩:=hSw;go_simp;(try with_reducible rfl)
      (try simp only[N0]);refine tY (v:=?_) 5 47 ?_ ?_;rotate_left
      ·intro w hSw;rw[hSd] at hSw;obtain⟨⟨q0,q1,q2,q3⟩,-⟩:=hSw;go_simp;(try with_reducible rfl)
      (try simp only[N0]);refine tY (v:=?_) 6 48 ?_ ?_;rotate_left
      ·intro w hSw;rw[hSd] at hSw;obtain⟨⟨q0,q1,q2,q3⟩,-⟩:=hSw;go_simp;(try with_reducible rfl)
      (try simp only[N0]);refine tY (v:=?_) 8 50 ?_ ?_;rotate_left
      ·intro w hSw;rw[hSd] at hSw;obtain⟨⟨q0,q1,q2,q3⟩,-⟩:=hSw;go_simp;(try with_reducible rfl)
      (try simp only[N0]);refine wpAnyH_ready (rs:=[2]) (by kernel_rfl) (by simp) ?_;refine AllReadyH.cons (o:=_) rfl (fun Kq hK=>?_) AllReadyH.nil;go_simp;have hOn:=heap_alloc_new yd (.cells #[.int .i64 N] 3);have hobn:=hSyd;have hKz2yd:=Lib.hid (hKyd.out.alloc hSyd (.cells #[.int .i64 N] 3));have hSz2yd:=Nat.le_trans hSyd ((Below.refl yd.heap.size yd).alloc (Nat.le_refl _) (.cells #[.int .i64 N] 3)).size;generalize (yd.alloc (.cells #[.int .i64 N] 3))=z2yd at *;refine hK.out _ _ ?_ (fun hHeld=>?_)
      ·exact HS.out _ hKz2yd
      clear hK Kq;(try simp only[N0]);refine wpAnyH_ready (rs:=[3]) (by kernel_rfl) (by simp) ?_;refine AllReadyH.cons (o:=_) rfl (fun Kq hK=>?_) AllReadyH.nil;go_simp;refine(without_any A _ n c n' c' ps ws (some ⟨yd.heap.size,0,none⟩) 1 1 [N] z2yd (by omega) (by omega) (by unfold maxLen;omega) (HPq.out.below (hKz2yd.out.below (B':=wq.heap.size) (Nat.le_refl _) (by simp))).rp (HPq.out.below (hKz2yd.out.below (B':=wq.heap.size) (Nat.le_refl _) (by simp))).rw_ (rd_one hOn)).mono ?_;rintro e c3z2yd ⟨Aw1,cw1,Aw2,m2,cw2,rfl,ho1,ho2,hb⟩;have hKc3z2yd:=Lib.hid (hKz2yd.out.call hSz2yd hb);have hOn:=keepO hb hOn;have hSc3z2yd:=Nat.le_trans hSz2yd hb.size;have HR3:=Lib.hid (Reads.of_own ho1);have HW3:=Lib.hid (Reads.of_own ho2);clear ho1 ho2;clear hb;(try go_simp);refine hK.out _ _ ?_ (fun hHeld=>?_)
      ·exact HS.out _ hKc3z2yd
      clear hK Kq;(try simp only[N0]);refine wpAnyH_ready (rs:=[4]) (by kernel_rfl) (by simp) ?_;refine AllReadyH.cons (o:=_) rfl (fun Kq hK=>?_) AllReadyH.nil;go_simp;refine(started_any Aw1 Aw2 n cw1 m2 cw2 ps (lessW ws [N]) c3z2yd HR3.out HW3.out hVL.out).mono ?_;rintro e c4c3z2yd ⟨rfl,hb,At2,Ar2,Au2,ct2,cr2,cu2,gI2,hMO⟩;have hKc4c3z2yd:=Lib.hid (hKc3z2yd.out.call hSc3z2yd hb);have hOn:=keepO hb hOn;have hSc4c3z2yd:=Nat.le_trans hSc3z2yd hb.size;have HM:=Lib.hid hMO.mr;clear hMO HR3 HW3;clear hb;(try go_simp);refine hK.out _ _ ?_ (fun hHeld=>?_)
      ·exact HS.out _ hKc4c3z2yd
      clear hK Kq;(try simp only[N0]);refine wpAnyH_ready (rs:=[7]) (by kernel_rfl) (by simp) ?_;refine AllReadyH.cons (o:=_) rfl (fun Kq hK=>?_) AllReadyH.nil;go_simp;refine(H7.out _ _ _ _ _ _ _ _ _ c4c3z2yd HM.out).mono ?_;rintro e c7c4c3z2yd ⟨rfl,hb⟩;have hKc7c4c3z2yd:=Lib.hid (hKc4c3z2yd.out.call hSc4c3z2yd hb);have hOn:=keepO hb hOn;have hSc7c4c3z2yd:=Nat.le_trans hSc4c3z2yd hb.size;clear HM;clear hb;(try go_simp);refine hK.out _ _ ?_ (fun hHeld=>?_)
      ·exact HS.out _ hKc7c4c3z2yd
      clear hK Kq;(try simp only[N0]);refine wpAnyH_ready (rs:=[9]) (by kernel_rfl) (by simp) ?_;refine AllReadyH.cons (o:=_) rfl (fun Kq hK=>?_) AllReadyH.nil;go_simp;refine hK.out _ _ ?_ (fun hHeld=>?_)
      ·exact HS.out _ hKc7c4c3z2yd
      clear hK Kq;(try simp only[N0]);refine wpAnyH_done (by kernel_rfl) ?_ _;clear HS HQ hSd H7 hOn;have hbk:=hKc7c4c3z2yd.out.below (B':=wq.heap.size) (Nat.le_refl _) (by simp);have HB2:=Lib.hid (below_via HBb.out HBb.out.size hbk);have HO2:=Lib.hid (show c7c4c3z2yd.ownsRow zs.heap.size 3 1 (.slice Al m cl) m (ints (rstS ps ws (ws.take (j+1)) i k)) by rw[hst.out,hp.out,if_neg (by decide),List.append_nil];exact ownR_below HOr.out hbk);clear hbk hp hst HOr HBb;go_wp2;go_roundw
      case rel=>exact⟨_,rfl,j+1,Al,m,cl,by omega,by omega,rfl,by go_num,HO2,HB2⟩
      case measure=>simp[intOf];omega
     ·have q2b:(b'==b)=false:=(by simpa using q2);subst q1;replace hp:Hid (rstP ps ws i k (N,P,K,Lo,Hi)=true):=(by show _=_;rw[hp.out];simp[q2]);refine wp_region_held_drew (S:=S) (by kernel_rfl) ?_ (fun hHeld=>?_)
      ·exact HS.out _ (Lib.hid (Kp.refl _ _ _).drew)
      have hKyd:Hid (Kp wq.heap.size [] wq wq.drew):=Lib.hid (Kp.refl _ _ _).drew;have hSyd:wq.heap.size≤wq.drew.heap.size:=Nat.le_refl _;generalize wq.drew=yd at *;refine tY (v:=?_) 0 42 ?_ ?_;rotate_left
      ·intro w hSw;rw[hSd] at hSw;obtain⟨⟨q0,q1,q2,q3⟩,-⟩:=hSw;go_simp;(try with_reducible rfl)
      (try simp only[N0]);refine tY (v:=?_) 1 43 ?_ ?_;rotate_left
      ·intro w hSw;rw[hSd] at hSw;obtain⟨⟨q0,q1,q2,q3⟩,-⟩:=hSw;go_simp;(try with_reducible rfl)
      (try simp only[N0]);refine tY (v:=?_) 5 47 ?_ ?_;rotate_left
      ·intro w hSw;rw[hSd] at hSw;obtain⟨⟨q0,q1,q2,q3⟩,-⟩:=hSw;go_simp;(try with_reducible rfl)
      (try simp only[N0]);refine tY (v:=?_) 6 48 ?_ ?_;rotate_left
      ·intro w hSw;rw[hSd] at hSw;obtain⟨⟨q0,q1,q2,q3⟩,-⟩:=hSw;go_simp;(try with_reducible rfl)
      (try simp only[N0]);refine tY (v:=?_) 8 50 ?_ ?_;rotate_left
      ·intro w hSw;rw[hSd] at hSw;obtain⟨⟨q0,q1,q2,q3⟩,-⟩:=hSw;go_simp;(try with_reducible rfl)
      (try simp only[N0]);refine wpAnyH_ready (rs:=[2]) (by kernel_rfl) (by simp) ?_;refine AllReadyH.cons (o:=_) rfl (fun Kq hK=>?_) AllReadyH.nil;go_simp;have hOn:=heap_alloc_new yd (.cells #[.int .i64 N] 3);have hobn:=hSyd;have hKz2yd:=Lib.hid (hKyd.out.alloc hSyd (.cells #[.int .i64 N] 3));have hSz2yd:=Nat.le_trans hSyd ((Below.refl yd.heap.size yd).alloc (Nat.le_refl _) (.cells #[.int .i64 N] 3)).size;generalize (yd.alloc (.cells #[.int .i64 N] 3))=z2yd at *;refine hK.out _ _ ?_ (fun hHeld=>?_)
      ·exact HS.out _ hKz2yd
      clear hK Kq;(try simp only[N0]);refine wpAnyH_ready (rs:=[3]) (by kernel_rfl) (by simp) ?_;refine AllReadyH.cons (o:=_) rfl (fun Kq hK=>?_) AllReadyH.nil;go_simp;refine(without_any A _ n c n' c' ps ws (some ⟨yd.heap.size,0,none⟩) 1 1 [N] z2yd (by omega) (by omega) (by unfold maxLen;omega) (HPq.out.below (hKz2yd.out.below (B':=wq.heap.size) (Nat.le_refl _) (by simp))).rp (HPq.out.below (hKz2yd.out.below (B':=wq.heap.size) (Nat.le_refl _) (by simp))).rw_ (rd_one hOn)).mono ?_;rintro e c3z2yd ⟨Aw1,cw1,Aw2,m2,cw2,rfl,ho1,ho2,hb⟩;have hKc3z2yd:=Lib.hid (hKz2yd.out.call hSz2yd hb);have hOn:=keepO hb hOn;have hSc3z2yd:=Nat.le_trans hSz2yd hb.size;have HR3:=Lib.hid (Reads.of_own ho1);have HW3:=Lib.hid (Reads.of_own ho2);clear ho1 ho2;clear hb;(try go_simp);refine hK.out _ _ ?_ (fun hHeld=>?_)
      ·exact HS.out _ hKc3z2yd
      clear hK Kq;(try simp only[N0]);refine wpAnyH_ready (rs:=[4]) (by kernel_rfl) (by simp) ?_;refine AllReadyH.cons (o:=_) rfl (fun Kq hK=>?_) AllReadyH.nil;go_simp;refine(started_any Aw1 Aw2 n cw1 m2 cw2 ps (lessW ws [N]) c3z2yd HR3.out HW3.out hVL.out).mono ?_;rintro e c4c3z2yd ⟨rfl,hb,At2,Ar2,Au2,ct2,cr2,cu2,gI2,hMO⟩;have hKc4c3z2yd:=Lib.hid (hKc3z2yd.out.call hSc3z2yd hb);have hOn:=keepO hb hOn;have hSc4c3z2yd:=Nat.le_trans hSc3z2yd hb.size;have HM:=Lib.hid hMO.mr;clear hMO HR3 HW3;clear hb;(try go_simp);refine hK.out _ _ ?_ (fun hHeld=>?_)
      ·exact HS.out _ hKc4c3z2yd
      clear hK Kq;(try simp only[N0]);refine wpAnyH_ready (rs:=[7]) (by kernel_rfl) (by simp) ?_;refine AllReadyH.cons (o:=_) rfl (fun Kq hK=>?_) AllReadyH.nil;go_simp;refine(H7.out _ _ _ _ _ _ _ _ _ c4c3z2yd HM.out).mono ?_;rintro e c7c4c3z2yd ⟨rfl,hb⟩;have hKc7c4c3z2yd:=Lib.hid (hKc4c3z2yd.out.call hSc4c3z2yd hb);have hOn:=keepO hb hOn;have hSc7c4c3z2yd:=Nat.le_trans hSc4c3z2yd hb.size;clear HM;clear hb;(try go_simp);refine hK.out _ _ ?_ (fun hHeld=>?_)
      ·exact HS.out _ hKc7c4c3z2yd
      clear hK Kq;(try simp only[N0]);refine wpAnyH_ready (rs:=[9]) (by kernel_rfl) (by simp) ?_;refine AllReadyH.cons (o:=_) rfl (fun Kq hK=>?_) AllReadyH.nil;go_simp;refine hK.out _ _ ?_ (fun hHeld=>?_)
      ·exact HS.out _ hKc7c4c3z2yd
      clear hK Kq;(try simp only[N0]);refine wpAnyH_done (by kernel_rfl) ?_ _;clear HS HQ hSd H7 hOn;have hbk:=hKc7c4c3z2yd.out.below (B':=wq.heap.size) (Nat.le_refl _) (by simp);have HB2:=Lib.hid (below_via HBb.out HBb.out.size hbk);have hbn:Below c7c4c3z2yd.heap.size c7c4c3z2yd (c7c4c3z2yd.alloc (.cells #[.int .i64 N] 3)):=(Below.refl _ _).alloc (Nat.le_refl _) _;have HOy:=Lib.hid (ownR_below (ownR_below HOr.out hbk) hbn);have HB3:=Lib.hid (below_via HB2.out HB2.out.size hbn);have HLn:=Lib.hid (rd_one (heap_alloc_new c7c4c3z2yd (.cells #[.int .i64 N] 3)));clear hbk hbn HB2 HOr HBb;go_wp2_with (first|(at_builtin;refine wpList_app _ rfl _ _ 46 rfl zs.heap.size 3 i0 _ 1 8 Tryd.underlying46 hi hz0 hz1 hz2 rfl (by decide) (.slice Al m cl) m (ints (rstS ps ws (ws.take j) i k)) rfl HOy.out _ (some ⟨c7c4c3z2yd.heap.size,0,none⟩) 1 1 (ints [N]) rfl HLn.out (ints_one _) ?c3 ?c4 ?c5 ?_))
      case c3=>unfold maxLen;omega
      case c4=>omega
      case c5=>exact HB3.out.size
      intro v5 w4 hown4 hgr4 hat4;clear hat4;obtain⟨A4,c4,rfl⟩:=ownR_val hown4;have HO4:=Lib.hid (show w4.ownsRow zs.heap.size 3 1 (.slice A4 (m+1) c4) (m+1) (ints (rstS ps ws (ws.take (j+1)) i k)) by rw[hst.out,hp.out,if_pos rfl,ints_app];exact hown4);have HB4:=Lib.hid (HB3.out.grown hgr4 HB3.out.size (fun q hq=>(ownR_lt HOy.out hq).1));clear hown4 hgr4 HOy HLn HB3 hst hp;go_wp2;go_roundw
      case rel=>exact⟨_,rfl,j+1,A4,m+1,c4,by omega,by omega,rfl,by go_num,HO4,HB4⟩
      case measure=>simp[intOf];omega
    ·have q1b:(a'==a)=false:=(by simpa using q1);replace hp:Hid (rstP ps ws i k (N,P,K,Lo,Hi)=true):=(by show _=_;rw[hp.out];simp[q1]);refine wp_region_held_drew (S:=S) (by kernel_rfl) ?_ (fun hHeld=>?_)
     ·exact HS.out _ (Lib.hid (Kp.refl _ _ _).drew)
     have hKyd:Hid (Kp wq.heap.size [] wq wq.drew):=Lib.hid (Kp.refl _ _ _).drew;have hSyd:wq.heap.size≤wq.drew.heap.size:=Nat.le_refl _;generalize wq.drew=yd at *;refine tY (v:=?_) 0 42 ?_ ?_;rotate_left
     ·intro w hSw;rw[hSd] at hSw;obtain⟨⟨q0,q1,q2,q3⟩,-⟩:=hSw;go_simp;(try with_reducible rfl)
     (try simp only[N0]);refine tY (v:=?_) 1 43 ?_ ?_;rotate_left
     ·intro w hSw;rw[hSd] at hSw;obtain⟨⟨q0,q1,q2,q3⟩,-⟩:=hSw;go_simp;(try with_reducible rfl)
     (try simp only[N0]);refine tY (v:=?_) 5 47 ?_ ?_;rotate_left
     ·intro w hSw;rw[hSd] at hSw;obtain⟨⟨q0,q1,q2,q3⟩,-⟩:=hSw;go_simp;(try with_reducible rfl)
     (try simp only[N0]);refine tY (v:=?_) 6 48 ?_ ?_;rotate_left
     ·intro w hSw;rw[hSd] at hSw;obtain⟨⟨q0,q1,q2,q3⟩,-⟩:=hSw;go_simp;(try with_reducible rfl)
     (try simp only[N0]);refine tY (v:=?_) 8 50 ?_ ?_;rotate_left
     ·intro w hSw;rw[hSd] at hSw;obtain⟨⟨q0,q1,q2,q3⟩,-⟩:=hSw;go_simp;(try with_reducible rfl)
     (try simp only[N0]);refine wpAnyH_ready (rs:=[2]) (by kernel_rfl) (by simp) ?_;refine AllReadyH.cons (o:=_) rfl (fun Kq hK=>?_) AllReadyH.nil;go_simp;have hOn:=heap_alloc_new yd (.cells #[.int .i64 N] 3);have hobn:=hSyd;have hKz2yd:=Lib.hid (hKyd.out.alloc hSyd (.cells #[.int .i64 N] 3));have hSz2yd:=Nat.le_trans hSyd ((Below.refl yd.heap.size yd).alloc (Nat.le_refl _) (.cells #[.int .i64 N] 3)).size;generalize (yd.alloc (.cells #[.int .i64 N] 3))=z2yd at *;refine hK.out _ _ ?_ (fun hHeld=>?_)
     ·exact HS.out _ hKz2yd
     clear hK Kq;(try simp only[N0]);refine wpAnyH_ready (rs:=[3]) (by kernel_rfl) (by simp) ?_;refine AllReadyH.cons (o:=_) rfl (fun Kq hK=>?_) AllReadyH.nil;go_simp;refine(without_any A _ n c n' c' ps ws (some ⟨yd.heap.size,0,none⟩) 1 1 [N] z2yd (by omega) (by omega) (by unfold maxLen;omega) (HPq.out.below (hKz2yd.out.below (B':=wq.heap.size) (Nat.le_refl _) (by simp))).rp (HPq.out.below (hKz2yd.out.below (B':=wq.heap.size) (Nat.le_refl _) (by simp))).rw_ (rd_one hOn)).mono ?_;rintro e c3z2yd ⟨Aw1,cw1,Aw2,m2,cw2,rfl,ho1,ho2,hb⟩;have hKc3z2yd:=Lib.hid (hKz2yd.out.call hSz2yd hb);have hOn:=keepO hb hOn;have hSc3z2yd:=Nat.le_trans hSz2yd hb.size;have HR3:=Lib.hid (Reads.of_own ho1);have HW3:=Lib.hid (Reads.of_own ho2);clear ho1 ho2;clear hb;(try go_simp);refine hK.out _ _ ?_ (fun hHeld=>?_)
     ·exact HS.out _ hKc3z2yd
     clear hK Kq;(try simp only[N0]);refine wpAnyH_ready (rs:=[4]) (by kernel_rfl) (by simp) ?_;refine AllReadyH.cons (o:=_) rfl (fun Kq hK=>?_) AllReadyH.nil;go_simp;refine(started_any Aw1 Aw2 n cw1 m2 cw2 ps (lessW ws [N]) c3z2yd HR3.out HW3.out hVL.out).mono ?_;rintro e c4c3z2yd ⟨rfl,hb,At2,Ar2,Au2,ct2,cr2,cu2,gI2,hMO⟩;have hKc4c3z2yd:=Lib.hid (hKc3z2yd.out.call hSc3z2yd hb);have hOn:=keepO hb hOn;have hSc4c3z2yd:=Nat.le_trans hSc3z2yd hb.size;have HM:=Lib.hid hMO.mr;clear hMO HR3 HW3;clear hb;(try go_simp);refine hK.out _ _ ?_ (fun hHeld=>?_)
     ·exact HS.out _ hKc4c3z2yd
     clear hK Kq;(try simp only[N0]);refine wpAnyH_ready (rs:=[7]) (by kernel_rfl) (by simp) ?_;refine AllReadyH.cons (o:=_) rfl (fun Kq hK=>?_) AllReadyH.nil;go_simp;refine(H7.out _ _ _ _ _ _ _ _ _ c4c3z2yd HM.out).mono ?_;rintro e c7c4c3z2yd ⟨rfl,hb⟩;have hKc7c4c3z2yd:=Lib.hid (hKc4c3z2yd.out.call hSc4c3z2yd hb);have hOn:=keepO hb hOn;have hSc7c4c3z2yd:=Nat.le_trans hSc4c3z2yd hb.size;clear HM;clear hb;(try go_simp);refine hK.out _ _ ?_ (fun hHeld=>?_)
     ·exact HS.out _ hKc7c4c3z2yd
     clear hK Kq;(try simp only[N0]);refine wpAnyH_ready (rs:=[9]) (by kernel_rfl) (by simp) ?_;refine AllReadyH.cons (o:=_) rfl (fun Kq hK=>?_) AllReadyH.nil;go_simp;refine hK.out _ _ ?_ (fun hHeld=>?_)
     ·exact HS.out _ hKc7c4c3z2yd
     clear hK Kq;(try simp only[N0]);refine wpAnyH_done (by kernel_rfl) ?_ _;clear HS HQ hSd H7 hOn;have hbk:=hKc7c4c3z2yd.out.below (B':=wq.heap.size) (Nat.le_refl _) (by simp);have HB2:=Lib.hid (below_via HBb.out HBb.out.size hbk);have hbn:Below c7c4c3z2yd.heap.size c7c4c3z2yd (c7c4c3z2yd.alloc (.cells #[.int .i64 N] 3)):=(Below.refl _ _).alloc (Nat.le_refl _) _;have HOy:=Lib.hid (ownR_below (ownR_below HOr.out hbk) hbn);have HB3:=Lib.hid (below_via HB2.out HB2.out.size hbn);have HLn:=Lib.hid (rd_one (heap_alloc_new c7c4c3z2yd (.cells #[.int .i64 N] 3)));clear hbk hbn HB2 HOr HBb;go_wp2_with (first|(at_builtin;refine wpList_app _ rfl _ _ 46 rfl zs.heap.size 3 i0 _ 1 8 Tryd.underlying46 hi hz0 hz1 hz2 rfl (by decide) (.slice Al m cl) m (ints (rstS ps ws (ws.take j) i k)) rfl HOy.out _ (some ⟨c7c4c3z2yd.heap.size,0,none⟩) 1 1 (ints [N]) rfl HLn.out (ints_one _) ?c3 ?c4 ?c5 ?_))
     case c3=>unfold maxLen;omega
     case c4=>omega
     case c5=>exact HB3.out.size
     intro v5 w4 hown4 hgr4 hat4;clear hat4;obtain⟨A4,c4,rfl⟩:=ownR_val hown4;have HO4:=Lib.hid (show w4.ownsRow zs.heap.size 3 1 (.slice A4 (m+1) c4) (m+1) (ints (rstS ps ws (ws.take (j+1)) i k)) by rw[hst.out,hp.out,if_pos rfl,ints_app];exact hown4);have HB4:=Lib.hid (HB3.out.grown hgr4 HB3.out.size (fun q hq=>(ownR_lt HOy.out hq).1));clear hown4 hgr4 HOy HLn HB3 hst hp;go_wp2;go_roundw
     case rel=>exact⟨_,rfl,j+1,A4,m+1,c4,by omega,by omega,rfl,by go_num,HO4,HB4⟩
     case measure=>simp[intOf];omega
   ·obtain rfl:j=n':=(by omega);have hji:¬(j:Int)<(j:Int):=(by omega);have hfin:Hid (rstS ps ws (ws.take j) i k=rstL ps ws id k):=(by show _=_;rw[List.take_of_length_le (by omega),hrl.out]);have HRf:=Lib.hid (Reads.of_own HOr.out);rw[hfin.out] at HRf;clear HOr HSL HOs HPs;go_wp2;refine bodyPost_ret (v:=.tuple #[.slice Al m cl,.int .i64 0]) (by simp[results,Tryd.results38,go_sem]) rfl ?_;have hfin2:(∃A1 m1 c1,Ending.returned (.tuple #[.slice Al m cl,.int .i64 0]) = .returned (.tuple #[.slice A1 m1 c1,.int .i64 (askE ps ws id k)])∧m1≤30∧Reads wq wq.heap.size 1 A1 m1 (ints (rstL ps ws id k)))∧Below w.heap.size w wq:=⟨⟨Al,m,cl,by rw[h0h.out],by omega,HRf.out⟩,HPq.out.bel⟩
    first|exact hfin2|simpa using hfin2
 ·obtain rfl:=hbad h0;have h0b:(askE ps ws id kind==0)=false:=(by simpa using h0);have hr:=Lib.hid (rst_bad h0);obtain⟨er,her⟩:∃er,er=askE ps ws id kind:=⟨_,rfl⟩;rw[←her] at h0 h0b ⊢;have herh:=Lib.hid her;clear hok hbad hl her;go_wp2;refine bodyPost_ret (v:=.tuple #[.slice none 0 0,.int .i64 er]) (by simp[results,Tryd.results38,go_sem]) rfl ?_;have hfin2:(∃A1 m1 c1,Ending.returned (.tuple #[.slice none 0 0,.int .i64 er]) = .returned (.tuple #[.slice A1 m1 c1,.int .i64 (askE ps ws id kind)])∧m1≤30∧Reads z1 z1.heap.size 1 A1 m1 (ints (rstL ps ws id kind)))∧Below w.heap.size w z1:=⟨⟨none,0,0,by rw[herh.out],by omega,by rw[hr.out];exact⟨rfl,fun h=>absurd h (by omega)⟩⟩,HP1.out.bel⟩
  first|exact hfin2|simpa using hfin2
end Go.Proofs.YtfplipbkjglmhaaDoor
