/-
 The walk of what must have gone elsewhere: the program's.
-/
import Derived.Test.YtfplipbkjglmhaaDoorTk
import Derived.Test.YtfplipbkjglmhaaDoorTq
import Derived.Test.YtfplipbkjglmhaaDoorGonD
import Derived.Test.YtfplipbkjglmhaaDoorAsk
import Derived.Test.YtfplipbkjglmhaaDoorRAsk
namespace Go.Proofs.YtfplipbkjglmhaaDoor
open Go.RowKit
set_option linter.unusedVariables false
set_option linter.unusedSimpArgs false
theorem mxg_if(a b:Int):(if a<b then b else a)=max a b:=by split<;>omega
theorem mng_if(a b:Int):(if b<a then b else a)=min a b:=by split<;>omega
theorem listM_yes'{ids m:Nat→Int}{i:Nat}(h:m i≠0):listM ids m (i+1)=listM ids m i ++ [(ids i,m i)]:=if_pos h
theorem listM_no'{ids m:Nat→Int}{i:Nat}(h:m i=0):listM ids m (i+1)=listM ids m i:=if_neg (by simpa using h)
theorem sumM_bd'{f:Nat→Int}{B:Int}:∀{m:Nat},(∀j,j<m→-B≤f j∧f j≤B)→0≤sumM f m∧sumM f m≤B*(m:Int)
 |0,_=>by simp[sumM]
 |m+1,h=>by
  have ih:=sumM_bd' (f:=f) (B:=B) (m:=m) (fun j hj=>h j (by omega));have hm:=h m (by omega);have e:B*((m+1:Nat):Int)=B*(m:Int)+B:=(by rw[Int.natCast_add,Int.mul_add];simp);rw[e];unfold sumM;omega
set_option maxRecDepth 100000 in
theorem gone1_any(f:Nat→Sp)(w:World):Calls Tryd.prog 71 #[.agg #[.int .i64 (f 0).1,.int .i64 (f 0).2,.int .i64 (f 1).1,.int .i64 (f 1).2,.int .i64 (f 2).1,.int .i64 (f 2).2,.int .i64 (f 3).1,.int .i64 (f 3).2,.int .i64 (f 4).1,.int .i64 (f 4).2,.int .i64 (f 5).1,.int .i64 (f 5).2,.int .i64 (f 6).1,.int .i64 (f 6).2]] w fun e w'=>e = .returned (.bool (rowBad f))∧Below w.heap.size w w':=by
 have hO:=heap_alloc_new w (.cells #[.int .i64 (f 0).1,.int .i64 (f 0).2,.int .i64 (f 1).1,.int .i64 (f 1).2,.int .i64 (f 2).1,.int .i64 (f 2).2,.int .i64 (f 3).1,.int .i64 (f 3).2,.int .i64 (f 4).1,.int .i64 (f 4).2,.int .i64 (f 5).1,.int .i64 (f 5).2,.int .i64 (f 6).1,.int .i64 (f 6).2] 107);have hb:=(Below.refl w.heap.size w).alloc (Nat.le_refl _) (.cells #[.int .i64 (f 0).1,.int .i64 (f 0).2,.int .i64 (f 1).1,.int .i64 (f 1).2,.int .i64 (f 2).1,.int .i64 (f 2).2,.int .i64 (f 3).1,.int .i64 (f 3).2,.int .i64 (f 4).1,.int .i64 (f 4).2,.int .i64 (f 5).1,.int .i64 (f 5).2,.int .i64 (f 6).1,.int .i64 (f 6).2] 107);have H:=Lib.hid (containsS_any f w.heap.size 7 (w.alloc (.cells #[.int .i64 (f 0).1,.int .i64 (f 0).2,.int .i64 (f 1).1,.int .i64 (f 1).2,.int .i64 (f 2).1,.int .i64 (f 2).2,.int .i64 (f 3).1,.int .i64 (f 3).2,.int .i64 (f 4).1,.int .i64 (f 4).2,.int .i64 (f 5).1,.int .i64 (f 5).2,.int .i64 (f 6).1,.int .i64 (f 6).2] 107)) (by simp) (fun k hk=>row14 hO hk));have hbh:=Lib.hid hb;clear hO hb;generalize rowBad f=rb at *
 go_enter Tryd.func71,Tryd.ntmps71
 go_wp2_with fail
 refine H.out.mono ?_;rintro e w' ⟨rfl,hb'⟩;have hB:=Lib.hid (below_via hbh.out hbh.out.size hb');clear hb' H hbh;go_wp2;go_ret;exact⟨rfl,hB.out⟩
def rowsBad (R:Nat→Nat→Sp) (n:Nat):Bool:=(List.range n).any fun i=>rowBad (R i)
theorem rowsBad_iff(R:Nat→Nat→Sp)(n:Nat):rowsBad R n=true↔∃i,i<n∧rowBad (R i)=true:=by simp[rowsBad]
theorem rowsBad_cl{ps:List PR}{ws:List WE}(h:ValidF ps ws)(n:Nat):rowsBad (rowsT ps ws) n=clB (rowsT ps ws) n:=by
 have hz:∀i,noneB (rowsT ps ws i 0)=false:=fun i=>by have:=rows_zero h i ws.length;rw[List.take_length] at this;rw[this];decide
 cases hc:clB (rowsT ps ws) n with
 |false=>
  rw[Bool.eq_false_iff];intro hb;obtain⟨i,hi,hb⟩:=(rowsBad_iff _ _).1 hb;obtain⟨k,hk,hb⟩:=(rowBad_iff _).1 hb;by_cases h0:k=0
  ·subst h0;rw[hz i] at hb;cases hb
  ·have:=clB_no hc i hi k (by omega) (by omega);unfold Ne at this;unfold noneB at hb;have:=of_decide_eq_true hb;omega
 |true=>
  cases hb:rowsBad (rowsT ps ws) n with
  |true=>rfl
  |false=>
   have:=clB_of (R:=rowsT ps ws) (n:=n) (fun i hi k h1 h6=>by
    unfold Ne;by_cases hx:(rowsT ps ws i k).2<(rowsT ps ws i k).1
    ·have:rowsBad (rowsT ps ws) n=true:=(rowsBad_iff _ _).2 ⟨i,hi,(rowBad_iff _).2 ⟨k,by omega,by unfold noneB;exact decide_eq_true hx⟩⟩;rw[hb] at this;cases this
    ·omega)
   rw[hc] at this;cases this
set_option maxRecDepth 100000 in
set_option maxHeartbeats 1000000 in
theorem indexR_any(R:Nat→Nat→Sp)(A:Option Addr)(n c:Nat)(w:World)(hn:n≤10)(hR:Reads w w.heap.size 14 A n (rws R n))(eg:∀args w,(callFunc 71 args).run Tryd.prog w = .ok (.enter 71 args) w) :
  Calls Tryd.prog 99 #[.slice A n c,.func (.func 71) #[] #[]] w fun e w'=>(∃r:Int,e = .returned (.int .i64 r)∧(decide (0≤r)=rowsBad R n))∧Below w.heap.size w w':=by
 have HRd:=Lib.hid (fun z (hz:Below w.heap.size w z)=>(hR.below hz).more hz.size);clear hR
 go_enter Tryd.func99,Tryd.ntmps99
 go_wp2;go_loopw [8] (fun x wr=>∃wl,wl=wr∧∃k:Nat,k≤n∧x = .int .i64 k∧Hid (∀j,j<k→rowBad (R j)=false)∧Hid (Below w.heap.size w wl)) (fun x _=>n - (intOf x).toNat)
 case atStart=>exact⟨_,rfl,0,by omega,rfl,Lib.hid (fun j h=>absurd h (by omega)),Lib.hid (Below.refl _ _)⟩
 case round=>
  obtain⟨wr,rfl,k,hk,rfl,hno,hB⟩:=hrel;by_cases hlt:k<n
  ·have hlti:(k:Int)<(n:Int):=(by omega);have k0:(0:Int)≤(k:Int):=(by omega);obtain⟨bi,oi,rfl,hbi,hri⟩:=(HRd.out _ hB.out).rw_ hlt;have r0:wr.cell? ⟨bi,oi+k*14,none⟩=some (.int .i64 (R k 0).1):=hri 0 _ rfl;have r1:wr.cell? ⟨bi,oi+k*14+1,none⟩=some (.int .i64 (R k 0).2):=hri 1 _ rfl;have r2:wr.cell? ⟨bi,oi+k*14+2,none⟩=some (.int .i64 (R k 1).1):=hri 2 _ rfl;have r3:wr.cell? ⟨bi,oi+k*14+3,none⟩=some (.int .i64 (R k 1).2):=hri 3 _ rfl;have r4:wr.cell? ⟨bi,oi+k*14+4,none⟩=some (.int .i64 (R k 2).1):=hri 4 _ rfl;have r5:wr.cell? ⟨bi,oi+k*14+5,none⟩=some (.int .i64 (R k 2).2):=hri 5 _ rfl;have r6:wr.cell? ⟨bi,oi+k*14+6,none⟩=some (.int .i64 (R k 3).1):=hri 6 _ rfl;have r7:wr.cell? ⟨bi,oi+k*14+7,none⟩=some (.int .i64 (R k 3).2):=hri 7 _ rfl;have r8:wr.cell? ⟨bi,oi+k*14+8,none⟩=some (.int .i64 (R k 4).1):=hri 8 _ rfl;have r9:wr.cell? ⟨bi,oi+k*14+9,none⟩=some (.int .i64 (R k 4).2):=hri 9 _ rfl;have r10:wr.cell? ⟨bi,oi+k*14+10,none⟩=some (.int .i64 (R k 5).1):=hri 10 _ rfl;have r11:wr.cell? ⟨bi,oi+k*14+11,none⟩=some (.int .i64 (R k 5).2):=hri 11 _ rfl;have r12:wr.cell? ⟨bi,oi+k*14+12,none⟩=some (.int .i64 (R k 6).1):=hri 12 _ rfl;have r13:wr.cell? ⟨bi,oi+k*14+13,none⟩=some (.int .i64 (R k 6).2):=hri 13 _ rfl;have hF:=Lib.hid (gone1_any (R k) wr);clear hri;cases hp:rowBad (R k)
   ·rw[hp] at hF;have hnx:=Lib.hid (fun j (hj:j<k+1)=>(show rowBad (R j)=false by
     by_cases hjk:j=k
     ·subst hjk;exact hp
     ·exact hno.out j (by omega)))
    clear hno hp;(go_wp2_with fail);refine hF.out.mono ?_;rintro e w1 ⟨rfl,hb1⟩;have hB1:=Lib.hid (below_via hB.out hB.out.size hb1);clear hb1;go_wp2;go_roundw
    case rel=>exact⟨_,rfl,k+1,by omega,by go_num,hnx,hB1⟩
    case measure=>simp[intOf];omega
   ·rw[hp] at hF;have hres:=Lib.hid (show decide (0≤(k:Int))=rowsBad R n by
     rw[(rowsBad_iff R n).2 ⟨k,hlt,hp⟩]
     exact decide_eq_true (by omega))
    clear hno hp;(go_wp2_with fail);refine hF.out.mono ?_;rintro e w1 ⟨rfl,hb1⟩;have hB1:=Lib.hid (below_via hB.out hB.out.size hb1);clear hb1;go_wp2;go_ret;exact⟨⟨k,rfl,hres.out⟩,hB1.out⟩
  ·obtain rfl:k=n:=(by omega);have hki:¬(k:Int)<(k:Int):=(by omega);have hres:=Lib.hid (show decide (0≤(-1:Int))=rowsBad R k by
    have:rowsBad R k=false:=by
     rw[Bool.eq_false_iff];intro h;obtain⟨j,hj,hb⟩:=(rowsBad_iff R k).1 h;rw[hno.out j (by omega)] at hb;cases hb
    rw[this];rfl)
   clear hno;go_wp2;go_ret;exact⟨⟨-1,rfl,hres.out⟩,hB.out⟩
set_option maxRecDepth 100000 in
theorem containsR_any(R:Nat→Nat→Sp)(A:Option Addr)(n c:Nat)(w:World)(hn:n≤10)(hR:Reads w w.heap.size 14 A n (rws R n)) :
  Calls Tryd.prog 70 #[.slice A n c,.func (.func 71) #[] #[]] w fun e w'=>e = .returned (.bool (rowsBad R n))∧Below w.heap.size w w':=by
 have H:=Lib.hid (indexR_any R A n c w hn hR (fun args w=>rfl));clear hR;generalize rowsBad R n=rb at *
 go_enter Tryd.func70,Tryd.ntmps70
 go_wp2_with fail
 refine H.out.mono ?_;rintro e w' ⟨⟨r,rfl,hr⟩,hbe⟩;have hr':=Lib.hid hr;have hbe':=Lib.hid hbe;clear hr hbe H;go_wp2;go_ret;exact⟨ret_bool hr'.out,hbe'.out⟩
/-- The state: what goes in, and the list so far. -/
structure GP (zs:World) (gI n:Nat) (ps:List PR) (ws:List WE) (i j:Nat) (v:Value) (m:Nat) (z:World):Prop where
 into:RowOf z gI 36 2 n spc n (fun k=>feed (toT ps) (parU (toT ps) (rowsT ps ws)) k i)
 own:z.ownsRow (gI+1) 62 2 v m (mss (listM (idQ ps) (misU (toT ps) (rowsT ps ws)) j))
 bel:Below gI zs z
section
variable {zs z y:World} {gI n i j m:Nat} {ps:List PR} {ws:List WE} {v:Value}
theorem GP.below(h:GP zs gI n ps ws i j v m z)(hb:Below z.heap.size z y):GP zs gI n ps ws i j v m y:=
 ⟨h.into.of_block (hb.block _ h.into.lt),ownR_below h.own hb,h.bel.trans (hb.mono (Nat.le_of_lt h.into.lt))⟩
theorem GP.drew(h:GP zs gI n ps ws i j v m z):GP zs gI n ps ws i j v m z.drew:=h.below (Below.refl _ _).drew
theorem GP.at_(h:GP zs gI n ps ws i j v m z){k:Nat}(hk:k<n):z.cell? ⟨gI,k*2,none⟩=some (.int .i64 (feed (toT ps) (parU (toT ps) (rowsT ps ws)) k i).1)∧z.cell? ⟨gI,k*2+1,none⟩=some (.int .i64 (feed (toT ps) (parU (toT ps) (rowsT ps ws)) k i).2)∧z.frozen? ⟨gI,k*2,none⟩=false∧z.frozen? ⟨gI,k*2+1,none⟩=false:=
 ⟨h.into.cell (fun _=>rfl) (Nat.le_refl _) (k:=k) (t:=0) hk rfl,h.into.cell (fun _=>rfl) (Nat.le_refl _) (k:=k) (t:=1) hk rfl,h.into.frozen _,h.into.frozen _⟩
theorem GP.far2(h:GP zs gI n ps ws i j v m z){x0:World}{b:Nat}(hb:x0.heap.size≤b)(u0 u1:Value)(hg:gI<x0.heap.size:=by assumption)(ho:∀q,v.ownBlock=some q→q<x0.heap.size:=by assumption):GP zs gI n ps ws i j v m ((z.setCell ⟨b,0,none⟩ u0).setCell ⟨b,1,none⟩ u1):=
 ⟨h.into.of_block (heap_sets2 _ _ _ _ _ (by omega)),ownR_block h.own (fun q hq=>heap_sets2 _ _ _ _ _ (by have:=ho q hq;omega)),(h.bel.setCell (by simp only;omega) _).setCell (by simp only;omega) _⟩
theorem GP.same(h:GP zs gI n ps ws i i v m z)(e:listM (idQ ps) (misU (toT ps) (rowsT ps ws)) (i+1)=listM (idQ ps) (misU (toT ps) (rowsT ps ws)) i):GP zs gI n ps ws i (i+1) v m z:=
 ⟨h.into,by rw[e];exact h.own,h.bel⟩
theorem GP.grew(h:GP zs gI n ps ws i i v m z)(hg:z.grownBy y v.ownBlock){v':Value}{m':Nat}(ho:y.ownsRow (gI+1) 62 2 v' m' (mss (listM (idQ ps) (misU (toT ps) (rowsT ps ws)) (i+1)))):GP zs gI n ps ws i (i+1) v' m' y:=
 ⟨h.into.of_block (hg.block _ h.into.lt (fun e=>by have:=(ownR_lt h.own e.symm).1;omega)),ho,h.bel.grown hg (Nat.le_of_lt h.into.lt) (fun q hq=>by have:=(ownR_lt h.own hq).1;omega)⟩
theorem GP.next_none(h:GP zs gI n ps ws i (i+1) v m z)(ht:(toT ps) i=none):GP zs gI n ps ws (i+1) (i+1) v m z:=
 ⟨h.into.congr (Nat.le_refl _) (fun k _=>by simp only[feed];rw[if_neg (by rw[ht];simp)]),h.own,h.bel⟩
/-- What goes in is stored. -/
theorem GP.put(h:GP zs gI n ps ws i j v m z)(q:Nat)(s:Sp):RowOf ((z.setCell ⟨gI,q*2,none⟩ (.int .i64 s.1)).setCell ⟨gI,q*2+1,none⟩ (.int .i64 s.2)) gI 36 2 n spc n (fun k=>if k=q then s else feed (toT ps) (parU (toT ps) (rowsT ps ws)) k i)∧((z.setCell ⟨gI,q*2,none⟩ (.int .i64 s.1)).setCell ⟨gI,q*2+1,none⟩ (.int .i64 s.2)).ownsRow (gI+1) 62 2 v m (mss (listM (idQ ps) (misU (toT ps) (rowsT ps ws)) j))∧Below gI zs ((z.setCell ⟨gI,q*2,none⟩ (.int .i64 s.1)).setCell ⟨gI,q*2+1,none⟩ (.int .i64 s.2)):=
 ⟨h.into.put (fun _=>rfl) q s,ownR_block h.own (fun b hb=>(Below.heap_setCell _ _ _ _ (by simp only;have:=(ownR_lt h.own hb).1;omega)).trans (Below.heap_setCell _ _ _ _ (by simp only;have:=(ownR_lt h.own hb).1;omega))),(h.bel.setCell (Nat.le_refl _) _).setCell (Nat.le_refl _) _⟩
theorem GP.next_some{q:Nat}(h:RowOf z gI 36 2 n spc n (fun k=>if k=q then plus (feed (toT ps) (parU (toT ps) (rowsT ps ws)) q i) ((parU (toT ps) (rowsT ps ws)) i) else feed (toT ps) (parU (toT ps) (rowsT ps ws)) k i)∧z.ownsRow (gI+1) 62 2 v m (mss (listM (idQ ps) (misU (toT ps) (rowsT ps ws)) (i+1)))∧Below gI zs z)(ht:(toT ps) i=some q):GP zs gI n ps ws (i+1) (i+1) v m z:=
 ⟨h.1.congr (Nat.le_refl _) (fun k _=>by
  simp only[feed];by_cases e:k=q
  ·subst e;rw[if_pos ht,if_pos rfl]
  ·rw[if_neg (by rw[ht];intro h;exact e (Option.some.inj h).symm),if_neg e]),h.2.1,h.2.2⟩
end
set_option maxRecDepth 100000 in
set_option maxHeartbeats 16000000 in
theorem pGone_any(A A':Option Addr)(n c n' c':Nat)(ps:List PR)(ws:List WE)(w:World)(hnm:n≤maxLen)(hR:Reads w w.heap.size 4 A n (pgs ps))(hW:Reads w w.heap.size 5 A' n' (wgs ws))(hL:Laid w) :
  Calls Tryd.prog 24 #[.agg #[.slice A n c,.slice A' n' c']] w fun e w'=>(∃A1 m c1,e = .returned (.tuple #[.int .i64 (gonS ps ws),.slice A1 m c1,.int .i64 (gonE ps ws)])∧m≤10∧Reads w' w'.heap.size 2 A1 m (mss (gonL ps ws)))∧Below w.heap.size w w':=by
 have hl:ps.length=n:=hR.pg_len;have HP0:=Lib.hid (PX.start (c:=c) (c':=c') hR hW hL);have HCk:=Lib.hid (fun z (hz:PX w A A' n c n' c' ps ws z)=>Check_any A A' n c n' c' ps ws z hz.rp hz.rw_ hz.laid);have HSt:=Lib.hid (fun z (hz:PX w A A' n c n' c' ps ws z) hv=>started_any A A' n c n' c' ps ws z hz.rp hz.rw_ hv);obtain⟨j0,hj,hj0,hj1,hj2⟩:=info_parts info_ms;clear hR hW hL
 go_enter Tryd.func24,Tryd.ntmps24
 go_wp2_with fail
 refine(HCk.out _ HP0.out).mono ?_;rintro e z1 ⟨rfl,hb1⟩;have HP1:=Lib.hid (HP0.out.below hb1);clear hb1;cases hv:validP ps ws
 ·have hs:Hid (gonE ps ws=20):=(by show _=_;unfold gonE;rw[hv];rfl);have hs2:Hid (gonS ps ws=0∧gonL ps ws = []):=(by show _∧_;unfold gonS gonL;rw[hs.out];exact⟨rfl,rfl⟩);rw[show checkS ps ws=20 by unfold checkS;rw[hv];rfl];clear hv hl;go_wp2;refine bodyPost_ret (v:=.tuple #[.int .i64 0,.slice none 0 0,.int .i64 20]) (by simp[results,Tryd.results24,go_sem]) rfl ?_;have hfin:(∃A1 m c1,Ending.returned (.tuple #[.int .i64 0,.slice none 0 0,.int .i64 20]) = .returned (.tuple #[.int .i64 (gonS ps ws),.slice A1 m c1,.int .i64 (gonE ps ws)])∧m≤10∧Reads z1 z1.heap.size 2 A1 m (mss (gonL ps ws)))∧Below w.heap.size w z1:=⟨⟨none,0,0,by rw[hs.out,hs2.out.1],by omega,by rw[hs2.out.2];exact Reads.none_⟩,HP1.out.bel⟩
  first|exact hfin|simpa using hfin
 rw[show checkS ps ws=0 by unfold checkS;rw[hv];rfl];have hVF:=valid_facts hv;have hn:n≤10:=by have:=hVF.n10;omega
 have hFw:=hVF.fwd;rw[hl] at hFw;have hFh:=Lib.hid hFw;have hvh:=Lib.hid hv;have hcl0:=rowsBad_cl hVF n;obtain⟨p0,p1⟩:=HP1.out.cells;clear hFw;go_wp2_with fail
 refine(HSt.out _ HP1.out hvh.out).mono ?_;rintro e z3 ⟨rfl,hb3,At,Ar,Au,ct,cr,cu,gJ,hMO⟩;have HP3:=Lib.hid (HP1.out.below hb3);have HM:=Lib.hid hMO.mr;clear hb3 hMO p0 p1;generalize z1.heap.size+1=mb at *;have c3:=HM.out.c3;have hcr:=Lib.hid (containsR_any (rowsT ps ws) Ar n cr z3 hn HM.out.rr);rw[hcl0] at hcr;clear hcl0;go_wp2_with fail
 refine hcr.out.mono ?_;rintro e zs ⟨rfl,hb4⟩;have HPs:=Lib.hid (HP3.out.below hb4);have HMs:=Lib.hid (HM.out.below hb4);clear hb4 c3 hcr;cases hcl:clB (rowsT ps ws) n;rotate_left
 ·have hs:Hid (gonE ps ws=8):=(by show _=_;unfold gonE;rw[hv,if_pos rfl,hl,hcl];rfl);have hs2:Hid (gonS ps ws=0∧gonL ps ws = []):=(by show _∧_;unfold gonS gonL;rw[hs.out];exact⟨rfl,rfl⟩);clear hv hl hcl hVF;go_wp2;refine bodyPost_ret (v:=.tuple #[.int .i64 0,.slice none 0 0,.int .i64 8]) (by simp[results,Tryd.results24,go_sem]) rfl ?_;have hfin:(∃A1 m c1,Ending.returned (.tuple #[.int .i64 0,.slice none 0 0,.int .i64 8]) = .returned (.tuple #[.int .i64 (gonS ps ws),.slice A1 m c1,.int .i64 (gonE ps ws)])∧m≤10∧Reads zs zs.heap.size 2 A1 m (mss (gonL ps ws)))∧Below w.heap.size w zs:=⟨⟨none,0,0,by rw[hs.out,hs2.out.1],by omega,by rw[hs2.out.2];exact Reads.none_⟩,HPs.out.bel⟩
  first|exact hfin|simpa using hfin
 have hs:Hid (gonE ps ws=0):=by show _=_;unfold gonE;rw[hv,if_pos rfl,hl,hcl];rfl
 have hs2:Hid (gonS ps ws=sumM (misU (toT ps) (rowsT ps ws)) n∧gonL ps ws=listM (idQ ps) (misU (toT ps) (rowsT ps ws)) n):=by
  show _∧_;unfold gonS gonL;rw[if_pos hs.out,if_pos hs.out,hl];exact⟨rfl,rfl⟩
 have hNe:=clB_no hcl;have hIn:∀i,In1 ((rowsT ps ws) i):=fun i=>rows_In1 hVF i;have hpb:=fun i (hi:i<n)=>parV_bd (t:=(toT ps)) hNe (fun i _=>hIn i) hi;have hUb:∀j,j<n→Bd 10000000 ((parU (toT ps) (rowsT ps ws)) j):=fun j hj=>by have:=(hpb j hj).1;unfold Bd;omega
 have hRb:∀i q,q<7→Bd 10000000 ((rowsT ps ws) i q):=fun i q hq=>by have:=hIn i q hq;unfold Bd;omega
 have hfb:∀k m,m≤n→Bd 100000000 (feed (toT ps) (parU (toT ps) (rowsT ps ws)) k m):=fun k m hm=>by
  have h1:=feed_bd (t:=(toT ps)) (B:=10000000) (by decide) k m (fun q hq=>hUb q (by omega));unfold Bd at *;omega
 have hcb:∀i,i<n→Bd 200000000 (canS (toT ps) (rowsT ps ws) (parU (toT ps) (rowsT ps ws)) i):=fun i hi=>by
  have h1:=hfb i i (by omega);have h2:=hRb i 1 (by omega);have h3:=hRb i 2 (by omega);have h4:=hRb i 3 (by omega);have h5:=hRb i 4 (by omega);have h6:=hRb i 5 (by omega);unfold Bd at *;simp only[canS,restS,minus,plus];omega
 have hmb:=Lib.hid (fun j (hj:j<n)=>(show -300000000≤(misU (toT ps) (rowsT ps ws)) j∧(misU (toT ps) (rowsT ps ws)) j≤300000000 by
  have h1:=hcb j hj;have h2:=hIn j 6 (by omega);unfold misU misP;unfold Bd at h1
  omega))
 have hfs:=Lib.hid (fun k m (hm:m≤n)=>(show Sml (feed (toT ps) (parU (toT ps) (rowsT ps ws)) k m) by have:=hfb k m hm;unfold Bd at this;unfold Sml;omega));have hfb2:=Lib.hid hfb;have hus:=Lib.hid (fun k (hk:k<n)=>(show Sml ((parU (toT ps) (rowsT ps ws)) k) by have:=hUb k hk;unfold Bd at this;unfold Sml;omega));have hcbh:=Lib.hid hcb;have hInh:=Lib.hid hIn;have hNeh:=Lib.hid hNe;have hRS:Hid (∀i,SmF ((rowsT ps ws) i)):=Lib.hid (fun i k hk=>by have:=hIn i k hk;omega);have hmk:=fun w=>make_sps n hn w;have c3:=HMs.out.c3;have hmlt:=HMs.out.lt;have c3':∀o,(zs.alloc o).cell? ⟨mb,3,none⟩=some (.slice Ar n cr):=fun o=>(((Below.refl zs.heap.size zs).alloc (Nat.le_refl _) o).cell hmlt).trans c3
 have hG0:Hid (GP zs zs.heap.size n ps ws 0 0 (.slice none 0 0) 0 (zs.alloc (.cells (madeCells #[.int .i64 0,.int .i64 0] (n*2)) 36))):=
  Lib.hid ⟨(made_sps zs n).congr (Nat.le_refl _) (fun k _=>rfl),World.ownsRow_nil _ _ _ _,(Below.refl _ _).alloc (Nat.le_refl _) _⟩
 have HMz:=Lib.hid (fun z (hz:Below zs.heap.size zs z)=>HMs.out.below hz);have HPz:=Lib.hid (fun z (hz:Below zs.heap.size zs z)=>HPs.out.below hz);clear hv hl hcl hVF hNe hIn hpb hUb hRb hfb hcb HMs HPs HM HP3 HP1 HP0 HCk HSt;obtain⟨xa,hxa⟩:∃xa,xa=zs.alloc (.cells (madeCells #[.int .i64 0,.int .i64 0] (n*2)) 36):=⟨_,rfl⟩;rw[←hxa] at hG0;have hxh:=Lib.hid hxa;clear hxa;go_wp2_with fail
 rw[←hxh.out];clear hxh hmk c3 c3' hmlt;generalize zs.heap.size=gI at *;go_loopw [7,8,40] (fun v u t wr=>∃wl,wl=wr∧∃i:Nat,i≤n∧t = .int .i64 i∧v = .int .i64 (sumM (misU (toT ps) (rowsT ps ws)) i)∧(∃Al m cl,u = .slice Al m cl∧m≤i∧Hid (GP zs gI n ps ws i i (.slice Al m cl) m wl))) (fun _ _ t _=>n - (intOf t).toNat)
 case atStart=>exact⟨_,rfl,0,Nat.zero_le _,rfl,rfl,⟨none,0,0,rfl,Nat.le_refl _,hG0⟩⟩
 case round=>
  clear hG0;obtain⟨wr,rfl,i,hi,rfl,rfl,⟨Al,m,cl,rfl,hmi,hG⟩⟩:=hrel;by_cases hin:i<n
  ·have hii:(i:Int)<(n:Int):=(by omega);have ii0:(0:Int)≤(i:Int):=(by omega);obtain⟨bi,oi,rfl,hbi,hri⟩:=(HMz.out _ hG.out.bel).rr.rw_ hin;have r0:wr.cell? ⟨bi,oi+i*14,none⟩=some (.int .i64 ((rowsT ps ws) i 0).1):=hri 0 _ rfl;have r1:wr.cell? ⟨bi,oi+i*14+1,none⟩=some (.int .i64 ((rowsT ps ws) i 0).2):=hri 1 _ rfl;have r2:wr.cell? ⟨bi,oi+i*14+2,none⟩=some (.int .i64 ((rowsT ps ws) i 1).1):=hri 2 _ rfl;have r3:wr.cell? ⟨bi,oi+i*14+3,none⟩=some (.int .i64 ((rowsT ps ws) i 1).2):=hri 3 _ rfl;have r4:wr.cell? ⟨bi,oi+i*14+4,none⟩=some (.int .i64 ((rowsT ps ws) i 2).1):=hri 4 _ rfl;have r5:wr.cell? ⟨bi,oi+i*14+5,none⟩=some (.int .i64 ((rowsT ps ws) i 2).2):=hri 5 _ rfl;have r6:wr.cell? ⟨bi,oi+i*14+6,none⟩=some (.int .i64 ((rowsT ps ws) i 3).1):=hri 6 _ rfl;have r7:wr.cell? ⟨bi,oi+i*14+7,none⟩=some (.int .i64 ((rowsT ps ws) i 3).2):=hri 7 _ rfl;have r8:wr.cell? ⟨bi,oi+i*14+8,none⟩=some (.int .i64 ((rowsT ps ws) i 4).1):=hri 8 _ rfl;have r9:wr.cell? ⟨bi,oi+i*14+9,none⟩=some (.int .i64 ((rowsT ps ws) i 4).2):=hri 9 _ rfl;have r10:wr.cell? ⟨bi,oi+i*14+10,none⟩=some (.int .i64 ((rowsT ps ws) i 5).1):=hri 10 _ rfl;have r11:wr.cell? ⟨bi,oi+i*14+11,none⟩=some (.int .i64 ((rowsT ps ws) i 5).2):=hri 11 _ rfl;have r12:wr.cell? ⟨bi,oi+i*14+12,none⟩=some (.int .i64 ((rowsT ps ws) i 6).1):=hri 12 _ rfl;have r13:wr.cell? ⟨bi,oi+i*14+13,none⟩=some (.int .i64 ((rowsT ps ws) i 6).2):=hri 13 _ rfl;obtain⟨z,hz⟩:∃z,z=wr.alloc (.cells #[.int .i64 ((rowsT ps ws) i 0).1,.int .i64 ((rowsT ps ws) i 0).2,.int .i64 ((rowsT ps ws) i 1).1,.int .i64 ((rowsT ps ws) i 1).2,.int .i64 ((rowsT ps ws) i 2).1,.int .i64 ((rowsT ps ws) i 2).2,.int .i64 ((rowsT ps ws) i 3).1,.int .i64 ((rowsT ps ws) i 3).2,.int .i64 ((rowsT ps ws) i 4).1,.int .i64 ((rowsT ps ws) i 4).2,.int .i64 ((rowsT ps ws) i 5).1,.int .i64 ((rowsT ps ws) i 5).2,.int .i64 ((rowsT ps ws) i 6).1,.int .i64 ((rowsT ps ws) i 6).2] 107):=⟨_,rfl⟩
   have hR3:=heap_alloc_new wr (.cells #[.int .i64 ((rowsT ps ws) i 0).1,.int .i64 ((rowsT ps ws) i 0).2,.int .i64 ((rowsT ps ws) i 1).1,.int .i64 ((rowsT ps ws) i 1).2,.int .i64 ((rowsT ps ws) i 2).1,.int .i64 ((rowsT ps ws) i 2).2,.int .i64 ((rowsT ps ws) i 3).1,.int .i64 ((rowsT ps ws) i 3).2,.int .i64 ((rowsT ps ws) i 4).1,.int .i64 ((rowsT ps ws) i 4).2,.int .i64 ((rowsT ps ws) i 5).1,.int .i64 ((rowsT ps ws) i 5).2,.int .i64 ((rowsT ps ws) i 6).1,.int .i64 ((rowsT ps ws) i 6).2] 107);have hC:GP zs gI n ps ws i i (.slice Al m cl) m z:=(by rw[hz];exact hG.out.below ((Below.refl _ _).alloc (Nat.le_refl _) _));rw[←hz] at hR3;have hzh:=Lib.hid hz;clear hz hri hG;(go_wp2_with fail);rw[←hzh.out];clear hzh r0 r1 r2 r3 r4 r5 r6 r7 r8 r9 r10 r11 r12 r13;generalize wr.heap.size=rb at *;have hgz:gI<z.heap.size:=hC.into.lt;have hoz:∀q,Value.ownBlock (.slice Al m cl)=some q→q<z.heap.size:=fun q hq=>(ownR_lt hC.own hq).2
   have hs1:=Lib.hid (hfs.out i i (by omega));have hRk:=Lib.hid (hRS.out i);have hs2_:Hid (Sml ((rowsT ps ws) i 1)):=(by have:=hRk.out 1 (by omega);show Sml _;unfold Sml;omega);have hs3:Hid (Sml (plus (feed (toT ps) (parU (toT ps) (rowsT ps ws)) i i) ((rowsT ps ws) i 1))):=(by have h1:=hRk.out 1 (by omega);have h2:=hs1.out;show Sml _;have h3:=hfb2.out i i (by omega);unfold Bd at h3;unfold Sml;simp only[plus];omega);have hs4:Hid (Sml (rest1 ((rowsT ps ws) i) 4)):=by have:=rest1_sml hRk.out 4 (Nat.le_refl _);show Sml _;unfold Sml;omega
   go_cut [12,13] from 41 to 132 (fun s t wx=>∃wl,wl=wx∧∃ca cb,s = .pointer (some ⟨ca,0,none⟩)∧t = .pointer (some ⟨cb,0,none⟩)∧Hid (GP zs gI n ps ws i i (.slice Al m cl) m wl)∧Hid (wl.heap[ca]? = some (.cells #[.int .i64 (minus (plus (feed (toT ps) (parU (toT ps) (rowsT ps ws)) i i) ((rowsT ps ws) i 1)) (rest1 ((rowsT ps ws) i) 4)).1,.int .i64 (minus (plus (feed (toT ps) (parU (toT ps) (rowsT ps ws)) i i) ((rowsT ps ws) i 1)) (rest1 ((rowsT ps ws) i) 4)).2] 36 (0,0)))∧Hid (wl.heap[cb]? = some (.cells #[.int .i64 ((rowsT ps ws) i 6).1,.int .i64 ((rowsT ps ws) i 6).2] 36 (0,0)))∧z.heap.size≤ca∧z.heap.size≤cb∧ca≠cb)
   case first=>
    obtain⟨i0',i1',-,-⟩:=hC.at_ hin;obtain⟨q0,q1,q2,q3,q4,q5,q6,q7,q8,q9,q10,q11,q12,q13,-⟩:=facts14 hR3;have hrz:rb<z.heap.size:=(Array.getElem?_eq_some_iff.1 hR3).1;have HQ:=Lib.hid (fun w' (hz:Hid (Kp z.heap.size [] z w'))=>(⟨(hz.out.cell (by simp only;omega) (by simp;try omega)).trans i0',(hz.out.cell (by simp only;omega) (by simp;try omega)).trans i1',(hz.out.cell (by simp only;omega) (by simp;try omega)).trans q0,(hz.out.cell (by simp only;omega) (by simp;try omega)).trans q1,(hz.out.cell (by simp only;omega) (by simp;try omega)).trans q2,(hz.out.cell (by simp only;omega) (by simp;try omega)).trans q3,(hz.out.cell (by simp only;omega) (by simp;try omega)).trans q4,(hz.out.cell (by simp only;omega) (by simp;try omega)).trans q5,(hz.out.cell (by simp only;omega) (by simp;try omega)).trans q6,(hz.out.cell (by simp only;omega) (by simp;try omega)).trans q7,(hz.out.cell (by simp only;omega) (by simp;try omega)).trans q8,(hz.out.cell (by simp only;omega) (by simp;try omega)).trans q9,(hz.out.cell (by simp only;omega) (by simp;try omega)).trans q10,(hz.out.cell (by simp only;omega) (by simp;try omega)).trans q11,(hz.out.cell (by simp only;omega) (by simp;try omega)).trans q12,(hz.out.cell (by simp only;omega) (by simp;try omega)).trans q13⟩:w'.cell? ⟨gI,i*2,none⟩=some (.int .i64 (feed (toT ps) (parU (toT ps) (rowsT ps ws)) i i).1)∧w'.cell? ⟨gI,i*2+1,none⟩=some (.int .i64 (feed (toT ps) (parU (toT ps) (rowsT ps ws)) i i).2)∧w'.cell? ⟨rb,0,none⟩=some (.int .i64 ((rowsT ps ws) i 0).1)∧w'.cell? ⟨rb,1,none⟩=some (.int .i64 ((rowsT ps ws) i 0).2)∧w'.cell? ⟨rb,2,none⟩=some (.int .i64 ((rowsT ps ws) i 1).1)∧w'.cell? ⟨rb,3,none⟩=some (.int .i64 ((rowsT ps ws) i 1).2)∧w'.cell? ⟨rb,4,none⟩=some (.int .i64 ((rowsT ps ws) i 2).1)∧w'.cell? ⟨rb,5,none⟩=some (.int .i64 ((rowsT ps ws) i 2).2)∧w'.cell? ⟨rb,6,none⟩=some (.int .i64 ((rowsT ps ws) i 3).1)∧w'.cell? ⟨rb,7,none⟩=some (.int .i64 ((rowsT ps ws) i 3).2)∧w'.cell? ⟨rb,8,none⟩=some (.int .i64 ((rowsT ps ws) i 4).1)∧w'.cell? ⟨rb,9,none⟩=some (.int .i64 ((rowsT ps ws) i 4).2)∧w'.cell? ⟨rb,10,none⟩=some (.int .i64 ((rowsT ps ws) i 5).1)∧w'.cell? ⟨rb,11,none⟩=some (.int .i64 ((rowsT ps ws) i 5).2)∧w'.cell? ⟨rb,12,none⟩=some (.int .i64 ((rowsT ps ws) i 6).1)∧w'.cell? ⟨rb,13,none⟩=some (.int .i64 ((rowsT ps ws) i 6).2)))
    obtain⟨S,hSd⟩:∃S:World→Prop,S=fun w'=>(w'.cell? ⟨gI,i*2,none⟩=some (.int .i64 (feed (toT ps) (parU (toT ps) (rowsT ps ws)) i i).1)∧w'.cell? ⟨gI,i*2+1,none⟩=some (.int .i64 (feed (toT ps) (parU (toT ps) (rowsT ps ws)) i i).2)∧w'.cell? ⟨rb,0,none⟩=some (.int .i64 ((rowsT ps ws) i 0).1)∧w'.cell? ⟨rb,1,none⟩=some (.int .i64 ((rowsT ps ws) i 0).2)∧w'.cell? ⟨rb,2,none⟩=some (.int .i64 ((rowsT ps ws) i 1).1)∧w'.cell? ⟨rb,3,none⟩=some (.int .i64 ((rowsT ps ws) i 1).2)∧w'.cell? ⟨rb,4,none⟩=some (.int .i64 ((rowsT ps ws) i 2).1)∧w'.cell? ⟨rb,5,none⟩=some (.int .i64 ((rowsT ps ws) i 2).2)∧w'.cell? ⟨rb,6,none⟩=some (.int .i64 ((rowsT ps ws) i 3).1)∧w'.cell? ⟨rb,7,none⟩=some (.int .i64 ((rowsT ps ws) i 3).2)∧w'.cell? ⟨rb,8,none⟩=some (.int .i64 ((rowsT ps ws) i 4).1)∧w'.cell? ⟨rb,9,none⟩=some (.int .i64 ((rowsT ps ws) i 4).2)∧w'.cell? ⟨rb,10,none⟩=some (.int .i64 ((rowsT ps ws) i 5).1)∧w'.cell? ⟨rb,11,none⟩=some (.int .i64 ((rowsT ps ws) i 5).2)∧w'.cell? ⟨rb,12,none⟩=some (.int .i64 ((rowsT ps ws) i 6).1)∧w'.cell? ⟨rb,13,none⟩=some (.int .i64 ((rowsT ps ws) i 6).2))∧Hid (Kp z.heap.size [] z w'):=⟨_,rfl⟩
    have HS:=Lib.hid (fun w' (hz:Hid (Kp z.heap.size [] z w'))=>(by rw[hSd];exact⟨HQ.out w' hz,hz⟩:S w'));clear i0' i1' q0 q1 q2 q3 q4 q5 q6 q7 q8 q9 q10 q11 q12 q13;refine wp_region_held_drew (S:=S) (by kernel_rfl) ?_ (fun hHeld=>?_)
    ·exact HS.out _ (Lib.hid (Kp.refl _ _ _).drew)
    have hKyd:Hid (Kp z.heap.size [] z z.drew):=Lib.hid (Kp.refl _ _ _).drew;have hSyd:z.heap.size≤z.drew.heap.size:=Nat.le_refl _;have hC:=hC.drew;generalize z.drew=yd at *;refine tY (v:=?_) 0 45 ?_ ?_;rotate_left
    ·intro w hSw;rw[hSd] at hSw;obtain⟨⟨i0',i1',q0,q1,q2,q3,q4,q5,q6,q7,q8,q9,q10,q11,q12,q13⟩,-⟩:=hSw;go_simp;(try with_reducible rfl)
    (try simp only[N0]);refine tY (v:=?_) 1 46 ?_ ?_;rotate_left
    ·intro w hSw;rw[hSd] at hSw;obtain⟨⟨i0',i1',q0,q1,q2,q3,q4,q5,q6,q7,q8,q9,q10,q11,q12,q13⟩,-⟩:=hSw;go_simp;(try with_reducible rfl)
    (try simp only[N0]);refine tY (v:=?_) 2 47 ?_ ?_;rotate_left
    ·intro w hSw;rw[hSd] at hSw;obtain⟨⟨i0',i1',q0,q1,q2,q3,q4,q5,q6,q7,q8,q9,q10,q11,q12,q13⟩,-⟩:=hSw;go_simp;(try with_reducible rfl)
    (try simp only[N0]);refine tY (v:=?_) 3 48 ?_ ?_;rotate_left
    ·intro w hSw;rw[hSd] at hSw;obtain⟨⟨i0',i1',q0,q1,q2,q3,q4,q5,q6,q7,q8,q9,q10,q11,q12,q13⟩,-⟩:=hSw;go_simp;(try with_reducible rfl)
    (try simp only[N0]);refine tY (v:=?_) 4 49 ?_ ?_;rotate_left
    ·intro w hSw;rw[hSd] at hSw;obtain⟨⟨i0',i1',q0,q1,q2,q3,q4,q5,q6,q7,q8,q9,q10,q11,q12,q13⟩,-⟩:=hSw;go_simp;(try with_reducible rfl)
    (try simp only[N0]);refine tY (v:=?_) 5 50 ?_ ?_;rotate_left
    ·intro w hSw;rw[hSd] at hSw;obtain⟨⟨i0',i1',q0,q1,q2,q3,q4,q5,q6,q7,q8,q9,q10,q11,q12,q13⟩,-⟩:=hSw;go_simp;(try with_reducible rfl)
    (try simp only[N0]);refine tY (v:=?_) 7 52 ?_ ?_;rotate_left
    ·intro w hSw;rw[hSd] at hSw;obtain⟨⟨i0',i1',q0,q1,q2,q3,q4,q5,q6,q7,q8,q9,q10,q11,q12,q13⟩,-⟩:=hSw;go_simp;(try with_reducible rfl)
    (try simp only[N0]);refine tY (v:=?_) 10 55 ?_ ?_;rotate_left
    ·intro w hSw;rw[hSd] at hSw;obtain⟨⟨i0',i1',q0,q1,q2,q3,q4,q5,q6,q7,q8,q9,q10,q11,q12,q13⟩,-⟩:=hSw;go_simp;(try with_reducible rfl)
    (try simp only[N0]);refine tY (v:=?_) 11 56 ?_ ?_;rotate_left
    ·intro w hSw;rw[hSd] at hSw;obtain⟨⟨i0',i1',q0,q1,q2,q3,q4,q5,q6,q7,q8,q9,q10,q11,q12,q13⟩,-⟩:=hSw;go_simp;(try with_reducible rfl)
    try simp only[N0]
    iterate 7
     all_goals first
      |refine U3 6 12 13 ?_ ?_ ?_
      |refine U3 8 12 13 ?_ ?_ ?_
      |refine U2 6 13 ?_ ?_
      |refine U2 6 12 ?_ ?_
      |refine U3 9 12 13 ?_ ?_ ?_
      |refine U2 8 13 ?_ ?_
      |refine U2 8 12 ?_ ?_
      |refine U1 6 ?_
      |refine U2 12 13 ?_ ?_
      |refine U2 9 13 ?_ ?_
      |refine U2 9 12 ?_ ?_
      |refine U1 8 ?_
      |refine U1 13 ?_
      |refine U1 12 ?_
      |refine U1 9 ?_
      |refine U1 14 ?_
      |refine U1 15 ?_
     all_goals first
      |intro (t:Tag 6) Kq hK
       clear t;go_simp;refine(plus_any (feed (toT ps) (parU (toT ps) (rowsT ps ws)) i i) ((rowsT ps ws) i 1) hs1.out hs2_.out _).mono ?_;rintro e yd ⟨rfl,hb⟩;replace hKyd:=Lib.hid (hKyd.out.call hSyd hb);(try replace hOb:=keepO hb hOb);(try replace hOa:=keepO hb hOa);replace hSyd:=Nat.le_trans hSyd hb.size;have hC:=hC.below hb;clear hb;(try go_simp);refine hK.out _ _ ?_ (fun hHeld=>?_)
       ·exact HS.out _ hKyd
       clear hK Kq;try simp only[N0]
      |intro (t:Tag 12) Kq hK
       clear t;go_simp;obtain⟨na,hn_⟩:∃q,q=yd.heap.size:=⟨_,rfl⟩;have hOa:=heap_alloc_new yd (.cells #[.int .i64 0,.int .i64 0] 36);have hoba:=hSyd;rw[←hn_] at hOa hoba;have hbA:=(Below.refl yd.heap.size yd).alloc (Nat.le_refl _) (.cells #[.int .i64 0,.int .i64 0] 36);(try have hab:na≠nb:=by rw[hn_];exact Nat.ne_of_gt (Array.getElem?_eq_some_iff.1 hOb).1);(try replace hOb:=keepO hbA hOb);replace hC:=hC.below hbA;have hza:z.heap.size≤na:=(by rw[hn_];exact hSyd);replace hKyd:=Lib.hid (hKyd.out.alloc hSyd (.cells #[.int .i64 0,.int .i64 0] 36));replace hSyd:=Nat.le_trans hSyd hbA.size;clear hbA;generalize (yd.alloc (.cells #[.int .i64 0,.int .i64 0] 36))=yd at *;refine hK.out _ _ ?_ (fun hHeld=>?_)
       ·exact HS.out _ hKyd
       clear hK Kq;(try simp only[N0]);(try rw[←hn_]);clear hn_
      |intro (t:Tag 13) Kq hK
       clear t;go_simp;obtain⟨nb,hn_⟩:∃q,q=yd.heap.size:=⟨_,rfl⟩;have hOb:=heap_alloc_new yd (.cells #[.int .i64 0,.int .i64 0] 36);have hobb:=hSyd;rw[←hn_] at hOb hobb;have hbA:=(Below.refl yd.heap.size yd).alloc (Nat.le_refl _) (.cells #[.int .i64 0,.int .i64 0] 36);(try have hab:nb≠na:=by rw[hn_];exact Nat.ne_of_gt (Array.getElem?_eq_some_iff.1 hOa).1);(try replace hOa:=keepO hbA hOa);replace hC:=hC.below hbA;have hzb:z.heap.size≤nb:=(by rw[hn_];exact hSyd);replace hKyd:=Lib.hid (hKyd.out.alloc hSyd (.cells #[.int .i64 0,.int .i64 0] 36));replace hSyd:=Nat.le_trans hSyd hbA.size;clear hbA;generalize (yd.alloc (.cells #[.int .i64 0,.int .i64 0] 36))=yd at *;refine hK.out _ _ ?_ (fun hHeld=>?_)
       ·exact HS.out _ hKyd
       clear hK Kq;(try simp only[N0]);(try rw[←hn_]);clear hn_
      |intro (t:Tag 8) Kq hK
       clear t;go_simp;refine(rest_any ((rowsT ps ws) i) hRk.out _).mono ?_;rintro e yd ⟨rfl,hb⟩;replace hKyd:=Lib.hid (hKyd.out.call hSyd hb);(try replace hOb:=keepO hb hOb);(try replace hOa:=keepO hb hOa);replace hSyd:=Nat.le_trans hSyd hb.size;have hC:=hC.below hb;clear hb;(try go_simp);refine hK.out _ _ ?_ (fun hHeld=>?_)
       ·exact HS.out _ hKyd
       clear hK Kq;try simp only[N0]
      |intro (t:Tag 9) Kq hK
       clear t;go_simp;refine(minus_any (plus (feed (toT ps) (parU (toT ps) (rowsT ps ws)) i i) ((rowsT ps ws) i 1)) (rest1 ((rowsT ps ws) i) 4) hs3.out hs4.out _).mono ?_;rintro e yd ⟨rfl,hb⟩;replace hKyd:=Lib.hid (hKyd.out.call hSyd hb);(try replace hOb:=keepO hb hOb);(try replace hOa:=keepO hb hOa);replace hSyd:=Nat.le_trans hSyd hb.size;have hC:=hC.below hb;clear hb;(try go_simp);refine hK.out _ _ ?_ (fun hHeld=>?_)
       ·exact HS.out _ hKyd
       clear hK Kq;try simp only[N0]
      |intro (t:Tag 14) Kq hK
       clear t;obtain⟨e0,e1,g0,g1⟩:=two_facts hOa;go_simp;clear e0  e1  g0  g1;have hN0:=(heap_sets2 yd na _ (.int .i64 (minus (plus (feed (toT ps) (parU (toT ps) (rowsT ps ws)) i i) ((rowsT ps ws) i 1)) (rest1 ((rowsT ps ws) i) 4)).1) (.int .i64 (minus (plus (feed (toT ps) (parU (toT ps) (rowsT ps ws)) i i) ((rowsT ps ws) i 1)) (rest1 ((rowsT ps ws) i) 4)).2) (by first|exact hab|exact hab.symm)).trans hOb;replace hOa:=set_two yd na _ (.int .i64 (minus (plus (feed (toT ps) (parU (toT ps) (rowsT ps ws)) i i) ((rowsT ps ws) i 1)) (rest1 ((rowsT ps ws) i) 4)).1) (.int .i64 (minus (plus (feed (toT ps) (parU (toT ps) (rowsT ps ws)) i i) ((rowsT ps ws) i 1)) (rest1 ((rowsT ps ws) i) 4)).2) _ _ hOa;replace hOb:=hN0;clear hN0;replace hKyd:=Lib.hid ((hKyd.out.set (p:=⟨na,0,none⟩) (Or.inr hoba) (.int .i64 (minus (plus (feed (toT ps) (parU (toT ps) (rowsT ps ws)) i i) ((rowsT ps ws) i 1)) (rest1 ((rowsT ps ws) i) 4)).1)).set (p:=⟨na,1,none⟩) (Or.inr hoba) (.int .i64 (minus (plus (feed (toT ps) (parU (toT ps) (rowsT ps ws)) i i) ((rowsT ps ws) i 1)) (rest1 ((rowsT ps ws) i) 4)).2));replace hC:=hC.far2 (b:=na) hza (.int .i64 (minus (plus (feed (toT ps) (parU (toT ps) (rowsT ps ws)) i i) ((rowsT ps ws) i 1)) (rest1 ((rowsT ps ws) i) 4)).1) (.int .i64 (minus (plus (feed (toT ps) (parU (toT ps) (rowsT ps ws)) i i) ((rowsT ps ws) i 1)) (rest1 ((rowsT ps ws) i) 4)).2);obtain⟨yd,hz_⟩:∃z,z=((yd.setCell ⟨na,0,none⟩ (.int .i64 (minus (plus (feed (toT ps) (parU (toT ps) (rowsT ps ws)) i i) ((rowsT ps ws) i 1)) (rest1 ((rowsT ps ws) i) 4)).1)).setCell ⟨na,1,none⟩ (.int .i64 (minus (plus (feed (toT ps) (parU (toT ps) (rowsT ps ws)) i i) ((rowsT ps ws) i 1)) (rest1 ((rowsT ps ws) i) 4)).2)):=⟨_,rfl⟩
       rw[←hz_];rw[←hz_] at hOa hOb hKyd;rw[←hz_] at hC;replace hSyd:=Nat.le_trans hSyd (show _≤yd.heap.size by rw[hz_];simp);clear hz_;refine hK.out _ _ ?_ (fun hHeld=>?_)
       ·exact HS.out _ hKyd
       clear hK Kq;try simp only[N0]
      |intro (t:Tag 15) Kq hK
       clear t;obtain⟨e0,e1,g0,g1⟩:=two_facts hOb;go_simp;clear e0  e1  g0  g1;have hN0:=(heap_sets2 yd nb _ (.int .i64 ((rowsT ps ws) i 6).1) (.int .i64 ((rowsT ps ws) i 6).2) (by first|exact hab|exact hab.symm)).trans hOa;replace hOb:=set_two yd nb _ (.int .i64 ((rowsT ps ws) i 6).1) (.int .i64 ((rowsT ps ws) i 6).2) _ _ hOb;replace hOa:=hN0;clear hN0;replace hKyd:=Lib.hid ((hKyd.out.set (p:=⟨nb,0,none⟩) (Or.inr hobb) (.int .i64 ((rowsT ps ws) i 6).1)).set (p:=⟨nb,1,none⟩) (Or.inr hobb) (.int .i64 ((rowsT ps ws) i 6).2));replace hC:=hC.far2 (b:=nb) hzb (.int .i64 ((rowsT ps ws) i 6).1) (.int .i64 ((rowsT ps ws) i 6).2);obtain⟨yd,hz_⟩:∃z,z=((yd.setCell ⟨nb,0,none⟩ (.int .i64 ((rowsT ps ws) i 6).1)).setCell ⟨nb,1,none⟩ (.int .i64 ((rowsT ps ws) i 6).2)):=⟨_,rfl⟩;rw[←hz_];rw[←hz_] at hOb hOa hKyd;rw[←hz_] at hC;replace hSyd:=Nat.le_trans hSyd (show _≤yd.heap.size by rw[hz_];simp);clear hz_;refine hK.out _ _ ?_ (fun hHeld=>?_)
       ·exact HS.out _ hKyd
       clear hK Kq;try simp only[N0]
    all_goals
     refine wpAnyH_done (by kernel_rfl) ?_ _;clear HS HQ hSd;(go_wp2_with fail);go_meet;exact⟨_,rfl,_,_,rfl,rfl,Lib.hid hC,Lib.hid hOa,Lib.hid hOb,hza,hzb,(by first|exact hab|exact hab.symm)⟩
   case rest=>
    clear hC hR3;obtain⟨z4,rfl,ca,cb,rfl,rfl,hC4,hOa,hOb,hca,hcb',hab⟩:=‹∃wl,wl=_∧_›;have hce:minus (plus (feed (toT ps) (parU (toT ps) (rowsT ps ws)) i i) ((rowsT ps ws) i 1)) (rest1 ((rowsT ps ws) i) 4)=(canS (toT ps) (rowsT ps ws) (parU (toT ps) (rowsT ps ws)) i):=(by unfold canS;rw[←rest1_restS]);rw[hce] at hOa;have hcb2:=hcbh.out i hin;have ho:=hInh.out i 6 (by omega);have hno:=hNeh.out i hin 6 (by omega) (by omega);have hpu:=Lib.hid (parU_eq (toT ps) (rowsT ps ws) i);have hmu:=Lib.hid (show (misU (toT ps) (rowsT ps ws)) i=misP (canS (toT ps) (rowsT ps ws) (parU (toT ps) (rowsT ps ws)) i) ((rowsT ps ws) i 6) from rfl);have hsn:=Lib.hid (show sumM (misU (toT ps) (rowsT ps ws)) (i+1)=sumM (misU (toT ps) (rowsT ps ws)) i+max ((misU (toT ps) (rowsT ps ws)) i) (-((misU (toT ps) (rowsT ps ws)) i)) from rfl);have hSb:=sumM_bd' (m:=i) (B:=300000000) (f:=(misU (toT ps) (rowsT ps ws))) (fun j hj=>hmb.out j (by omega));generalize hSV:sumM (misU (toT ps) (rowsT ps ws)) i=SV at *;clear hSV hce;generalize hc_:(canS (toT ps) (rowsT ps ws) (parU (toT ps) (rowsT ps ws)) i)=c_ at *;clear hc_;generalize ho_:(rowsT ps ws) i 6=o at *;clear ho_;unfold Bd at hcb2;unfold Ne at hno;obtain⟨p1,hp1⟩:∃x,x=min 0 (c_.2 - o.1):=⟨_,rfl⟩;obtain⟨p2,hp2⟩:∃x,x=max 0 (c_.1 - o.2):=⟨_,rfl⟩;have hm1:(if c_.2 - o.1<0 then c_.2 - o.1 else 0)=p1:=(by rw[hp1];exact mng_if _ _);have hm2:(if 0<c_.1 - o.2 then c_.1 - o.2 else 0)=p2:=(by rw[hp2];exact mxg_if _ _);have hm2b:(if o.2<c_.1 then c_.1 - o.2 else 0)=p2:=by rw[hp2];split<;>omega
    have hm1b:(if c_.2<o.1 then c_.2 - o.1 else 0)=p1:=(by rw[hp1];split<;>omega);obtain⟨mv,hmv⟩:∃x,p1+p2=x:=⟨_,rfl⟩;have hmz:=Lib.hid (show misP c_ o=mv by rw[←hmv,hp1,hp2];rfl);have hmz0:=Lib.hid (hmu.out.trans hmz.out);have hp1b:-300000000≤p1∧p1≤0:=(by omega);have hp2b:0≤p2∧p2≤300000000:=(by omega);have hmvb:-200000000 - 2000000≤mv∧mv≤200000000+2000000:=(by omega);clear hp1 hp2;obtain⟨u0,u1,-,-⟩:=two_facts hOa.out;obtain⟨x0,x1,-,-⟩:=two_facts hOb.out;(go_wp2_with fail);refine(both_any (c_.1 - mv,c_.2 - mv) o z4).mono ?_;rintro e z5 ⟨rfl,hb⟩;have hC5:=Lib.hid (hC4.out.below hb);obtain⟨u0,u1,-,-⟩:=two_facts (keepO hb hOa.out);obtain⟨x0',x1',-,-⟩:=two_facts (keepO hb hOb.out);have x0s:∀ob,(z5.alloc ob).cell? ⟨cb,0,none⟩=some (.int .i64 o.1):=fun ob=>(((Below.refl z5.heap.size z5).alloc (Nat.le_refl _) ob).cell (Array.getElem?_eq_some_iff.1 (keepO hb hOb.out)).1).trans x0'
    have x1s:∀ob,(z5.alloc ob).cell? ⟨cb,1,none⟩=some (.int .i64 o.2):=fun ob=>(((Below.refl z5.heap.size z5).alloc (Nat.le_refl _) ob).cell (Array.getElem?_eq_some_iff.1 (keepO hb hOb.out)).1).trans x1'
    clear hb hC4 hOa hOb hm1 hm2 hm1b hm2b x0 x1 hmv hp1b hp2b hab hca hcb' u0 u1 x0' x1';by_cases hneg:mv<0
    ·skip
     have hpe:(parU (toT ps) (rowsT ps ws)) i=(o.1,o.1):=hpu.out.trans (by unfold parP;rw[hmz.out,if_neg (by omega),if_pos (by omega)]);obtain⟨av,hav⟩:∃x,x=max mv (-mv):=⟨_,rfl⟩;have hma:(if mv < -mv then -mv else mv)=av:=(by rw[hav];exact mxg_if _ _);have havb:0≤av∧av≤300000000:=(by omega);have hsum:=Lib.hid (show sumM (misU (toT ps) (rowsT ps ws)) (i+1)=SV + -mv by rw[hsn.out,hmz0.out];omega);clear hma hav;have hlst:=Lib.hid (listM_yes' (ids:=idQ ps) (m:=(misU (toT ps) (rowsT ps ws))) (i:=i) (by rw[hmz0.out];omega));rw[hmz0.out] at hlst;have hmn:(mv != 0)=true:=(by simp;omega);have hlt:mv<0:=(by omega);have hgt:¬0<mv:=(by omega);have hPb0:(z5.alloc (.cells #[.int .i64 o.1,.int .i64 o.1] 36)).heap[z5.heap.size]? = some (.cells #[.int .i64 ((parU (toT ps) (rowsT ps ws)) i).1,.int .i64 ((parU (toT ps) (rowsT ps ws)) i).2] 36 (0,0)):=(by rw[hpe];exact heap_alloc_new z5 _);have hb6:Below z5.heap.size z5 (z5.alloc (.cells #[.int .i64 o.1,.int .i64 o.1] 36)):=(Below.refl _ _).alloc (Nat.le_refl _) _;have hC6:=hC5.out.below hb6;obtain⟨p0,-,-,-⟩:=two_facts (HPz.out _ hC6.bel).b0;obtain⟨bp,op,I,D,P_,T_,rfl,hbp,hx,y0,y1,y2,y3⟩:=(HPz.out _ hC6.bel).rp.pg hin;have hI:Hid (idQ ps i=I):=(by show _=_;unfold idQ;rw[hx]);have hL:=heap_alloc_new (z5.alloc (.cells #[.int .i64 o.1,.int .i64 o.1] 36)) (.cells #[.int .i64 I,.int .i64 mv] 62);have hbA:=(Below.refl (z5.alloc (.cells #[.int .i64 o.1,.int .i64 o.1] 36)).heap.size (z5.alloc (.cells #[.int .i64 o.1,.int .i64 o.1] 36))).alloc (Nat.le_refl _) (.cells #[.int .i64 I,.int .i64 mv] 62)
     have hCa:=Lib.hid (hC6.below hbA);have HL:=Lib.hid (rd_two hL);have hszp:(z5.alloc (.cells #[.int .i64 o.1,.int .i64 o.1] 36)).heap.size=z5.heap.size+1:=(by simp);rw[hszp] at HL;have hPba:=Lib.hid (keepO hbA hPb0);have hg5:gI<z5.heap.size:=hC5.out.into.lt;clear hx y1 y2 y3 hbp hL hbA hPb0 hC6 hb6 hszp
     go_wp2_with (first
      |(at_builtin;refine wpList_app _ rfl _ _ 56 rfl (gI+1) 62 j0 _ 2 16 Tryd.underlying56 hj hj0 hj1 hj2 rfl (by decide) (.slice Al m cl) m (mss (listM (idQ ps) (misU (toT ps) (rowsT ps ws)) i)) rfl hCa.out.own _ (some ⟨z5.heap.size+1,0,none⟩) 1 1 (spc (I,mv)) rfl HL.out (spc_one _) ?c3 ?c4 ?c5 ?_))
     case c3=>unfold maxLen;omega
     case c4=>omega
     case c5=>first|omega|(simp<;>omega)
     intro v' z6 hown hgr hatv;have hPb1:=(hgr.block z5.heap.size (Array.getElem?_eq_some_iff.1 hPba.out).1 (fun e=>by
      have:=ownR_ne hCa.out.own hPba.out (by decide) _ e.symm
      exact this rfl)).trans hPba.out
     have hPb:=Lib.hid hPb1;obtain⟨pb,hpb⟩:∃pb,pb=z5.heap.size:=⟨_,rfl⟩;have hpg:pb≠gI:=(by have:=hC5.out.into.lt;omega);rw[←hpb] at hPb;have hC:GP zs gI n ps ws i (i+1) v' (m+1) z6:=hCa.out.grew hgr (by rw[hlst.out,hI.out,mss_snoc];exact hown);obtain⟨A9,c9,rfl⟩:=ownR_val hC.own;have hpbh:=Lib.hid hpb;clear hown hgr hatv HL hCa hPba hPb1 p0 y0 hpe hC5 hpb;obtain⟨bt,ot,rfl,hbt,cto⟩:=(HMz.out _ hC.bel).rt.to_ hin;have c2:=(HMz.out _ hC.bel).c2;have hCh:=Lib.hid hC;clear hC;cases htk_:(toT ps) i with
     |none=>
      have hv:toV (toT ps) i = -1:=(by unfold toV;rw[htk_]);rw[hv] at cto;have hCn:=Lib.hid (hCh.out.next_none htk_);clear hCh hv htk_ hPb;go_wp2;go_roundw
      case rel=>exact⟨_,rfl,i+1,by omega,by go_num,by rw[hsum.out],⟨A9,m+1,c9,rfl,by omega,hCn⟩⟩
      case measure=>simp[intOf];omega
     |some q=>
      obtain⟨hkq,hqn⟩:=hFh.out i q hin htk_;have hv:toV (toT ps) i=(q:Int):=(by unfold toV;rw[htk_]);rw[hv] at cto;have htk:=Lib.hid htk_;have hqi:(q:Int)<(n:Int):=(by omega);have q00:(0:Int)≤(q:Int):=(by omega);have hs5:=Lib.hid (hfs.out q i (by omega));have hs6:=Lib.hid (hus.out i hin);clear hv htk_;(go_wp2_with fail);rw[←hpbh.out];obtain⟨o0',o1',-,-⟩:=two_facts hPb.out;have hC:=hCh.out;have hpz:pb<z6.heap.size:=(Array.getElem?_eq_some_iff.1 hPb.out).1;have hgz6:gI<z6.heap.size:=hC.into.lt;have HQ:=Lib.hid (fun w' (hz:Hid (Kp z6.heap.size [gI] z6 w'))=>(⟨(hz.out.cell (by simp only;omega) (by simp;try omega)).trans o0',(hz.out.cell (by simp only;omega) (by simp;try omega)).trans o1'⟩:w'.cell? ⟨pb,0,none⟩=some (.int .i64 ((parU (toT ps) (rowsT ps ws)) i).1)∧w'.cell? ⟨pb,1,none⟩=some (.int .i64 ((parU (toT ps) (rowsT ps ws)) i).2)));obtain⟨S,hSd⟩:∃S:World→Prop,S=fun w'=>(w'.cell? ⟨pb,0,none⟩=some (.int .i64 ((parU (toT ps) (rowsT ps ws)) i).1)∧w'.cell? ⟨pb,1,none⟩=some (.int .i64 ((parU (toT ps) (rowsT ps ws)) i).2))∧Hid (Kp z6.heap.size [gI] z6 w'):=⟨_,rfl⟩
      have HS:=Lib.hid (fun w' (hz:Hid (Kp z6.heap.size [gI] z6 w'))=>(by rw[hSd];exact⟨HQ.out w' hz,hz⟩:S w'));clear o0' o1' hPb c2 cto hCh;refine wp_region_held_drew (S:=S) (by kernel_rfl) ?_ (fun hHeld=>?_)
      ·exact HS.out _ (Lib.hid (Kp.refl _ _ _).drew)
      have hKyd:Hid (Kp z6.heap.size [gI] z6 z6.drew):=Lib.hid (Kp.refl _ _ _).drew;have hSyd:z6.heap.size≤z6.drew.heap.size:=Nat.le_refl _;have hC:=hC.drew;generalize z6.drew=yd at *;refine tY (v:=?_) 0 123 ?_ ?_;rotate_left
      ·intro w hSw;rw[hSd] at hSw;obtain⟨⟨o0',o1'⟩,-⟩:=hSw;go_simp;(try with_reducible rfl)
      (try simp only[N0]);refine tY (v:=?_) 1 124 ?_ ?_;rotate_left
      ·intro w hSw;rw[hSd] at hSw;obtain⟨⟨o0',o1'⟩,-⟩:=hSw;go_simp;(try with_reducible rfl)
      (try simp only[N0]);refine tY (v:=?_) 2 125 ?_ ?_;rotate_left
      ·intro w hSw;rw[hSd] at hSw;obtain⟨⟨o0',o1'⟩,-⟩:=hSw;go_simp;(try with_reducible rfl)
      (try simp only[N0]);refine tY (v:=?_) 3 126 ?_ ?_;rotate_left
      ·intro w hSw;rw[hSd] at hSw;obtain⟨⟨o0',o1'⟩,-⟩:=hSw;go_simp;(try with_reducible rfl)
      (try simp only[N0]);refine tY (v:=?_) 4 127 ?_ ?_;rotate_left
      ·intro w hSw;rw[hSd] at hSw;obtain⟨⟨o0',o1'⟩,-⟩:=hSw;go_simp;(try with_reducible rfl)
      (try simp only[N0]);refine tY (v:=?_) 6 129 ?_ ?_;rotate_left
      ·intro w hSw;rw[hSd] at hSw;obtain⟨⟨o0',o1'⟩,-⟩:=hSw;go_simp;(try with_reducible rfl)
      (try simp only[N0]);refine wpAnyH_ready (rs:=[5]) (by kernel_rfl) (by simp) ?_;refine AllReadyH.cons (o:=_) rfl (fun Kq hK=>?_) AllReadyH.nil;obtain⟨i0',i1',-,-⟩:=hC.at_ hqn;go_simp;refine hK.out _ _ ?_ (fun hHeld=>?_)
      ·exact HS.out _ hKyd
      clear hK Kq;(try simp only[N0]);refine wpAnyH_ready (rs:=[7]) (by kernel_rfl) (by simp) ?_;refine AllReadyH.cons (o:=_) rfl (fun Kq hK=>?_) AllReadyH.nil;go_simp;refine(plus_any (feed (toT ps) (parU (toT ps) (rowsT ps ws)) q i) ((parU (toT ps) (rowsT ps ws)) i) hs5.out hs6.out _).mono ?_;rintro e yd ⟨rfl,hb⟩;replace hKyd:=Lib.hid (hKyd.out.call hSyd hb);replace hSyd:=Nat.le_trans hSyd hb.size;have hC:=hC.below hb;clear hb;(try go_simp);refine hK.out _ _ ?_ (fun hHeld=>?_)
      ·exact HS.out _ hKyd
      clear hK Kq;(try simp only[N0]);refine wpAnyH_ready (rs:=[8]) (by kernel_rfl) (by simp) ?_;refine AllReadyH.cons (o:=_) rfl (fun Kq hK=>?_) AllReadyH.nil;obtain⟨i0',i1',-,-⟩:=hC.at_ hqn;go_simp;refine hK.out _ _ ?_ (fun hHeld=>?_)
      ·exact HS.out _ hKyd
      clear hK Kq;(try simp only[N0]);refine wpAnyH_ready (rs:=[9]) (by kernel_rfl) (by simp) ?_;refine AllReadyH.cons (o:=_) rfl (fun Kq hK=>?_) AllReadyH.nil;obtain⟨i0',i1',g0',g1'⟩:=hC.at_ hqn;go_simp;replace hKyd:=Lib.hid ((hKyd.out.set (p:=⟨gI,q*2,none⟩) (Or.inl (by simp)) (.int .i64 (plus (feed (toT ps) (parU (toT ps) (rowsT ps ws)) q i) ((parU (toT ps) (rowsT ps ws)) i)).1)).set (p:=⟨gI,q*2+1,none⟩) (Or.inl (by simp)) (.int .i64 (plus (feed (toT ps) (parU (toT ps) (rowsT ps ws)) q i) ((parU (toT ps) (rowsT ps ws)) i)).2));have hCn0:=hC.put q (plus (feed (toT ps) (parU (toT ps) (rowsT ps ws)) q i) ((parU (toT ps) (rowsT ps ws)) i));obtain⟨yd,hz_⟩:∃z,z=((yd.setCell ⟨gI,q*2,none⟩ (.int .i64 (plus (feed (toT ps) (parU (toT ps) (rowsT ps ws)) q i) ((parU (toT ps) (rowsT ps ws)) i)).1)).setCell ⟨gI,q*2+1,none⟩ (.int .i64 (plus (feed (toT ps) (parU (toT ps) (rowsT ps ws)) q i) ((parU (toT ps) (rowsT ps ws)) i)).2)):=⟨_,rfl⟩;rw[←hz_];rw[←hz_] at hKyd;rw[←hz_] at hCn0;replace hSyd:=Nat.le_trans hSyd (show _≤yd.heap.size by rw[hz_];simp);clear hz_;refine hK.out _ _ ?_ (fun hHeld=>?_)
      ·exact HS.out _ hKyd
      clear hK Kq;(try simp only[N0]);refine wpAnyH_done (by kernel_rfl) ?_ _;have hCn:=Lib.hid (GP.next_some hCn0 htk.out);clear HS HQ hSd hCn0 hC;go_wp2;go_roundw
      case rel=>exact⟨_,rfl,i+1,by omega,by go_num,by rw[hsum.out],⟨A9,m+1,c9,rfl,by omega,hCn⟩⟩
      case measure=>simp[intOf];omega
    ·by_cases hpos:0<mv
     ·skip
      have hpe:(parU (toT ps) (rowsT ps ws)) i=(o.2,o.2):=hpu.out.trans (by unfold parP;rw[hmz.out,if_pos (by omega)]);obtain⟨av,hav⟩:∃x,x=max mv (-mv):=⟨_,rfl⟩;have hma:(if mv < -mv then -mv else mv)=av:=(by rw[hav];exact mxg_if _ _);have havb:0≤av∧av≤300000000:=(by omega);have hsum:=Lib.hid (show sumM (misU (toT ps) (rowsT ps ws)) (i+1)=SV+mv by rw[hsn.out,hmz0.out];omega);clear hma hav;have hlst:=Lib.hid (listM_yes' (ids:=idQ ps) (m:=(misU (toT ps) (rowsT ps ws))) (i:=i) (by rw[hmz0.out];omega));rw[hmz0.out] at hlst;have hmn:(mv != 0)=true:=(by simp;omega);have hlt:¬mv<0:=(by omega);have hgt:0<mv:=(by omega);have hPb0:(z5.alloc (.cells #[.int .i64 o.2,.int .i64 o.2] 36)).heap[z5.heap.size]? = some (.cells #[.int .i64 ((parU (toT ps) (rowsT ps ws)) i).1,.int .i64 ((parU (toT ps) (rowsT ps ws)) i).2] 36 (0,0)):=(by rw[hpe];exact heap_alloc_new z5 _);have hb6:Below z5.heap.size z5 (z5.alloc (.cells #[.int .i64 o.2,.int .i64 o.2] 36)):=(Below.refl _ _).alloc (Nat.le_refl _) _;have hC6:=hC5.out.below hb6;obtain⟨p0,-,-,-⟩:=two_facts (HPz.out _ hC6.bel).b0;obtain⟨bp,op,I,D,P_,T_,rfl,hbp,hx,y0,y1,y2,y3⟩:=(HPz.out _ hC6.bel).rp.pg hin;have hI:Hid (idQ ps i=I):=(by show _=_;unfold idQ;rw[hx]);have hL:=heap_alloc_new (z5.alloc (.cells #[.int .i64 o.2,.int .i64 o.2] 36)) (.cells #[.int .i64 I,.int .i64 mv] 62);have hbA:=(Below.refl (z5.alloc (.cells #[.int .i64 o.2,.int .i64 o.2] 36)).heap.size (z5.alloc (.cells #[.int .i64 o.2,.int .i64 o.2] 36))).alloc (Nat.le_refl _) (.cells #[.int .i64 I,.int .i64 mv] 62)
      have hCa:=Lib.hid (hC6.below hbA);have HL:=Lib.hid (rd_two hL);have hszp:(z5.alloc (.cells #[.int .i64 o.2,.int .i64 o.2] 36)).heap.size=z5.heap.size+1:=(by simp);rw[hszp] at HL;have hPba:=Lib.hid (keepO hbA hPb0);have hg5:gI<z5.heap.size:=hC5.out.into.lt;clear hx y1 y2 y3 hbp hL hbA hPb0 hC6 hb6 hszp
      go_wp2_with (first
       |(at_builtin;refine wpList_app _ rfl _ _ 56 rfl (gI+1) 62 j0 _ 2 16 Tryd.underlying56 hj hj0 hj1 hj2 rfl (by decide) (.slice Al m cl) m (mss (listM (idQ ps) (misU (toT ps) (rowsT ps ws)) i)) rfl hCa.out.own _ (some ⟨z5.heap.size+1,0,none⟩) 1 1 (spc (I,mv)) rfl HL.out (spc_one _) ?c3 ?c4 ?c5 ?_))
      case c3=>unfold maxLen;omega
      case c4=>omega
      case c5=>first|omega|(simp<;>omega)
      intro v' z6 hown hgr hatv;have hPb1:=(hgr.block z5.heap.size (Array.getElem?_eq_some_iff.1 hPba.out).1 (fun e=>by
       have:=ownR_ne hCa.out.own hPba.out (by decide) _ e.symm
       exact this rfl)).trans hPba.out
      have hPb:=Lib.hid hPb1;obtain⟨pb,hpb⟩:∃pb,pb=z5.heap.size:=⟨_,rfl⟩;have hpg:pb≠gI:=(by have:=hC5.out.into.lt;omega);rw[←hpb] at hPb;have hC:GP zs gI n ps ws i (i+1) v' (m+1) z6:=hCa.out.grew hgr (by rw[hlst.out,hI.out,mss_snoc];exact hown);obtain⟨A9,c9,rfl⟩:=ownR_val hC.own;have hpbh:=Lib.hid hpb;clear hown hgr hatv HL hCa hPba hPb1 p0 y0 hpe hC5 hpb;obtain⟨bt,ot,rfl,hbt,cto⟩:=(HMz.out _ hC.bel).rt.to_ hin;have c2:=(HMz.out _ hC.bel).c2;have hCh:=Lib.hid hC;clear hC;cases htk_:(toT ps) i with
      |none=>
       have hv:toV (toT ps) i = -1:=(by unfold toV;rw[htk_]);rw[hv] at cto;have hCn:=Lib.hid (hCh.out.next_none htk_);clear hCh hv htk_ hPb;go_wp2;go_roundw
       case rel=>exact⟨_,rfl,i+1,by omega,by go_num,by rw[hsum.out],⟨A9,m+1,c9,rfl,by omega,hCn⟩⟩
       case measure=>simp[intOf];omega
      |some q=>
       obtain⟨hkq,hqn⟩:=hFh.out i q hin htk_;have hv:toV (toT ps) i=(q:Int):=(by unfold toV;rw[htk_]);rw[hv] at cto;have htk:=Lib.hid htk_;have hqi:(q:Int)<(n:Int):=(by omega);have q00:(0:Int)≤(q:Int):=(by omega);have hs5:=Lib.hid (hfs.out q i (by omega));have hs6:=Lib.hid (hus.out i hin);clear hv htk_;(go_wp2_with fail);rw[←hpbh.out];obtain⟨o0',o1',-,-⟩:=two_facts hPb.out;have hC:=hCh.out;have hpz:pb<z6.heap.size:=(Array.getElem?_eq_some_iff.1 hPb.out).1;have hgz6:gI<z6.heap.size:=hC.into.lt;have HQ:=Lib.hid (fun w' (hz:Hid (Kp z6.heap.size [gI] z6 w'))=>(⟨(hz.out.cell (by simp only;omega) (by simp;try omega)).trans o0',(hz.out.cell (by simp only;omega) (by simp;try omega)).trans o1'⟩:w'.cell? ⟨pb,0,none⟩=some (.int .i64 ((parU (toT ps) (rowsT ps ws)) i).1)∧w'.cell? ⟨pb,1,none⟩=some (.int .i64 ((parU (toT ps) (rowsT ps ws)) i).2)));obtain⟨S,hSd⟩:∃S:World→Prop,S=fun w'=>(w'.cell? ⟨pb,0,none⟩=some (.int .i64 ((parU (toT ps) (rowsT ps ws)) i).1)∧w'.cell? ⟨pb,1,none⟩=some (.int .i64 ((parU (toT ps) (rowsT ps ws)) i).2))∧Hid (Kp z6.heap.size [gI] z6 w'):=⟨_,rfl⟩
       have HS:=Lib.hid (fun w' (hz:Hid (Kp z6.heap.size [gI] z6 w'))=>(by rw[hSd];exact⟨HQ.out w' hz,hz⟩:S w'));clear o0' o1' hPb c2 cto hCh;refine wp_region_held_drew (S:=S) (by kernel_rfl) ?_ (fun hHeld=>?_)
       ·exact HS.out _ (Lib.hid (Kp.refl _ _ _).drew)
       have hKyd:Hid (Kp z6.heap.size [gI] z6 z6.drew):=Lib.hid (Kp.refl _ _ _).drew;have hSyd:z6.heap.size≤z6.drew.heap.size:=Nat.le_refl _;have hC:=hC.drew;generalize z6.drew=yd at *;refine tY (v:=?_) 0 123 ?_ ?_;rotate_left
       ·intro w hSw;rw[hSd] at hSw;obtain⟨⟨o0',o1'⟩,-⟩:=hSw;go_simp;(try with_reducible rfl)
       (try simp only[N0]);refine tY (v:=?_) 1 124 ?_ ?_;rotate_left
       ·intro w hSw;rw[hSd] at hSw;obtain⟨⟨o0',o1'⟩,-⟩:=hSw;go_simp;(try with_reducible rfl)
       (try simp only[N0]);refine tY (v:=?_) 2 125 ?_ ?_;rotate_left
       ·intro w hSw;rw[hSd] at hSw;obtain⟨⟨o0',o1'⟩,-⟩:=hSw;go_simp;(try with_reducible rfl)
       (try simp only[N0]);refine tY (v:=?_) 3 126 ?_ ?_;rotate_left
       ·intro w hSw;rw[hSd] at hSw;obtain⟨⟨o0',o1'⟩,-⟩:=hSw;go_simp;(try with_reducible rfl)
       (try simp only[N0]);refine tY (v:=?_) 4 127 ?_ ?_;rotate_left
       ·intro w hSw;rw[hSd] at hSw;obtain⟨⟨o0',o1'⟩,-⟩:=hSw;go_simp;(try with_reducible rfl)
       (try simp only[N0]);refine tY (v:=?_) 6 129 ?_ ?_;rotate_left
       ·intro w hSw;rw[hSd] at hSw;obtain⟨⟨o0',o1'⟩,-⟩:=hSw;go_simp;(try with_reducible rfl)
       (try simp only[N0]);refine wpAnyH_ready (rs:=[5]) (by kernel_rfl) (by simp) ?_;refine AllReadyH.cons (o:=_) rfl (fun Kq hK=>?_) AllReadyH.nil;obtain⟨i0',i1',-,-⟩:=hC.at_ hqn;go_simp;refine hK.out _ _ ?_ (fun hHeld=>?_)
       ·exact HS.out _ hKyd
       clear hK Kq;(try simp only[N0]);refine wpAnyH_ready (rs:=[7]) (by kernel_rfl) (by simp) ?_;refine AllReadyH.cons (o:=_) rfl (fun Kq hK=>?_) AllReadyH.nil;go_simp;refine(plus_any (feed (toT ps) (parU (toT ps) (rowsT ps ws)) q i) ((parU (toT ps) (rowsT ps ws)) i) hs5.out hs6.out _).mono ?_;rintro e yd ⟨rfl,hb⟩;replace hKyd:=Lib.hid (hKyd.out.call hSyd hb);replace hSyd:=Nat.le_trans hSyd hb.size;have hC:=hC.below hb;clear hb;(try go_simp);refine hK.out _ _ ?_ (fun hHeld=>?_)
       ·exact HS.out _ hKyd
       clear hK Kq;(try simp only[N0]);refine wpAnyH_ready (rs:=[8]) (by kernel_rfl) (by simp) ?_;refine AllReadyH.cons (o:=_) rfl (fun Kq hK=>?_) AllReadyH.nil;obtain⟨i0',i1',-,-⟩:=hC.at_ hqn;go_simp;refine hK.out _ _ ?_ (fun hHeld=>?_)
       ·exact HS.out _ hKyd
       clear hK Kq;(try simp only[N0]);refine wpAnyH_ready (rs:=[9]) (by kernel_rfl) (by simp) ?_;refine AllReadyH.cons (o:=_) rfl (fun Kq hK=>?_) AllReadyH.nil;obtain⟨i0',i1',g0',g1'⟩:=hC.at_ hqn;go_simp;replace hKyd:=Lib.hid ((hKyd.out.set (p:=⟨gI,q*2,none⟩) (Or.inl (by simp)) (.int .i64 (plus (feed (toT ps) (parU (toT ps) (rowsT ps ws)) q i) ((parU (toT ps) (rowsT ps ws)) i)).1)).set (p:=⟨gI,q*2+1,none⟩) (Or.inl (by simp)) (.int .i64 (plus (feed (toT ps) (parU (toT ps) (rowsT ps ws)) q i) ((parU (toT ps) (rowsT ps ws)) i)).2));have hCn0:=hC.put q (plus (feed (toT ps) (parU (toT ps) (rowsT ps ws)) q i) ((parU (toT ps) (rowsT ps ws)) i));obtain⟨yd,hz_⟩:∃z,z=((yd.setCell ⟨gI,q*2,none⟩ (.int .i64 (plus (feed (toT ps) (parU (toT ps) (rowsT ps ws)) q i) ((parU (toT ps) (rowsT ps ws)) i)).1)).setCell ⟨gI,q*2+1,none⟩ (.int .i64 (plus (feed (toT ps) (parU (toT ps) (rowsT ps ws)) q i) ((parU (toT ps) (rowsT ps ws)) i)).2)):=⟨_,rfl⟩;rw[←hz_];rw[←hz_] at hKyd;rw[←hz_] at hCn0;replace hSyd:=Nat.le_trans hSyd (show _≤yd.heap.size by rw[hz_];simp);clear hz_;refine hK.out _ _ ?_ (fun hHeld=>?_)
       ·exact HS.out _ hKyd
       clear hK Kq;(try simp only[N0]);refine wpAnyH_done (by kernel_rfl) ?_ _;have hCn:=Lib.hid (GP.next_some hCn0 htk.out);clear HS HQ hSd hCn0 hC;go_wp2;go_roundw
       case rel=>exact⟨_,rfl,i+1,by omega,by go_num,by rw[hsum.out],⟨A9,m+1,c9,rfl,by omega,hCn⟩⟩
       case measure=>simp[intOf];omega
     ·have hmv0:mv=0:=(by omega);have hpe:(parU (toT ps) (rowsT ps ws)) i=both (c_.1 - mv,c_.2 - mv) o:=hpu.out.trans (by unfold parP;rw[hmz.out,if_neg (by omega),if_neg (by omega)]);have hsum:=Lib.hid (show sumM (misU (toT ps) (rowsT ps ws)) (i+1)=SV by rw[hsn.out,hmz0.out,hmv0];omega);have hlst:=Lib.hid (listM_no' (ids:=idQ ps) (m:=(misU (toT ps) (rowsT ps ws))) (i:=i) (by rw[hmz0.out,hmv0]));have hmn:(mv != 0)=false:=(by simpa using hmv0);have hlt:¬mv<0:=(by omega);have hgt:¬0<mv:=(by omega);have hPb0:(z5.alloc (.cells #[.int .i64 (both (c_.1 - mv,c_.2 - mv) o).1,.int .i64 (both (c_.1 - mv,c_.2 - mv) o).2] 36)).heap[z5.heap.size]? = some (.cells #[.int .i64 ((parU (toT ps) (rowsT ps ws)) i).1,.int .i64 ((parU (toT ps) (rowsT ps ws)) i).2] 36 (0,0)):=(by rw[hpe];exact heap_alloc_new z5 _);have hb6:Below z5.heap.size z5 (z5.alloc (.cells #[.int .i64 (both (c_.1 - mv,c_.2 - mv) o).1,.int .i64 (both (c_.1 - mv,c_.2 - mv) o).2] 36)):=(Below.refl _ _).alloc (Nat.le_refl _) _;have hC6:=hC5.out.below hb6;obtain⟨z6,hz6⟩:∃z6,z6=(z5.alloc (.cells #[.int .i64 (both (c_.1 - mv,c_.2 - mv) o).1,.int .i64 (both (c_.1 - mv,c_.2 - mv) o).2] 36)):=⟨_,rfl⟩;rw[←hz6] at hPb0 hC6;have hPb:=Lib.hid hPb0;obtain⟨pb,hpb⟩:∃pb,pb=z5.heap.size:=⟨_,rfl⟩;have hpg:pb≠gI:=(by have:=hC5.out.into.lt;omega);rw[←hpb] at hPb;have hC:GP zs gI n ps ws i (i+1) (.slice Al m cl) m z6:=hC6.same hlst.out;clear hmv0;clear hPb0 hC6 hb6 hpe hC5;have hz6h:=Lib.hid hz6
      have hpbh:=Lib.hid hpb;obtain⟨bt,ot,rfl,hbt,cto⟩:=(HMz.out _ hC.bel).rt.to_ hin;have c2:=(HMz.out _ hC.bel).c2;rw[hz6] at cto c2;clear hz6 hpb;have hCh:=Lib.hid hC;clear hC;cases htk_:(toT ps) i with
      |none=>
       have hv:toV (toT ps) i = -1:=(by unfold toV;rw[htk_]);rw[hv] at cto;have hCn:=Lib.hid (hCh.out.next_none htk_);clear hCh hv htk_ hPb;go_wp2;go_roundw
       case rel=>exact⟨_,rfl,i+1,by omega,by go_num,by rw[hsum.out],⟨Al,m,cl,rfl,by omega,by rw[←hz6h.out];exact hCn⟩⟩
       case measure=>simp[intOf];omega
      |some q=>
       obtain⟨hkq,hqn⟩:=hFh.out i q hin htk_;have hv:toV (toT ps) i=(q:Int):=(by unfold toV;rw[htk_]);rw[hv] at cto;have htk:=Lib.hid htk_;have hqi:(q:Int)<(n:Int):=(by omega);have q00:(0:Int)≤(q:Int):=(by omega);have hs5:=Lib.hid (hfs.out q i (by omega));have hs6:=Lib.hid (hus.out i hin);clear hv htk_;(go_wp2_with fail);rw[←hz6h.out,←hpbh.out];obtain⟨o0',o1',-,-⟩:=two_facts hPb.out;have hC:=hCh.out;have hpz:pb<z6.heap.size:=(Array.getElem?_eq_some_iff.1 hPb.out).1;have hgz6:gI<z6.heap.size:=hC.into.lt;have HQ:=Lib.hid (fun w' (hz:Hid (Kp z6.heap.size [gI] z6 w'))=>(⟨(hz.out.cell (by simp only;omega) (by simp;try omega)).trans o0',(hz.out.cell (by simp only;omega) (by simp;try omega)).trans o1'⟩:w'.cell? ⟨pb,0,none⟩=some (.int .i64 ((parU (toT ps) (rowsT ps ws)) i).1)∧w'.cell? ⟨pb,1,none⟩=some (.int .i64 ((parU (toT ps) (rowsT ps ws)) i).2)));obtain⟨S,hSd⟩:∃S:World→Prop,S=fun w'=>(w'.cell? ⟨pb,0,none⟩=some (.int .i64 ((parU (toT ps) (rowsT ps ws)) i).1)∧w'.cell? ⟨pb,1,none⟩=some (.int .i64 ((parU (toT ps) (rowsT ps ws)) i).2))∧Hid (Kp z6.heap.size [gI] z6 w'):=⟨_,rfl⟩
       have HS:=Lib.hid (fun w' (hz:Hid (Kp z6.heap.size [gI] z6 w'))=>(by rw[hSd];exact⟨HQ.out w' hz,hz⟩:S w'));clear o0' o1' hPb c2 cto hCh;refine wp_region_held_drew (S:=S) (by kernel_rfl) ?_ (fun hHeld=>?_)
       ·exact HS.out _ (Lib.hid (Kp.refl _ _ _).drew)
       have hKyd:Hid (Kp z6.heap.size [gI] z6 z6.drew):=Lib.hid (Kp.refl _ _ _).drew;have hSyd:z6.heap.size≤z6.drew.heap.size:=Nat.le_refl _;have hC:=hC.drew;generalize z6.drew=yd at *;refine tY (v:=?_) 0 123 ?_ ?_;rotate_left
       ·intro w hSw;rw[hSd] at hSw;obtain⟨⟨o0',o1'⟩,-⟩:=hSw;go_simp;(try with_reducible rfl)
       (try simp only[N0]);refine tY (v:=?_) 1 124 ?_ ?_;rotate_left
       ·intro w hSw;rw[hSd] at hSw;obtain⟨⟨o0',o1'⟩,-⟩:=hSw;go_simp;(try with_reducible rfl)
       (try simp only[N0]);refine tY (v:=?_) 2 125 ?_ ?_;rotate_left
       ·intro w hSw;rw[hSd] at hSw;obtain⟨⟨o0',o1'⟩,-⟩:=hSw;go_simp;(try with_reducible rfl)
       (try simp only[N0]);refine tY (v:=?_) 3 126 ?_ ?_;rotate_left
       ·intro w hSw;rw[hSd] at hSw;obtain⟨⟨o0',o1'⟩,-⟩:=hSw;go_simp;(try with_reducible rfl)
       (try simp only[N0]);refine tY (v:=?_) 4 127 ?_ ?_;rotate_left
       ·intro w hSw;rw[hSd] at hSw;obtain⟨⟨o0',o1'⟩,-⟩:=hSw;go_simp;(try with_reducible rfl)
       (try simp only[N0]);refine tY (v:=?_) 6 129 ?_ ?_;rotate_left
       ·intro w hSw;rw[hSd] at hSw;obtain⟨⟨o0',o1'⟩,-⟩:=hSw;go_simp;(try with_reducible rfl)
       (try simp only[N0]);refine wpAnyH_ready (rs:=[5]) (by kernel_rfl) (by simp) ?_;refine AllReadyH.cons (o:=_) rfl (fun Kq hK=>?_) AllReadyH.nil;obtain⟨i0',i1',-,-⟩:=hC.at_ hqn;go_simp;refine hK.out _ _ ?_ (fun hHeld=>?_)
       ·exact HS.out _ hKyd
       clear hK Kq;(try simp only[N0]);refine wpAnyH_ready (rs:=[7]) (by kernel_rfl) (by simp) ?_;refine AllReadyH.cons (o:=_) rfl (fun Kq hK=>?_) AllReadyH.nil;go_simp;refine(plus_any (feed (toT ps) (parU (toT ps) (rowsT ps ws)) q i) ((parU (toT ps) (rowsT ps ws)) i) hs5.out hs6.out _).mono ?_;rintro e yd ⟨rfl,hb⟩;replace hKyd:=Lib.hid (hKyd.out.call hSyd hb);replace hSyd:=Nat.le_trans hSyd hb.size;have hC:=hC.below hb;clear hb;(try go_simp);refine hK.out _ _ ?_ (fun hHeld=>?_)
       ·exact HS.out _ hKyd
       clear hK Kq;(try simp only[N0]);refine wpAnyH_ready (rs:=[8]) (by kernel_rfl) (by simp) ?_;refine AllReadyH.cons (o:=_) rfl (fun Kq hK=>?_) AllReadyH.nil;obtain⟨i0',i1',-,-⟩:=hC.at_ hqn;go_simp;refine hK.out _ _ ?_ (fun hHeld=>?_)
       ·exact HS.out _ hKyd
       clear hK Kq;(try simp only[N0]);refine wpAnyH_ready (rs:=[9]) (by kernel_rfl) (by simp) ?_;refine AllReadyH.cons (o:=_) rfl (fun Kq hK=>?_) AllReadyH.nil;obtain⟨i0',i1',g0',g1'⟩:=hC.at_ hqn;go_simp;replace hKyd:=Lib.hid ((hKyd.out.set (p:=⟨gI,q*2,none⟩) (Or.inl (by simp)) (.int .i64 (plus (feed (toT ps) (parU (toT ps) (rowsT ps ws)) q i) ((parU (toT ps) (rowsT ps ws)) i)).1)).set (p:=⟨gI,q*2+1,none⟩) (Or.inl (by simp)) (.int .i64 (plus (feed (toT ps) (parU (toT ps) (rowsT ps ws)) q i) ((parU (toT ps) (rowsT ps ws)) i)).2));have hCn0:=hC.put q (plus (feed (toT ps) (parU (toT ps) (rowsT ps ws)) q i) ((parU (toT ps) (rowsT ps ws)) i));obtain⟨yd,hz_⟩:∃z,z=((yd.setCell ⟨gI,q*2,none⟩ (.int .i64 (plus (feed (toT ps) (parU (toT ps) (rowsT ps ws)) q i) ((parU (toT ps) (rowsT ps ws)) i)).1)).setCell ⟨gI,q*2+1,none⟩ (.int .i64 (plus (feed (toT ps) (parU (toT ps) (rowsT ps ws)) q i) ((parU (toT ps) (rowsT ps ws)) i)).2)):=⟨_,rfl⟩;rw[←hz_];rw[←hz_] at hKyd;rw[←hz_] at hCn0;replace hSyd:=Nat.le_trans hSyd (show _≤yd.heap.size by rw[hz_];simp);clear hz_;refine hK.out _ _ ?_ (fun hHeld=>?_)
       ·exact HS.out _ hKyd
       clear hK Kq;(try simp only[N0]);refine wpAnyH_done (by kernel_rfl) ?_ _;have hCn:=Lib.hid (GP.next_some hCn0 htk.out);clear HS HQ hSd hCn0 hC;go_wp2;go_roundw
       case rel=>exact⟨_,rfl,i+1,by omega,by go_num,by rw[hsum.out],⟨Al,m,cl,rfl,by omega,hCn⟩⟩
       case measure=>simp[intOf];omega
  ·obtain rfl:i=n:=(by omega);have hii:¬(i:Int)<(i:Int):=(by omega);have hrd:=Lib.hid (Reads.of_own hG.out.own);have hbw:=Lib.hid ((HPz.out _ hG.out.bel).bel);clear hG;go_wp2;refine bodyPost_ret (v:=.tuple #[.int .i64 (sumM (misU (toT ps) (rowsT ps ws)) i),.slice Al m cl,.int .i64 0]) (by simp[results,Tryd.results24,go_sem]) rfl ?_;have hfin:(∃A1 m_ c1,Ending.returned (.tuple #[.int .i64 (sumM (misU (toT ps) (rowsT ps ws)) i),.slice Al m cl,.int .i64 0]) = .returned (.tuple #[.int .i64 (gonS ps ws),.slice A1 m_ c1,.int .i64 (gonE ps ws)])∧m_≤10∧Reads wr wr.heap.size 2 A1 m_ (mss (gonL ps ws)))∧Below w.heap.size w wr:=⟨⟨Al,m,cl,by rw[hs.out,hs2.out.1],by omega,by rw[hs2.out.2];exact hrd.out⟩,hbw.out⟩
   first|exact hfin|simpa using hfin
end Go.Proofs.YtfplipbkjglmhaaDoor
