/-
 A press at work while it is carried on: its block, the row that grows, the row of what goes in.
-/
import Derived.Test.YtfplipbkjglmhaaDoorKs
import Derived.Test.YtfplipbkjglmhaaDoorRowOf
import Derived.Test.YtfplipbkjglmhaaDoorApp0
namespace Go.Proofs.YtfplipbkjglmhaaDoor
open Go.RowKit
set_option linter.unusedVariables false
set_option linter.unusedSimpArgs false
theorem ownR_block{w w':World}{base:Nat}{e:TypeId}{size n:Nat}{v:Value}{xs:List Value}(h:w.ownsRow base e size v n xs)(hb:∀k,v.ownBlock=some k→w'.heap[k]? = w.heap[k]?):w'.ownsRow base e size v n xs:=by
 refine⟨h.1,?_⟩;rcases h.2 with h0|⟨g1,cap',cur,h1,h2,h3,h4⟩
 ·exact .inl h0
 ·exact .inr ⟨g1,cap',cur,h1,h2,(hb g1 (by rw[h1];rfl)).trans h3,h4⟩
theorem ownR_lt{w:World}{base:Nat}{e:TypeId}{size n:Nat}{v:Value}{xs:List Value}(h:w.ownsRow base e size v n xs){k:Nat}(hk:v.ownBlock=some k):base≤k∧k<w.heap.size:=by
 rcases h.2 with ⟨rfl,-⟩|⟨g1,cap',cur,rfl,h2,h3,h4⟩
 ·cases hk
 ·simp only[Value.ownBlock,Option.some.injEq] at hk;subst hk;exact⟨h2,(Array.getElem?_eq_some_iff.1 h3).1⟩
theorem ownR_below{w w':World}{base:Nat}{e:TypeId}{size n:Nat}{v:Value}{xs:List Value}(h:w.ownsRow base e size v n xs)(hb:Below w.heap.size w w'):w'.ownsRow base e size v n xs:=
 ownR_block h fun k hk=>hb.block k (ownR_lt h hk).2
theorem ownR_val{w:World}{base:Nat}{e:TypeId}{size n:Nat}{v:Value}{xs:List Value}(h:w.ownsRow base e size v n xs):∃A c,v = .slice A n c:=by
 rcases h.2 with ⟨rfl,rfl⟩|⟨g1,cap',cur,rfl,h2⟩
 ·exact⟨_,_,rfl⟩
 ·exact⟨_,_,rfl⟩
theorem info_sp:(Tryd.prog.info? 36).map (fun i=>(i.zero,i.size,i.bytes))=some (some (.agg #[.int .i64 0,.int .i64 0]),2,16):=by kernel_rfl
theorem spc_one(s:Sp):∀u∈spc s,u.oneCell'=true:=by
 intro u hu;simp[spc] at hu;rcases hu with rfl|rfl<;>rfl
theorem sps_succ(U:Nat→Sp)(n:Nat):sps U (n+1)=sps U n++spc (U n):=by
 simp[sps,List.range_succ]
theorem make_sps(n:Nat)(hn:n≤10)(w:World):(Instr.makeSlice 109 (.int .i64 n) (.int .i64 n)).run Tryd.prog w = .ok (.slice (some ⟨w.heap.size,0,none⟩) n n) (w.alloc (.cells (madeCells #[.int .i64 0,.int .i64 0] (n*2)) 36)):=by
 obtain⟨i0,hi,hz0,hz1,hz2⟩:=info_parts info_sp;have:=run_make w 109 36 i0 _ Tryd.underlying109 hi hz0 .i64 .i64 n n (by omega) (by omega) (by rw[hz2];omega) (by omega);rw[this,hz1];rfl
theorem made_sps(w:World)(n:Nat):RowOf (w.alloc (.cells (madeCells #[.int .i64 0,.int .i64 0] (n*2)) 36)) w.heap.size 36 2 n spc n (fun _=>((0,0):Sp)):=by
 refine⟨fun _=>.int .i64 0,⟨_,heap_alloc_new w _,size_madeCells _ _,fun i hi=>?_⟩,fun k hk t u hu=>?_⟩
 ·simp only[madeCells];rw[Array.getElem?_map,Array.getElem?_range,if_pos hi];rcases Nat.mod_two_eq_zero_or_one i with h|h<;>simp[h]
 ·have ht:t<2:=(List.getElem?_eq_some_iff.1 hu).1;rcases (by omega:t=0∨t=1) with rfl|rfl<;>simpa [spc] using hu
/-- The state of a press while it is carried on. -/
structure CSt (x w:World) (mb gI n:Nat) (vp vw vt vr vU:Value) (k:Nat) (U F:Nat→Sp):Prop where
 m:w.heap[mb]? = some (.cells #[vp,vw,vt,vr,vU,.slice (some ⟨gI,0,none⟩) n n] 111 (0,0))
 own:w.ownsRow (gI+1) 36 2 vU k (sps U k)
 into:RowOf w gI 36 2 n spc n F
 kp:Kp x.heap.size [mb] x w
 lt:mb<x.heap.size
 g:x.heap.size≤gI
section
variable {x w w':World} {mb gI n k:Nat} {vp vw vt vr vU:Value} {U F:Nat→Sp}
theorem CSt.below(h:CSt x w mb gI n vp vw vt vr vU k U F)(hb:Below w.heap.size w w'):CSt x w' mb gI n vp vw vt vr vU k U F where
 m:=keepO hb h.m
 own:=ownR_below h.own hb
 into:=h.into.of_block (hb.block _ h.into.lt)
 kp:=h.kp.trans (.of_below (hb.mono h.kp.size))
 lt:=h.lt
 g:=h.g
theorem CSt.drew(h:CSt x w mb gI n vp vw vt vr vU k U F):CSt x w.drew mb gI n vp vw vt vr vU k U F:=h.below (Below.refl _ _).drew
theorem CSt.congr(h:CSt x w mb gI n vp vw vt vr vU k U F){G:Nat→Sp}(e:∀j,j<n→G j=F j):CSt x w mb gI n vp vw vt vr vU k U G:=
 ⟨h.m,h.own,h.into.congr (Nat.le_refl _) e,h.kp,h.lt,h.g⟩
theorem CSt.put(h:CSt x w mb gI n vp vw vt vr vU k U F)(i:Nat)(s:Sp):CSt x ((w.setCell ⟨gI,i*2,none⟩ (.int .i64 s.1)).setCell ⟨gI,i*2+1,none⟩ (.int .i64 s.2)) mb gI n vp vw vt vr vU k U (fun j=>if j=i then s else F j):=by
 have hg:=h.g;have hlt:=h.lt;refine⟨?_,ownR_block h.own fun q hq=>?_,h.into.put (fun _=>rfl) i s,(h.kp.set (p:=⟨gI,i*2,none⟩) (Or.inr (by simp only;omega)) _).set (p:=⟨gI,i*2+1,none⟩) (Or.inr (by simp only;omega)) _,h.lt,h.g⟩
 ·rw[Below.heap_setCell _ _ _ _ (by simp only;omega),Below.heap_setCell _ _ _ _ (by simp only;omega)];exact h.m
 ·have:=(ownR_lt h.own hq).1;rw[Below.heap_setCell _ _ _ _ (by simp only;omega),Below.heap_setCell _ _ _ _ (by simp only;omega)]
theorem CSt.at_(h:CSt x w mb gI n vp vw vt vr vU k U F){i:Nat}(hi:i<n):w.cell? ⟨gI,i*2,none⟩=some (.int .i64 (F i).1)∧w.cell? ⟨gI,i*2+1,none⟩=some (.int .i64 (F i).2)∧w.frozen? ⟨gI,i*2,none⟩=false∧w.frozen? ⟨gI,i*2+1,none⟩=false:=by
 have h0:=h.into.cell (fun _=>rfl) (Nat.le_refl _) (k:=i) (t:=0) hi rfl;have h1:=h.into.cell (fun _=>rfl) (Nat.le_refl _) (k:=i) (t:=1) hi rfl;exact⟨h0,h1,h.into.frozen _,h.into.frozen _⟩
theorem CSt.cells(h:CSt x w mb gI n vp vw vt vr vU k U F):w.cell? ⟨mb,1,none⟩=some vw∧w.cell? ⟨mb,2,none⟩=some vt∧w.cell? ⟨mb,3,none⟩=some vr∧w.cell? ⟨mb,4,none⟩=some vU∧w.cell? ⟨mb,5,none⟩=some (.slice (some ⟨gI,0,none⟩) n n)∧w.frozen? ⟨mb,4,none⟩=false:=by
 have:=h.m;refine⟨?_,?_,?_,?_,?_,?_⟩<;>simp[World.cell?,World.frozen?,this]
theorem CSt.app{w1 wA:World}{v':Value}(h:CSt x w mb gI n vp vw vt vr vU k U F)(hb:Below w.heap.size w w1)(ho:wA.ownsRow (gI+1) 36 2 v' (k+1) (sps U k++spc (U k)))(hg:w1.grownBy wA vU.ownBlock) :
  CSt x (wA.setCell ⟨mb,4,none⟩ v') mb gI n vp vw vt vr v' (k+1) U F:=by
 have h1:=h.below hb;have hlt:=h.lt;have hgI:=h.g;have hno:∀q,q≤gI→¬vU.ownBlock=some q:=fun q hq e=>by have:=(ownR_lt h.own e).1;omega
 have hs:=h1.kp.size;have hm:wA.heap[mb]? = some (.cells #[vp,vw,vt,vr,vU,.slice (some ⟨gI,0,none⟩) n n] 111 (0,0)):=(hg.block _ (by omega) (fun e=>hno mb (by omega) e.symm)).trans h1.m;have hi:=hg.block gI (by have:=h1.into.lt;omega) (fun e=>hno gI (by omega) e.symm);refine⟨?_,ownR_block (by rw[sps_succ];exact ho) fun q hq=>?_,(h1.into.of_block hi).of_block ?_,(h1.kp.grown hg hs fun q hq=>Or.inr ?_).set (p:=⟨mb,4,none⟩) (Or.inl (by simp)) _,h.lt,h.g⟩
 ·simp[World.setCell,Array.getElem?_modify,hm]
 ·have:=(ownR_lt ho hq).1;exact Below.heap_setCell _ _ _ _ (by simp only;omega)
 ·exact Below.heap_setCell _ _ _ _ (by simp only;omega)
 ·have:=(ownR_lt h.own hq).1;omega
theorem CSt.far(h:CSt x w mb gI n vp vw vt vr vU k U F){b:Nat}(hb:x.heap.size≤b)(hg:b≠gI)(ho:∀q,vU.ownBlock=some q→q≠b)(u v:Value):CSt x ((w.setCell ⟨b,0,none⟩ u).setCell ⟨b,1,none⟩ v) mb gI n vp vw vt vr vU k U F:=by
 have hlt:=h.lt;refine⟨?_,ownR_block h.own fun q hq=>?_,h.into.of_block ?_,(h.kp.set (p:=⟨b,0,none⟩) (Or.inr hb) _).set (p:=⟨b,1,none⟩) (Or.inr hb) _,h.lt,h.g⟩
 ·rw[Below.heap_setCell _ _ _ _ (by simp only;omega),Below.heap_setCell _ _ _ _ (by simp only;omega)];exact h.m
 ·rw[Below.heap_setCell _ _ _ _ (ho q hq),Below.heap_setCell _ _ _ _ (ho q hq)]
 ·rw[Below.heap_setCell _ _ _ _ (by simp only;omega),Below.heap_setCell _ _ _ _ (by simp only;omega)]
theorem CSt.grew{wA:World}(h:CSt x w mb gI n vp vw vt vr vU k U F)(hg:w.grownBy wA vU.ownBlock):wA.cell? ⟨mb,4,none⟩=some vU∧wA.frozen? ⟨mb,4,none⟩=false:=by
 have hlt:=h.lt;have hgI:=h.g;have hm:wA.heap[mb]? = some (.cells #[vp,vw,vt,vr,vU,.slice (some ⟨gI,0,none⟩) n n] 111 (0,0)):=(hg.block _ (by have:=h.kp.size;omega) (fun e=>by have:=(ownR_lt h.own e.symm).1;omega)).trans h.m;exact⟨by simp[World.cell?,hm],by simp[World.frozen?,hm]⟩
theorem facts6{x:World}{b:Nat}{c0 c1 c2 c3 c4 c5:Value}{t:TypeId}(h:x.heap[b]? = some (.cells #[c0,c1,c2,c3,c4,c5] t (0,0))):x.cell? ⟨b,1,none⟩=some c1∧x.cell? ⟨b,3,none⟩=some c3∧x.cell? ⟨b,4,none⟩=some c4∧x.cell? ⟨b,5,none⟩=some c5∧x.frozen? ⟨b,4,none⟩=false∧x.frozen? ⟨b,5,none⟩=false:=
 ⟨by simp[World.cell?,h],by simp[World.cell?,h],by simp[World.cell?,h],by simp[World.cell?,h],by simp[World.frozen?,h],by simp[World.frozen?,h]⟩
theorem set6_4(w:World)(b:Nat)(t:TypeId)(v c0 c1 c2 c3 c4 c5:Value)(h:w.heap[b]? = some (.cells #[c0,c1,c2,c3,c4,c5] t (0,0))):(w.setCell ⟨b,4,none⟩ v).heap[b]? = some (.cells #[c0,c1,c2,c3,v,c5] t (0,0)):=by
 simp[World.setCell,Array.getElem?_modify,h]
theorem set6_5(w:World)(b:Nat)(t:TypeId)(v c0 c1 c2 c3 c4 c5:Value)(h:w.heap[b]? = some (.cells #[c0,c1,c2,c3,c4,c5] t (0,0))):(w.setCell ⟨b,5,none⟩ v).heap[b]? = some (.cells #[c0,c1,c2,c3,c4,v] t (0,0)):=by
 simp[World.setCell,Array.getElem?_modify,h]
theorem CSt.start{x z:World}{mb gI n:Nat}{vp vw vt vr:Value}(U:Nat→Sp)(hm:z.heap[mb]? = some (.cells #[vp,vw,vt,vr,.slice none 0 0,.slice (some ⟨gI,0,none⟩) n n] 111 (0,0)))
  (hI:z.heap[gI]? = some (.cells (madeCells #[.int .i64 0,.int .i64 0] (n*2)) 36 (0,0))) (hk:Kp x.heap.size [mb] x z) (hlt:mb<x.heap.size) (hg:x.heap.size≤gI):CSt x z mb gI n vp vw vt vr (.slice none 0 0) 0 U (fun _=>(0,0)):=by
 refine⟨hm,World.ownsRow_nil _ _ _ _,?_,hk,hlt,hg⟩;refine⟨fun _=>.int .i64 0,⟨_,hI,size_madeCells _ _,fun i hi=>?_⟩,fun k hk t u hu=>?_⟩
 ·simp only[madeCells];rw[Array.getElem?_map,Array.getElem?_range,if_pos hi];rcases Nat.mod_two_eq_zero_or_one i with h|h<;>simp[h]
 ·have ht:t<2:=(List.getElem?_eq_some_iff.1 hu).1;rcases (by omega:t=0∨t=1) with rfl|rfl<;>simpa [spc] using hu
end
/-- What goes in, while the press is carried on to place k. -/
def inF (t:Nat→Option Nat) (R:Nat→Nat→Sp) (U:Nat→Sp) (k j:Nat):Sp:=if j<k then plus (feed t U j j) (R j 1) else feed t U j k
theorem inF_0(t:Nat→Option Nat)(R:Nat→Nat→Sp)(U:Nat→Sp)(j:Nat):inF t R U 0 j=(0,0):=by simp[inF,feed]
theorem inF_n{t:Nat→Option Nat}{R:Nat→Nat→Sp}{U:Nat→Sp}{n j:Nat}(hj:j<n):inF t R U n j=plus (feed t U j j) (R j 1):=by simp[inF,hj]
/-- Behind the first store of a round. -/
def inG (t:Nat→Option Nat) (R:Nat→Nat→Sp) (U:Nat→Sp) (k j:Nat):Sp:=if j=k then plus (feed t U k k) (R k 1) else inF t R U k j
theorem inG_eq(t:Nat→Option Nat)(R:Nat→Nat→Sp)(U:Nat→Sp)(k j:Nat):inG t R U k j=if j=k then plus (inF t R U k k) (R k 1) else inF t R U k j:=by
 unfold inG;congr 1;simp[inF]
theorem inF_none{t:Nat→Option Nat}{R:Nat→Nat→Sp}{U:Nat→Sp}{k:Nat}(ht:t k=none)(j:Nat):inF t R U (k+1) j=inG t R U k j:=by
 unfold inG inF;by_cases h:j=k
 ·subst h;simp
 ·rw[if_neg h];by_cases h2:j<k
  ·rw[if_pos h2,if_pos (by omega)]
  ·rw[if_neg h2,if_neg (by omega),feed,ht,if_neg (by simp)]
theorem inF_some{t:Nat→Option Nat}{R:Nat→Nat→Sp}{U:Nat→Sp}{k q:Nat}(ht:t k=some q)(hq:k<q)(j:Nat):inF t R U (k+1) j=if j=q then plus (inG t R U k q) (U k) else inG t R U k j:=by
 by_cases h:j=q
 ·subst h;rw[if_pos rfl];unfold inG inF;rw[if_neg (by omega),if_neg (by omega),if_neg (by omega),feed,ht,if_pos rfl]
 ·rw[if_neg h];unfold inG inF;by_cases h1:j=k
  ·subst h1;simp
  ·rw[if_neg h1];by_cases h2:j<k
   ·rw[if_pos h2,if_pos (by omega)]
   ·rw[if_neg h2,if_neg (by omega),feed,ht,if_neg (by simp;omega)]
def p2:Nat→Nat
 |0=>1
 |k+1=>2*p2 k
theorem p2_mono{a b:Nat}(h:a≤b):p2 a≤p2 b:=by
 induction h with
 |refl=>exact Nat.le_refl _
 |step _ ih=>simp only[p2];omega
def Bnd (s:Sp) (b:Int):Prop:=-b≤s.1∧s.1≤b∧-b≤s.2∧s.2≤b
theorem feed_bnd{t:Nat→Option Nat}{U:Nat→Sp}{m:Nat}(h:∀j,j<m→Bnd (U j) (50000000*(p2 j:Int)))(q:Nat):∀k,k≤m→Bnd (feed t U q k) (50000000*(p2 k:Int) - 50000000)
 |0,_=>by simp[feed,Bnd,p2]
 |k+1,hk=>by
  have ih:=feed_bnd (t:=t) h q k (by omega);have h2:=h k (by omega);have h1:1≤p2 k:=p2_mono (Nat.zero_le k);rw[show p2 (k+1)=2*p2 k from rfl];generalize p2 k=P at *;simp only[Bnd] at *;unfold feed;split
  ·simp only[plus];omega
  ·omega
theorem up_bnd{t:Nat→Option Nat}{R:Nat→Nat→Sp}{n:Nat}(hR:SmR R n):∀j,j<n→Bnd (upP t R j) (50000000*(p2 j:Int)):=by
 intro j
 induction j using Nat.strongRecOn with
 |_ j ih=>
  intro hj;have hf:=feed_bnd (t:=t) (U:=upP t R) (m:=j) (fun i hi=>ih i hi (by omega)) j j (Nat.le_refl _);have h1:=hR j 1 hj (by omega);have h6:=hR j 6 hj (by omega);have hr:=rest1_sml (f:=R j) (fun i hi=>hR j i hj hi) 4 (Nat.le_refl _);rw[rest1_restS] at hr;have hp:1≤p2 j:=p2_mono (Nat.zero_le j);rw[upP_eq];unfold recS;generalize feed t (upP t R) j j=a at *;generalize restS R j=b at *;generalize R j 1=c at *;generalize R j 6=d at *;generalize p2 j=P at *;clear ih;simp only[Bnd,both,minus,plus] at *;omega
theorem p2_le{j:Nat}(h:j≤10):p2 j≤1024:=p2_mono h
theorem up_smu{t:Nat→Option Nat}{R:Nat→Nat→Sp}{n:Nat}(hR:SmR R n)(hn:n≤10):SmU (upP t R) n:=by
 intro j hj;have h1:=up_bnd (t:=t) hR j hj;have h2:=p2_le (j:=j) (by omega);generalize p2 j=P at *;unfold Bnd at h1;omega
theorem feed_smu{t:Nat→Option Nat}{R:Nat→Nat→Sp}{n:Nat}(hR:SmR R n)(hn:n≤10)(q k:Nat)(hk:k≤n):-60000000000≤(feed t (upP t R) q k).1∧(feed t (upP t R) q k).1≤60000000000∧-60000000000≤(feed t (upP t R) q k).2∧(feed t (upP t R) q k).2≤60000000000:=by
 have h1:=feed_bnd (t:=t) (U:=upP t R) (m:=n) (fun i hi=>up_bnd hR i hi) q k hk;have h2:=p2_le (j:=k) (by omega);generalize p2 k=P at *;unfold Bnd at h1;omega
theorem into_smu{t:Nat→Option Nat}{R:Nat→Nat→Sp}{n:Nat}(hR:SmR R n)(hn:n≤10):SmU (intoP t R) n:=by
 intro j hj;have:=feed_smu (t:=t) hR hn j j (by omega);have:=hR j 1 hj (by omega);unfold intoP;simp only[plus];omega
theorem inF_sml{t:Nat→Option Nat}{R:Nat→Nat→Sp}{n k j:Nat}(hR:SmR R n)(hn:n≤10)(hj:j<n)(hk:k≤n):Sml (inF t R (upP t R) k j):=by
 have h1:=feed_smu (t:=t) hR hn j j (by omega);have h2:=feed_smu (t:=t) hR hn j k (by omega);have h3:=hR j 1 hj (by omega);unfold inF Sml;split
 ·simp only[plus];omega
 ·omega
theorem inG_sml{t:Nat→Option Nat}{R:Nat→Nat→Sp}{n k j:Nat}(hR:SmR R n)(hn:n≤10)(hj:j<n)(hk:k<n):Sml (inG t R (upP t R) k j):=by
 have h1:=feed_smu (t:=t) hR hn k k (by omega);have h3:=hR k 1 hk (by omega);have h4:=inF_sml (t:=t) hR hn hj (Nat.le_of_lt hk);unfold inG;split
 ·unfold Sml;simp only[plus];omega
 ·exact h4
end Go.Proofs.YtfplipbkjglmhaaDoor
