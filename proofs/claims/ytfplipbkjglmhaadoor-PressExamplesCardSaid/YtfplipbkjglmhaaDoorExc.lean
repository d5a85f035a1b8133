/-
 What the chapter's further examples on presses ask, and its answers.
-/
import Derived.Test.YtfplipbkjglmhaaDoorTk
import Derived.Test.YtfplipbkjglmhaaDoorTq
import Derived.Test.YtfplipbkjglmhaaDoorChg
import Derived.Test.YtfplipbkjglmhaaDoorPAll
import Derived.Test.YtfplipbkjglmhaaDoorPLs
import Derived.Test.YtfplipbkjglmhaaDoorPRs
import Derived.Test.YtfplipbkjglmhaaDoorPGon
import Derived.Test.YtfplipbkjglmhaaDoorPPf
import Derived.Test.YtfplipbkjglmhaaDoorUnd
import Derived.Test.YtfplipbkjglmhaaDoorLead
import Derived.Test.YtfplipbkjglmhaaDoorRWo
namespace Go.Proofs.YtfplipbkjglmhaaDoor
open Go.RowKit
set_option linter.unusedVariables false
set_option linter.unusedSimpArgs false
def mlD:List WE:=[(1,1,1,1000,1000),(2,1,2,5,5),(3,1,3,500,520),(4,1,4,40,50),(5,1,5,30,60),(6,2,1,600,600),(7,2,2,170,180),(8,2,3,300,310),(9,2,4,20,30),(10,2,5,20,40),(11,3,1,0,0),(12,3,2,30,40),(13,3,3,70,90),(14,3,4,5,10),(15,3,5,0,10)]
def mlE:List WE:=[(1,1,1,1000,1000),(2,1,2,5,5),(3,1,2,500,520),(4,1,4,40,50),(5,1,5,30,60),(6,2,1,600,600),(7,2,2,170,180),(8,2,3,300,310),(9,2,4,20,30),(10,2,5,20,40),(11,3,1,0,0),(12,3,2,30,40),(13,3,3,70,90),(14,3,4,5,10),(15,3,5,0,10)]
def mlO:List PR:=[(1,4,1,1),(2,4,2,3),(3,6,1,0)]
def mlE1:List PR:=[(1,0,1,0)]
def mlE2:List WE:=[(1,1,1,0,0)]
theorem CG.res2{w z:World}{p g cg pb:Nat}{xs:List Value}{ws:List WE}(h:CG w p g cg xs pb z)(e:xs=wgs ws)(a b:Value):∃p' g' c2,Ending.returned (.agg #[.slice (some ⟨p,0,none⟩) 3 3,.slice (some ⟨g,0,none⟩) 15 cg]) = .returned (.agg #[.slice (some ⟨p',0,none⟩) 3 3,.slice (some ⟨g',0,none⟩) 15 c2])∧
  ((z.setCell ⟨w.heap.size,0,none⟩ a).setCell ⟨w.heap.size,1,none⟩ b).heap[p']? = some (.cells #[.int .i64 1,.int .i64 4,.int .i64 1,.int .i64 3,.int .i64 2,.int .i64 4,.int .i64 2,.int .i64 3,.int .i64 3,.int .i64 6,.int .i64 1,.int .i64 0] 51 (0,0))∧((z.setCell ⟨w.heap.size,0,none⟩ a).setCell ⟨w.heap.size,1,none⟩ b).ownsRow (w.heap.size+1) 81 5 (.slice (some ⟨g',0,none⟩) 15 c2) 15 (wgs ws):=by
 have hgb:=h.gb;have hpg:=h.pg;have far (q:Nat) (hq:q≠w.heap.size):=heap_sets2 z w.heap.size q a b hq;refine⟨_,_,_,rfl,(far p (by omega)).trans h.rp,?_⟩;rw[←e];exact ownR_block h.own fun q hq=>far q (by have:=(ownR_lt h.own hq).1;omega)
theorem own_set1{w:World}{base size n i g c:Nat}{e:TypeId}{xs:List Value}(h:w.ownsRow base e size (.slice (some ⟨g,0,none⟩) n c) n xs)(hi:i<n*size)(a:Value) :
  (∃u,w.cell? ⟨g,i,none⟩=some u)∧w.frozen? ⟨g,i,none⟩=false∧(w.setCell ⟨g,i,none⟩ a).ownsRow base e size (.slice (some ⟨g,0,none⟩) n c) n (xs.set i a):=by
 rcases h.2 with ⟨h0,-⟩|⟨g',cap,cur,hv,hb,hg,hc,hm,hs,ht⟩
 ·cases h0
 cases hv;have hsz:n*size≤cur.size:=by rw[hs];exact Nat.mul_le_mul_right _ hc
 refine⟨⟨cur[i]'(by omega),by simp[World.cell?,hg]⟩,by simp[World.frozen?,hg],by simpa using h.1,.inr ⟨g,c,cur.setIfInBounds i a,rfl,hb,?_,hc,hm,by simpa using hs,?_⟩⟩
 ·simp[World.setCell,Array.getElem?_modify,hg]
 ·rw[Array.toList_setIfInBounds,List.take_set,ht]
set_option maxRecDepth 100000 in
set_option maxHeartbeats 4000000 in
theorem changed2(w:World):Calls Tryd.prog 49 #[.int .i64 2,.int .i64 5,.int .i64 5] w fun e w'=>(∃p g c2,e = .returned (.agg #[.slice (some ⟨p,0,none⟩) 3 3,.slice (some ⟨g,0,none⟩) 15 c2])∧w'.heap[p]? = some (.cells #[.int .i64 1,.int .i64 4,.int .i64 1,.int .i64 3,.int .i64 2,.int .i64 4,.int .i64 2,.int .i64 3,.int .i64 3,.int .i64 6,.int .i64 1,.int .i64 0] 51 (0,0))∧w'.ownsRow (w.heap.size+1) 81 5 (.slice (some ⟨g,0,none⟩) 15 c2) 15 (wgs mlD))∧Below w.heap.size w w':=by
 have hb0:Hid (Below w.heap.size w (w.alloc (.cells #[.slice none 0 0,.slice none 0 0] 25))):=(Below.refl _ _).alloc (Nat.le_refl _) _;have hO0:=Lib.hid (heap_alloc_new w (.cells #[.slice none 0 0,.slice none 0 0] 25))
 go_enter Tryd.func49,Tryd.ntmps49
 go_wp2_with fail
 refine(mill_any _).mono ?_;rintro e z ⟨⟨p,A2,c2,rfl,hp,hr,ho⟩,hb⟩;have hOz:=keepO hb hO0.out;have hBz:=below_via hb0.out hb0.out.size hb;have hs1:(w.alloc (.cells #[.slice none 0 0,.slice none 0 0] 25)).heap.size=w.heap.size+1:=by simp
 rw[hs1] at hp ho;obtain⟨g,cg_,hv⟩:=own_some ho (by omega);cases hv;clear hb hb0 hO0 hs1;obtain⟨wq,hwq⟩:∃wq,wq=z.alloc (.cells #[.slice (some ⟨p,0,none⟩) 3 3,.slice (some ⟨g,0,none⟩) 15 c2] 25):=⟨_,rfl⟩;have hC0:Hid (CG w p g c2 (wgs mlA) z.heap.size wq):=by
  have hbq:Below z.heap.size z wq:=(by rw[hwq];exact(Below.refl _ _).alloc (Nat.le_refl _) _);have hgz:=(ownR_lt ho (k:=g) rfl);exact⟨keepO hbq hOz,by rw[hwq];exact heap_alloc_new _ _,ownR_block ho (fun q hq=>hbq.block q (ownR_lt ho hq).2),hgz.1,hgz.2,below_via hBz hBz.size hbq,keepO hbq hr,hp,(Array.getElem?_eq_some_iff.1 hr).1⟩
 have hwqh:=Lib.hid hwq;clear hOz hBz ho hr hwq hp;obtain⟨q0,q1,-,-⟩:=two_facts hC0.out.b2;rw[hwqh.out] at q0 q1;go_wp2_with fail
 rw[←hwqh.out];clear hwqh q0 q1;have hC:=hC0.out;clear hC0;generalize z.heap.size=pb at *;obtain⟨S,hSd⟩:∃S:World→Prop,S=fun _=>True:=⟨_,rfl⟩;have y0:IntKind.i64.wrap 1=1:=IntWalk.i64_in _ (by omega);refine wp_region_held_drew (S:=S) (by kernel_rfl) ?_ (fun hHeld=>?_)
 ·rw[hSd];trivial
 have hKyd:Hid (Kp wq.heap.size [] wq wq.drew):=Lib.hid (Kp.refl _ _ _).drew;have hSyd:wq.heap.size≤wq.drew.heap.size:=Nat.le_refl _;have hC:=hC.below (Below.refl _ _).drew;generalize wq.drew=yd at *;refine tY (v:=?_) 0 9 ?_ ?_;rotate_left
 ·intro w hSw;go_simp;(try with_reducible rfl)
 try simp only[N0]
 refine tY (v:=?_) 2 11 ?_ ?_;rotate_left
 ·intro w hSw;go_simp;(try with_reducible rfl)
 try simp only[N0]
 refine tY (v:=?_) 3 12 ?_ ?_;rotate_left
 ·intro w hSw;go_simp;(try with_reducible rfl)
 try simp only[N0]
 refine tY (v:=?_) 4 13 ?_ ?_;rotate_left
 ·intro w hSw;go_simp;(try with_reducible rfl)
 try simp only[N0]
 refine tY (v:=?_) 5 14 ?_ ?_;rotate_left
 ·intro w hSw;go_simp;(try with_reducible rfl)
 try simp only[N0]
 iterate 5
  all_goals first
   |refine U2 1 6 ?_ ?_
   |refine U1 6 ?_
   |refine U1 1 ?_
   |refine U1 7 ?_
   |refine U1 8 ?_
   |refine U1 9 ?_
  all_goals first
   |intro (t:Tag 1) Kq hK
    clear t;obtain⟨p0,p1,-,-⟩:=two_facts hC.b2;go_simp;refine hK.out _ _ ?_ (fun hHeld=>?_)
    ·rw[hSd];trivial
    clear hK Kq;try simp only[N0]
   |intro (t:Tag 6) Kq hK
    clear t;go_simp;refine(span_mk 5 5 yd).mono ?_;rintro e yd ⟨rfl,hb⟩;replace hC:=hC.below hb;clear hb;(try go_simp);refine hK.out _ _ ?_ (fun hHeld=>?_)
    ·rw[hSd];trivial
    clear hK Kq;try simp only[N0]
   |intro (t:Tag 7) Kq hK
    clear t;go_simp;refine hK.out _ _ ?_ (fun hHeld=>?_)
    ·rw[hSd];trivial
    clear hK Kq;try simp only[N0]
   |intro (t:Tag 8) Kq hK
    clear t;go_simp;refine hK.out _ _ ?_ (fun hHeld=>?_)
    ·rw[hSd];trivial
    clear hK Kq;try simp only[N0]
   |intro (t:Tag 9) Kq hK
    clear t;obtain⟨⟨_,u0⟩,⟨_,u1⟩,f0,f1,hC'⟩:=hC.set2 (i:=8) (j:=9) rfl (by omega) (.int .i64 5) (.int .i64 5);go_simp;clear u0 u1 f0 f1;generalize ((yd.setCell ⟨g,8,none⟩ (.int .i64 5)).setCell ⟨g,9,none⟩ (.int .i64 5))=yd at *;refine hK.out _ _ ?_ (fun hHeld=>?_)
    ·rw[hSd];trivial
    clear hK Kq;try simp only[N0]
 all_goals
  refine wpAnyH_done (by kernel_rfl) ?_ _;clear hC;obtain⟨p0,p1,-,-⟩:=two_facts hC'.b2;obtain⟨r0,r1,f0,f1⟩:=two_facts hC'.b0;have hO':=Lib.hid (set_two yd w.heap.size _ (.slice (some ⟨p,0,none⟩) 3 3) (.slice (some ⟨g,0,none⟩) 15 c2) _ _ hC'.b0);have hh:=Lib.hid hC';clear hC' hSd;go_wp2;obtain⟨k0,k1,-,-⟩:=two_facts hO'.out;have hb:=(hh.out.bel.setCell (p:=⟨w.heap.size,0,none⟩) (Nat.le_refl _) (.slice (some ⟨p,0,none⟩) 3 3)).setCell (p:=⟨w.heap.size,1,none⟩) (Nat.le_refl _) (.slice (some ⟨g,0,none⟩) 15 c2);exact bodyPost_ret (v:=.agg #[.slice (some ⟨p,0,none⟩) 3 3,.slice (some ⟨g,0,none⟩) 15 c2]) (by simp[results,Tryd.results49,go_sem,k0,k1]) rfl ⟨hh.out.res2 (ws:=mlD) (by kernel_rfl) _ _,hb⟩
theorem e1:spanE mlP mlA 2 6=(40,90)∧askE mlP mlA 2 6=0:=by decide +kernel
theorem e2:allS mlP mlA 2=(490,530)∧allE mlP mlA 2=0:=by decide +kernel
theorem e3:allS mlP mlA 3=(870,920)∧allE mlP mlA 3=0:=by decide +kernel
theorem e4:yldA mlP mlA 1=(29,100)∧yldB mlP mlA 1=(31,100)∧yldE mlP mlA 1=0:=by decide +kernel
theorem e5:lesK mlP mlA 1 3 10=1∧lesE mlP mlA 1 3 10=0:=by decide +kernel
theorem e6:lesK mlP mlA 1 8 25=2∧lesE mlP mlA 1 8 25=0:=by decide +kernel
theorem e7:rstL mlP mlA 3 2 = [12]∧askE mlP mlA 3 2=0:=by decide +kernel
theorem e8:gonS mlP mlA=0∧gonL mlP mlA = []∧gonE mlP mlA=0:=by decide +kernel
theorem e9:falL mlP mlA = []∧falE mlP mlA=0:=by decide +kernel
theorem e10:(validP mlO mlA && hasT mlO mlA)=false∧checkS mlO mlA=20:=by decide +kernel
theorem e11:spanE mlP mlA 4 9=(0,0)∧askE mlP mlA 4 9=6:=by decide +kernel
theorem e12:spanE mlP mlA 3 7=(0,0)∧askE mlP mlA 3 7=2:=by decide +kernel
theorem e13:spanE mlP mlB 3 1=(0,0)∧askE mlP mlB 3 1=8:=by decide +kernel
theorem e14:firE mlP mlB=8:=by decide +kernel
theorem e15:allS mlP mlA 6=(0,0)∧allE mlP mlA 6=2:=by decide +kernel
theorem e16:allE mlP mlB 2=8:=by decide +kernel
theorem e17:yldA mlE1 mlE2 1=(0,0)∧yldB mlE1 mlE2 1=(0,0)∧yldE mlE1 mlE2 1=6:=by decide +kernel
theorem e18:lesK mlP mlA 3 2 1=0∧lesE mlP mlA 3 2 1=2:=by decide +kernel
theorem e19:gonS mlP mlE=0∧gonE mlP mlE=8:=by decide +kernel
theorem e20:(weighS mlP mlA (3,1,1,0,0)).2=21:=by decide +kernel
theorem e21:(strikeS mlP mlA [16]).2=21:=by decide +kernel
theorem e22:(leadS mlP mlA 3 1).2=22:=by decide +kernel
theorem e23:(leadS mlP mlA 4 0).2=6:=by decide +kernel
theorem e24:undE mlP mlA 4=6:=by decide +kernel
theorem e25:checkS mlO mlA=20∧checkS mlP mlA=0:=by decide +kernel
theorem x1(A A2:Option Addr)(c2:Nat)(z:World)(hr:Reads z z.heap.size 4 A 3 (pgs mlP))(ho:Reads z z.heap.size 5 A2 15 (wgs mlA))(hL:Laid z):Calls Tryd.prog 39 #[.agg #[.slice A 3 3,.slice A2 15 c2],.int .i64 2,.int .i64 6] z fun e w'=>e = .returned (.tuple #[.agg #[.int .i64 40,.int .i64 90],.int .i64 0])∧Below z.heap.size z w':=by
 have h:=pSpan_any A A2 3 3 15 c2 mlP mlA 2 6 z (by unfold maxLen;omega) hr ho hL;rw[e1.1,e1.2] at h;exact h
theorem x2(A A2:Option Addr)(c2:Nat)(z:World)(hr:Reads z z.heap.size 4 A 3 (pgs mlP))(ho:Reads z z.heap.size 5 A2 15 (wgs mlA))(hL:Laid z):Calls Tryd.prog 18 #[.agg #[.slice A 3 3,.slice A2 15 c2],.int .i64 2] z fun e w'=>e = .returned (.tuple #[.agg #[.int .i64 490,.int .i64 530],.int .i64 0])∧Below z.heap.size z w':=by
 have h:=pAll_any A A2 3 3 15 c2 mlP mlA 2 z (by unfold maxLen;omega) hr ho hL;rw[e2.1,e2.2] at h;exact h
theorem x3(A A2:Option Addr)(c2:Nat)(z:World)(hr:Reads z z.heap.size 4 A 3 (pgs mlP))(ho:Reads z z.heap.size 5 A2 15 (wgs mlA))(hL:Laid z):Calls Tryd.prog 18 #[.agg #[.slice A 3 3,.slice A2 15 c2],.int .i64 3] z fun e w'=>e = .returned (.tuple #[.agg #[.int .i64 870,.int .i64 920],.int .i64 0])∧Below z.heap.size z w':=by
 have h:=pAll_any A A2 3 3 15 c2 mlP mlA 3 z (by unfold maxLen;omega) hr ho hL;rw[e3.1,e3.2] at h;exact h
theorem x4(A A2:Option Addr)(c2:Nat)(z:World)(hr:Reads z z.heap.size 4 A 3 (pgs mlP))(ho:Reads z z.heap.size 5 A2 15 (wgs mlA))(hL:Laid z):Calls Tryd.prog 30 #[.agg #[.slice A 3 3,.slice A2 15 c2],.int .i64 1] z fun e w'=>e = .returned (.tuple #[.agg #[.int .i64 29,.int .i64 100],.agg #[.int .i64 31,.int .i64 100],.int .i64 0])∧Below z.heap.size z w':=by
 have h:=pYield_any A A2 3 3 15 c2 mlP mlA 1 z (by unfold maxLen;omega) hr ho hL;rw[e4.1,e4.2.1,e4.2.2] at h;exact h
theorem x5(A A2:Option Addr)(c2:Nat)(z:World)(hr:Reads z z.heap.size 4 A 3 (pgs mlP))(ho:Reads z z.heap.size 5 A2 15 (wgs mlA))(hL:Laid z):Calls Tryd.prog 31 #[.agg #[.slice A 3 3,.slice A2 15 c2],.int .i64 1,.agg #[.int .i64 3,.int .i64 10]] z fun e w'=>e = .returned (.tuple #[.int .u8 1,.int .i64 0])∧Below z.heap.size z w':=by
 have h:=pLess_any A A2 3 3 15 c2 mlP mlA 1 3 10 z (by unfold maxLen;omega) hr ho hL;rw[e5.1,e5.2] at h;exact h
theorem x6(A A2:Option Addr)(c2:Nat)(z:World)(hr:Reads z z.heap.size 4 A 3 (pgs mlP))(ho:Reads z z.heap.size 5 A2 15 (wgs mlA))(hL:Laid z):Calls Tryd.prog 31 #[.agg #[.slice A 3 3,.slice A2 15 c2],.int .i64 1,.agg #[.int .i64 8,.int .i64 25]] z fun e w'=>e = .returned (.tuple #[.int .u8 2,.int .i64 0])∧Below z.heap.size z w':=by
 have h:=pLess_any A A2 3 3 15 c2 mlP mlA 1 8 25 z (by unfold maxLen;omega) hr ho hL;rw[e6.1,e6.2] at h;exact h
theorem x7(A A2:Option Addr)(c2:Nat)(z:World)(hr:Reads z z.heap.size 4 A 3 (pgs mlP))(ho:Reads z z.heap.size 5 A2 15 (wgs mlA))(hL:Laid z):Calls Tryd.prog 38 #[.agg #[.slice A 3 3,.slice A2 15 c2],.int .i64 3,.int .i64 2] z fun e w'=>(∃A1 m c1,e = .returned (.tuple #[.slice A1 m c1,.int .i64 0])∧m≤30∧Reads w' w'.heap.size 1 A1 m (ints [12]))∧Below z.heap.size z w':=by
 have h:=pRests_any A A2 3 3 15 c2 mlP mlA 3 2 z (by unfold maxLen;omega) hr ho hL;rw[e7.1,e7.2] at h;exact h
theorem x8(A A2:Option Addr)(c2:Nat)(z:World)(hr:Reads z z.heap.size 4 A 3 (pgs mlP))(ho:Reads z z.heap.size 5 A2 15 (wgs mlA))(hL:Laid z):Calls Tryd.prog 24 #[.agg #[.slice A 3 3,.slice A2 15 c2]] z fun e w'=>(∃A1 c1,e = .returned (.tuple #[.int .i64 0,.slice A1 0 c1,.int .i64 0]))∧Below z.heap.size z w':=by
 have h:=pGone_any A A2 3 3 15 c2 mlP mlA z (by unfold maxLen;omega) hr ho hL;rw[e8.1,e8.2.1,e8.2.2] at h;refine h.mono ?_;rintro e w' ⟨⟨A1,m,c1,rfl,hm,hw⟩,hb⟩;obtain rfl:m=0:=by have:=hw.1;simp[mss] at this;omega
 exact⟨⟨A1,c1,rfl⟩,hb⟩
theorem x9(A A2:Option Addr)(c2:Nat)(z:World)(hr:Reads z z.heap.size 4 A 3 (pgs mlP))(ho:Reads z z.heap.size 5 A2 15 (wgs mlA))(hL:Laid z):Calls Tryd.prog 36 #[.agg #[.slice A 3 3,.slice A2 15 c2]] z fun e w'=>(∃A1 c1,e = .returned (.tuple #[.slice A1 0 c1,.int .i64 0]))∧Below z.heap.size z w':=by
 have h:=pFalse_any A A2 3 3 15 c2 mlP mlA z hr ho hL;rw[e9.1,e9.2] at h;refine h.mono ?_;rintro e w' ⟨⟨A1,m,c1,rfl,hm,hw⟩,hb⟩;obtain rfl:m=0:=by have:=hw.1;simp[ints] at this;omega
 exact⟨⟨A1,c1,rfl⟩,hb⟩
theorem x10(A A2:Option Addr)(c2:Nat)(z:World)(hr:Reads z z.heap.size 4 A 3 (pgs mlO))(ho:Reads z z.heap.size 5 A2 15 (wgs mlA))(hL:Laid z):Calls Tryd.prog 25 #[.agg #[.slice A 3 3,.slice A2 15 c2]] z fun e w'=>e = .returned (.tuple #[.bool false,.int .i64 20])∧Below z.heap.size z w':=by
 have h:=pHolds_any A A2 3 3 15 c2 mlO mlA z hr ho hL;rw[e10.1,e10.2] at h;exact h
theorem x11(A A2:Option Addr)(c2:Nat)(z:World)(hr:Reads z z.heap.size 4 A 3 (pgs mlP))(ho:Reads z z.heap.size 5 A2 15 (wgs mlA))(hL:Laid z):Calls Tryd.prog 39 #[.agg #[.slice A 3 3,.slice A2 15 c2],.int .i64 4,.int .i64 9] z fun e w'=>e = .returned (.tuple #[.agg #[.int .i64 0,.int .i64 0],.int .i64 6])∧Below z.heap.size z w':=by
 have h:=pSpan_any A A2 3 3 15 c2 mlP mlA 4 9 z (by unfold maxLen;omega) hr ho hL;rw[e11.1,e11.2] at h;exact h
theorem x12(A A2:Option Addr)(c2:Nat)(z:World)(hr:Reads z z.heap.size 4 A 3 (pgs mlP))(ho:Reads z z.heap.size 5 A2 15 (wgs mlA))(hL:Laid z):Calls Tryd.prog 39 #[.agg #[.slice A 3 3,.slice A2 15 c2],.int .i64 3,.int .i64 7] z fun e w'=>e = .returned (.tuple #[.agg #[.int .i64 0,.int .i64 0],.int .i64 2])∧Below z.heap.size z w':=by
 have h:=pSpan_any A A2 3 3 15 c2 mlP mlA 3 7 z (by unfold maxLen;omega) hr ho hL;rw[e12.1,e12.2] at h;exact h
theorem x13(A A2:Option Addr)(c2:Nat)(z:World)(hr:Reads z z.heap.size 4 A 3 (pgs mlP))(ho:Reads z z.heap.size 5 A2 15 (wgs mlB))(hL:Laid z):Calls Tryd.prog 39 #[.agg #[.slice A 3 3,.slice A2 15 c2],.int .i64 3,.int .i64 1] z fun e w'=>e = .returned (.tuple #[.agg #[.int .i64 0,.int .i64 0],.int .i64 8])∧Below z.heap.size z w':=by
 have h:=pSpan_any A A2 3 3 15 c2 mlP mlB 3 1 z (by unfold maxLen;omega) hr ho hL;rw[e13.1,e13.2] at h;exact h
theorem x14(A A2:Option Addr)(c2:Nat)(z:World)(hr:Reads z z.heap.size 4 A 3 (pgs mlP))(ho:Reads z z.heap.size 5 A2 15 (wgs mlB))(hL:Laid z):Calls Tryd.prog 16 #[.agg #[.slice A 3 3,.slice A2 15 c2]] z fun e w'=>(∃A1 m c1,e = .returned (.tuple #[.slice A1 m c1,.int .i64 8]))∧Below z.heap.size z w':=by
 have h:=pFirst_any A A2 3 3 15 c2 mlP mlB z (by unfold maxLen;omega) hr ho hL;rw[e14] at h;refine h.mono ?_;rintro e w' ⟨⟨A1,m,c1,rfl,hw⟩,hb⟩;exact⟨⟨A1,m,c1,rfl⟩,hb⟩
theorem x15(A A2:Option Addr)(c2:Nat)(z:World)(hr:Reads z z.heap.size 4 A 3 (pgs mlP))(ho:Reads z z.heap.size 5 A2 15 (wgs mlA))(hL:Laid z):Calls Tryd.prog 18 #[.agg #[.slice A 3 3,.slice A2 15 c2],.int .i64 6] z fun e w'=>e = .returned (.tuple #[.agg #[.int .i64 0,.int .i64 0],.int .i64 2])∧Below z.heap.size z w':=by
 have h:=pAll_any A A2 3 3 15 c2 mlP mlA 6 z (by unfold maxLen;omega) hr ho hL;rw[e15.1,e15.2] at h;exact h
theorem x16(A A2:Option Addr)(c2:Nat)(z:World)(hr:Reads z z.heap.size 4 A 3 (pgs mlP))(ho:Reads z z.heap.size 5 A2 15 (wgs mlB))(hL:Laid z):Calls Tryd.prog 19 #[.agg #[.slice A 3 3,.slice A2 15 c2],.int .i64 2] z fun e w'=>(∃A1 m c1,e = .returned (.tuple #[.slice A1 m c1,.int .i64 8]))∧Below z.heap.size z w':=by
 have h:=pProof_any A A2 3 3 15 c2 mlP mlB 2 z (by unfold maxLen;omega) hr ho hL;rw[e16] at h;refine h.mono ?_;rintro e w' ⟨⟨A1,m,c1,rfl,-⟩,hb⟩;exact⟨⟨A1,m,c1,rfl⟩,hb⟩
theorem x17(A A2:Option Addr)(z:World)(hr:Reads z z.heap.size 4 A 1 (pgs mlE1))(ho:Reads z z.heap.size 5 A2 1 (wgs mlE2))(hL:Laid z):Calls Tryd.prog 30 #[.agg #[.slice A 1 1,.slice A2 1 1],.int .i64 1] z fun e w'=>e = .returned (.tuple #[.agg #[.int .i64 0,.int .i64 0],.agg #[.int .i64 0,.int .i64 0],.int .i64 6])∧Below z.heap.size z w':=by
 have h:=pYield_any A A2 1 1 1 1 mlE1 mlE2 1 z (by unfold maxLen;omega) hr ho hL;rw[e17.1,e17.2.1,e17.2.2] at h;exact h
theorem x18(A A2:Option Addr)(c2:Nat)(z:World)(hr:Reads z z.heap.size 4 A 3 (pgs mlP))(ho:Reads z z.heap.size 5 A2 15 (wgs mlA))(hL:Laid z):Calls Tryd.prog 31 #[.agg #[.slice A 3 3,.slice A2 15 c2],.int .i64 3,.agg #[.int .i64 2,.int .i64 1]] z fun e w'=>e = .returned (.tuple #[.int .u8 0,.int .i64 2])∧Below z.heap.size z w':=by
 have h:=pLess_any A A2 3 3 15 c2 mlP mlA 3 2 1 z (by unfold maxLen;omega) hr ho hL;rw[e18.1,e18.2] at h;exact h
theorem x19(A A2:Option Addr)(c2:Nat)(z:World)(hr:Reads z z.heap.size 4 A 3 (pgs mlP))(ho:Reads z z.heap.size 5 A2 15 (wgs mlE))(hL:Laid z):Calls Tryd.prog 24 #[.agg #[.slice A 3 3,.slice A2 15 c2]] z fun e w'=>(∃A1 m c1,e = .returned (.tuple #[.int .i64 0,.slice A1 m c1,.int .i64 8]))∧Below z.heap.size z w':=by
 have h:=pGone_any A A2 3 3 15 c2 mlP mlE z (by unfold maxLen;omega) hr ho hL;rw[e19.1,e19.2] at h;refine h.mono ?_;rintro e w' ⟨⟨A1,m,c1,rfl,hm,hw⟩,hb⟩;exact⟨⟨A1,m,c1,rfl⟩,hb⟩
theorem x20(A A2:Option Addr)(c2:Nat)(z:World)(hr:Reads z z.heap.size 4 A 3 (pgs mlP))(ho:Reads z z.heap.size 5 A2 15 (wgs mlA))(hL:Laid z):Calls Tryd.prog 44 #[.agg #[.slice A 3 3,.slice A2 15 c2],.agg #[.int .i64 3,.int .i64 1,.int .i64 1,.int .i64 0,.int .i64 0]] z fun e w'=>(∃A1 n1 c1 A3 n2 c3,e = .returned (.tuple #[.agg #[.slice A1 n1 c1,.slice A3 n2 c3],.int .i64 21]))∧Below z.heap.size z w':=by
 have h:=weigh_any A A2 3 3 15 c2 mlP mlA (3,1,1,0,0) z (by unfold maxLen;omega) (by unfold maxLen;omega) hr ho hL
 skip
 refine h.mono ?_;rintro e w' ⟨⟨A1,n1,c1,A3,n2,c3,he,-,-⟩,hb⟩;exact⟨⟨A1,n1,c1,A3,n2,c3,by rw[he,e20]⟩,hb⟩
theorem x21(A A2:Option Addr)(c2:Nat)(z:World)(hr:Reads z z.heap.size 4 A 3 (pgs mlP))(ho:Reads z z.heap.size 5 A2 15 (wgs mlA))(hL:Laid z)(b:Nat)(hl:Reads z z.heap.size 1 (some ⟨b,0,none⟩) 1 (ints [16])):Calls Tryd.prog 37 #[.agg #[.slice A 3 3,.slice A2 15 c2],.slice (some ⟨b,0,none⟩) 1 1] z fun e w'=>(∃A1 n1 c1 A3 n2 c3,e = .returned (.tuple #[.agg #[.slice A1 n1 c1,.slice A3 n2 c3],.int .i64 21]))∧Below z.heap.size z w':=by
 have h:=strike_any A A2 3 3 15 c2 mlP mlA _ 1 1 [16] z (by unfold maxLen;omega) (by unfold maxLen;omega) (by omega) (fun x hx=>by simp at hx;subst hx;exact WalkArith.wf_i64 (by omega)) hr ho hl hL;refine h.mono ?_;rintro e w' ⟨⟨A1,n1,c1,A3,n2,c3,he,-,-⟩,hb⟩;exact⟨⟨A1,n1,c1,A3,n2,c3,by rw[he,e21]⟩,hb⟩
theorem x22(A A2:Option Addr)(c2:Nat)(z:World)(hr:Reads z z.heap.size 4 A 3 (pgs mlP))(ho:Reads z z.heap.size 5 A2 15 (wgs mlA))(hL:Laid z):Calls Tryd.prog 33 #[.agg #[.slice A 3 3,.slice A2 15 c2],.int .i64 3,.int .i64 1] z fun e w'=>(∃A1 n1 c1 A3 n2 c3,e = .returned (.tuple #[.agg #[.slice A1 n1 c1,.slice A3 n2 c3],.int .i64 22]))∧Below z.heap.size z w':=by
 have h:=lead_any A A2 3 3 15 c2 mlP mlA 3 1 z (by unfold maxLen;omega) (by unfold maxLen;omega) hr ho hL
 skip
 refine h.mono ?_;rintro e w' ⟨⟨A1,n1,c1,A3,n2,c3,he,-,-⟩,hb⟩;exact⟨⟨A1,n1,c1,A3,n2,c3,by rw[he,e22]⟩,hb⟩
theorem x23(A A2:Option Addr)(c2:Nat)(z:World)(hr:Reads z z.heap.size 4 A 3 (pgs mlP))(ho:Reads z z.heap.size 5 A2 15 (wgs mlA))(hL:Laid z):Calls Tryd.prog 33 #[.agg #[.slice A 3 3,.slice A2 15 c2],.int .i64 4,.int .i64 0] z fun e w'=>(∃A1 n1 c1 A3 n2 c3,e = .returned (.tuple #[.agg #[.slice A1 n1 c1,.slice A3 n2 c3],.int .i64 6]))∧Below z.heap.size z w':=by
 have h:=lead_any A A2 3 3 15 c2 mlP mlA 4 0 z (by unfold maxLen;omega) (by unfold maxLen;omega) hr ho hL
 skip
 refine h.mono ?_;rintro e w' ⟨⟨A1,n1,c1,A3,n2,c3,he,-,-⟩,hb⟩;exact⟨⟨A1,n1,c1,A3,n2,c3,by rw[he,e23]⟩,hb⟩
theorem x24(A A2:Option Addr)(c2:Nat)(z:World)(hr:Reads z z.heap.size 4 A 3 (pgs mlP))(ho:Reads z z.heap.size 5 A2 15 (wgs mlA))(hL:Laid z):Calls Tryd.prog 32 #[.agg #[.slice A 3 3,.slice A2 15 c2],.int .i64 4] z fun e w'=>(∃A1 m c1,e = .returned (.tuple #[.slice A1 m c1,.int .i64 6]))∧Below z.heap.size z w':=by
 have h:=pUnder_any A A2 3 3 15 c2 mlP mlA 4 z (by unfold maxLen;omega) hr ho hL;rw[e24] at h;refine h.mono ?_;rintro e w' ⟨⟨A1,m,c1,rfl,-⟩,hb⟩;exact⟨⟨A1,m,c1,rfl⟩,hb⟩
theorem x25(A A2:Option Addr)(c2:Nat)(z:World)(hr:Reads z z.heap.size 4 A 3 (pgs mlO))(ho:Reads z z.heap.size 5 A2 15 (wgs mlA))(hL:Laid z):Calls Tryd.prog 50 #[.agg #[.slice A 3 3,.slice A2 15 c2]] z fun e w'=>e = .returned (.int .i64 20)∧Below z.heap.size z w':=by
 have h:=Check_any A A2 3 3 15 c2 mlO mlA z hr ho hL;rw[e25.1] at h;exact h
theorem x26(A A2:Option Addr)(c2:Nat)(z:World)(hr:Reads z z.heap.size 4 A 3 (pgs mlP))(ho:Reads z z.heap.size 5 A2 15 (wgs mlA))(hL:Laid z):Calls Tryd.prog 50 #[.agg #[.slice A 3 3,.slice A2 15 c2]] z fun e w'=>e = .returned (.int .i64 0)∧Below z.heap.size z w':=by
 have h:=Check_any A A2 3 3 15 c2 mlP mlA z hr ho hL;rw[e25.2] at h;exact h
end Go.Proofs.YtfplipbkjglmhaaDoor
