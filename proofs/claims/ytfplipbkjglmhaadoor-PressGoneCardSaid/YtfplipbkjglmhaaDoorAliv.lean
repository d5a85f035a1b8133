/-
 The verifier's own examples on presses all come out as they should.
-/
import Derived.Test.YtfplipbkjglmhaaDoorTq
import Derived.Test.YtfplipbkjglmhaaDoorChg
import Derived.Test.YtfplipbkjglmhaaDoorPAll
import Derived.Test.YtfplipbkjglmhaaDoorPLs
import Derived.Test.YtfplipbkjglmhaaDoorPRs
import Derived.Test.YtfplipbkjglmhaaDoorPGon
import Derived.Test.YtfplipbkjglmhaaDoorPPf
import Derived.Test.YtfplipbkjglmhaaDoorUnd
import Derived.Test.YtfplipbkjglmhaaDoorSmW
import Derived.Test.YtfplipbkjglmhaaDoorSameM
namespace Go.Proofs.YtfplipbkjglmhaaDoor
open Go.RowKit
set_option linter.unusedVariables false
set_option linter.unusedSimpArgs false
theorem v1:spanE mlP mlA 1 6=(60,110)∧askE mlP mlA 1 6=0:=by decide +kernel
theorem v2:inE mlP mlA 3=(105,150)∧askE mlP mlA 3 1=0:=by decide +kernel
theorem v3:allS mlP mlA 5=(60,110)∧allE mlP mlA 5=0:=by decide +kernel
theorem v4:(firS mlP mlA).map (fun f=>[f 0,f 1,f 2,f 3,f 4,f 5,f 6,f 7]) = [[1,0,1000,290,500,40,60,110],[2,0,600,180,310,30,40,40],[3,0,0,40,90,10,10,0]]∧firE mlP mlA=0:=by decide +kernel
theorem v4w:wds (firS mlP mlA) = [.int .i64 1,.int .i64 0,.int .i64 1000,.int .i64 290,.int .i64 500,.int .i64 40,.int .i64 60,.int .i64 110,.int .i64 2,.int .i64 0,.int .i64 600,.int .i64 180,.int .i64 310,.int .i64 30,.int .i64 40,.int .i64 40,.int .i64 3,.int .i64 0,.int .i64 0,.int .i64 40,.int .i64 90,.int .i64 10,.int .i64 10,.int .i64 0]:=by
 have h (l:List (Nat→Int)):wds l=(l.map (fun f=>[f 0,f 1,f 2,f 3,f 4,f 5,f 6,f 7])).flatMap fun x=>x.map (Value.int .i64):=by
  unfold wds;rw[List.flatMap_map];rfl
 rw[h,v4.1];rfl
theorem v5:yldA mlP mlA 3=(3,14)∧yldB mlP mlA 3=(8,23)∧yldE mlP mlA 3=0:=by decide +kernel
theorem v6:lesK mlP mlA 3 1 4=1∧lesE mlP mlA 3 1 4=0:=by decide +kernel
theorem v7:rstL mlP mlA 1 6 = [1,2,3,4,5,6,7,8,9,10,12,13,14,15]:=by decide +kernel
theorem v8:gonS mlP mlB=20∧gonL mlP mlB = [(3,20)]∧gonE mlP mlB=0:=by decide +kernel
theorem v9:falL mlP mlB = [1]∧falE mlP mlB=0:=by decide +kernel
theorem v10:allS mlP mlC 2=(490,615)∧allE mlP mlC 2=0:=by decide +kernel
theorem v11:prpL mlP mlC 2 = [1,2,3]:=by decide +kernel
theorem v12:undS mlP mlA 3 = [1,2]∧undE mlP mlA 3=0:=by decide +kernel
theorem v13:(validP mlP mlB && hasT mlP mlB)=false∧checkS mlP mlB=0:=by decide +kernel
theorem q1(A A2:Option Addr)(c2:Nat)(z:World)(hr:Reads z z.heap.size 4 A 3 (pgs mlP))(ho:Reads z z.heap.size 5 A2 15 (wgs mlA))(hL:Laid z):Calls Tryd.prog 39 #[.agg #[.slice A 3 3,.slice A2 15 c2],.int .i64 1,.int .i64 6] z fun e w'=>e = .returned (.tuple #[.agg #[.int .i64 60,.int .i64 110],.int .i64 0])∧Below z.heap.size z w':=by
 have h:=pSpan_any A A2 3 3 15 c2 mlP mlA 1 6 z (by unfold maxLen;omega) hr ho hL;rw[v1.1,v1.2] at h;exact h
theorem q2(A A2:Option Addr)(c2:Nat)(z:World)(hr:Reads z z.heap.size 4 A 3 (pgs mlP))(ho:Reads z z.heap.size 5 A2 15 (wgs mlA))(hL:Laid z):Calls Tryd.prog 41 #[.agg #[.slice A 3 3,.slice A2 15 c2],.int .i64 3] z fun e w'=>e = .returned (.tuple #[.agg #[.int .i64 105,.int .i64 150],.int .i64 0])∧Below z.heap.size z w':=by
 have h:=pIn_any A A2 3 3 15 c2 mlP mlA 3 z (by unfold maxLen;omega) hr ho hL;rw[v2.1,v2.2] at h;exact h
theorem q3(A A2:Option Addr)(c2:Nat)(z:World)(hr:Reads z z.heap.size 4 A 3 (pgs mlP))(ho:Reads z z.heap.size 5 A2 15 (wgs mlA))(hL:Laid z):Calls Tryd.prog 18 #[.agg #[.slice A 3 3,.slice A2 15 c2],.int .i64 5] z fun e w'=>e = .returned (.tuple #[.agg #[.int .i64 60,.int .i64 110],.int .i64 0])∧Below z.heap.size z w':=by
 have h:=pAll_any A A2 3 3 15 c2 mlP mlA 5 z (by unfold maxLen;omega) hr ho hL;rw[v3.1,v3.2] at h;exact h
theorem q4(A A2:Option Addr)(c2:Nat)(z:World)(hr:Reads z z.heap.size 4 A 3 (pgs mlP))(ho:Reads z z.heap.size 5 A2 15 (wgs mlA))(hL:Laid z):Calls Tryd.prog 16 #[.agg #[.slice A 3 3,.slice A2 15 c2]] z fun e w'=>(∃A1 c1,e = .returned (.tuple #[.slice A1 3 c1,.int .i64 0])∧Reads w' w'.heap.size 8 A1 3 (wds (firS mlP mlA)))∧Below z.heap.size z w':=by
 have h:=pFirst_any A A2 3 3 15 c2 mlP mlA z (by unfold maxLen;omega) hr ho hL;rw[v4.2] at h;refine h.mono ?_;rintro e w' ⟨⟨A1,m,c1,rfl,hw⟩,hb⟩;have hl:=hw.1;rw[v4w] at hl;obtain rfl:m=3:=by simp at hl;omega
 exact⟨⟨A1,c1,rfl,Reads.of_own hw⟩,hb⟩
theorem q5(A A2:Option Addr)(c2:Nat)(z:World)(hr:Reads z z.heap.size 4 A 3 (pgs mlP))(ho:Reads z z.heap.size 5 A2 15 (wgs mlA))(hL:Laid z):Calls Tryd.prog 30 #[.agg #[.slice A 3 3,.slice A2 15 c2],.int .i64 3] z fun e w'=>e = .returned (.tuple #[.agg #[.int .i64 3,.int .i64 14],.agg #[.int .i64 8,.int .i64 23],.int .i64 0])∧Below z.heap.size z w':=by
 have h:=pYield_any A A2 3 3 15 c2 mlP mlA 3 z (by unfold maxLen;omega) hr ho hL;rw[v5.1,v5.2.1,v5.2.2] at h;exact h
theorem q6(A A2:Option Addr)(c2:Nat)(z:World)(hr:Reads z z.heap.size 4 A 3 (pgs mlP))(ho:Reads z z.heap.size 5 A2 15 (wgs mlA))(hL:Laid z):Calls Tryd.prog 31 #[.agg #[.slice A 3 3,.slice A2 15 c2],.int .i64 3,.agg #[.int .i64 1,.int .i64 4]] z fun e w'=>e = .returned (.tuple #[.int .u8 1,.int .i64 0])∧Below z.heap.size z w':=by
 have h:=pLess_any A A2 3 3 15 c2 mlP mlA 3 1 4 z (by unfold maxLen;omega) hr ho hL;rw[v6.1,v6.2] at h;exact h
theorem q7(A A2:Option Addr)(c2:Nat)(z:World)(hr:Reads z z.heap.size 4 A 3 (pgs mlP))(ho:Reads z z.heap.size 5 A2 15 (wgs mlA))(hL:Laid z):Calls Tryd.prog 38 #[.agg #[.slice A 3 3,.slice A2 15 c2],.int .i64 1,.int .i64 6] z fun e w'=>(∃A1 m c1,e = .returned (.tuple #[.slice A1 m c1,.int .i64 0])∧m≤30∧Reads w' w'.heap.size 1 A1 m (ints [1,2,3,4,5,6,7,8,9,10,12,13,14,15]))∧Below z.heap.size z w':=by
 have h:=pRests_any A A2 3 3 15 c2 mlP mlA 1 6 z (by unfold maxLen;omega) hr ho hL;rw[v7,v1.2] at h;exact h
theorem q8(A A2:Option Addr)(c2:Nat)(z:World)(hr:Reads z z.heap.size 4 A 3 (pgs mlP))(ho:Reads z z.heap.size 5 A2 15 (wgs mlB))(hL:Laid z):Calls Tryd.prog 24 #[.agg #[.slice A 3 3,.slice A2 15 c2]] z fun e w'=>(∃A1 m c1,e = .returned (.tuple #[.int .i64 20,.slice A1 m c1,.int .i64 0])∧m≤10∧Reads w' w'.heap.size 2 A1 m (mss [(3,20)]))∧Below z.heap.size z w':=by
 have h:=pGone_any A A2 3 3 15 c2 mlP mlB z (by unfold maxLen;omega) hr ho hL;rw[v8.1,v8.2.1,v8.2.2] at h;exact h
theorem q9(A A2:Option Addr)(c2:Nat)(z:World)(hr:Reads z z.heap.size 4 A 3 (pgs mlP))(ho:Reads z z.heap.size 5 A2 15 (wgs mlB))(hL:Laid z):Calls Tryd.prog 36 #[.agg #[.slice A 3 3,.slice A2 15 c2]] z fun e w'=>(∃A1 m c1,e = .returned (.tuple #[.slice A1 m c1,.int .i64 0])∧m≤3∧Reads w' w'.heap.size 1 A1 m (ints [1]))∧Below z.heap.size z w':=by
 have h:=pFalse_any A A2 3 3 15 c2 mlP mlB z hr ho hL;rw[v9.1,v9.2] at h;exact h
theorem q10(A A2:Option Addr)(c2:Nat)(z:World)(hr:Reads z z.heap.size 4 A 3 (pgs mlP))(ho:Reads z z.heap.size 5 A2 15 (wgs mlC))(hL:Laid z):Calls Tryd.prog 18 #[.agg #[.slice A 3 3,.slice A2 15 c2],.int .i64 2] z fun e w'=>e = .returned (.tuple #[.agg #[.int .i64 490,.int .i64 615],.int .i64 0])∧Below z.heap.size z w':=by
 have h:=pAll_any A A2 3 3 15 c2 mlP mlC 2 z (by unfold maxLen;omega) hr ho hL;rw[v10.1,v10.2] at h;exact h
theorem q11(A A2:Option Addr)(c2:Nat)(z:World)(hr:Reads z z.heap.size 4 A 3 (pgs mlP))(ho:Reads z z.heap.size 5 A2 15 (wgs mlC))(hL:Laid z):Calls Tryd.prog 19 #[.agg #[.slice A 3 3,.slice A2 15 c2],.int .i64 2] z fun e w'=>(∃A1 m c1,e = .returned (.tuple #[.slice A1 m c1,.int .i64 0])∧m≤10∧Reads w' w'.heap.size 1 A1 m (ints [1,2,3]))∧Below z.heap.size z w':=by
 have h:=pProof_any A A2 3 3 15 c2 mlP mlC 2 z (by unfold maxLen;omega) hr ho hL;rw[v11,v10.2] at h;exact h
theorem q12(A A2:Option Addr)(c2:Nat)(z:World)(hr:Reads z z.heap.size 4 A 3 (pgs mlP))(ho:Reads z z.heap.size 5 A2 15 (wgs mlA))(hL:Laid z):Calls Tryd.prog 32 #[.agg #[.slice A 3 3,.slice A2 15 c2],.int .i64 3] z fun e w'=>(∃A1 c1,e = .returned (.tuple #[.slice A1 2 c1,.int .i64 0])∧Reads w' w'.heap.size 1 A1 2 (ints [1,2]))∧Below z.heap.size z w':=by
 have h:=pUnder_any A A2 3 3 15 c2 mlP mlA 3 z (by unfold maxLen;omega) hr ho hL;rw[v12.1,v12.2] at h;refine h.mono ?_;rintro e w' ⟨⟨A1,m,c1,rfl,hw⟩,hb⟩;obtain rfl:m=2:=by have:=hw.1;simp at this;omega
 exact⟨⟨A1,c1,rfl,Reads.of_own hw⟩,hb⟩
theorem q13(A A2:Option Addr)(c2:Nat)(z:World)(hr:Reads z z.heap.size 4 A 3 (pgs mlP))(ho:Reads z z.heap.size 5 A2 15 (wgs mlB))(hL:Laid z):Calls Tryd.prog 25 #[.agg #[.slice A 3 3,.slice A2 15 c2]] z fun e w'=>e = .returned (.tuple #[.bool false,.int .i64 0])∧Below z.heap.size z w':=by
 have h:=pHolds_any A A2 3 3 15 c2 mlP mlB z hr ho hL;rw[v13.1,v13.2] at h;exact h
theorem wgd1(A:Option Addr)(c:Nat)(w:World)(hR:Reads w w.heap.size 1 A 6 (ints [1000,290,500,40,60,110])) :
  Calls Tryd.prog 52 #[.int .i64 1,.slice A 6 c] w fun e w'=>e = .returned (.agg #[.int .i64 1,.int .i64 0,.int .i64 1000,.int .i64 290,.int .i64 500,.int .i64 40,.int .i64 60,.int .i64 110])∧Below w.heap.size w w':=weighed_any A c 1 [1000,290,500,40,60,110] w hR
theorem wgd2(A:Option Addr)(c:Nat)(w:World)(hR:Reads w w.heap.size 1 A 6 (ints [600,180,310,30,40,40])) :
  Calls Tryd.prog 52 #[.int .i64 2,.slice A 6 c] w fun e w'=>e = .returned (.agg #[.int .i64 2,.int .i64 0,.int .i64 600,.int .i64 180,.int .i64 310,.int .i64 30,.int .i64 40,.int .i64 40])∧Below w.heap.size w w':=weighed_any A c 2 [600,180,310,30,40,40] w hR
theorem wgd3(A:Option Addr)(c:Nat)(w:World)(hR:Reads w w.heap.size 1 A 6 (ints [0,40,90,10,10,0])) :
  Calls Tryd.prog 52 #[.int .i64 3,.slice A 6 c] w fun e w'=>e = .returned (.agg #[.int .i64 3,.int .i64 0,.int .i64 0,.int .i64 40,.int .i64 90,.int .i64 10,.int .i64 10,.int .i64 0])∧Below w.heap.size w w':=weighed_any A c 3 [0,40,90,10,10,0] w hR
theorem Ec(x v:Value)(l:List Value):(x::l).set 0 v=v::l:=rfl
theorem Ed(x v:Value)(l:List Value)(n:Nat):(x::l).set (n+1) v=x::l.set n v:=rfl
theorem putE(l:List Value)(df:List Deferred)(d:Nat)(v:Value):Act.put { tmps:=l.toArray,defers:=df } (some d) v = { tmps:=(l.set d v).toArray,defers:=df }:=by simp[Act.put]
def upto (n k:Nat):Array Bool:=((List.range n).map fun i=>i.blt k).toArray
theorem upto_set{n k:Nat}(h:k<n):(upto n k).setIfInBounds k true=upto n (k+1):=by
 apply Array.ext_getElem?
 intro i;simp only[upto,List.setIfInBounds_toArray,List.getElem?_toArray,List.getElem?_set,List.getElem?_map,List.length_map,List.length_range];by_cases e:k=i
 ·subst e;simp[h,Nat.blt]
 ·rw[if_neg e];by_cases hi:i<n
  ·simp only[List.getElem?_range hi,Option.map_some,Option.some.injEq];rw[Bool.eq_iff_iff];simp only[Nat.blt_eq];omega
  ·simp[List.getElem?_eq_none (l:=List.range n) (i:=i) (by simpa using hi)]
section
variable {P:Program} {ops:Array Oper} {Q:Exit→Act→World→Prop} {md:Region.Mode} {S:World→Prop}
theorem tU(i j d:Nat){n:Nat}{oi:Oper}{v:Value}{fuel:Nat}{l:List Value}{df:List Deferred}{w:World}
  (hy:∀w,S w→(execOp (Act.eval { tmps:=l.toArray,defers:=df }) oi).run P w = .ok (.value v) w) (h:wpAnyH P md ops Q S fuel (upto n j) { tmps:=(l.set d v).toArray,defers:=df } w)
  (hi:ops[i]? = some oi:=by exact rfl) (hd:oi.dst=some d:=by exact rfl) (hs:Region.noSelect ops=true:=by as_aux_lemma=>kernel_rfl) (hf:Region.free md ops (upto n i) i=true:=by as_aux_lemma=>kernel_rfl) (hr:(Region.ready md ops (upto n i)).contains i=true:=by as_aux_lemma=>kernel_rfl)
  (hQ:∀c a w,Q (.panic c) (a.put oi.dst v) w→Q (.panic c) a w:=by exact fun _ _ _ h=>h) (hw:Region.wanted oi (yielded ops l.toArray)=true:=by kernel_rfl) (hj:j=i+1:=by exact rfl) (hn:i<n:=by decide) (hS:S w:=by assumption):wpAnyH P md ops Q S (fuel+1) (upto n i) { tmps:=l.toArray,defers:=df } w:=
 tY i d hy (by subst hj;rw[putE,upto_set hn];exact h) hi hd hs hf hr hQ hw hS
theorem uS(i j:Nat){n fuel:Nat}{a:Act}{w:World}(h:wpAnyH P md ops Q S fuel (upto n j) a w)(hj:j=i+1:=by exact rfl)(hn:i<n:=by decide):wpAnyH P md ops Q S fuel ((upto n i).setIfInBounds i true) a w:=by
 subst hj;rw[upto_set hn];exact h
theorem u0(n:Nat){m fuel:Nat}{a:Act}{w:World}(h:wpAnyH P md ops Q S fuel (upto n 0) a w)(hm:m=n:=by exact rfl):wpAnyH P md ops Q S fuel (Array.replicate m false) a w:=by
 subst hm;have e:Array.replicate m false=upto m 0:=by
  apply Array.ext_getElem?
  intro i;have hz:i.blt 0=false:=rfl;by_cases hi:i<m
  ·simp[upto,Array.getElem?_replicate,hi,hz]
  ·simp[upto,Array.getElem?_replicate,hi]
 rw[e];exact h
theorem pL(d:Nat){v:Value}{fuel:Nat}{listed:Array Bool}{l:List Value}{df:List Deferred}{w:World}(h:wpAnyH P md ops Q S fuel listed { tmps:=(l.set d v).toArray,defers:=df } w) :
  wpAnyH P md ops Q S fuel listed (Act.put { tmps:=l.toArray,defers:=df } (some d) v) w:=by rw[putE];exact h
end
def putL (a:Act) (l:List (Nat×Value)):Act:=l.foldl (fun a p=>a.put (some p.1) p.2) a
def lstL (l:Array Bool) (is:List Nat):Array Bool:=is.foldl (fun l i=>l.setIfInBounds i true) l
/-- Where some orders of a region meet again. -/
theorem via{P:Program}{ops:Array Oper}{Q:Exit→Act→World→Prop}{md:Region.Mode}{S:World→Prop}{fuel fuel':Nat}{listed:Array Bool}{a:Act}{w:World}(C:List (Nat×Value)→World→Prop)(is:List Nat)
  (h1:(∀a' l y lst,lst=lstL listed is→a'=putL a l→C l y→S y→wpAnyH P md ops Q S fuel' lst a' y)→wpAnyH P md ops Q S fuel listed a w)
  (h2:∀l y,C l y→S y→wpAnyH P md ops Q S fuel' (lstL listed is) (putL a l) y):wpAnyH P md ops Q S fuel listed a w:=
 h1 fun a' l y lst e e' hc hs=>by subst e;subst e';exact h2 l y hc hs
set_option maxRecDepth 100000 in
set_option maxHeartbeats 60000000 in
theorem alive_any(w:World)(hL:Laid w):Calls Tryd.prog 14 #[] w fun e w'=>e = .returned (.bool true)∧Below w.heap.size w w':=by
 have gEq:Tryd.prog.eqGuardType Tryd.prog.depth 36=false:=by kernel_rfl
 have gEq2:Tryd.prog.eqGuardType Tryd.prog.depth 68=false:=by kernel_rfl
 have HF:=Lib.hid (fun y (hy:Below w.heap.size w y)=>And.intro (hL.below hy hL.2.2.2) hy);clear hL
 go_enter Tryd.func14,Tryd.ntmps14
 go_wp2_with fail
 refine(mill_rd w).mono ?_;rintro e z1 ⟨⟨A,A2,c2,rfl,hr,ho⟩,hb⟩;have HM:=Lib.hid (fun y (hy:Below z1.heap.size z1 y)=>And.intro ((hr.below hy).more hy.size) ((ho.below hy).more hy.size));replace HF:=Lib.hid (fun y (hy:Below z1.heap.size z1 y)=>HF.out y (below_of hb hy));clear hb hr ho;go_wp2_with fail
 refine(q1 A A2 c2 z1 (HM.out z1 (Below.refl _ _)).1 (HM.out z1 (Below.refl _ _)).2 (HF.out z1 (Below.refl _ _)).1).mono ?_;rintro e z2 ⟨rfl,hb⟩;replace HF:=Lib.hid (fun y (hy:Below z2.heap.size z2 y)=>HF.out y (below_of hb hy));clear hb HM;obtain⟨z3,hz3_⟩:∃y,y=z2.alloc (.cells #[.int .i64 60,.int .i64 110] 36):=⟨_,rfl⟩;have hb:Below z2.heap.size z2 z3:=by rw[hz3_];exact(Below.refl _ _).alloc (Nat.le_refl _) _
 have ho_:z3.heap[z2.heap.size]? = some (.cells #[.int .i64 60,.int .i64 110] 36 (0,0)):=by rw[hz3_];exact heap_alloc_new _ _
 replace HF:=Lib.hid (fun y (hy:Below z3.heap.size z3 y)=>And.intro (keepO hy ho_) (HF.out y (below_of hb hy)));have hz3:=Lib.hid hz3_;clear hb ho_ hz3_;go_wp2_with fail
 rw[←hz3.out];clear hz3;refine(mill_rd z3).mono ?_;rintro e z4 ⟨⟨A,A2,c2,rfl,hr,ho⟩,hb⟩;have HM:=Lib.hid (fun y (hy:Below z4.heap.size z4 y)=>And.intro ((hr.below hy).more hy.size) ((ho.below hy).more hy.size));replace HF:=Lib.hid (fun y (hy:Below z4.heap.size z4 y)=>HF.out y (below_of hb hy));clear hb hr ho;go_wp2_with fail
 refine(q2 A A2 c2 z4 (HM.out z4 (Below.refl _ _)).1 (HM.out z4 (Below.refl _ _)).2 (HF.out z4 (Below.refl _ _)).2.1).mono ?_;rintro e z5 ⟨rfl,hb⟩;replace HF:=Lib.hid (fun y (hy:Below z5.heap.size z5 y)=>HF.out y (below_of hb hy));clear hb HM;obtain⟨z6,hz6_⟩:∃y,y=z5.alloc (.cells #[.int .i64 105,.int .i64 150] 36):=⟨_,rfl⟩;have hb:Below z5.heap.size z5 z6:=by rw[hz6_];exact(Below.refl _ _).alloc (Nat.le_refl _) _
 have ho_:z6.heap[z5.heap.size]? = some (.cells #[.int .i64 105,.int .i64 150] 36 (0,0)):=by rw[hz6_];exact heap_alloc_new _ _
 replace HF:=Lib.hid (fun y (hy:Below z6.heap.size z6 y)=>And.intro (keepO hy ho_) (HF.out y (below_of hb hy)));have hz6:=Lib.hid hz6_;clear hb ho_ hz6_;go_wp2_with fail
 rw[←hz6.out];clear hz6;refine(mill_rd z6).mono ?_;rintro e z7 ⟨⟨A,A2,c2,rfl,hr,ho⟩,hb⟩;have HM:=Lib.hid (fun y (hy:Below z7.heap.size z7 y)=>And.intro ((hr.below hy).more hy.size) ((ho.below hy).more hy.size));replace HF:=Lib.hid (fun y (hy:Below z7.heap.size z7 y)=>HF.out y (below_of hb hy));clear hb hr ho;go_wp2_with fail
 refine(q3 A A2 c2 z7 (HM.out z7 (Below.refl _ _)).1 (HM.out z7 (Below.refl _ _)).2 (HF.out z7 (Below.refl _ _)).2.2.1).mono ?_;rintro e z8 ⟨rfl,hb⟩;replace HF:=Lib.hid (fun y (hy:Below z8.heap.size z8 y)=>HF.out y (below_of hb hy));clear hb HM;obtain⟨z9,hz9_⟩:∃y,y=z8.alloc (.cells #[.int .i64 60,.int .i64 110] 36):=⟨_,rfl⟩;have hb:Below z8.heap.size z8 z9:=by rw[hz9_];exact(Below.refl _ _).alloc (Nat.le_refl _) _
 have ho_:z9.heap[z8.heap.size]? = some (.cells #[.int .i64 60,.int .i64 110] 36 (0,0)):=by rw[hz9_];exact heap_alloc_new _ _
 replace HF:=Lib.hid (fun y (hy:Below z9.heap.size z9 y)=>And.intro (keepO hy ho_) (HF.out y (below_of hb hy)));have hz9:=Lib.hid hz9_;clear hb ho_ hz9_;go_wp2_with fail
 rw[←hz9.out];clear hz9;refine(mill_rd z9).mono ?_;rintro e z10 ⟨⟨A,A2,c2,rfl,hr,ho⟩,hb⟩;have HM:=Lib.hid (fun y (hy:Below z10.heap.size z10 y)=>And.intro ((hr.below hy).more hy.size) ((ho.below hy).more hy.size));replace HF:=Lib.hid (fun y (hy:Below z10.heap.size z10 y)=>HF.out y (below_of hb hy));clear hb hr ho;go_wp2_with fail
 refine(q4 A A2 c2 z10 (HM.out z10 (Below.refl _ _)).1 (HM.out z10 (Below.refl _ _)).2 (HF.out z10 (Below.refl _ _)).2.2.2.1).mono ?_;rintro e z11 ⟨⟨A4,c4,rfl,hq⟩,hb⟩;replace HF:=Lib.hid (fun y (hy:Below z11.heap.size z11 y)=>And.intro ((hq.below hy).more hy.size) (HF.out y (below_of hb hy)));clear hb HM hq;go_wp2_with fail
 refine(mill_rd z11).mono ?_;rintro e z12 ⟨⟨A,A2,c2,rfl,hr,ho⟩,hb⟩;have HM:=Lib.hid (fun y (hy:Below z12.heap.size z12 y)=>And.intro ((hr.below hy).more hy.size) ((ho.below hy).more hy.size));replace HF:=Lib.hid (fun y (hy:Below z12.heap.size z12 y)=>HF.out y (below_of hb hy));clear hb hr ho;go_wp2_with fail
 refine(q5 A A2 c2 z12 (HM.out z12 (Below.refl _ _)).1 (HM.out z12 (Below.refl _ _)).2 (HF.out z12 (Below.refl _ _)).2.2.2.2.1).mono ?_;rintro e z13 ⟨rfl,hb⟩;replace HF:=Lib.hid (fun y (hy:Below z13.heap.size z13 y)=>HF.out y (below_of hb hy));clear hb HM;obtain⟨z14,hz14_⟩:∃y,y=(z13.alloc (.cells #[.int .i64 3,.int .i64 14] 68)).alloc (.cells #[.int .i64 8,.int .i64 23] 68):=⟨_,rfl⟩;have hb:Below z13.heap.size z13 z14:=by rw[hz14_];exact((Below.refl _ _).alloc (Nat.le_refl _) _).alloc (by simp) _
 have ho_:z14.heap[z13.heap.size]? = some (.cells #[.int .i64 3,.int .i64 14] 68 (0,0)):=by rw[hz14_,heap_lt_alloc' _ _ _ (by simp)];exact heap_alloc_new _ _
 have ho2_:z14.heap[z13.heap.size+1]? = some (.cells #[.int .i64 8,.int .i64 23] 68 (0,0)):=by rw[hz14_];have:=heap_alloc_new (z13.alloc (.cells #[.int .i64 3,.int .i64 14] 68)) (.cells #[.int .i64 8,.int .i64 23] 68);simpa using this
 replace HF:=Lib.hid (fun y (hy:Below z14.heap.size z14 y)=>And.intro (keepO hy ho_) (HF.out y (below_of hb hy)));replace HF:=Lib.hid (fun y (hy:Below z14.heap.size z14 y)=>And.intro (keepO hy ho2_) (HF.out y hy));have hz14:=Lib.hid hz14_;clear hb ho_ ho2_ hz14_;go_wp2_with fail
 rw[←hz14.out];clear hz14;refine(mill_rd z14).mono ?_;rintro e z15 ⟨⟨A,A2,c2,rfl,hr,ho⟩,hb⟩;have HM:=Lib.hid (fun y (hy:Below z15.heap.size z15 y)=>And.intro ((hr.below hy).more hy.size) ((ho.below hy).more hy.size));replace HF:=Lib.hid (fun y (hy:Below z15.heap.size z15 y)=>HF.out y (below_of hb hy));clear hb hr ho;go_wp2_with fail
 refine(part_mk 1 4 z15).mono ?_;rintro e z16 ⟨rfl,hb⟩;replace HM:=Lib.hid (fun y (hy:Below z16.heap.size z16 y)=>HM.out y (below_of hb hy));replace HF:=Lib.hid (fun y (hy:Below z16.heap.size z16 y)=>HF.out y (below_of hb hy));clear hb;go_wp2_with fail
 refine(q6 A A2 c2 z16 (HM.out z16 (Below.refl _ _)).1 (HM.out z16 (Below.refl _ _)).2 (HF.out z16 (Below.refl _ _)).2.2.2.2.2.2.1).mono ?_;rintro e z17 ⟨rfl,hb⟩;replace HF:=Lib.hid (fun y (hy:Below z17.heap.size z17 y)=>HF.out y (below_of hb hy));clear hb HM;go_wp2_with fail
 refine(mill_rd z17).mono ?_;rintro e z18 ⟨⟨A,A2,c2,rfl,hr,ho⟩,hb⟩;have HM:=Lib.hid (fun y (hy:Below z18.heap.size z18 y)=>And.intro ((hr.below hy).more hy.size) ((ho.below hy).more hy.size));replace HF:=Lib.hid (fun y (hy:Below z18.heap.size z18 y)=>HF.out y (below_of hb hy));clear hb hr ho;go_wp2_with fail
 refine(q7 A A2 c2 z18 (HM.out z18 (Below.refl _ _)).1 (HM.out z18 (Below.refl _ _)).2 (HF.out z18 (Below.refl _ _)).2.2.2.2.2.2.1).mono ?_;rintro e z19 ⟨⟨A7,m7,c7,rfl,hm7,hq⟩,hb⟩;replace HF:=Lib.hid (fun y (hy:Below z19.heap.size z19 y)=>And.intro ((hq.below hy).more hy.size) (HF.out y (below_of hb hy)));clear hb HM hq;go_wp2_with fail
 refine(changed13 z19).mono ?_;rintro e z20 ⟨⟨A,A2,c2,rfl,hr,ho⟩,hb⟩;have HM:=Lib.hid (fun y (hy:Below z20.heap.size z20 y)=>And.intro ((hr.below hy).more hy.size) ((ho.below hy).more hy.size));replace HF:=Lib.hid (fun y (hy:Below z20.heap.size z20 y)=>HF.out y (below_of hb hy));clear hb hr ho;go_wp2_with fail
 refine(q8 A A2 c2 z20 (HM.out z20 (Below.refl _ _)).1 (HM.out z20 (Below.refl _ _)).2 (HF.out z20 (Below.refl _ _)).2.2.2.2.2.2.2.1).mono ?_;rintro e z21 ⟨⟨A8,m8,c8,rfl,hm8,hq⟩,hb⟩;replace HF:=Lib.hid (fun y (hy:Below z21.heap.size z21 y)=>And.intro ((hq.below hy).more hy.size) (HF.out y (below_of hb hy)));clear hb HM hq;go_wp2_with fail
 refine(changed13 z21).mono ?_;rintro e z22 ⟨⟨A,A2,c2,rfl,hr,ho⟩,hb⟩;have HM:=Lib.hid (fun y (hy:Below z22.heap.size z22 y)=>And.intro ((hr.below hy).more hy.size) ((ho.below hy).more hy.size));replace HF:=Lib.hid (fun y (hy:Below z22.heap.size z22 y)=>HF.out y (below_of hb hy));clear hb hr ho;go_wp2_with fail
 refine(q9 A A2 c2 z22 (HM.out z22 (Below.refl _ _)).1 (HM.out z22 (Below.refl _ _)).2 (HF.out z22 (Below.refl _ _)).2.2.2.2.2.2.2.2.1).mono ?_;rintro e z23 ⟨⟨A9,m9,c9,rfl,hm9,hq⟩,hb⟩;replace HF:=Lib.hid (fun y (hy:Below z23.heap.size z23 y)=>And.intro ((hq.below hy).more hy.size) (HF.out y (below_of hb hy)));clear hb HM hq;go_wp2_with fail
 refine(changed12 z23).mono ?_;rintro e z24 ⟨⟨A,A2,c2,rfl,hr,ho⟩,hb⟩;have HM:=Lib.hid (fun y (hy:Below z24.heap.size z24 y)=>And.intro ((hr.below hy).more hy.size) ((ho.below hy).more hy.size));replace HF:=Lib.hid (fun y (hy:Below z24.heap.size z24 y)=>HF.out y (below_of hb hy));clear hb hr ho;go_wp2_with fail
 refine(q10 A A2 c2 z24 (HM.out z24 (Below.refl _ _)).1 (HM.out z24 (Below.refl _ _)).2 (HF.out z24 (Below.refl _ _)).2.2.2.2.2.2.2.2.2.1).mono ?_;rintro e z25 ⟨rfl,hb⟩;replace HF:=Lib.hid (fun y (hy:Below z25.heap.size z25 y)=>HF.out y (below_of hb hy));clear hb HM;obtain⟨z26,hz26_⟩:∃y,y=z25.alloc (.cells #[.int .i64 490,.int .i64 615] 36):=⟨_,rfl⟩;have hb:Below z25.heap.size z25 z26:=by rw[hz26_];exact(Below.refl _ _).alloc (Nat.le_refl _) _
 have ho_:z26.heap[z25.heap.size]? = some (.cells #[.int .i64 490,.int .i64 615] 36 (0,0)):=by rw[hz26_];exact heap_alloc_new _ _
 replace HF:=Lib.hid (fun y (hy:Below z26.heap.size z26 y)=>And.intro (keepO hy ho_) (HF.out y (below_of hb hy)));have hz26:=Lib.hid hz26_;clear hb ho_ hz26_;go_wp2_with fail
 rw[←hz26.out];clear hz26;refine(changed12 z26).mono ?_;rintro e z27 ⟨⟨A,A2,c2,rfl,hr,ho⟩,hb⟩;have HM:=Lib.hid (fun y (hy:Below z27.heap.size z27 y)=>And.intro ((hr.below hy).more hy.size) ((ho.below hy).more hy.size));replace HF:=Lib.hid (fun y (hy:Below z27.heap.size z27 y)=>HF.out y (below_of hb hy));clear hb hr ho;go_wp2_with fail
 refine(q11 A A2 c2 z27 (HM.out z27 (Below.refl _ _)).1 (HM.out z27 (Below.refl _ _)).2 (HF.out z27 (Below.refl _ _)).2.2.2.2.2.2.2.2.2.2.1).mono ?_;rintro e z28 ⟨⟨A11,m11,c11,rfl,hm11,hq⟩,hb⟩;replace HF:=Lib.hid (fun y (hy:Below z28.heap.size z28 y)=>And.intro ((hq.below hy).more hy.size) (HF.out y (below_of hb hy)));clear hb HM hq;go_wp2_with fail
 refine(mill_rd z28).mono ?_;rintro e z29 ⟨⟨A,A2,c2,rfl,hr,ho⟩,hb⟩;have HM:=Lib.hid (fun y (hy:Below z29.heap.size z29 y)=>And.intro ((hr.below hy).more hy.size) ((ho.below hy).more hy.size));replace HF:=Lib.hid (fun y (hy:Below z29.heap.size z29 y)=>HF.out y (below_of hb hy));clear hb hr ho;go_wp2_with fail
 refine(q12 A A2 c2 z29 (HM.out z29 (Below.refl _ _)).1 (HM.out z29 (Below.refl _ _)).2 (HF.out z29 (Below.refl _ _)).2.2.2.2.2.2.2.2.2.2.2.1).mono ?_;rintro e z30 ⟨⟨A12,c12,rfl,hq⟩,hb⟩;replace HF:=Lib.hid (fun y (hy:Below z30.heap.size z30 y)=>And.intro ((hq.below hy).more hy.size) (HF.out y (below_of hb hy)));clear hb HM hq;go_wp2_with fail
 refine(changed13 z30).mono ?_;rintro e z31 ⟨⟨A,A2,c2,rfl,hr,ho⟩,hb⟩;have HM:=Lib.hid (fun y (hy:Below z31.heap.size z31 y)=>And.intro ((hr.below hy).more hy.size) ((ho.below hy).more hy.size));replace HF:=Lib.hid (fun y (hy:Below z31.heap.size z31 y)=>HF.out y (below_of hb hy));clear hb hr ho;go_wp2_with fail
 refine(q13 A A2 c2 z31 (HM.out z31 (Below.refl _ _)).1 (HM.out z31 (Below.refl _ _)).2 (HF.out z31 (Below.refl _ _)).2.2.2.2.2.2.2.2.2.2.2.2.1).mono ?_;rintro e z32 ⟨rfl,hb⟩;replace HF:=Lib.hid (fun y (hy:Below z32.heap.size z32 y)=>HF.out y (below_of hb hy));clear hb HM;go_wp2_with fail
 obtain⟨S,hSd⟩:∃S:World→Prop,S=fun z=>z.heap[z2.heap.size]? = some (.cells #[.int .i64 60,.int .i64 110] 36 (0,0))∧z.heap[z5.heap.size]? = some (.cells #[.int .i64 105,.int .i64 150] 36 (0,0))∧z.heap[z8.heap.size]? = some (.cells #[.int .i64 60,.int .i64 110] 36 (0,0))∧z.heap[z13.heap.size]? = some (.cells #[.int .i64 3,.int .i64 14] 68 (0,0))∧z.heap[z13.heap.size+1]? = some (.cells #[.int .i64 8,.int .i64 23] 68 (0,0))∧z.heap[z25.heap.size]? = some (.cells #[.int .i64 490,.int .i64 615] 36 (0,0))∧Reads z z.heap.size 8 A4 3 (wds (firS mlP mlA))∧Reads z z.heap.size 1 A7 m7 (ints [1,2,3,4,5,6,7,8,9,10,12,13,14,15])∧Reads z z.heap.size 2 A8 m8 (mss [(3,20)])∧Reads z z.heap.size 1 A9 m9 (ints [1])∧Reads z z.heap.size 1 A11 m11 (ints [1,2,3])∧Reads z z.heap.size 1 A12 2 (ints [1,2])∧Below w.heap.size w z:=⟨_,rfl⟩;have HSS:=Lib.hid (fun z z' (h:S z) (hb:Below z.heap.size z z')=>(by rw[hSd] at h ⊢;exact⟨keepO hb h.1,keepO hb h.2.1,keepO hb h.2.2.1,keepO hb h.2.2.2.1,keepO hb h.2.2.2.2.1,keepO hb h.2.2.2.2.2.1,(h.2.2.2.2.2.2.1.below hb).more hb.size,(h.2.2.2.2.2.2.2.1.below hb).more hb.size,(h.2.2.2.2.2.2.2.2.1.below hb).more hb.size,(h.2.2.2.2.2.2.2.2.2.1.below hb).more hb.size,(h.2.2.2.2.2.2.2.2.2.2.1.below hb).more hb.size,(h.2.2.2.2.2.2.2.2.2.2.2.1.below hb).more hb.size,below_of h.2.2.2.2.2.2.2.2.2.2.2.2 hb⟩:S z'));have HP:=Lib.hid (fun z (h:S z)=>(by rw[hSd] at h;exact h:z.heap[z2.heap.size]? = some (.cells #[.int .i64 60,.int .i64 110] 36 (0,0))∧z.heap[z5.heap.size]? = some (.cells #[.int .i64 105,.int .i64 150] 36 (0,0))∧z.heap[z8.heap.size]? = some (.cells #[.int .i64 60,.int .i64 110] 36 (0,0))∧z.heap[z13.heap.size]? = some (.cells #[.int .i64 3,.int .i64 14] 68 (0,0))∧z.heap[z13.heap.size+1]? = some (.cells #[.int .i64 8,.int .i64 23] 68 (0,0))∧z.heap[z25.heap.size]? = some (.cells #[.int .i64 490,.int .i64 615] 36 (0,0))∧Reads z z.heap.size 8 A4 3 (wds (firS mlP mlA))∧Reads z z.heap.size 1 A7 m7 (ints [1,2,3,4,5,6,7,8,9,10,12,13,14,15])∧Reads z z.heap.size 2 A8 m8 (mss [(3,20)])∧Reads z z.heap.size 1 A9 m9 (ints [1])∧Reads z z.heap.size 1 A11 m11 (ints [1,2,3])∧Reads z z.heap.size 1 A12 2 (ints [1,2])∧Below w.heap.size w z))
 have hS0:S z32:=by rw[hSd];have h:=HF.out z32 (Below.refl _ _);exact⟨h.2.2.2.2.2.2.2.2.2.2.2.1,h.2.2.2.2.2.2.2.2.2.2.1,h.2.2.2.2.2.2.2.2.2.1,h.2.2.2.2.2.2.2.1,h.2.2.2.2.2.2.1,h.2.2.1,h.2.2.2.2.2.2.2.2.1,h.2.2.2.2.2.1,h.2.2.2.2.1,h.2.2.2.1,h.2.1,h.1,h.2.2.2.2.2.2.2.2.2.2.2.2.2⟩
 clear HF;refine wp_region_held_drew (S:=S) (by kernel_rfl) ?_ (fun hHeld=>?_)
 ·exact HSS.out _ _ hS0 (Below.refl _ _).drew
 clear hS0;generalize z32.drew=yd at *;refine u0 118 ?_;refine tU (v:=?_) 0 1 97 ?_ ?_;rotate_left
 ·intro w hSw;go_simp;(try with_reducible rfl)
 simp only[Ec,Ed];refine tU (v:=?_) 1 2 98 ?_ ?_;rotate_left
 ·intro w hSw;go_simp;(try with_reducible rfl)
 simp only[Ec,Ed];refine tU (v:=?_) 2 3 99 ?_ ?_;rotate_left
 ·intro w hSw;go_simp;(try with_reducible rfl)
 simp only[Ec,Ed];refine tU (v:=?_) 3 4 100 ?_ ?_;rotate_left
 ·intro w hSw;obtain⟨a0,a1,-,-⟩:=two_facts (HP.out w hSw).1;go_simp;(try with_reducible rfl)
 simp only[Ec,Ed];refine Q1 4 ?_ (hr:=by as_aux_lemma=>kernel_rfl);intro _ Kq hK;go_simp;refine(span_mk 60 110 yd).mono ?_;rintro e zq ⟨rfl,hb⟩;have hSn:=HSS.out _ _ hHeld hb;clear hb;generalize zq=yd at *;try go_simp
 refine hK.out _ _ ?_ (fun hHeld=>?_)
 ·exact hSn
 clear hK Kq;refine uS 4 5 ?_;try refine pL _ ?_
 try simp only[Ec,Ed]
 refine tU (v:=?_) 5 6 102 ?_ ?_;rotate_left
 ·intro w hSw;go_simp;(try with_reducible rfl)
 simp only[Ec,Ed];refine tU (v:=?_) 6 7 103 ?_ ?_;rotate_left
 ·intro w hSw;go_simp;(try with_reducible rfl)
 simp only[Ec,Ed];refine tU (v:=?_) 7 8 104 ?_ ?_;rotate_left
 ·intro w hSw;go_simp;(try with_reducible rfl)
 simp only[Ec,Ed];refine tU (v:=?_) 8 9 105 ?_ ?_;rotate_left
 ·intro w hSw;go_simp;(try with_reducible rfl)
 simp only[Ec,Ed];refine tU (v:=?_) 9 10 106 ?_ ?_;rotate_left
 ·intro w hSw;go_simp;(try with_reducible rfl)
 simp only[Ec,Ed];refine tU (v:=?_) 10 11 107 ?_ ?_;rotate_left
 ·intro w hSw;go_simp;(try with_reducible rfl)
 simp only[Ec,Ed];refine tU (v:=?_) 11 12 108 ?_ ?_;rotate_left
 ·intro w hSw;go_simp;(try with_reducible rfl)
 simp only[Ec,Ed];refine tU (v:=?_) 12 13 109 ?_ ?_;rotate_left
 ·intro w hSw;obtain⟨a0,a1,-,-⟩:=two_facts (HP.out w hSw).2.1;go_simp;(try with_reducible rfl)
 simp only[Ec,Ed];refine Q1 13 ?_ (hr:=by as_aux_lemma=>kernel_rfl);intro _ Kq hK;go_simp;refine(span_mk 105 150 yd).mono ?_;rintro e zq ⟨rfl,hb⟩;have hSn:=HSS.out _ _ hHeld hb;clear hb;generalize zq=yd at *;try go_simp
 refine hK.out _ _ ?_ (fun hHeld=>?_)
 ·exact hSn
 clear hK Kq;refine uS 13 14 ?_;try refine pL _ ?_
 try simp only[Ec,Ed]
 refine tU (v:=?_) 14 15 111 ?_ ?_;rotate_left
 ·intro w hSw;go_simp;(try with_reducible rfl)
 simp only[Ec,Ed];refine tU (v:=?_) 15 16 112 ?_ ?_;rotate_left
 ·intro w hSw;go_simp;(try with_reducible rfl)
 simp only[Ec,Ed];refine tU (v:=?_) 16 17 113 ?_ ?_;rotate_left
 ·intro w hSw;go_simp;(try with_reducible rfl)
 simp only[Ec,Ed];refine tU (v:=?_) 17 18 114 ?_ ?_;rotate_left
 ·intro w hSw;go_simp;(try with_reducible rfl)
 simp only[Ec,Ed];refine tU (v:=?_) 18 19 115 ?_ ?_;rotate_left
 ·intro w hSw;go_simp;(try with_reducible rfl)
 simp only[Ec,Ed];refine tU (v:=?_) 19 20 116 ?_ ?_;rotate_left
 ·intro w hSw;go_simp;(try with_reducible rfl)
 simp only[Ec,Ed];refine tU (v:=?_) 20 21 117 ?_ ?_;rotate_left
 ·intro w hSw;go_simp;(try with_reducible rfl)
 simp only[Ec,Ed];refine tU (v:=?_) 21 22 118 ?_ ?_;rotate_left
 ·intro w hSw;obtain⟨a0,a1,-,-⟩:=two_facts (HP.out w hSw).2.2.1;go_simp;(try with_reducible rfl)
 simp only[Ec,Ed];refine Q1 22 ?_ (hr:=by as_aux_lemma=>kernel_rfl);intro _ Kq hK;go_simp;refine(span_mk 60 110 yd).mono ?_;rintro e zq ⟨rfl,hb⟩;have hSn:=HSS.out _ _ hHeld hb;clear hb;generalize zq=yd at *;try go_simp
 refine hK.out _ _ ?_ (fun hHeld=>?_)
 ·exact hSn
 clear hK Kq;refine uS 22 23 ?_;try refine pL _ ?_
 try simp only[Ec,Ed]
 refine tU (v:=?_) 23 24 120 ?_ ?_;rotate_left
 ·intro w hSw;go_simp;(try with_reducible rfl)
 simp only[Ec,Ed];refine tU (v:=?_) 24 25 121 ?_ ?_;rotate_left
 ·intro w hSw;go_simp;(try with_reducible rfl)
 simp only[Ec,Ed];refine tU (v:=?_) 25 26 122 ?_ ?_;rotate_left
 ·intro w hSw;go_simp;(try with_reducible rfl)
 simp only[Ec,Ed];refine tU (v:=?_) 26 27 123 ?_ ?_;rotate_left
 ·intro w hSw;go_simp;(try with_reducible rfl)
 simp only[Ec,Ed];refine tU (v:=?_) 27 28 124 ?_ ?_;rotate_left
 ·intro w hSw;go_simp;(try with_reducible rfl)
 simp only[Ec,Ed];refine tU (v:=?_) 28 29 125 ?_ ?_;rotate_left
 ·intro w hSw;go_simp;(try with_reducible rfl)
 simp only[Ec,Ed];refine tU (v:=?_) 29 30 126 ?_ ?_;rotate_left
 ·intro w hSw;go_simp;(try with_reducible rfl)
 simp only[Ec,Ed];refine tU (v:=?_) 30 31 127 ?_ ?_;rotate_left
 ·intro w hSw;go_simp;(try with_reducible rfl)
 simp only[Ec,Ed];refine via (fuel':=81) (fun l y=>∃n1 n2 n3:Nat,l = [(128,.slice (some ⟨n1,0,none⟩) 6 6),(129,.agg #[.int .i64 1,.int .i64 0,.int .i64 1000,.int .i64 290,.int .i64 500,.int .i64 40,.int .i64 60,.int .i64 110]),(130,.slice (some ⟨n2,0,none⟩) 6 6),(131,.agg #[.int .i64 2,.int .i64 0,.int .i64 600,.int .i64 180,.int .i64 310,.int .i64 30,.int .i64 40,.int .i64 40]),(132,.slice (some ⟨n3,0,none⟩) 6 6),(133,.agg #[.int .i64 3,.int .i64 0,.int .i64 0,.int .i64 40,.int .i64 90,.int .i64 10,.int .i64 10,.int .i64 0])]) [31,32,33,34,35,36] (fun hw012345=>?_) ?_
 ·refine via (fuel':=82) (fun l y=>∃n1 n2 n3:Nat,l = [(128,.slice (some ⟨n1,0,none⟩) 6 6),(129,.agg #[.int .i64 1,.int .i64 0,.int .i64 1000,.int .i64 290,.int .i64 500,.int .i64 40,.int .i64 60,.int .i64 110]),(130,.slice (some ⟨n2,0,none⟩) 6 6),(131,.agg #[.int .i64 2,.int .i64 0,.int .i64 600,.int .i64 180,.int .i64 310,.int .i64 30,.int .i64 40,.int .i64 40]),(132,.slice (some ⟨n3,0,none⟩) 6 6)]∧y.heap[n3]? = some (.cells #[.int .i64 0,.int .i64 40,.int .i64 90,.int .i64 10,.int .i64 10,.int .i64 0] 3 (0,0))) [31,32,33,34,35] (fun hw01234=>?_) ?_;rotate_left
  ·clear hHeld;rintro l yd ⟨n1,n2,n3,rfl,hO3⟩ hHeld;simp only[putL,List.foldl,N0];refine U1 36 ?_
   ·intro (t:Tag 36) Kq hK;clear t;go_simp;refine(wgd3 _ 6 yd (rd_cel hO3 rfl)).mono ?_;rintro e zq ⟨rfl,hb⟩;have hSn:=HSS.out _ _ hHeld hb;clear hb;generalize zq=yd at *;(try go_simp);refine hK.out _ _ ?_ (fun hHeld=>?_)
    ·exact hSn
    clear hK Kq;(try refine pL _ ?_);(try simp only[Ec,Ed]);exact hw012345 _ _ _ _ (by kernel_rfl) (by kernel_rfl) ⟨n1,n2,n3,rfl⟩ hHeld
  refine via (fuel':=83) (fun l y=>∃n1 n2:Nat,l = [(128,.slice (some ⟨n1,0,none⟩) 6 6),(129,.agg #[.int .i64 1,.int .i64 0,.int .i64 1000,.int .i64 290,.int .i64 500,.int .i64 40,.int .i64 60,.int .i64 110]),(130,.slice (some ⟨n2,0,none⟩) 6 6),(131,.agg #[.int .i64 2,.int .i64 0,.int .i64 600,.int .i64 180,.int .i64 310,.int .i64 30,.int .i64 40,.int .i64 40])]) [31,32,33,34] (fun hw0123=>?_) ?_;rotate_left
  ·clear hHeld;rintro l yd ⟨n1,n2,rfl⟩ hHeld;simp only[putL,List.foldl,N0];refine U1 35 ?_
   ·intro (t:Tag 35) Kq hK;clear t;go_simp;obtain⟨n3,hn_⟩:∃q,q=yd.heap.size:=⟨_,rfl⟩;have hO3:=heap_alloc_new yd (.cells #[.int .i64 0,.int .i64 40,.int .i64 90,.int .i64 10,.int .i64 10,.int .i64 0] 3);rw[←hn_] at hO3;have hbA:=(Below.refl yd.heap.size yd).alloc (Nat.le_refl _) (.cells #[.int .i64 0,.int .i64 40,.int .i64 90,.int .i64 10,.int .i64 10,.int .i64 0] 3);(try replace hO1:=keepO hbA hO1);(try replace hO2:=keepO hbA hO2);have hSn:=HSS.out _ _ hHeld hbA;clear hbA;generalize (yd.alloc (.cells #[.int .i64 0,.int .i64 40,.int .i64 90,.int .i64 10,.int .i64 10,.int .i64 0] 3))=yd at *;refine hK.out _ _ ?_ (fun hHeld=>?_)
    ·exact hSn
    clear hK Kq;(try refine pL _ ?_);(try simp only[Ec,Ed]);(try rw[←hn_]);clear hn_;exact hw01234 _ _ _ _ (by kernel_rfl) (by kernel_rfl) ⟨n1,n2,n3,rfl,hO3⟩ hHeld
  refine via (fuel':=83) (fun l y=>∃n1 n2 n3:Nat,l = [(128,.slice (some ⟨n1,0,none⟩) 6 6),(129,.agg #[.int .i64 1,.int .i64 0,.int .i64 1000,.int .i64 290,.int .i64 500,.int .i64 40,.int .i64 60,.int .i64 110]),(130,.slice (some ⟨n2,0,none⟩) 6 6),(132,.slice (some ⟨n3,0,none⟩) 6 6)]∧y.heap[n2]? = some (.cells #[.int .i64 600,.int .i64 180,.int .i64 310,.int .i64 30,.int .i64 40,.int .i64 40] 3 (0,0))∧y.heap[n3]? = some (.cells #[.int .i64 0,.int .i64 40,.int .i64 90,.int .i64 10,.int .i64 10,.int .i64 0] 3 (0,0))) [31,32,33,35] (fun hw0124=>?_) ?_;rotate_left
  ·clear hHeld;rintro l yd ⟨n1,n2,n3,rfl,hO2,hO3⟩ hHeld;simp only[putL,List.foldl,N0];refine U1 34 ?_
   ·intro (t:Tag 34) Kq hK;clear t;go_simp;refine(wgd2 _ 6 yd (rd_cel hO2 rfl)).mono ?_;rintro e zq ⟨rfl,hb⟩;have hSn:=HSS.out _ _ hHeld hb;(try replace hO3:=keepO hb hO3);clear hb;generalize zq=yd at *;(try go_simp);refine hK.out _ _ ?_ (fun hHeld=>?_)
    ·exact hSn
    clear hK Kq;(try refine pL _ ?_);(try simp only[Ec,Ed]);exact hw01234 _ _ _ _ (by kernel_rfl) (by kernel_rfl) ⟨n1,n2,n3,rfl,hO3⟩ hHeld
  refine via (fuel':=84) (fun l y=>∃n1 n2:Nat,l = [(128,.slice (some ⟨n1,0,none⟩) 6 6),(129,.agg #[.int .i64 1,.int .i64 0,.int .i64 1000,.int .i64 290,.int .i64 500,.int .i64 40,.int .i64 60,.int .i64 110]),(130,.slice (some ⟨n2,0,none⟩) 6 6)]∧y.heap[n2]? = some (.cells #[.int .i64 600,.int .i64 180,.int .i64 310,.int .i64 30,.int .i64 40,.int .i64 40] 3 (0,0))) [31,32,33] (fun hw012=>?_) ?_;rotate_left
  ·clear hHeld;rintro l yd ⟨n1,n2,rfl,hO2⟩ hHeld;simp only[putL,List.foldl,N0];refine U2 34 35 ?_ ?_
   ·intro (t:Tag 34) Kq hK;clear t;go_simp;refine(wgd2 _ 6 yd (rd_cel hO2 rfl)).mono ?_;rintro e zq ⟨rfl,hb⟩;have hSn:=HSS.out _ _ hHeld hb;(try replace hO3:=keepO hb hO3);clear hb;generalize zq=yd at *;(try go_simp);refine hK.out _ _ ?_ (fun hHeld=>?_)
    ·exact hSn
    clear hK Kq;(try refine pL _ ?_);(try simp only[Ec,Ed]);exact hw0123 _ _ _ _ (by kernel_rfl) (by kernel_rfl) ⟨n1,n2,rfl⟩ hHeld
   ·intro (t:Tag 35) Kq hK;clear t;go_simp;obtain⟨n3,hn_⟩:∃q,q=yd.heap.size:=⟨_,rfl⟩;have hO3:=heap_alloc_new yd (.cells #[.int .i64 0,.int .i64 40,.int .i64 90,.int .i64 10,.int .i64 10,.int .i64 0] 3);rw[←hn_] at hO3;have hbA:=(Below.refl yd.heap.size yd).alloc (Nat.le_refl _) (.cells #[.int .i64 0,.int .i64 40,.int .i64 90,.int .i64 10,.int .i64 10,.int .i64 0] 3);(try replace hO1:=keepO hbA hO1);(try replace hO2:=keepO hbA hO2);have hSn:=HSS.out _ _ hHeld hbA;clear hbA;generalize (yd.alloc (.cells #[.int .i64 0,.int .i64 40,.int .i64 90,.int .i64 10,.int .i64 10,.int .i64 0] 3))=yd at *;refine hK.out _ _ ?_ (fun hHeld=>?_)
    ·exact hSn
    clear hK Kq;(try refine pL _ ?_);(try simp only[Ec,Ed]);(try rw[←hn_]);clear hn_;exact hw0124 _ _ _ _ (by kernel_rfl) (by kernel_rfl) ⟨n1,n2,n3,rfl,hO2,hO3⟩ hHeld
  refine via (fuel':=84) (fun l y=>∃n1 n3:Nat,l = [(128,.slice (some ⟨n1,0,none⟩) 6 6),(129,.agg #[.int .i64 1,.int .i64 0,.int .i64 1000,.int .i64 290,.int .i64 500,.int .i64 40,.int .i64 60,.int .i64 110]),(132,.slice (some ⟨n3,0,none⟩) 6 6)]∧y.heap[n3]? = some (.cells #[.int .i64 0,.int .i64 40,.int .i64 90,.int .i64 10,.int .i64 10,.int .i64 0] 3 (0,0))) [31,32,35] (fun hw014=>?_) ?_;rotate_left
  ·clear hHeld;rintro l yd ⟨n1,n3,rfl,hO3⟩ hHeld;simp only[putL,List.foldl,N0];refine U1 33 ?_
   ·intro (t:Tag 33) Kq hK;clear t;go_simp;obtain⟨n2,hn_⟩:∃q,q=yd.heap.size:=⟨_,rfl⟩;have hO2:=heap_alloc_new yd (.cells #[.int .i64 600,.int .i64 180,.int .i64 310,.int .i64 30,.int .i64 40,.int .i64 40] 3);rw[←hn_] at hO2;have hbA:=(Below.refl yd.heap.size yd).alloc (Nat.le_refl _) (.cells #[.int .i64 600,.int .i64 180,.int .i64 310,.int .i64 30,.int .i64 40,.int .i64 40] 3);(try replace hO1:=keepO hbA hO1);(try replace hO3:=keepO hbA hO3);have hSn:=HSS.out _ _ hHeld hbA;clear hbA;generalize (yd.alloc (.cells #[.int .i64 600,.int .i64 180,.int .i64 310,.int .i64 30,.int .i64 40,.int .i64 40] 3))=yd at *;refine hK.out _ _ ?_ (fun hHeld=>?_)
    ·exact hSn
    clear hK Kq;(try refine pL _ ?_);(try simp only[Ec,Ed]);(try rw[←hn_]);clear hn_;exact hw0124 _ _ _ _ (by kernel_rfl) (by kernel_rfl) ⟨n1,n2,n3,rfl,hO2,hO3⟩ hHeld
  refine via (fuel':=84) (fun l y=>∃n1 n2 n3:Nat,l = [(128,.slice (some ⟨n1,0,none⟩) 6 6),(130,.slice (some ⟨n2,0,none⟩) 6 6),(132,.slice (some ⟨n3,0,none⟩) 6 6)]∧y.heap[n1]? = some (.cells #[.int .i64 1000,.int .i64 290,.int .i64 500,.int .i64 40,.int .i64 60,.int .i64 110] 3 (0,0))∧y.heap[n2]? = some (.cells #[.int .i64 600,.int .i64 180,.int .i64 310,.int .i64 30,.int .i64 40,.int .i64 40] 3 (0,0))∧y.heap[n3]? = some (.cells #[.int .i64 0,.int .i64 40,.int .i64 90,.int .i64 10,.int .i64 10,.int .i64 0] 3 (0,0))) [31,33,35] (fun hw024=>?_) ?_;rotate_left
  ·clear hHeld;rintro l yd ⟨n1,n2,n3,rfl,hO1,hO2,hO3⟩ hHeld;simp only[putL,List.foldl,N0];refine U1 32 ?_
   ·intro (t:Tag 32) Kq hK;clear t;go_simp;refine(wgd1 _ 6 yd (rd_cel hO1 rfl)).mono ?_;rintro e zq ⟨rfl,hb⟩;have hSn:=HSS.out _ _ hHeld hb;(try replace hO2:=keepO hb hO2);(try replace hO3:=keepO hb hO3);clear hb;generalize zq=yd at *;(try go_simp);refine hK.out _ _ ?_ (fun hHeld=>?_)
    ·exact hSn
    clear hK Kq;(try refine pL _ ?_);(try simp only[Ec,Ed]);exact hw0124 _ _ _ _ (by kernel_rfl) (by kernel_rfl) ⟨n1,n2,n3,rfl,hO2,hO3⟩ hHeld
  refine via (fuel':=85) (fun l y=>∃n1:Nat,l = [(128,.slice (some ⟨n1,0,none⟩) 6 6),(129,.agg #[.int .i64 1,.int .i64 0,.int .i64 1000,.int .i64 290,.int .i64 500,.int .i64 40,.int .i64 60,.int .i64 110])]) [31,32] (fun hw01=>?_) ?_;rotate_left
  ·clear hHeld;rintro l yd ⟨n1,rfl⟩ hHeld;simp only[putL,List.foldl,N0];refine U2 33 35 ?_ ?_
   ·intro (t:Tag 33) Kq hK;clear t;go_simp;obtain⟨n2,hn_⟩:∃q,q=yd.heap.size:=⟨_,rfl⟩;have hO2:=heap_alloc_new yd (.cells #[.int .i64 600,.int .i64 180,.int .i64 310,.int .i64 30,.int .i64 40,.int .i64 40] 3);rw[←hn_] at hO2;have hbA:=(Below.refl yd.heap.size yd).alloc (Nat.le_refl _) (.cells #[.int .i64 600,.int .i64 180,.int .i64 310,.int .i64 30,.int .i64 40,.int .i64 40] 3);(try replace hO1:=keepO hbA hO1);(try replace hO3:=keepO hbA hO3);have hSn:=HSS.out _ _ hHeld hbA;clear hbA;generalize (yd.alloc (.cells #[.int .i64 600,.int .i64 180,.int .i64 310,.int .i64 30,.int .i64 40,.int .i64 40] 3))=yd at *;refine hK.out _ _ ?_ (fun hHeld=>?_)
    ·exact hSn
    clear hK Kq;(try refine pL _ ?_);(try simp only[Ec,Ed]);(try rw[←hn_]);clear hn_;exact hw012 _ _ _ _ (by kernel_rfl) (by kernel_rfl) ⟨n1,n2,rfl,hO2⟩ hHeld
   ·intro (t:Tag 35) Kq hK;clear t;go_simp;obtain⟨n3,hn_⟩:∃q,q=yd.heap.size:=⟨_,rfl⟩;have hO3:=heap_alloc_new yd (.cells #[.int .i64 0,.int .i64 40,.int .i64 90,.int .i64 10,.int .i64 10,.int .i64 0] 3);rw[←hn_] at hO3;have hbA:=(Below.refl yd.heap.size yd).alloc (Nat.le_refl _) (.cells #[.int .i64 0,.int .i64 40,.int .i64 90,.int .i64 10,.int .i64 10,.int .i64 0] 3);(try replace hO1:=keepO hbA hO1);(try replace hO2:=keepO hbA hO2);have hSn:=HSS.out _ _ hHeld hbA;clear hbA;generalize (yd.alloc (.cells #[.int .i64 0,.int .i64 40,.int .i64 90,.int .i64 10,.int .i64 10,.int .i64 0] 3))=yd at *;refine hK.out _ _ ?_ (fun hHeld=>?_)
    ·exact hSn
    clear hK Kq;(try refine pL _ ?_);(try simp only[Ec,Ed]);(try rw[←hn_]);clear hn_;exact hw014 _ _ _ _ (by kernel_rfl) (by kernel_rfl) ⟨n1,n3,rfl,hO3⟩ hHeld
  refine via (fuel':=85) (fun l y=>∃n1 n2:Nat,l = [(128,.slice (some ⟨n1,0,none⟩) 6 6),(130,.slice (some ⟨n2,0,none⟩) 6 6)]∧y.heap[n1]? = some (.cells #[.int .i64 1000,.int .i64 290,.int .i64 500,.int .i64 40,.int .i64 60,.int .i64 110] 3 (0,0))∧y.heap[n2]? = some (.cells #[.int .i64 600,.int .i64 180,.int .i64 310,.int .i64 30,.int .i64 40,.int .i64 40] 3 (0,0))) [31,33] (fun hw02=>?_) ?_;rotate_left
  ·clear hHeld;rintro l yd ⟨n1,n2,rfl,hO1,hO2⟩ hHeld;simp only[putL,List.foldl,N0];refine U2 32 35 ?_ ?_
   ·intro (t:Tag 32) Kq hK;clear t;go_simp;refine(wgd1 _ 6 yd (rd_cel hO1 rfl)).mono ?_;rintro e zq ⟨rfl,hb⟩;have hSn:=HSS.out _ _ hHeld hb;(try replace hO2:=keepO hb hO2);(try replace hO3:=keepO hb hO3);clear hb;generalize zq=yd at *;(try go_simp);refine hK.out _ _ ?_ (fun hHeld=>?_)
    ·exact hSn
    clear hK Kq;(try refine pL _ ?_);(try simp only[Ec,Ed]);exact hw012 _ _ _ _ (by kernel_rfl) (by kernel_rfl) ⟨n1,n2,rfl,hO2⟩ hHeld
   ·intro (t:Tag 35) Kq hK;clear t;go_simp;obtain⟨n3,hn_⟩:∃q,q=yd.heap.size:=⟨_,rfl⟩;have hO3:=heap_alloc_new yd (.cells #[.int .i64 0,.int .i64 40,.int .i64 90,.int .i64 10,.int .i64 10,.int .i64 0] 3);rw[←hn_] at hO3;have hbA:=(Below.refl yd.heap.size yd).alloc (Nat.le_refl _) (.cells #[.int .i64 0,.int .i64 40,.int .i64 90,.int .i64 10,.int .i64 10,.int .i64 0] 3);(try replace hO1:=keepO hbA hO1);(try replace hO2:=keepO hbA hO2);have hSn:=HSS.out _ _ hHeld hbA;clear hbA;generalize (yd.alloc (.cells #[.int .i64 0,.int .i64 40,.int .i64 90,.int .i64 10,.int .i64 10,.int .i64 0] 3))=yd at *;refine hK.out _ _ ?_ (fun hHeld=>?_)
    ·exact hSn
    clear hK Kq;(try refine pL _ ?_);(try simp only[Ec,Ed]);(try rw[←hn_]);clear hn_;exact hw024 _ _ _ _ (by kernel_rfl) (by kernel_rfl) ⟨n1,n2,n3,rfl,hO1,hO2,hO3⟩ hHeld
  refine via (fuel':=85) (fun l y=>∃n1 n3:Nat,l = [(128,.slice (some ⟨n1,0,none⟩) 6 6),(132,.slice (some ⟨n3,0,none⟩) 6 6)]∧y.heap[n1]? = some (.cells #[.int .i64 1000,.int .i64 290,.int .i64 500,.int .i64 40,.int .i64 60,.int .i64 110] 3 (0,0))∧y.heap[n3]? = some (.cells #[.int .i64 0,.int .i64 40,.int .i64 90,.int .i64 10,.int .i64 10,.int .i64 0] 3 (0,0))) [31,35] (fun hw04=>?_) ?_;rotate_left
  ·clear hHeld;rintro l yd ⟨n1,n3,rfl,hO1,hO3⟩ hHeld;simp only[putL,List.foldl,N0];refine U2 32 33 ?_ ?_
   ·intro (t:Tag 32) Kq hK;clear t;go_simp;refine(wgd1 _ 6 yd (rd_cel hO1 rfl)).mono ?_;rintro e zq ⟨rfl,hb⟩;have hSn:=HSS.out _ _ hHeld hb;(try replace hO2:=keepO hb hO2);(try replace hO3:=keepO hb hO3);clear hb;generalize zq=yd at *;(try go_simp);refine hK.out _ _ ?_ (fun hHeld=>?_)
    ·exact hSn
    clear hK Kq;(try refine pL _ ?_);(try simp only[Ec,Ed]);exact hw014 _ _ _ _ (by kernel_rfl) (by kernel_rfl) ⟨n1,n3,rfl,hO3⟩ hHeld
   ·intro (t:Tag 33) Kq hK;clear t;go_simp;obtain⟨n2,hn_⟩:∃q,q=yd.heap.size:=⟨_,rfl⟩;have hO2:=heap_alloc_new yd (.cells #[.int .i64 600,.int .i64 180,.int .i64 310,.int .i64 30,.int .i64 40,.int .i64 40] 3);rw[←hn_] at hO2;have hbA:=(Below.refl yd.heap.size yd).alloc (Nat.le_refl _) (.cells #[.int .i64 600,.int .i64 180,.int .i64 310,.int .i64 30,.int .i64 40,.int .i64 40] 3);(try replace hO1:=keepO hbA hO1);(try replace hO3:=keepO hbA hO3);have hSn:=HSS.out _ _ hHeld hbA;clear hbA;generalize (yd.alloc (.cells #[.int .i64 600,.int .i64 180,.int .i64 310,.int .i64 30,.int .i64 40,.int .i64 40] 3))=yd at *;refine hK.out _ _ ?_ (fun hHeld=>?_)
    ·exact hSn
    clear hK Kq;(try refine pL _ ?_);(try simp only[Ec,Ed]);(try rw[←hn_]);clear hn_;exact hw024 _ _ _ _ (by kernel_rfl) (by kernel_rfl) ⟨n1,n2,n3,rfl,hO1,hO2,hO3⟩ hHeld
  refine via (fuel':=85) (fun l y=>∃n2 n3:Nat,l = [(130,.slice (some ⟨n2,0,none⟩) 6 6),(132,.slice (some ⟨n3,0,none⟩) 6 6)]∧y.heap[n2]? = some (.cells #[.int .i64 600,.int .i64 180,.int .i64 310,.int .i64 30,.int .i64 40,.int .i64 40] 3 (0,0))∧y.heap[n3]? = some (.cells #[.int .i64 0,.int .i64 40,.int .i64 90,.int .i64 10,.int .i64 10,.int .i64 0] 3 (0,0))) [33,35] (fun hw24=>?_) ?_;rotate_left
  ·clear hHeld;rintro l yd ⟨n2,n3,rfl,hO2,hO3⟩ hHeld;simp only[putL,List.foldl,N0];refine U1 31 ?_
   ·intro (t:Tag 31) Kq hK;clear t;go_simp;obtain⟨n1,hn_⟩:∃q,q=yd.heap.size:=⟨_,rfl⟩;have hO1:=heap_alloc_new yd (.cells #[.int .i64 1000,.int .i64 290,.int .i64 500,.int .i64 40,.int .i64 60,.int .i64 110] 3);rw[←hn_] at hO1;have hbA:=(Below.refl yd.heap.size yd).alloc (Nat.le_refl _) (.cells #[.int .i64 1000,.int .i64 290,.int .i64 500,.int .i64 40,.int .i64 60,.int .i64 110] 3);(try replace hO2:=keepO hbA hO2);(try replace hO3:=keepO hbA hO3);have hSn:=HSS.out _ _ hHeld hbA;clear hbA;generalize (yd.alloc (.cells #[.int .i64 1000,.int .i64 290,.int .i64 500,.int .i64 40,.int .i64 60,.int .i64 110] 3))=yd at *;refine hK.out _ _ ?_ (fun hHeld=>?_)
    ·exact hSn
    clear hK Kq;(try refine pL _ ?_);(try simp only[Ec,Ed]);(try rw[←hn_]);clear hn_;exact hw024 _ _ _ _ (by kernel_rfl) (by kernel_rfl) ⟨n1,n2,n3,rfl,hO1,hO2,hO3⟩ hHeld
  refine via (fuel':=86) (fun l y=>∃n1:Nat,l = [(128,.slice (some ⟨n1,0,none⟩) 6 6)]∧y.heap[n1]? = some (.cells #[.int .i64 1000,.int .i64 290,.int .i64 500,.int .i64 40,.int .i64 60,.int .i64 110] 3 (0,0))) [31] (fun hw0=>?_) ?_;rotate_left
  ·clear hHeld;rintro l yd ⟨n1,rfl,hO1⟩ hHeld;simp only[putL,List.foldl,N0];refine U3 32 33 35 ?_ ?_ ?_
   ·intro (t:Tag 32) Kq hK;clear t;go_simp;refine(wgd1 _ 6 yd (rd_cel hO1 rfl)).mono ?_;rintro e zq ⟨rfl,hb⟩;have hSn:=HSS.out _ _ hHeld hb;(try replace hO2:=keepO hb hO2);(try replace hO3:=keepO hb hO3);clear hb;generalize zq=yd at *;(try go_simp);refine hK.out _ _ ?_ (fun hHeld=>?_)
    ·exact hSn
    clear hK Kq;(try refine pL _ ?_);(try simp only[Ec,Ed]);exact hw01 _ _ _ _ (by kernel_rfl) (by kernel_rfl) ⟨n1,rfl⟩ hHeld
   ·intro (t:Tag 33) Kq hK;clear t;go_simp;obtain⟨n2,hn_⟩:∃q,q=yd.heap.size:=⟨_,rfl⟩;have hO2:=heap_alloc_new yd (.cells #[.int .i64 600,.int .i64 180,.int .i64 310,.int .i64 30,.int .i64 40,.int .i64 40] 3);rw[←hn_] at hO2;have hbA:=(Below.refl yd.heap.size yd).alloc (Nat.le_refl _) (.cells #[.int .i64 600,.int .i64 180,.int .i64 310,.int .i64 30,.int .i64 40,.int .i64 40] 3);(try replace hO1:=keepO hbA hO1);(try replace hO3:=keepO hbA hO3);have hSn:=HSS.out _ _ hHeld hbA;clear hbA;generalize (yd.alloc (.cells #[.int .i64 600,.int .i64 180,.int .i64 310,.int .i64 30,.int .i64 40,.int .i64 40] 3))=yd at *;refine hK.out _ _ ?_ (fun hHeld=>?_)
    ·exact hSn
    clear hK Kq;(try refine pL _ ?_);(try simp only[Ec,Ed]);(try rw[←hn_]);clear hn_;exact hw02 _ _ _ _ (by kernel_rfl) (by kernel_rfl) ⟨n1,n2,rfl,hO1,hO2⟩ hHeld
   ·intro (t:Tag 35) Kq hK;clear t;go_simp;obtain⟨n3,hn_⟩:∃q,q=yd.heap.size:=⟨_,rfl⟩;have hO3:=heap_alloc_new yd (.cells #[.int .i64 0,.int .i64 40,.int .i64 90,.int .i64 10,.int .i64 10,.int .i64 0] 3);rw[←hn_] at hO3;have hbA:=(Below.refl yd.heap.size yd).alloc (Nat.le_refl _) (.cells #[.int .i64 0,.int .i64 40,.int .i64 90,.int .i64 10,.int .i64 10,.int .i64 0] 3);(try replace hO1:=keepO hbA hO1);(try replace hO2:=keepO hbA hO2);have hSn:=HSS.out _ _ hHeld hbA;clear hbA;generalize (yd.alloc (.cells #[.int .i64 0,.int .i64 40,.int .i64 90,.int .i64 10,.int .i64 10,.int .i64 0] 3))=yd at *;refine hK.out _ _ ?_ (fun hHeld=>?_)
    ·exact hSn
    clear hK Kq;(try refine pL _ ?_);(try simp only[Ec,Ed]);(try rw[←hn_]);clear hn_;exact hw04 _ _ _ _ (by kernel_rfl) (by kernel_rfl) ⟨n1,n3,rfl,hO1,hO3⟩ hHeld
  refine via (fuel':=86) (fun l y=>∃n2:Nat,l = [(130,.slice (some ⟨n2,0,none⟩) 6 6)]∧y.heap[n2]? = some (.cells #[.int .i64 600,.int .i64 180,.int .i64 310,.int .i64 30,.int .i64 40,.int .i64 40] 3 (0,0))) [33] (fun hw2=>?_) ?_;rotate_left
  ·clear hHeld;rintro l yd ⟨n2,rfl,hO2⟩ hHeld;simp only[putL,List.foldl,N0];refine U2 31 35 ?_ ?_
   ·intro (t:Tag 31) Kq hK;clear t;go_simp;obtain⟨n1,hn_⟩:∃q,q=yd.heap.size:=⟨_,rfl⟩;have hO1:=heap_alloc_new yd (.cells #[.int .i64 1000,.int .i64 290,.int .i64 500,.int .i64 40,.int .i64 60,.int .i64 110] 3);rw[←hn_] at hO1;have hbA:=(Below.refl yd.heap.size yd).alloc (Nat.le_refl _) (.cells #[.int .i64 1000,.int .i64 290,.int .i64 500,.int .i64 40,.int .i64 60,.int .i64 110] 3);(try replace hO2:=keepO hbA hO2);(try replace hO3:=keepO hbA hO3);have hSn:=HSS.out _ _ hHeld hbA;clear hbA;generalize (yd.alloc (.cells #[.int .i64 1000,.int .i64 290,.int .i64 500,.int .i64 40,.int .i64 60,.int .i64 110] 3))=yd at *;refine hK.out _ _ ?_ (fun hHeld=>?_)
    ·exact hSn
    clear hK Kq;(try refine pL _ ?_);(try simp only[Ec,Ed]);(try rw[←hn_]);clear hn_;exact hw02 _ _ _ _ (by kernel_rfl) (by kernel_rfl) ⟨n1,n2,rfl,hO1,hO2⟩ hHeld
   ·intro (t:Tag 35) Kq hK;clear t;go_simp;obtain⟨n3,hn_⟩:∃q,q=yd.heap.size:=⟨_,rfl⟩;have hO3:=heap_alloc_new yd (.cells #[.int .i64 0,.int .i64 40,.int .i64 90,.int .i64 10,.int .i64 10,.int .i64 0] 3);rw[←hn_] at hO3;have hbA:=(Below.refl yd.heap.size yd).alloc (Nat.le_refl _) (.cells #[.int .i64 0,.int .i64 40,.int .i64 90,.int .i64 10,.int .i64 10,.int .i64 0] 3);(try replace hO1:=keepO hbA hO1);(try replace hO2:=keepO hbA hO2);have hSn:=HSS.out _ _ hHeld hbA;clear hbA;generalize (yd.alloc (.cells #[.int .i64 0,.int .i64 40,.int .i64 90,.int .i64 10,.int .i64 10,.int .i64 0] 3))=yd at *;refine hK.out _ _ ?_ (fun hHeld=>?_)
    ·exact hSn
    clear hK Kq;(try refine pL _ ?_);(try simp only[Ec,Ed]);(try rw[←hn_]);clear hn_;exact hw24 _ _ _ _ (by kernel_rfl) (by kernel_rfl) ⟨n2,n3,rfl,hO2,hO3⟩ hHeld
  refine via (fuel':=86) (fun l y=>∃n3:Nat,l = [(132,.slice (some ⟨n3,0,none⟩) 6 6)]∧y.heap[n3]? = some (.cells #[.int .i64 0,.int .i64 40,.int .i64 90,.int .i64 10,.int .i64 10,.int .i64 0] 3 (0,0))) [35] (fun hw4=>?_) ?_;rotate_left
  ·clear hHeld;rintro l yd ⟨n3,rfl,hO3⟩ hHeld;simp only[putL,List.foldl,N0];refine U2 31 33 ?_ ?_
   ·intro (t:Tag 31) Kq hK;clear t;go_simp;obtain⟨n1,hn_⟩:∃q,q=yd.heap.size:=⟨_,rfl⟩;have hO1:=heap_alloc_new yd (.cells #[.int .i64 1000,.int .i64 290,.int .i64 500,.int .i64 40,.int .i64 60,.int .i64 110] 3);rw[←hn_] at hO1;have hbA:=(Below.refl yd.heap.size yd).alloc (Nat.le_refl _) (.cells #[.int .i64 1000,.int .i64 290,.int .i64 500,.int .i64 40,.int .i64 60,.int .i64 110] 3);(try replace hO2:=keepO hbA hO2);(try replace hO3:=keepO hbA hO3);have hSn:=HSS.out _ _ hHeld hbA;clear hbA;generalize (yd.alloc (.cells #[.int .i64 1000,.int .i64 290,.int .i64 500,.int .i64 40,.int .i64 60,.int .i64 110] 3))=yd at *;refine hK.out _ _ ?_ (fun hHeld=>?_)
    ·exact hSn
    clear hK Kq;(try refine pL _ ?_);(try simp only[Ec,Ed]);(try rw[←hn_]);clear hn_;exact hw04 _ _ _ _ (by kernel_rfl) (by kernel_rfl) ⟨n1,n3,rfl,hO1,hO3⟩ hHeld
   ·intro (t:Tag 33) Kq hK;clear t;go_simp;obtain⟨n2,hn_⟩:∃q,q=yd.heap.size:=⟨_,rfl⟩;have hO2:=heap_alloc_new yd (.cells #[.int .i64 600,.int .i64 180,.int .i64 310,.int .i64 30,.int .i64 40,.int .i64 40] 3);rw[←hn_] at hO2;have hbA:=(Below.refl yd.heap.size yd).alloc (Nat.le_refl _) (.cells #[.int .i64 600,.int .i64 180,.int .i64 310,.int .i64 30,.int .i64 40,.int .i64 40] 3);(try replace hO1:=keepO hbA hO1);(try replace hO3:=keepO hbA hO3);have hSn:=HSS.out _ _ hHeld hbA;clear hbA;generalize (yd.alloc (.cells #[.int .i64 600,.int .i64 180,.int .i64 310,.int .i64 30,.int .i64 40,.int .i64 40] 3))=yd at *;refine hK.out _ _ ?_ (fun hHeld=>?_)
    ·exact hSn
    clear hK Kq;(try refine pL _ ?_);(try simp only[Ec,Ed]);(try rw[←hn_]);clear hn_;exact hw24 _ _ _ _ (by kernel_rfl) (by kernel_rfl) ⟨n2,n3,rfl,hO2,hO3⟩ hHeld
  refine U3 31 33 35 ?_ ?_ ?_
  ·intro (t:Tag 31) Kq hK;clear t;go_simp;obtain⟨n1,hn_⟩:∃q,q=yd.heap.size:=⟨_,rfl⟩;have hO1:=heap_alloc_new yd (.cells #[.int .i64 1000,.int .i64 290,.int .i64 500,.int .i64 40,.int .i64 60,.int .i64 110] 3);rw[←hn_] at hO1;have hbA:=(Below.refl yd.heap.size yd).alloc (Nat.le_refl _) (.cells #[.int .i64 1000,.int .i64 290,.int .i64 500,.int .i64 40,.int .i64 60,.int .i64 110] 3);(try replace hO2:=keepO hbA hO2);(try replace hO3:=keepO hbA hO3);have hSn:=HSS.out _ _ hHeld hbA;clear hbA;generalize (yd.alloc (.cells #[.int .i64 1000,.int .i64 290,.int .i64 500,.int .i64 40,.int .i64 60,.int .i64 110] 3))=yd at *;refine hK.out _ _ ?_ (fun hHeld=>?_)
   ·exact hSn
   clear hK Kq;(try refine pL _ ?_);(try simp only[Ec,Ed]);(try rw[←hn_]);clear hn_;exact hw0 _ _ _ _ (by kernel_rfl) (by kernel_rfl) ⟨n1,rfl,hO1⟩ hHeld
  ·intro (t:Tag 33) Kq hK;clear t;go_simp;obtain⟨n2,hn_⟩:∃q,q=yd.heap.size:=⟨_,rfl⟩;have hO2:=heap_alloc_new yd (.cells #[.int .i64 600,.int .i64 180,.int .i64 310,.int .i64 30,.int .i64 40,.int .i64 40] 3);rw[←hn_] at hO2;have hbA:=(Below.refl yd.heap.size yd).alloc (Nat.le_refl _) (.cells #[.int .i64 600,.int .i64 180,.int .i64 310,.int .i64 30,.int .i64 40,.int .i64 40] 3);(try replace hO1:=keepO hbA hO1);(try replace hO3:=keepO hbA hO3);have hSn:=HSS.out _ _ hHeld hbA;clear hbA;generalize (yd.alloc (.cells #[.int .i64 600,.int .i64 180,.int .i64 310,.int .i64 30,.int .i64 40,.int .i64 40] 3))=yd at *;refine hK.out _ _ ?_ (fun hHeld=>?_)
   ·exact hSn
   clear hK Kq;(try refine pL _ ?_);(try simp only[Ec,Ed]);(try rw[←hn_]);clear hn_;exact hw2 _ _ _ _ (by kernel_rfl) (by kernel_rfl) ⟨n2,rfl,hO2⟩ hHeld
  ·intro (t:Tag 35) Kq hK;clear t;go_simp;obtain⟨n3,hn_⟩:∃q,q=yd.heap.size:=⟨_,rfl⟩;have hO3:=heap_alloc_new yd (.cells #[.int .i64 0,.int .i64 40,.int .i64 90,.int .i64 10,.int .i64 10,.int .i64 0] 3);rw[←hn_] at hO3;have hbA:=(Below.refl yd.heap.size yd).alloc (Nat.le_refl _) (.cells #[.int .i64 0,.int .i64 40,.int .i64 90,.int .i64 10,.int .i64 10,.int .i64 0] 3);(try replace hO1:=keepO hbA hO1);(try replace hO2:=keepO hbA hO2);have hSn:=HSS.out _ _ hHeld hbA;clear hbA;generalize (yd.alloc (.cells #[.int .i64 0,.int .i64 40,.int .i64 90,.int .i64 10,.int .i64 10,.int .i64 0] 3))=yd at *;refine hK.out _ _ ?_ (fun hHeld=>?_)
   ·exact hSn
   clear hK Kq;(try refine pL _ ?_);(try simp only[Ec,Ed]);(try rw[←hn_]);clear hn_;exact hw4 _ _ _ _ (by kernel_rfl) (by kernel_rfl) ⟨n3,rfl,hO3⟩ hHeld
 rw[show lstL (upto 118 31) [31,32,33,34,35,36]=upto 118 37 by kernel_rfl];clear hHeld;rintro l yd ⟨n1,n2,n3,rfl⟩ hHeld;simp only[putL,List.foldl,N0];refine Q1 37 ?_ (hr:=by as_aux_lemma=>kernel_rfl);intro _ Kq hK;go_simp;obtain⟨n4,hn_⟩:∃q,q=yd.heap.size:=⟨_,rfl⟩;have hO4:=heap_alloc_new yd (.cells #[.int .i64 1,.int .i64 0,.int .i64 1000,.int .i64 290,.int .i64 500,.int .i64 40,.int .i64 60,.int .i64 110,.int .i64 2,.int .i64 0,.int .i64 600,.int .i64 180,.int .i64 310,.int .i64 30,.int .i64 40,.int .i64 40,.int .i64 3,.int .i64 0,.int .i64 0,.int .i64 40,.int .i64 90,.int .i64 10,.int .i64 10,.int .i64 0] 43);rw[←hn_] at hO4;have hbA:=(Below.refl yd.heap.size yd).alloc (Nat.le_refl _) (.cells #[.int .i64 1,.int .i64 0,.int .i64 1000,.int .i64 290,.int .i64 500,.int .i64 40,.int .i64 60,.int .i64 110,.int .i64 2,.int .i64 0,.int .i64 600,.int .i64 180,.int .i64 310,.int .i64 30,.int .i64 40,.int .i64 40,.int .i64 3,.int .i64 0,.int .i64 0,.int .i64 40,.int .i64 90,.int .i64 10,.int .i64 10,.int .i64 0] 43);have hSn:=HSS.out _ _ hHeld hbA;clear hbA;generalize (yd.alloc (.cells #[.int .i64 1,.int .i64 0,.int .i64 1000,.int .i64 290,.int .i64 500,.int .i64 40,.int .i64 60,.int .i64 110,.int .i64 2,.int .i64 0,.int .i64 600,.int .i64 180,.int .i64 310,.int .i64 30,.int .i64 40,.int .i64 40,.int .i64 3,.int .i64 0,.int .i64 0,.int .i64 40,.int .i64 90,.int .i64 10,.int .i64 10,.int .i64 0] 43))=yd at *;refine hK.out _ _ ?_ (fun hHeld=>?_)
 ·exact hSn
 clear hK Kq;refine uS 37 38 ?_;try refine pL _ ?_
 try simp only[Ec,Ed]
 try rw[←hn_]
 clear hn_;refine Q1 38 ?_ (hr:=by as_aux_lemma=>kernel_rfl);intro _ Kq hK;go_simp;refine(sameW_eq A4 _ 3 c4 3 (firS mlP mlA) yd (by unfold maxLen;omega) (HP.out yd hHeld).2.2.2.2.2.2.1 (by rw[v4w];exact rd_cel hO4 rfl)).mono ?_;rintro e zq ⟨rfl,hb⟩;have hSn:=HSS.out _ _ hHeld hb;clear hb;generalize zq=yd at *;try go_simp
 refine hK.out _ _ ?_ (fun hHeld=>?_)
 ·exact hSn
 clear hK Kq;refine uS 38 39 ?_;try refine pL _ ?_
 try simp only[Ec,Ed]
 refine tU (v:=?_) 39 40 136 ?_ ?_;rotate_left
 ·intro w hSw;go_simp;(try with_reducible rfl)
 simp only[Ec,Ed];refine tU (v:=?_) 40 41 137 ?_ ?_;rotate_left
 ·intro w hSw;go_simp;(try with_reducible rfl)
 simp only[Ec,Ed];refine tU (v:=?_) 41 42 138 ?_ ?_;rotate_left
 ·intro w hSw;go_simp;(try with_reducible rfl)
 simp only[Ec,Ed];refine tU (v:=?_) 42 43 139 ?_ ?_;rotate_left
 ·intro w hSw;go_simp;(try with_reducible rfl)
 simp only[Ec,Ed];refine tU (v:=?_) 43 44 140 ?_ ?_;rotate_left
 ·intro w hSw;go_simp;(try with_reducible rfl)
 simp only[Ec,Ed];refine tU (v:=?_) 44 45 141 ?_ ?_;rotate_left
 ·intro w hSw;go_simp;(try with_reducible rfl)
 simp only[Ec,Ed];refine tU (v:=?_) 45 46 142 ?_ ?_;rotate_left
 ·intro w hSw;obtain⟨a0,a1,-,-⟩:=two_facts (HP.out w hSw).2.2.2.1;go_simp;(try with_reducible rfl)
 simp only[Ec,Ed];refine Q1 46 ?_ (hr:=by as_aux_lemma=>kernel_rfl);intro _ Kq hK;go_simp;refine(part_mk 3 14 yd).mono ?_;rintro e zq ⟨rfl,hb⟩;have hSn:=HSS.out _ _ hHeld hb;clear hb;generalize zq=yd at *;try go_simp
 refine hK.out _ _ ?_ (fun hHeld=>?_)
 ·exact hSn
 clear hK Kq;refine uS 46 47 ?_;try refine pL _ ?_
 try simp only[Ec,Ed]
 refine tU (v:=?_) 47 48 144 ?_ ?_;rotate_left
 ·intro w hSw;go_simp;(try with_reducible rfl)
 simp only[Ec,Ed];refine tU (v:=?_) 48 49 145 ?_ ?_;rotate_left
 ·intro w hSw;go_simp;(try with_reducible rfl)
 simp only[Ec,Ed];refine tU (v:=?_) 49 50 146 ?_ ?_;rotate_left
 ·intro w hSw;go_simp;(try with_reducible rfl)
 simp only[Ec,Ed];refine tU (v:=?_) 50 51 147 ?_ ?_;rotate_left
 ·intro w hSw;obtain⟨a0,a1,-,-⟩:=two_facts (HP.out w hSw).2.2.2.2.1;go_simp;(try with_reducible rfl)
 simp only[Ec,Ed];refine Q1 51 ?_ (hr:=by as_aux_lemma=>kernel_rfl);intro _ Kq hK;go_simp;refine(part_mk 8 23 yd).mono ?_;rintro e zq ⟨rfl,hb⟩;have hSn:=HSS.out _ _ hHeld hb;clear hb;generalize zq=yd at *;try go_simp
 refine hK.out _ _ ?_ (fun hHeld=>?_)
 ·exact hSn
 clear hK Kq;refine uS 51 52 ?_;try refine pL _ ?_
 try simp only[Ec,Ed]
 refine tU (v:=?_) 52 53 149 ?_ ?_;rotate_left
 ·intro w hSw;go_simp;(try with_reducible rfl)
 simp only[Ec,Ed];refine tU (v:=?_) 53 54 150 ?_ ?_;rotate_left
 ·intro w hSw;go_simp;(try with_reducible rfl)
 simp only[Ec,Ed];refine tU (v:=?_) 54 55 151 ?_ ?_;rotate_left
 ·intro w hSw;go_simp;(try with_reducible rfl)
 simp only[Ec,Ed];refine tU (v:=?_) 55 56 152 ?_ ?_;rotate_left
 ·intro w hSw;go_simp;(try with_reducible rfl)
 simp only[Ec,Ed];refine tU (v:=?_) 56 57 153 ?_ ?_;rotate_left
 ·intro w hSw;go_simp;(try with_reducible rfl)
 simp only[Ec,Ed];refine tU (v:=?_) 57 58 154 ?_ ?_;rotate_left
 ·intro w hSw;go_simp;(try with_reducible rfl)
 simp only[Ec,Ed];refine tU (v:=?_) 58 59 155 ?_ ?_;rotate_left
 ·intro w hSw;go_simp;(try with_reducible rfl)
 simp only[Ec,Ed];refine tU (v:=?_) 59 60 156 ?_ ?_;rotate_left
 ·intro w hSw;go_simp;(try with_reducible rfl)
 simp only[Ec,Ed];refine tU (v:=?_) 60 61 157 ?_ ?_;rotate_left
 ·intro w hSw;go_simp;(try with_reducible rfl)
 simp only[Ec,Ed];refine tU (v:=?_) 61 62 158 ?_ ?_;rotate_left
 ·intro w hSw;go_simp;(try with_reducible rfl)
 simp only[Ec,Ed];refine tU (v:=?_) 62 63 159 ?_ ?_;rotate_left
 ·intro w hSw;go_simp;(try with_reducible rfl)
 simp only[Ec,Ed];refine tU (v:=?_) 63 64 160 ?_ ?_;rotate_left
 ·intro w hSw;go_simp;(try with_reducible rfl)
 simp only[Ec,Ed];refine tU (v:=?_) 64 65 161 ?_ ?_;rotate_left
 ·intro w hSw;go_simp;(try with_reducible rfl)
 simp only[Ec,Ed];refine Q1 65 ?_ (hr:=by as_aux_lemma=>kernel_rfl);intro _ Kq hK;go_simp;obtain⟨nk,hn_⟩:∃q,q=yd.heap.size:=⟨_,rfl⟩;have hOk:=heap_alloc_new yd (.cells #[.int .i64 1,.int .i64 2,.int .i64 3,.int .i64 4,.int .i64 5,.int .i64 6,.int .i64 7,.int .i64 8,.int .i64 9,.int .i64 10,.int .i64 12,.int .i64 13,.int .i64 14,.int .i64 15] 3);rw[←hn_] at hOk;have hbA:=(Below.refl yd.heap.size yd).alloc (Nat.le_refl _) (.cells #[.int .i64 1,.int .i64 2,.int .i64 3,.int .i64 4,.int .i64 5,.int .i64 6,.int .i64 7,.int .i64 8,.int .i64 9,.int .i64 10,.int .i64 12,.int .i64 13,.int .i64 14,.int .i64 15] 3);have hSn:=HSS.out _ _ hHeld hbA;clear hbA;generalize (yd.alloc (.cells #[.int .i64 1,.int .i64 2,.int .i64 3,.int .i64 4,.int .i64 5,.int .i64 6,.int .i64 7,.int .i64 8,.int .i64 9,.int .i64 10,.int .i64 12,.int .i64 13,.int .i64 14,.int .i64 15] 3))=yd at *;refine hK.out _ _ ?_ (fun hHeld=>?_)
 ·exact hSn
 clear hK Kq;refine uS 65 66 ?_;try refine pL _ ?_
 try simp only[Ec,Ed]
 try rw[←hn_]
 clear hn_;refine Q1 66 ?_ (hr:=by as_aux_lemma=>kernel_rfl);intro _ Kq hK;go_simp;refine(is_eq A7 _ m7 14 c7 14 [1,2,3,4,5,6,7,8,9,10,12,13,14,15] yd (by unfold maxLen;omega) (by unfold maxLen;omega) (HP.out yd hHeld).2.2.2.2.2.2.2.1 (rd_cel hOk rfl)).mono ?_;rintro e zq ⟨rfl,kq,hzq⟩;have hb:Below yd.heap.size yd zq:=by rw[hzq];exact below_drewN (Below.refl _ _) kq
 clear hzq;have hSn:=HSS.out _ _ hHeld hb;clear hb;generalize zq=yd at *;try go_simp
 refine hK.out _ _ ?_ (fun hHeld=>?_)
 ·exact hSn
 clear hK Kq;refine uS 66 67 ?_;try refine pL _ ?_
 try simp only[Ec,Ed]
 refine tU (v:=?_) 67 68 164 ?_ ?_;rotate_left
 ·intro w hSw;go_simp;(try with_reducible rfl)
 simp only[Ec,Ed];refine tU (v:=?_) 68 69 165 ?_ ?_;rotate_left
 ·intro w hSw;go_simp;(try with_reducible rfl)
 simp only[Ec,Ed];refine tU (v:=?_) 69 70 166 ?_ ?_;rotate_left
 ·intro w hSw;go_simp;(try with_reducible rfl)
 simp only[Ec,Ed];refine tU (v:=?_) 70 71 167 ?_ ?_;rotate_left
 ·intro w hSw;go_simp;(try with_reducible rfl)
 simp only[Ec,Ed];refine tU (v:=?_) 71 72 168 ?_ ?_;rotate_left
 ·intro w hSw;go_simp;(try with_reducible rfl)
 simp only[Ec,Ed];refine tU (v:=?_) 72 73 169 ?_ ?_;rotate_left
 ·intro w hSw;go_simp;(try with_reducible rfl)
 simp only[Ec,Ed];refine tU (v:=?_) 73 74 170 ?_ ?_;rotate_left
 ·intro w hSw;go_simp;(try with_reducible rfl)
 simp only[Ec,Ed];refine tU (v:=?_) 74 75 171 ?_ ?_;rotate_left
 ·intro w hSw;go_simp;(try with_reducible rfl)
 simp only[Ec,Ed];refine tU (v:=?_) 75 76 172 ?_ ?_;rotate_left
 ·intro w hSw;go_simp;(try with_reducible rfl)
 simp only[Ec,Ed];refine tU (v:=?_) 76 77 173 ?_ ?_;rotate_left
 ·intro w hSw;go_simp;(try with_reducible rfl)
 simp only[Ec,Ed];refine tU (v:=?_) 77 78 174 ?_ ?_;rotate_left
 ·intro w hSw;go_simp;(try with_reducible rfl)
 simp only[Ec,Ed];refine tU (v:=?_) 78 79 175 ?_ ?_;rotate_left
 ·intro w hSw;go_simp;(try with_reducible rfl)
 simp only[Ec,Ed];refine Q1 79 ?_ (hr:=by as_aux_lemma=>kernel_rfl);intro _ Kq hK;go_simp;obtain⟨nk,hn_⟩:∃q,q=yd.heap.size:=⟨_,rfl⟩;have hOk:=heap_alloc_new yd (.cells #[.int .i64 3,.int .i64 20] 62);rw[←hn_] at hOk;have hbA:=(Below.refl yd.heap.size yd).alloc (Nat.le_refl _) (.cells #[.int .i64 3,.int .i64 20] 62);have hSn:=HSS.out _ _ hHeld hbA;clear hbA;generalize (yd.alloc (.cells #[.int .i64 3,.int .i64 20] 62))=yd at *;refine hK.out _ _ ?_ (fun hHeld=>?_)
 ·exact hSn
 clear hK Kq;refine uS 79 80 ?_;try refine pL _ ?_
 try simp only[Ec,Ed]
 try rw[←hn_]
 clear hn_;refine Q1 80 ?_ (hr:=by as_aux_lemma=>kernel_rfl);intro _ Kq hK;go_simp;refine(sameMissing_eq A8 _ m8 1 c8 1 [(3,20)] yd hm8 (HP.out yd hHeld).2.2.2.2.2.2.2.2.1 (rd_cel hOk rfl)).mono ?_;rintro e zq ⟨rfl,kq,hzq⟩;have hb:Below yd.heap.size yd zq:=by rw[hzq];exact below_drewN (Below.refl _ _) kq
 clear hzq;have hSn:=HSS.out _ _ hHeld hb;clear hb;generalize zq=yd at *;try go_simp
 refine hK.out _ _ ?_ (fun hHeld=>?_)
 ·exact hSn
 clear hK Kq;refine uS 80 81 ?_;try refine pL _ ?_
 try simp only[Ec,Ed]
 refine tU (v:=?_) 81 82 178 ?_ ?_;rotate_left
 ·intro w hSw;go_simp;(try with_reducible rfl)
 simp only[Ec,Ed];refine tU (v:=?_) 82 83 179 ?_ ?_;rotate_left
 ·intro w hSw;go_simp;(try with_reducible rfl)
 simp only[Ec,Ed];refine tU (v:=?_) 83 84 180 ?_ ?_;rotate_left
 ·intro w hSw;go_simp;(try with_reducible rfl)
 simp only[Ec,Ed];refine tU (v:=?_) 84 85 181 ?_ ?_;rotate_left
 ·intro w hSw;go_simp;(try with_reducible rfl)
 simp only[Ec,Ed];refine Q1 85 ?_ (hr:=by as_aux_lemma=>kernel_rfl);intro _ Kq hK;go_simp;obtain⟨nk,hn_⟩:∃q,q=yd.heap.size:=⟨_,rfl⟩;have hOk:=heap_alloc_new yd (.cells #[.int .i64 1] 3);rw[←hn_] at hOk;have hbA:=(Below.refl yd.heap.size yd).alloc (Nat.le_refl _) (.cells #[.int .i64 1] 3);have hSn:=HSS.out _ _ hHeld hbA;clear hbA;generalize (yd.alloc (.cells #[.int .i64 1] 3))=yd at *;refine hK.out _ _ ?_ (fun hHeld=>?_)
 ·exact hSn
 clear hK Kq;refine uS 85 86 ?_;try refine pL _ ?_
 try simp only[Ec,Ed]
 try rw[←hn_]
 clear hn_;refine Q1 86 ?_ (hr:=by as_aux_lemma=>kernel_rfl);intro _ Kq hK;go_simp;refine(is_eq A9 _ m9 1 c9 1 [1] yd (by unfold maxLen;omega) (by unfold maxLen;omega) (HP.out yd hHeld).2.2.2.2.2.2.2.2.2.1 (rd_cel hOk rfl)).mono ?_;rintro e zq ⟨rfl,kq,hzq⟩;have hb:Below yd.heap.size yd zq:=by rw[hzq];exact below_drewN (Below.refl _ _) kq
 clear hzq;have hSn:=HSS.out _ _ hHeld hb;clear hb;generalize zq=yd at *;try go_simp
 refine hK.out _ _ ?_ (fun hHeld=>?_)
 ·exact hSn
 clear hK Kq;refine uS 86 87 ?_;try refine pL _ ?_
 try simp only[Ec,Ed]
 refine tU (v:=?_) 87 88 184 ?_ ?_;rotate_left
 ·intro w hSw;go_simp;(try with_reducible rfl)
 simp only[Ec,Ed];refine tU (v:=?_) 88 89 185 ?_ ?_;rotate_left
 ·intro w hSw;go_simp;(try with_reducible rfl)
 simp only[Ec,Ed];refine tU (v:=?_) 89 90 186 ?_ ?_;rotate_left
 ·intro w hSw;go_simp;(try with_reducible rfl)
 simp only[Ec,Ed];refine tU (v:=?_) 90 91 187 ?_ ?_;rotate_left
 ·intro w hSw;go_simp;(try with_reducible rfl)
 simp only[Ec,Ed];refine tU (v:=?_) 91 92 188 ?_ ?_;rotate_left
 ·intro w hSw;go_simp;(try with_reducible rfl)
 simp only[Ec,Ed];refine tU (v:=?_) 92 93 189 ?_ ?_;rotate_left
 ·intro w hSw;go_simp;(try with_reducible rfl)
 simp only[Ec,Ed];refine tU (v:=?_) 93 94 190 ?_ ?_;rotate_left
 ·intro w hSw;obtain⟨a0,a1,-,-⟩:=two_facts (HP.out w hSw).2.2.2.2.2.1;go_simp;(try with_reducible rfl)
 simp only[Ec,Ed];refine Q1 94 ?_ (hr:=by as_aux_lemma=>kernel_rfl);intro _ Kq hK;go_simp;refine(span_mk 490 615 yd).mono ?_;rintro e zq ⟨rfl,hb⟩;have hSn:=HSS.out _ _ hHeld hb;clear hb;generalize zq=yd at *;try go_simp
 refine hK.out _ _ ?_ (fun hHeld=>?_)
 ·exact hSn
 clear hK Kq;refine uS 94 95 ?_;try refine pL _ ?_
 try simp only[Ec,Ed]
 refine tU (v:=?_) 95 96 192 ?_ ?_;rotate_left
 ·intro w hSw;go_simp;(try with_reducible rfl)
 simp only[Ec,Ed];refine tU (v:=?_) 96 97 193 ?_ ?_;rotate_left
 ·intro w hSw;go_simp;(try with_reducible rfl)
 simp only[Ec,Ed];refine tU (v:=?_) 97 98 194 ?_ ?_;rotate_left
 ·intro w hSw;go_simp;(try with_reducible rfl)
 simp only[Ec,Ed];refine tU (v:=?_) 98 99 195 ?_ ?_;rotate_left
 ·intro w hSw;go_simp;(try with_reducible rfl)
 simp only[Ec,Ed];refine tU (v:=?_) 99 100 196 ?_ ?_;rotate_left
 ·intro w hSw;go_simp;(try with_reducible rfl)
 simp only[Ec,Ed];refine Q1 100 ?_ (hr:=by as_aux_lemma=>kernel_rfl);intro _ Kq hK;go_simp;obtain⟨nk,hn_⟩:∃q,q=yd.heap.size:=⟨_,rfl⟩;have hOk:=heap_alloc_new yd (.cells #[.int .i64 1,.int .i64 2,.int .i64 3] 3);rw[←hn_] at hOk;have hbA:=(Below.refl yd.heap.size yd).alloc (Nat.le_refl _) (.cells #[.int .i64 1,.int .i64 2,.int .i64 3] 3);have hSn:=HSS.out _ _ hHeld hbA;clear hbA;generalize (yd.alloc (.cells #[.int .i64 1,.int .i64 2,.int .i64 3] 3))=yd at *;refine hK.out _ _ ?_ (fun hHeld=>?_)
 ·exact hSn
 clear hK Kq;refine uS 100 101 ?_;try refine pL _ ?_
 try simp only[Ec,Ed]
 try rw[←hn_]
 clear hn_;refine Q1 101 ?_ (hr:=by as_aux_lemma=>kernel_rfl);intro _ Kq hK;go_simp;refine(is_eq A11 _ m11 3 c11 3 [1,2,3] yd (by unfold maxLen;omega) (by unfold maxLen;omega) (HP.out yd hHeld).2.2.2.2.2.2.2.2.2.2.1 (rd_cel hOk rfl)).mono ?_;rintro e zq ⟨rfl,kq,hzq⟩;have hb:Below yd.heap.size yd zq:=by rw[hzq];exact below_drewN (Below.refl _ _) kq
 clear hzq;have hSn:=HSS.out _ _ hHeld hb;clear hb;generalize zq=yd at *;try go_simp
 refine hK.out _ _ ?_ (fun hHeld=>?_)
 ·exact hSn
 clear hK Kq;refine uS 101 102 ?_;try refine pL _ ?_
 try simp only[Ec,Ed]
 refine tU (v:=?_) 102 103 199 ?_ ?_;rotate_left
 ·intro w hSw;go_simp;(try with_reducible rfl)
 simp only[Ec,Ed];refine tU (v:=?_) 103 104 200 ?_ ?_;rotate_left
 ·intro w hSw;go_simp;(try with_reducible rfl)
 simp only[Ec,Ed];refine tU (v:=?_) 104 105 201 ?_ ?_;rotate_left
 ·intro w hSw;go_simp;(try with_reducible rfl)
 simp only[Ec,Ed];refine tU (v:=?_) 105 106 202 ?_ ?_;rotate_left
 ·intro w hSw;go_simp;(try with_reducible rfl)
 simp only[Ec,Ed];refine Q1 106 ?_ (hr:=by as_aux_lemma=>kernel_rfl);intro _ Kq hK;go_simp;obtain⟨nk,hn_⟩:∃q,q=yd.heap.size:=⟨_,rfl⟩;have hOk:=heap_alloc_new yd (.cells #[.int .i64 1,.int .i64 2] 3);rw[←hn_] at hOk;have hbA:=(Below.refl yd.heap.size yd).alloc (Nat.le_refl _) (.cells #[.int .i64 1,.int .i64 2] 3);have hSn:=HSS.out _ _ hHeld hbA;clear hbA;generalize (yd.alloc (.cells #[.int .i64 1,.int .i64 2] 3))=yd at *;refine hK.out _ _ ?_ (fun hHeld=>?_)
 ·exact hSn
 clear hK Kq;refine uS 106 107 ?_;try refine pL _ ?_
 try simp only[Ec,Ed]
 try rw[←hn_]
 clear hn_;refine Q1 107 ?_ (hr:=by as_aux_lemma=>kernel_rfl);intro _ Kq hK;go_simp;refine(is_eq A12 _ 2 2 c12 2 [1,2] yd (by unfold maxLen;omega) (by unfold maxLen;omega) (HP.out yd hHeld).2.2.2.2.2.2.2.2.2.2.2.1 (rd_cel hOk rfl)).mono ?_;rintro e zq ⟨rfl,kq,hzq⟩;have hb:Below yd.heap.size yd zq:=by rw[hzq];exact below_drewN (Below.refl _ _) kq
 clear hzq;have hSn:=HSS.out _ _ hHeld hb;clear hb;generalize zq=yd at *;try go_simp
 refine hK.out _ _ ?_ (fun hHeld=>?_)
 ·exact hSn
 clear hK Kq;refine uS 107 108 ?_;try refine pL _ ?_
 try simp only[Ec,Ed]
 refine tU (v:=?_) 108 109 205 ?_ ?_;rotate_left
 ·intro w hSw;go_simp;(try with_reducible rfl)
 simp only[Ec,Ed];refine tU (v:=?_) 109 110 206 ?_ ?_;rotate_left
 ·intro w hSw;go_simp;(try with_reducible rfl)
 simp only[Ec,Ed];refine tU (v:=?_) 110 111 207 ?_ ?_;rotate_left
 ·intro w hSw;go_simp;(try with_reducible rfl)
 simp only[Ec,Ed];refine tU (v:=?_) 111 112 208 ?_ ?_;rotate_left
 ·intro w hSw;go_simp;(try with_reducible rfl)
 simp only[Ec,Ed];refine tU (v:=?_) 112 113 209 ?_ ?_;rotate_left
 ·intro w hSw;go_simp;(try with_reducible rfl)
 simp only[Ec,Ed];refine tU (v:=?_) 113 114 210 ?_ ?_;rotate_left
 ·intro w hSw;go_simp;(try with_reducible rfl)
 simp only[Ec,Ed];refine tU (v:=?_) 114 115 211 ?_ ?_;rotate_left
 ·intro w hSw;go_simp;(try with_reducible rfl)
 simp only[Ec,Ed];refine tU (v:=?_) 115 116 212 ?_ ?_;rotate_left
 ·intro w hSw;go_simp;(try with_reducible rfl)
 simp only[Ec,Ed];refine tU (v:=?_) 116 117 213 ?_ ?_;rotate_left
 ·intro w hSw;go_simp;(try with_reducible rfl)
 simp only[Ec,Ed];refine tU (v:=?_) 117 118 0 ?_ ?_;rotate_left
 ·intro w hSw;go_simp;(try with_reducible rfl)
 simp only[Ec,Ed];refine wpAnyH_done (by kernel_rfl) ?_ _;clear hSd;go_wp2;go_ret;exact⟨rfl,(HP.out yd hHeld).2.2.2.2.2.2.2.2.2.2.2.2⟩
end Go.Proofs.YtfplipbkjglmhaaDoor
