/-
  How large the numbers of a worth are. No program in sight.
-/
import Derived.Test.YtfplipbkjglmhaaDoorSpan2
namespace Go.Proofs.YtfplipbkjglmhaaDoor
set_option linter.unusedVariables false
set_option linter.unusedSimpArgs false
/-- The greatest that there is of a kind with some parings: rises, stays, falls. -/
structure Wo where
  most:Int
  lo:Int
  ri:Int
  fl:Int
  fa:Int
def addW (a b:Wo):Wo:=⟨a.most+b.most,a.lo+b.lo,a.ri+b.ri,a.fl+b.fl,a.fa+b.fa⟩
def zeroWo:Wo:=⟨0,0,0,0,0⟩
def cutL (w:Wo) (s:Int):Wo:=
  if s - w.lo > 0 then⟨w.most - (s - w.lo - min (s - w.lo) w.ri - min (s - w.lo - min (s - w.lo) w.ri) w.fl),w.lo+(s - w.lo),w.ri - min (s - w.lo) w.ri,w.fl - min (s - w.lo - min (s - w.lo) w.ri) w.fl,w.fa - (s - w.lo - min (s - w.lo) w.ri - min (s - w.lo - min (s - w.lo) w.ri) w.fl)⟩ else w
def cutR' (w:Wo) (d:Int):Wo:=
  ⟨w.most - (d - min d w.fa - min (d - min d w.fa) w.fl),w.lo,w.ri - (d - min d w.fa - min (d - min d w.fa) w.fl),w.fl - min (d - min d w.fa) w.fl,w.fa - min d w.fa⟩
def cutR (w:Wo) (s:Int):Wo:=if w.lo+w.ri+w.fl+w.fa - s > 0 then cutR' w (w.lo+w.ri+w.fl+w.fa - s) else w
def cutW (w:Wo) (s:Sp):Wo:=cutR (cutL w s.1) s.2
/-- The greatest with a price on the parings. -/
def conj (w:Wo) (v:Int):Int:=if v=1 then w.most+w.lo+w.ri+w.fl else if v = -1 then w.most - w.lo - w.ri else w.most
/-- The greatest that ounces of a span can count, if each one counts so much. -/
def cnt (s:Sp) (e:Int):Int:=max (s.1*e) (s.2*e)
/-- Shapes: with prices 0 and 1 nothing rises, with prices 0 and -1 nothing falls. -/
structure Shp (sg:Int) (w:Wo):Prop where
  r0:0≤w.ri
  l0:0≤w.fl
  a0:0≤w.fa
  pos:sg=1→w.ri=0
  neg:sg = -1→w.fa=0
theorem conj_add(a b:Wo)(v:Int):conj (addW a b) v=conj a v+conj b v:=by
  unfold conj addW;simp only;split
  · omega
  · split<;>omega
theorem conj_zero(v:Int):conj zeroWo v=0:=by unfold conj zeroWo;simp
theorem Shp.add{sg:Int}{a b:Wo}(ha:Shp sg a)(hb:Shp sg b):Shp sg (addW a b):=by
  obtain⟨h1,h2,h3,h4,h5⟩:=ha;obtain⟨g1,g2,g3,g4,g5⟩:=hb;unfold addW;refine⟨?_,?_,?_,fun h=>?_,fun h=>?_⟩<;>simp only
  · omega
  · omega
  · omega
  · have:=h4 h;have:=g4 h;omega
  · have:=h5 h;have:=g5 h;omega
theorem Shp.zero(sg:Int):Shp sg zeroWo:=⟨by decide,by decide,by decide,fun _=>rfl,fun _=>rfl⟩
theorem cut_facts {sg : Int} (hs : sg = 1 ∨ sg = -1) {w : Wo} (h : Shp sg w) {a b : Int} (hab : a ≤ b) (hne : max w.lo a ≤ min (w.lo + w.ri + w.fl + w.fa) b) :
    Shp sg (cutW w (a,b))∧(cutW w (a,b)).lo=max w.lo a∧(cutW w (a,b)).lo+(cutW w (a,b)).ri+(cutW w (a,b)).fl+(cutW w (a,b)).fa=min (w.lo+w.ri+w.fl+w.fa) b∧
      (cutW w (a,b)).ri≤w.ri∧(cutW w (a,b)).fl≤w.fl∧(cutW w (a,b)).fa≤w.fa:=by
  obtain⟨h1,h2,h3,h4,h5⟩:=h;obtain⟨m,l,r,f,g⟩:=w;simp only at *;rcases hs with rfl|rfl
  · have h4:=h4 rfl;clear h5;subst h4;unfold cutW cutR cutL cutR';simp only;split<;>simp only<;>split<;>refine⟨⟨?_,?_,?_,fun _=>?_,fun h=>absurd h (by decide)⟩,?_,?_,?_,?_,?_⟩<;>simp only<;>omega
  · have h5:=h5 rfl;clear h4;subst h5;unfold cutW cutR cutL cutR';simp only;split<;>simp only<;>split<;>refine⟨⟨?_,?_,?_,fun h=>absurd h (by decide),fun _=>?_⟩,?_,?_,?_,?_,?_⟩<;>simp only<;>omega
theorem conj_0(w:Wo):conj w 0=w.most:=by unfold conj;rw[if_neg (by decide),if_neg (by decide)]
theorem conj_1(w:Wo):conj w 1=w.most+w.lo+w.ri+w.fl:=by unfold conj;rw[if_pos rfl]
theorem conj_n(w:Wo):conj w (-1)=w.most - w.lo - w.ri:=by unfold conj;rw[if_neg (by decide),if_pos rfl]
theorem cut_law {sg : Int} (hs : sg = 1 ∨ sg = -1) {w : Wo} (h : Shp sg w) {a b : Int} (hab : a ≤ b) (hne : max w.lo a ≤ min (w.lo + w.ri + w.fl + w.fa) b) {v : Int} (hv : v = 0 ∨ v = sg) :
    conj (cutW w (a,b)) v=min (conj w 0+cnt (a,b) (v - 0)) (conj w sg+cnt (a,b) (v - sg)):=by
  obtain⟨h1,h2,h3,h4,h5⟩:=h;obtain⟨m,l,r,f,g⟩:=w;simp only at *;rcases hs with rfl|rfl
  · have h4:=h4 rfl;clear h5;subst h4;rcases hv with rfl|rfl
    · rw[conj_0,conj_0,conj_1];unfold cutW cutR cutL cutR' cnt;simp only;split<;>simp only<;>split<;>simp only<;>omega
    · rw[conj_1,conj_0,conj_1];unfold cutW cutR cutL cutR' cnt;simp only;split<;>simp only<;>split<;>simp only<;>omega
  · have h5:=h5 rfl;clear h4;subst h5;rcases hv with rfl|rfl
    · rw[conj_0,conj_0,conj_n];unfold cutW cutR cutL cutR' cnt;simp only;split<;>simp only<;>split<;>simp only<;>omega
    · rw[conj_n,conj_0,conj_n];unfold cutW cutR cutL cutR' cnt;simp only;split<;>simp only<;>split<;>simp only<;>omega
/-- What one kind adds. -/
def ownK (kind:Nat) (sgn:Int) (k:Nat) (s:Sp):Wo:=
  if k≠kind then⟨0,(if k=1 then s.1 else -s.2),0,s.2 - s.1,0⟩
  else if(decide (k=1))=(decide (sgn > 0)) then⟨max (sgn*s.1) (sgn*s.2),(if k=1 then s.1 else -s.2),s.2 - s.1,0,0⟩
  else⟨max (sgn*s.1) (sgn*s.2),(if k=1 then s.1 else -s.2),0,0,s.2 - s.1⟩
def ownN (kind:Nat) (sgn:Int) (f:Nat→Sp) (w:Wo):Nat→Wo
  | 0=>w
  | k+1=>addW (ownN kind sgn f w k) (ownK kind sgn (k+1) (f (k+1)))
def gathW (to:Nat→Option Nat) (f:Nat→Wo) (k:Nat):Nat→Wo
  | 0=>zeroWo
  | j+1=>if to j=some k then addW (gathW to f k j) (f j) else gathW to f k j
/-- The sign of prices. -/
def sgP (kind:Nat) (sgn:Int):Int:=if(decide (kind=1))=(decide (sgn > 0)) then -1 else 1
def eachP (kind:Nat) (one:Int) (own to_:Int) (k:Nat):Int:=(if k=1 then own else if k=6 then to_ - own else -own)+(if k=kind then one else 0)
theorem sgP_or(kind:Nat)(sgn:Int):sgP kind sgn=1∨sgP kind sgn = -1:=by
  unfold sgP;split
  · exact Or.inr rfl
  · exact Or.inl rfl
theorem own_shp{kind:Nat}{sgn:Int}(hg:sgn=1∨sgn = -1){k:Nat}{s:Sp}(hs:Ne s):Shp (sgP kind sgn) (ownK kind sgn k s):=by
  unfold Ne at hs;by_cases h:k=kind
  · subst h;unfold ownK;rw[if_neg (fun h=>h rfl)];unfold sgP;split
    · exact⟨by simp only;omega,by simp,by simp,fun h=>absurd h (by decide),fun _=>rfl⟩
    · exact⟨by simp,by simp,by simp only;omega,fun _=>rfl,fun h=>absurd h (by decide)⟩
  · unfold ownK;rw[if_pos h];exact⟨by simp,by simp only;omega,by simp,fun _=>rfl,fun _=>rfl⟩
theorem own_conj {kind : Nat} {sgn : Int} (hg : sgn = 1 ∨ sgn = -1) {k : Nat} (h6 : k ≤ 5) {s : Sp} (hs : Ne s) {v t : Int} (hv : v = 0 ∨ v = sgP kind sgn) :
    conj (ownK kind sgn k s) v=cnt s (eachP kind sgn v t k):=by
  unfold Ne at hs;obtain⟨a,b⟩:=s;simp only at hs;have h6':¬k=6:=(by omega);by_cases h:k=kind
  · subst h;unfold sgP at hv;unfold ownK eachP cnt;rw[if_neg (by simp),if_pos rfl];by_cases h1:k=1
    · subst h1;rcases hg with rfl|rfl
      · simp only[decide_true,Int.reduceGT,if_true] at hv ⊢;rcases hv with rfl|rfl
        · rw[conj_0];simp only;omega
        · rw[conj_n];simp only;omega
      · simp only[decide_true,Int.reduceGT,decide_false,reduceCtorEq,if_false,if_true] at hv ⊢;rcases hv with rfl|rfl
        · rw[conj_0];simp only;omega
        · rw[conj_1];simp only;omega
    · rw[if_neg h1,if_neg h6',if_neg h1];rcases hg with rfl|rfl
      · simp only[h1,decide_false,Int.reduceGT,decide_true,reduceCtorEq,if_false] at hv ⊢;rcases hv with rfl|rfl
        · rw[conj_0];simp only;omega
        · rw[conj_1];simp only;omega
      · simp only[h1,decide_false,Int.reduceGT,if_true] at hv ⊢;rcases hv with rfl|rfl
        · rw[conj_0];simp only;omega
        · rw[conj_n];simp only;omega
  · have hv':v=0∨v=1∨v = -1:=(by rcases hv with rfl|rfl;exact .inl rfl;exact .inr (sgP_or _ _));unfold ownK eachP cnt;rw[if_pos h,if_neg h];by_cases h1:k=1
    · rw[if_pos h1,if_pos h1];rcases hv' with rfl|rfl|rfl
      · rw[conj_0];simp only;omega
      · rw[conj_1];simp only;omega
      · rw[conj_n];simp only;omega
    · rw[if_neg h1,if_neg h1,if_neg h6'];rcases hv' with rfl|rfl|rfl
      · rw[conj_0];simp only;omega
      · rw[conj_1];simp only;omega
      · rw[conj_n];simp only;omega
/-- By recursion along the places. -/
def wsC (g:(Nat→Wo)→Nat→Wo):Nat→Nat→Wo
  | 0=>fun _=>zeroWo
  | m+1=>fun j=>if j=m then g (wsC g m) m else wsC g m j
def fixW (g:(Nat→Wo)→Nat→Wo) (j:Nat):Wo:=wsC g (j+1) j
def LocW (g:(Nat→Wo)→Nat→Wo):Prop:=∀f f' i,(∀j,j<i→f j=f' j)→g f i=g f' i
theorem wsC_at(g:(Nat→Wo)→Nat→Wo):∀m j,j<m→wsC g m j=fixW g j
  | 0,_,h=>by omega
  | m+1,j,h=>by
    by_cases e:j=m
    · subst e;rfl
    · have ih:=wsC_at g m j (by omega);rw[←ih];show (if j=m then _ else _)=_;rw[if_neg e]
theorem fixW_eq{g:(Nat→Wo)→Nat→Wo}(hg:LocW g)(i:Nat):fixW g i=g (fixW g) i:=by
  show (if i=i then _ else _)=_;rw[if_pos rfl];exact hg _ _ _ fun j hj=>wsC_at g i j hj
theorem gath_congr{to:Nat→Option Nat}{f f':Nat→Wo}(k:Nat):∀m,(∀j,j<m→f j=f' j)→gathW to f k m=gathW to f' k m
  | 0,_=>rfl
  | m+1,h=>by
    have ih:=gath_congr (to:=to) k m (fun j hj=>h j (by omega));unfold gathW;rw[ih,h m (by omega)]
section
variable (to:Nat→Option Nat) (R:Nat→Nat→Sp) (kind:Nat) (sgn:Int)
def recW (f:Nat→Wo) (i:Nat):Wo:=cutW (ownN kind sgn (R i) (gathW to f i i) 5) (R i 6)
def worthP:Nat→Wo:=fixW (recW to R kind sgn)
theorem worthP_eq(i:Nat):worthP to R kind sgn i=recW to R kind sgn (worthP to R kind sgn) i:=
  fixW_eq (fun f f' i h=>by unfold recW;rw[gath_congr i i h]) i
def totW (f:Nat→Wo):Nat→Int
  | 0=>0
  | k+1=>if to k=none then totW f k+(f k).most else totW f k
/-- The program's answer. -/
def grt (n:Nat):Int:=totW to (worthP to R kind sgn) n
def yTo (y:Nat→Int) (i:Nat):Int:=match to i with|some q=>y q|none=>0
def rowS (one:Int) (y:Nat→Int) (i:Nat):Nat→Int
  | 0=>0
  | k+1=>rowS one y i k+cnt (R i (k+1)) (eachP kind one (y i) (yTo to y i) (k+1))
/-- The sum of prices. -/
def priS (one:Int) (y:Nat→Int):Nat→Int
  | 0=>0
  | i+1=>priS one y i+rowS to R kind one y i 6
end
def tailS (f:Nat→Int):Nat→Nat→Int
  | _,0=>0
  | k,d+1=>f k+tailS f (k+1) d
theorem tailS_congr{f g:Nat→Int}:∀(d k:Nat),(∀j,k≤j→j<k+d→f j=g j)→tailS f k d=tailS g k d
  | 0,_,_=>rfl
  | d+1,k,h=>by
    show f k+_=g k+_;rw[h k (by omega) (by omega),tailS_congr d (k+1) (fun j h1 h2=>h j (by omega) (by omega))]
theorem tailS_upd{f g:Nat→Int}{q:Nat}{c:Int}(hq:g q=f q+c)(hf:∀j,j≠q→g j=f j):∀(d k:Nat),k≤q→q<k+d→tailS g k d=tailS f k d+c
  | 0,_,_,h=>by omega
  | d+1,k,h1,h2=>by
    show g k+_=f k+_+c;by_cases e:q=k
    · subst e;rw[hq,tailS_congr d (q+1) (fun j h1 h2=>hf j (by omega))];omega
    · rw[hf k (fun h=>e h.symm),tailS_upd hq hf d (k+1) (by omega) (by omega)];omega
theorem tailS_snoc(f:Nat→Int):∀(d k:Nat),tailS f k (d+1)=tailS f k d+f (k+d)
  | 0,k=>by simp[tailS]
  | d+1,k=>by
    have ih:=tailS_snoc f d (k+1);show f k+tailS f (k+1) (d+1)=f k+tailS f (k+1) d+_;rw[ih,show k+1+d=k+(d+1) by omega];omega
section
variable {n:Nat} {to:Nat→Option Nat} {R:Nat→Nat→Sp} {kind:Nat} {sgn:Int}
theorem pri_tail(one:Int)(y:Nat→Int):∀n,priS to R kind one y n=tailS (fun i=>rowS to R kind one y i 6) 0 n
  | 0=>rfl
  | n+1=>by rw[tailS_snoc,←pri_tail one y n];simp[priS]
theorem ownN_add(f:Nat→Sp)(w:Wo)(v:Int):∀k,conj (ownN kind sgn f w k) v=conj w v+conj (ownN kind sgn f zeroWo k) v
  | 0=>by show conj w v=_;simp only[ownN,conj_zero];omega
  | k+1=>by
    simp only[ownN,conj_add];rw[ownN_add f w v k];omega
theorem ownN_shp(hg:sgn=1∨sgn = -1){f:Nat→Sp}{w:Wo}(hw:Shp (sgP kind sgn) w):∀k,(∀q,1≤q→q≤k→Ne (f q))→Shp (sgP kind sgn) (ownN kind sgn f w k)
  | 0,_=>hw
  | k+1,h=>(ownN_shp hg hw k (fun q h1 h2=>h q h1 (by omega))).add (own_shp hg (h (k+1) (by omega) (by omega)))
theorem ownN_conj (hg : sgn = 1 ∨ sgn = -1) {y : Nat → Int} {i : Nat} (hv : y i = 0 ∨ y i = sgP kind sgn) : ∀ k, k ≤ 5 → (∀ q, 1 ≤ q → q ≤ k → Ne (R i q)) →
    conj (ownN kind sgn (R i) zeroWo k) (y i)=rowS to R kind sgn y i k
  | 0,_,_=>conj_zero _
  | k+1,h,hn=>by
    simp only[ownN,rowS,conj_add];rw[ownN_conj hg hv k (by omega) (fun q h1 h2=>hn q h1 (by omega)),own_conj hg (t:=yTo to y i) h (hn (k+1) (by omega) (by omega)) hv]
theorem own_lo(f:Nat→Sp)(w:Wo):(ownN kind sgn f w 5).lo=w.lo+(f 1).1 - ((f 2).2+(f 3).2+(f 4).2+(f 5).2):=by
  have h:∀k s,(ownK kind sgn k s).lo=if k=1 then s.1 else -s.2:=fun k s=>by
    unfold ownK;split
    · rfl
    · split<;>rfl
  simp only[ownN,addW,h];simp;omega
theorem own_hi(f:Nat→Sp)(w:Wo):(ownN kind sgn f w 5).lo+(ownN kind sgn f w 5).ri+(ownN kind sgn f w 5).fl+(ownN kind sgn f w 5).fa=w.lo+w.ri+w.fl+w.fa+(f 1).2 - ((f 2).1+(f 3).1+(f 4).1+(f 5).1):=by
  have h:∀k s,(ownK kind sgn k s).lo=if k=1 then s.1 else -s.2:=fun k s=>by
    unfold ownK;split
    · rfl
    · split<;>rfl
  have h2:∀k s,(ownK kind sgn k s).ri+(ownK kind sgn k s).fl+(ownK kind sgn k s).fa=s.2 - s.1:=fun k s=>by
    unfold ownK;split
    · simp
    · split<;>simp
  have e1:=h2 1 (f 1);have e2:=h2 2 (f 2);have e3:=h2 3 (f 3);have e4:=h2 4 (f 4);have e5:=h2 5 (f 5);simp only[ownN,addW,h];simp;omega
/-- The ends of what the parings can be. -/
structure Ends (sg:Int) (w:Wo) (s:Sp):Prop where
  shp:Shp sg w
  lo:w.lo=s.1
  hi:w.lo+w.ri+w.fl+w.fa=s.2
theorem gath_ends{sg:Int}{f:Nat→Wo}{U:Nat→Sp}(k:Nat):∀m,(∀j,j<m→Ends sg (f j) (U j))→Ends sg (gathW to f k m) (feed to U k m)
  | 0,_=>⟨Shp.zero sg,rfl,rfl⟩
  | m+1,h=>by
    have ih:=gath_ends (sg:=sg) (f:=f) (U:=U) k m (fun j hj=>h j (by omega));have hm:=h m (by omega);unfold gathW feed;by_cases ht:to m=some k
    · rw[if_pos ht,if_pos ht];refine⟨ih.shp.add hm.shp,?_,?_⟩
      · have a:=ih.lo;have b:=hm.lo;simp only[addW,plus];omega
      · have a:=ih.hi;have b:=hm.hi;simp only[addW,plus];omega
    · rw[if_neg ht,if_neg ht];exact ih
/-- Ahead of the cut. -/
def preW (to:Nat→Option Nat) (R:Nat→Nat→Sp) (kind:Nat) (sgn:Int) (k j:Nat):Wo:=ownN kind sgn (R j) (gathW to (worthP to R kind sgn) j k) 5
theorem pre_facts (hg : sgn = 1 ∨ sgn = -1) (hH : Holds n R (upP to R)) : ∀ m i, i < m → m ≤ n → (Ends (sgP kind sgn) (worthP to R kind sgn i) (upP to R i) ∧ Shp (sgP kind sgn) (preW to R kind sgn i i) ∧
      max (preW to R kind sgn i i).lo (R i 6).1≤min ((preW to R kind sgn i i).lo+(preW to R kind sgn i i).ri+(preW to R kind sgn i i).fl+(preW to R kind sgn i i).fa) (R i 6).2)
  | 0,_,h,_=>by omega
  | m+1,i,h,hm=>by
    by_cases e:i=m
    · subst e;have hE:=gath_ends (to:=to) (sg:=sgP kind sgn) (f:=worthP to R kind sgn) (U:=upP to R) i i (fun j hj=>(pre_facts hg hH i j hj (by omega)).1);have hr:=(hH i (by omega)).1;have hu:=(hH i (by omega)).2;have h6:=hr 6 (by omega) (by omega);have hS:=ownN_shp (kind:=kind) hg hE.shp 5 (f:=R i) (fun q h1 h2=>hr q h1 (by omega));have l1:=own_lo (kind:=kind) (sgn:=sgn) (R i) (gathW to (worthP to R kind sgn) i i);have l2:=own_hi (kind:=kind) (sgn:=sgn) (R i) (gathW to (worthP to R kind sgn) i i);have g1:=hE.lo;have g2:=hE.hi;have hue:=upP_eq to R i;unfold recS at hue;have u1:(upP to R i).1=max ((feed to (upP to R) i i).1+(R i 1).1 - (restS R i).2) (R i 6).1:=(by rw[hue];rfl);have u2:(upP to R i).2=min ((feed to (upP to R) i i).2+(R i 1).2 - (restS R i).1) (R i 6).2:=(by rw[hue];rfl);have t1:(restS R i).1=(R i 2).1+(R i 3).1+(R i 4).1+(R i 5).1:=(by simp only[restS,plus];omega);have t2:(restS R i).2=(R i 2).2+(R i 3).2+(R i 4).2+(R i 5).2:=(by simp only[restS,plus];omega);have hne:max (preW to R kind sgn i i).lo (R i 6).1≤min ((preW to R kind sgn i i).lo+(preW to R kind sgn i i).ri+(preW to R kind sgn i i).fl+(preW to R kind sgn i i).fa) (R i 6).2:=by
        unfold preW;rw[l2,l1];unfold Ne at hu;omega
      obtain⟨c1,c2,c3,-⟩:=cut_facts (sgP_or kind sgn) hS (a:=(R i 6).1) (b:=(R i 6).2) h6 hne;have hw:worthP to R kind sgn i=cutW (preW to R kind sgn i i) ((R i 6).1,(R i 6).2):=(by rw[worthP_eq];rfl);refine⟨⟨by rw[hw];exact c1,?_,?_⟩,hS,hne⟩
      · rw[hw];unfold preW;rw[c2,l1,u1];omega
      · rw[hw];unfold preW;rw[c3,l2,u2];omega
    · exact pre_facts hg hH m i (by omega) (by omega)
/-- The sum, with the first places summed up. -/
def eS (to:Nat→Option Nat) (R:Nat→Nat→Sp) (kind:Nat) (sgn:Int) (n k:Nat) (y:Nat→Int):Int:=
  totW to (worthP to R kind sgn) k+tailS (fun j=>conj (preW to R kind sgn k j) (y j)+cnt (R j 6) (yTo to y j - y j)) k (n - k)
theorem eS_n(y:Nat→Int):eS to R kind sgn n n y=grt to R kind sgn n:=by
  unfold eS grt;rw[Nat.sub_self];simp[tailS]
def Val (n:Nat) (sg:Int) (y:Nat→Int):Prop:=∀i,i<n→y i=0∨y i=sg
theorem eS_0(hg:sgn=1∨sgn = -1)(h5:kind≤5)(hH:Holds n R (upP to R)){y:Nat→Int}(hy:Val n (sgP kind sgn) y):eS to R kind sgn n 0 y=priS to R kind sgn y n:=by
  unfold eS;rw[pri_tail];show 0+_=_;rw[Int.zero_add,Nat.sub_zero];refine tailS_congr n 0 fun j _ hj=>?_;have hj:j<n:=(by omega);show conj (ownN kind sgn (R j) zeroWo 5) (y j)+cnt (R j 6) (yTo to y j - y j)=rowS to R kind sgn y j 5+cnt (R j 6) (eachP kind sgn (y j) (yTo to y j) 6);rw[ownN_conj (to:=to) hg (hy j hj) 5 (by omega) (fun q h1 h2=>(hH j hj).1 q h1 (by omega))];unfold eachP;rw[if_neg (by decide),if_pos rfl,if_neg (by omega),Int.add_zero]
theorem yTo_val(hF:Fwd n to){y:Nat→Int}{sg:Int}(hy:Val n sg y){i:Nat}(hi:i<n):yTo to y i=0∨yTo to y i=sg:=by
  unfold yTo;cases ht:to i with
  | none=>exact .inl rfl
  | some q=>exact hy q (hF i q hi ht).2
/-- One place more is summed up: the least over its price. -/
theorem eS_step (hF : Fwd n to) (hg : sgn = 1 ∨ sgn = -1) (hH : Holds n R (upP to R)) {k : Nat} (hk : k < n) (y : Nat → Int) (hy : Val n (sgP kind sgn) y) :
    eS to R kind sgn n k y+min (conj (preW to R kind sgn k k) 0+cnt (R k 6) (yTo to y k - 0)) (conj (preW to R kind sgn k k) (sgP kind sgn)+cnt (R k 6) (yTo to y k - sgP kind sgn)) =
      eS to R kind sgn n (k+1) y+(conj (preW to R kind sgn k k) (y k)+cnt (R k 6) (yTo to y k - y k)):=by
  obtain⟨-,hS,hne⟩:=pre_facts (kind:=kind) hg hH (k+1) k (by omega) hk;have h6:=(hH k hk).1 6 (by omega) (by omega);have hc:=cut_law (sgP_or kind sgn) hS h6 hne (yTo_val hF hy hk);have hw:worthP to R kind sgn k=cutW (preW to R kind sgn k k) ((R k 6).1,(R k 6).2):=(by rw[worthP_eq];rfl);rw[←hw] at hc;have e6:((R k 6).1,(R k 6).2)=R k 6:=rfl;rw[e6] at hc;rw[←hc];unfold eS;obtain⟨d,hd⟩:∃d,n - k=d+1:=⟨n - k - 1,by omega⟩;have hd':n - (k+1)=d:=(by omega);rw[hd,hd'];show totW to (worthP to R kind sgn) k+((conj (preW to R kind sgn k k) (y k)+cnt (R k 6) (yTo to y k - y k))+tailS (fun j=>conj (preW to R kind sgn k j) (y j)+cnt (R j 6) (yTo to y j - y j)) (k+1) d)+_=_;have hpre:∀j,conj (preW to R kind sgn (k+1) j) (y j)=conj (preW to R kind sgn k j) (y j)+(if to k=some j then conj (worthP to R kind sgn k) (y j) else 0):=fun j=>by
    unfold preW;rw[ownN_add,ownN_add (w:=gathW to (worthP to R kind sgn) j k)];simp only[gathW];by_cases ht:to k=some j
    · rw[if_pos ht,if_pos ht,conj_add];omega
    · rw[if_neg ht,if_neg ht];omega
  cases ht:to k with
  | none=>
    have e1:totW to (worthP to R kind sgn) (k+1)=totW to (worthP to R kind sgn) k+(worthP to R kind sgn k).most:=(by simp only[totW];rw[if_pos ht]);have e2:yTo to y k=0:=(by unfold yTo;rw[ht]);rw[e1,e2,conj_0];rw[tailS_congr (f:=fun j=>conj (preW to R kind sgn (k+1) j) (y j)+cnt (R j 6) (yTo to y j - y j)) (g:=fun j=>conj (preW to R kind sgn k j) (y j)+cnt (R j 6) (yTo to y j - y j)) d (k+1) (fun j _ _=>by
      show conj (preW to R kind sgn (k+1) j) (y j)+_=_
      rw[hpre j,ht];simp)]
    omega
  | some q=>
    have hq:=hF k q hk ht;have e1:totW to (worthP to R kind sgn) (k+1)=totW to (worthP to R kind sgn) k:=(by simp only[totW];rw[if_neg (by rw[ht];simp)]);have e2:yTo to y k=y q:=(by unfold yTo;rw[ht]);rw[e1,e2];rw[tailS_upd (q:=q) (c:=conj (worthP to R kind sgn k) (y q)) (f:=fun j=>conj (preW to R kind sgn k j) (y j)+cnt (R j 6) (yTo to y j - y j)) (g:=fun j=>conj (preW to R kind sgn (k+1) j) (y j)+cnt (R j 6) (yTo to y j - y j)) (by
      show conj (preW to R kind sgn (k+1) q) (y q)+_=_;rw[hpre q,ht,if_pos rfl];omega) (fun j hj=>by
      show conj (preW to R kind sgn (k+1) j) (y j)+_=_
      rw[hpre j,ht,if_neg (fun h=>hj (Option.some.inj h).symm)];omega) d (k+1) (by omega) (by omega)]
    omega
theorem eS_le(hF:Fwd n to)(hg:sgn=1∨sgn = -1)(hH:Holds n R (upP to R)){k:Nat}(hk:k<n)(y:Nat→Int)(hy:Val n (sgP kind sgn) y):eS to R kind sgn n (k+1) y≤eS to R kind sgn n k y:=by
  have h:=eS_step (kind:=kind) hF hg hH hk y hy;rcases hy k hk with e|e
  · rw[e] at h;omega
  · rw[e] at h;omega
/-- No sum of prices is less. -/
theorem grt_le(hF:Fwd n to)(hg:sgn=1∨sgn = -1)(h5:kind≤5)(hH:Holds n R (upP to R)){y:Nat→Int}(hy:Val n (sgP kind sgn) y):grt to R kind sgn n≤priS to R kind sgn y n:=by
  rw[←eS_0 hg h5 hH hy];have:∀k,k≤n→eS to R kind sgn n k y≤eS to R kind sgn n 0 y:=by
    intro k
    induction k with
    | zero=>intro _;exact Int.le_refl _
    | succ k ih=>intro h;exact Int.le_trans (eS_le hF hg hH (by omega) y hy) (ih (by omega))
  have h:=this n (Nat.le_refl _)
  rwa [eS_n] at h
def putY (y:Nat→Int) (k:Nat) (v:Int):Nat→Int:=fun j=>if j=k then v else y j
theorem eS_free(hF:Fwd n to){k:Nat}(hk:k<n)(y:Nat→Int)(v:Int):eS to R kind sgn n (k+1) (putY y k v)=eS to R kind sgn n (k+1) y:=by
  unfold eS;congr 1;refine tailS_congr _ _ fun j h1 h2=>?_;have hj:j<n:=(by omega);have e1:putY y k v j=y j:=(by unfold putY;rw[if_neg (by omega)]);have e2:yTo to (putY y k v) j=yTo to y j:=by
    unfold yTo;cases ht:to j with
    | none=>rfl
    | some q=>have:=hF j q hj ht;show putY y k v q=y q;unfold putY;rw[if_neg (by omega)]
  show conj _ (putY y k v j)+cnt _ (yTo to (putY y k v) j - putY y k v j)=_;rw[e1,e2]
/-- Some sum of prices is just that. -/
theorem grt_at(hF:Fwd n to)(hg:sgn=1∨sgn = -1)(h5:kind≤5)(hH:Holds n R (upP to R)):∃y,Val n (sgP kind sgn) y∧priS to R kind sgn y n=grt to R kind sgn n:=by
  have:∀d,d≤n→∃y,Val n (sgP kind sgn) y∧eS to R kind sgn n (n - d) y=grt to R kind sgn n:=by
    intro d
    induction d with
    | zero=>intro _;exact⟨fun _=>0,fun _ _=>.inl rfl,by rw[Nat.sub_zero];exact eS_n _⟩
    | succ d ih=>
      intro h;obtain⟨y,hy,he⟩:=ih (by omega);obtain⟨k,hk,hkd⟩:∃k,n - (d+1)=k∧n - d=k+1:=⟨n - (d+1),rfl,by omega⟩;rw[hk];rw[hkd] at he;have hkn:k<n:=(by omega);have hv:∀v,(v=0∨v=sgP kind sgn)→Val n (sgP kind sgn) (putY y k v):=fun v hv i hi=>by
        unfold putY;by_cases e:i=k
        · rw[if_pos e];exact hv
        · rw[if_neg e];exact hy i hi
      have hyk:∀v,putY y k v k=v:=fun v=>(by unfold putY;rw[if_pos rfl]);have hyt:∀v,yTo to (putY y k v) k=yTo to y k:=fun v=>by
        unfold yTo;cases ht:to k with
        | none=>rfl
        | some q=>have:=hF k q hkn ht;show putY y k v q=y q;unfold putY;rw[if_neg (by omega)]
      have s0:=eS_step (kind:=kind) hF hg hH hkn (putY y k 0) (hv 0 (.inl rfl));have s1:=eS_step (kind:=kind) hF hg hH hkn (putY y k (sgP kind sgn)) (hv _ (.inr rfl));rw[hyk,hyt,eS_free hF hkn,he] at s0 s1;rcases Int.le_total (conj (preW to R kind sgn k k) 0+cnt (R k 6) (yTo to y k - 0)) (conj (preW to R kind sgn k k) (sgP kind sgn)+cnt (R k 6) (yTo to y k - sgP kind sgn)) with hle|hle
      · exact⟨_,hv 0 (.inl rfl),by omega⟩
      · exact⟨_,hv _ (.inr rfl),by omega⟩
  obtain⟨y,hy,he⟩:=this n (Nat.le_refl _);rw[Nat.sub_self] at he;exact⟨y,hy,by rw[←eS_0 hg h5 hH hy];exact he⟩
end
end Go.Proofs.YtfplipbkjglmhaaDoor

namespace Go.Proofs.YtfplipbkjglmhaaDoor
set_option linter.unusedVariables false
set_option linter.unusedSimpArgs false
def lexB:List Int→List Int→Bool
  | x::a,y::b=>if x=y then lexB a b else decide (x<y)
  | _,_=>false
/-- Shorter lists first, then by their numbers. -/
def shB (a b:List Int):Bool:=if a.length=b.length then lexB a b else decide (a.length<b.length)
/-- The first least one. -/
def minL (m:List Int):List (List Int)→List Int
  | []=>m
  | x::r=>minL (if shB x m=true then x else m) r
/-- The numbers of those that have a price. -/
def idsY (ids:Nat→Int) (y:Nat→Int):Nat→List Int
  | 0=>[]
  | k+1=>if y k≠0 then idsY ids y k ++ [ids k] else idsY ids y k
theorem idsY_congr{ids:Nat→Int}{y z:Nat→Int}:∀n,(∀j,j<n→y j=z j)→idsY ids y n=idsY ids z n
  | 0,_=>rfl
  | n+1,h=>by
    unfold idsY;rw[idsY_congr n (fun j hj=>h j (by omega)),h n (by omega)]
section
variable {n:Nat} {to:Nat→Option Nat} {R:Nat→Nat→Sp} {kind:Nat} {sgn one:Int}
theorem rowS_congr{y z:Nat→Int}{i:Nat}(h1:y i=z i)(h2:yTo to y i=yTo to z i):∀k,rowS to R kind one y i k=rowS to R kind one z i k
  | 0=>rfl
  | k+1=>by unfold rowS;rw[rowS_congr h1 h2 k,h1,h2]
theorem priS_congr(hF:Fwd n to){y z:Nat→Int}(h:∀j,j<n→y j=z j):∀m,m≤n→priS to R kind one y m=priS to R kind one z m
  | 0,_=>rfl
  | m+1,hm=>by
    have h2:yTo to y m=yTo to z m:=by
      unfold yTo;cases ht:to m with
      | none=>rfl
      | some q=>exact h q (hF m q (by omega) ht).2
    unfold priS;rw[priS_congr hF h m (by omega),rowS_congr (h m (by omega)) h2]
/-- The program's search: with each price or without, in this order. -/
def trS (to:Nat→Option Nat) (R:Nat→Nat→Sp) (kind:Nat) (price most:Int) (ids:Nat→Int) (n:Nat):Nat→(Nat→Int)→List Int→List (List Int)
  | 0,y,l=>if priS to R kind 1 y n=most then [l] else []
  | d+1,y,l=>trS to R kind price most ids n d y l++trS to R kind price most ids n d (putY y (n - (d+1)) price) (l ++ [ids (n - (d+1))])
theorem tr_mem (hF : Fwd n to) {price most : Int} (hp : price ≠ 0) (ids : Nat → Int) : ∀ (d : Nat) (y : Nat → Int), d ≤ n → (∀ j, n - d ≤ j → y j = 0) → ∀ L,
    L∈trS to R kind price most ids n d y (idsY ids y (n - d))↔∃z,(∀j,j<n - d→z j=y j)∧(∀j,n - d≤j→j<n→z j=0∨z j=price)∧priS to R kind 1 z n=most∧L=idsY ids z n
  | 0,y,_,hy,L=>by
    rw[Nat.sub_zero];unfold trS;constructor
    · intro h;by_cases hm:priS to R kind 1 y n=most
      · rw[if_pos hm] at h;exact⟨y,fun _ _=>rfl,fun j h1 h2=>by omega,hm,by simpa using h⟩
      · rw[if_neg hm] at h;cases h
    · rintro ⟨z,h1,-,h3,rfl⟩;have e:=priS_congr (kind:=kind) (R:=R) (one:=1) hF h1 n (Nat.le_refl _);rw[if_pos (e ▸ h3),idsY_congr n h1];exact List.mem_singleton.2 rfl
  | d+1,y,hd,hy,L=>by
    obtain⟨i,hi⟩:∃i,i=n - (d+1):=⟨_,rfl⟩;have hi2:n - d=i+1:=(by omega);unfold trS;rw[←hi];rw[←hi] at hy;have e1:idsY ids y i=idsY ids y (n - d):=by
      rw[hi2];show _=if y i≠0 then _ else _;rw[if_neg (by simp[hy i (Nat.le_refl _)])]
    have hyp:∀j,putY y i price j=if j=i then price else y j:=fun _=>rfl;have e2:idsY ids y i ++ [ids i]=idsY ids (putY y i price) (n - d):=by
      rw[hi2];show _=if putY y i price i≠0 then _ else _;rw[if_pos (by rw[hyp,if_pos rfl];exact hp),idsY_congr (y:=putY y i price) (z:=y) i (fun j hj=>by rw[hyp,if_neg (by omega)])]
    rw[List.mem_append];rw[e2];rw[e1];rw[tr_mem hF hp ids d y (by omega) (fun j hj=>hy j (by omega)) L,tr_mem hF hp ids d (putY y i price) (by omega) (fun j hj=>by rw[hyp,if_neg (by omega)];exact hy j (by omega)) L];rw[hi2];constructor
    · rintro (⟨z,h1,h2,h3,h4⟩|⟨z,h1,h2,h3,h4⟩)
      · refine⟨z,fun j hj=>h1 j (by omega),fun j h5 h6=>?_,h3,h4⟩;by_cases hji:j=i
        · subst hji;exact .inl ((h1 j (by omega)).trans (hy j (Nat.le_refl _)))
        · exact h2 j (by omega) h6
      · refine⟨z,fun j hj=>(h1 j (by omega)).trans (by rw[hyp,if_neg (by omega)]),fun j h5 h6=>?_,h3,h4⟩;by_cases hji:j=i
        · subst hji;exact .inr ((h1 j (by omega)).trans (by rw[hyp,if_pos rfl]))
        · exact h2 j (by omega) h6
    · rintro ⟨z,h1,h2,h3,h4⟩;rcases h2 i (Nat.le_refl _) (by omega) with e|e
      · refine .inl ⟨z,fun j hj=>?_,fun j h5 h6=>h2 j (by omega) h6,h3,h4⟩;by_cases hji:j=i
        · subst hji;rw[e,hy j (Nat.le_refl _)]
        · exact h1 j (by omega)
      · refine .inr ⟨z,fun j hj=>?_,fun j h5 h6=>h2 j (by omega) h6,h3,h4⟩;rw[hyp];by_cases hji:j=i
        · subst hji;rw[e,if_pos rfl]
        · rw[if_neg hji];exact h1 j (by omega)
/-- All lists of prices that prove. -/
def proofsL (to:Nat→Option Nat) (R:Nat→Nat→Sp) (kind:Nat) (ids:Nat→Int) (n:Nat):List (List Int):=trS to R kind (sgP kind 1) (grt to R kind 1 n) ids n n (fun _=>0) []
theorem proofs_mem(hF:Fwd n to)(ids:Nat→Int)(L:List Int):L∈proofsL to R kind ids n↔∃z,Val n (sgP kind 1) z∧priS to R kind 1 z n=grt to R kind 1 n∧L=idsY ids z n:=by
  have hp:sgP kind 1≠0:=(by rcases sgP_or kind 1 with h|h<;>rw[h]<;>decide);have h:=tr_mem (R:=R) (kind:=kind) (most:=grt to R kind 1 n) hF hp ids n (fun _=>0) (Nat.le_refl _) (fun _ _=>rfl) L;rw[Nat.sub_self] at h;unfold proofsL;rw[show ([]:List Int)=idsY ids (fun _=>0) 0 from rfl,h];constructor
  · rintro ⟨z,-,h2,h3,h4⟩;exact⟨z,fun i hi=>h2 i (by omega) hi,h3,h4⟩
  · rintro ⟨z,h2,h3,h4⟩;exact⟨z,fun j hj=>by omega,fun i _ hi=>h2 i hi,h3,h4⟩
theorem proofs_some(hF:Fwd n to)(h5:kind≤5)(hH:Holds n R (upP to R))(ids:Nat→Int):proofsL to R kind ids n≠[]:=by
  obtain⟨y,hy,hy2⟩:=grt_at (kind:=kind) hF (.inl rfl) h5 hH;have h:=(proofs_mem (R:=R) (kind:=kind) hF ids (idsY ids y n)).2 ⟨y,hy,hy2,rfl⟩;intro e;rw[e] at h;cases h
end
end Go.Proofs.YtfplipbkjglmhaaDoor

namespace Go.Proofs.YtfplipbkjglmhaaDoor
set_option linter.unusedVariables false
set_option linter.unusedSimpArgs false
/-- The numbers are not too large. -/
def WB (B:Int) (w:Wo):Prop:=(-B≤w.most∧w.most≤B)∧(-B≤w.lo∧w.lo≤B)∧(-B≤w.ri∧w.ri≤B)∧(-B≤w.fl∧w.fl≤B)∧(-B≤w.fa∧w.fa≤B)
def In1 (f:Nat→Sp):Prop:=∀k,k<7→0≤(f k).1∧(f k).1≤1000000∧0≤(f k).2∧(f k).2≤1000000
theorem WB.mono{B B':Int}{w:Wo}(h:WB B w)(hb:B≤B'):WB B' w:=by
  obtain⟨⟨h1,h2⟩,⟨h3,h4⟩,⟨h5,h6⟩,⟨h7,h8⟩,h9,h10⟩:=h;exact⟨⟨by omega,by omega⟩,⟨by omega,by omega⟩,⟨by omega,by omega⟩,⟨by omega,by omega⟩,by omega,by omega⟩
theorem WB.add{B C:Int}{a b:Wo}(h:WB B a)(h':WB C b):WB (B+C) (addW a b):=by
  obtain⟨⟨h1,h2⟩,⟨h3,h4⟩,⟨h5,h6⟩,⟨h7,h8⟩,h9,h10⟩:=h;obtain⟨⟨g1,g2⟩,⟨g3,g4⟩,⟨g5,g6⟩,⟨g7,g8⟩,g9,g10⟩:=h';unfold addW;refine⟨⟨?_,?_⟩,⟨?_,?_⟩,⟨?_,?_⟩,⟨?_,?_⟩,?_,?_⟩<;>simp only<;>omega
theorem ownK_bd{kind:Nat}{sgn:Int}(hg:sgn=1∨sgn = -1){k:Nat}{s:Sp}(hs:0≤s.1∧s.1≤1000000∧0≤s.2∧s.2≤1000000):WB 1000000 (ownK kind sgn k s):=by
  unfold ownK;split
  · split<;>(refine⟨⟨?_,?_⟩,⟨?_,?_⟩,⟨?_,?_⟩,⟨?_,?_⟩,?_,?_⟩<;>simp only<;>omega)
  · split<;>split<;>rcases hg with rfl|rfl<;>(refine⟨⟨?_,?_⟩,⟨?_,?_⟩,⟨?_,?_⟩,⟨?_,?_⟩,?_,?_⟩<;>simp only<;>omega)
theorem ownN_bd{kind:Nat}{sgn:Int}(hg:sgn=1∨sgn = -1){f:Nat→Sp}(hf:In1 f){w:Wo}{B:Int}(hw:WB B w):∀(k:Nat),k≤5→WB (B+1000000*(k:Int)) (ownN kind sgn f w k)
  | 0,_=>hw.mono (by omega)
  | k+1,h=>((ownN_bd hg hf hw k (by omega)).add (ownK_bd (kind:=kind) hg (k:=k+1) (hf (k+1) (by omega)))).mono (by omega)
def pow2N:Nat→Int
  | 0=>1
  | i+1=>2*pow2N i
theorem pow2N_pos:∀i,1≤pow2N i
  | 0=>by decide
  | i+1=>by have:=pow2N_pos i;unfold pow2N;omega
theorem pow2N_le:∀i,i≤10→pow2N i≤1024:=by
  intro i hi;obtain rfl|rfl|rfl|rfl|rfl|rfl|rfl|rfl|rfl|rfl|rfl:i=0∨i=1∨i=2∨i=3∨i=4∨i=5∨i=6∨i=7∨i=8∨i=9∨i=10:=by omega
  all_goals decide
theorem gath_bd{t:Nat→Option Nat}{f:Nat→Wo}(k:Nat):∀m,(∀j,j<m→WB (40000000*pow2N j) (f j))→WB (40000000*(pow2N m - 1)) (gathW t f k m)
  | 0,_=>by refine⟨⟨?_,?_⟩,⟨?_,?_⟩,⟨?_,?_⟩,⟨?_,?_⟩,?_,?_⟩<;>simp[gathW,zeroWo,pow2N]
  | m+1,h=>by
    have ih:=gath_bd (t:=t) (f:=f) k m (fun j hj=>h j (by omega));have hp:=pow2N_pos m;have e:pow2N (m+1)=2*pow2N m:=rfl;unfold gathW;split
    · exact(ih.add (h m (by omega))).mono (by omega)
    · exact ih.mono (by omega)
theorem cut_most {sg : Int} (hs : sg = 1 ∨ sg = -1) {w : Wo} (h : Shp sg w) {a b : Int} (hab : a ≤ b) (hne : max w.lo a ≤ min (w.lo + w.ri + w.fl + w.fa) b) :
    w.most - (w.ri+w.fa)≤(cutW w (a,b)).most∧(cutW w (a,b)).most≤w.most:=by
  obtain⟨h1,h2,h3,h4,h5⟩:=h;obtain⟨m,l,r,f,g⟩:=w;simp only at *;clear h4 h5 hs;unfold cutW cutR cutL cutR';simp only;split<;>simp only<;>split<;>refine⟨?_,?_⟩<;>simp only<;>omega
section
variable {n:Nat} {t:Nat→Option Nat} {R:Nat→Nat→Sp} {kind:Nat} {sgn:Int}
theorem feed_in{U:Nat→Sp}(k:Nat):∀(m:Nat),(∀j,j<m→0≤(U j).1∧(U j).2≤1000000)→0≤(feed t U k m).1∧(feed t U k m).2≤1000000*(m:Int)
  | 0,_=>by simp[feed]
  | m+1,h=>by
    have ih:=feed_in k m (fun j hj=>h j (by omega));have hm:=h m (by omega);unfold feed;split
    · simp only[plus];omega
    · omega
theorem up_in(hI:∀i,i<n→In1 (R i)){i:Nat}(hi:i<n):0≤(upP t R i).1∧(upP t R i).2≤1000000:=by
  have h:=hI i hi 6 (by omega);rw[upP_eq];unfold recS;simp only[both];omega
theorem worth_bd(hn:n≤10)(hg:sgn=1∨sgn = -1)(hH:Holds n R (upP t R))(hI:∀i,i<n→In1 (R i)):∀i,i<n→WB (40000000*pow2N i) (worthP t R kind sgn i):=by
  intro i
  induction i using Nat.strongRecOn with
  | _ i ih=>
    intro hi;obtain⟨hE,hS,hne⟩:=pre_facts (kind:=kind) hg hH (i+1) i (by omega) hi;have h6:=(hH i hi).1 6 (by omega) (by omega);have hc:=cut_most (sgP_or kind sgn) hS h6 hne;have hw:worthP t R kind sgn i=cutW (preW t R kind sgn i i) ((R i 6).1,(R i 6).2):=(by rw[worthP_eq];rfl);rw[←hw] at hc;have hgb:=gath_bd (t:=t) (f:=worthP t R kind sgn) i i (fun j hj=>ih j hj (by omega));have hpb:=ownN_bd (kind:=kind) hg (hI i hi) hgb 5 (by omega);have hGE:=gath_ends (to:=t) (sg:=sgP kind sgn) (f:=worthP t R kind sgn) (U:=upP t R) i i (fun j hj=>(pre_facts (kind:=kind) hg hH (j+1) j (by omega) (by omega)).1);have l1:=own_lo (kind:=kind) (sgn:=sgn) (R i) (gathW t (worthP t R kind sgn) i i);have l2:=own_hi (kind:=kind) (sgn:=sgn) (R i) (gathW t (worthP t R kind sgn) i i);have hf:=feed_in (t:=t) (U:=upP t R) i i (fun j hj=>up_in hI (by omega));have r1:=hI i hi 1 (by omega);have r2:=hI i hi 2 (by omega);have r3:=hI i hi 3 (by omega);have r4:=hI i hi 4 (by omega);have r5:=hI i hi 5 (by omega);have r6:=hI i hi 6 (by omega);have hu:=up_in (t:=t) hI hi;have e1:=hE.lo;have e2:=hE.hi;have s1:=hE.shp.r0;have s2:=hE.shp.l0;have s3:=hE.shp.a0;have t1:=hS.r0;have t2:=hS.l0;have t3:=hS.a0;have g1:=hGE.lo;have g2:=hGE.hi;have hp:=pow2N_pos i;have hm:=hpb.1;change (preW t R kind sgn i i).lo=_ at l1;change (preW t R kind sgn i i).lo+(preW t R kind sgn i i).ri+(preW t R kind sgn i i).fl+(preW t R kind sgn i i).fa=_ at l2;change -_≤(preW t R kind sgn i i).most∧(preW t R kind sgn i i).most≤_ at hm;have hne2:=(hH i hi).2
    unfold Ne at hne2;have hi10:(i:Int)≤10:=(by omega);refine⟨⟨?_,?_⟩,⟨?_,?_⟩,⟨?_,?_⟩,⟨?_,?_⟩,?_,?_⟩<;>omega
/-- What is gathered is never too large. -/
theorem gath_big(hn:n≤10)(hg:sgn=1∨sgn = -1)(hH:Holds n R (upP t R))(hI:∀i,i<n→In1 (R i))(k m:Nat)(hm:m≤n):WB 41000000000 (gathW t (worthP t R kind sgn) k m):=by
  have h1:=gath_bd (t:=t) (f:=worthP t R kind sgn) k m (fun j hj=>worth_bd hn hg hH hI j (by omega));have h2:=pow2N_le m (by omega);exact h1.mono (by omega)
theorem worth_big(hn:n≤10)(hg:sgn=1∨sgn = -1)(hH:Holds n R (upP t R))(hI:∀i,i<n→In1 (R i)){i:Nat}(hi:i<n):WB 41000000000 (worthP t R kind sgn i):=by
  have h2:=pow2N_le i (by omega);exact(worth_bd hn hg hH hI i hi).mono (by omega)
theorem tot_big(hn:n≤10)(hg:sgn=1∨sgn = -1)(hH:Holds n R (upP t R))(hI:∀i,i<n→In1 (R i)):∀(m:Nat),m≤n→-(41000000000*(m:Int))≤totW t (worthP t R kind sgn) m∧totW t (worthP t R kind sgn) m≤41000000000*(m:Int)
  | 0,_=>by simp[totW]
  | m+1,h=>by
    have ih:=tot_big hn hg hH hI m (by omega);have hw:=(worth_big (kind:=kind) hn hg hH hI (i:=m) (by omega)).1;unfold totW;split<;>omega
end
end Go.Proofs.YtfplipbkjglmhaaDoor
