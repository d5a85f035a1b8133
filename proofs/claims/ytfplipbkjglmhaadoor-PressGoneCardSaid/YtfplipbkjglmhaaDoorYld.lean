/-
 The plain law of yields: the corners of what oil, and what goes in, can be together, and the program's two points.
-/
import Derived.Test.YtfplipbkjglmhaaDoorSpan2
namespace Go.Proofs.YtfplipbkjglmhaaDoor
set_option linter.unusedVariables false
set_option linter.unusedSimpArgs false
theorem seed_at{O s t g d u:Sp}{x:Int}(hO:Ne O)(hs:Ne s)(ht:Ne t)(hg:Ne g)(hd:Ne d)(d1:g.1≤d.1)(d2:d.2≤g.2)(hu:u=both (minus (plus O s) t) g)(hne:Ne u)(hm:Ne (both u d))
  (h1:(both s (minus (plus (both d u) t) (minus1 (plus O s) s))).1≤x) (h2:x≤(both s (minus (plus (both d u) t) (minus1 (plus O s) s))).2) :
  Ne (max x s.1,min x s.2)∧Ne (both (minus (plus O (max x s.1,min x s.2)) t) g)∧Ne (both (both (minus (plus O (max x s.1,min x s.2)) t) g) d):=by
 subst hu;unfold Ne both minus minus1 plus at *;simp only at *;refine⟨by omega,by omega,by omega⟩
theorem out_at{O s t q w g d u:Sp}{x:Int}(hO:Ne O)(hs:Ne s)(hq:Ne q)(hw:Ne w)(e1:t.1=q.1+w.1)(e2:t.2=q.2+w.2)(hg:Ne g)(hd:Ne d)(d1:g.1≤d.1)(d2:d.2≤g.2)(hu:u=both (minus (plus O s) t) g)(hne:Ne u)(hm:Ne (both u d))
  (h1:(both w (minus (plus O s) (plus (both d u) (minus1 t w)))).1≤x) (h2:x≤(both w (minus (plus O s) (plus (both d u) (minus1 t w)))).2) :
  Ne (max x w.1,min x w.2)∧Ne (both (minus (plus O s) (q.1+max x w.1,q.2+min x w.2)) g)∧Ne (both (both (minus (plus O s) (q.1+max x w.1,q.2+min x w.2)) g) d):=by
 subst hu;unfold Ne both minus minus1 plus at *;simp only at *;refine⟨by omega,by omega,by omega⟩
theorem par_at{O s t g d u:Sp}{x:Int}(hO:Ne O)(hs:Ne s)(ht:Ne t)(hg:Ne g)(hd:Ne d)(d1:g.1≤d.1)(d2:d.2≤g.2)(hu:u=both (minus (plus O s) t) g)(hne:Ne u)(hm:Ne (both u d))
  (h1:(both d u).1≤x) (h2:x≤(both d u).2) :
  Ne (max x g.1,min x g.2)∧Ne (both (minus (plus O s) t) (max x g.1,min x g.2))∧Ne (both (both (minus (plus O s) t) (max x g.1,min x g.2)) d):=by
 subst hu;unfold Ne both minus plus at *;simp only at *;refine⟨by omega,by omega,by omega⟩
section
variable {n:Nat} {to:Nat→Option Nat} {R:Nat→Nat→Sp}
theorem span_at(hF:Fwd n to)(hH:Holds n R (upP to R)){i k:Nat}(hi:i<n)(h1:1≤k)(h6:k≤6){x:Int}(x1:(spanP to R n i k).1≤x)(x2:x≤(spanP to R n i k).2) :
  Holds n (wth R i k x x) (upP to (wth R i k x x)):=by
 rw[wth_holds hF hH hi h1 h6,wth_up hF hi,wth_in];have hO:=feed_ne (to:=to) (U:=upP to R) i i (fun j hj=>(hH j (by omega)).2);have hs:=(hH i hi).1 1 (by omega) (by omega);have ht:=rest_ne (hH i hi).1;have hg:=(hH i hi).1 6 (by omega) (by omega);have hw:=(hH i hi).1 k h1 h6;obtain⟨hd,hm⟩:=down_meets hF (fun j _=>upP_eq to R j) hH n i hi (by omega);obtain⟨d1,d2⟩:=down_six (to:=to) (R:=R) (U:=upP to R) (n:=n) n i;have hu:upP to R i=both (minus (plus (feed to (upP to R) i i) (R i 1)) (restS R i)) (R i 6):=upP_eq to R i;have hne:=(hH i hi).2;unfold spanP intoP downP at x1 x2;unfold downP;rcases (by omega:k=1∨k=6∨(2≤k∧k≤5)) with rfl|rfl|⟨k2,k5⟩
 ·rw[if_neg (by omega),if_pos rfl] at x1 x2;rw[wth_in,wth_rest_out (Or.inl rfl),wth_at (by omega)];exact seed_at hO hs ht hg hd d1 d2 hu hne hm x1 x2
 ·rw[if_pos rfl] at x1 x2;rw[wth_in,wth_rest_out (Or.inr rfl),wth_at (by omega)];exact par_at hO hs ht hg hd d1 d2 hu hne hm x1 x2
 ·rw[if_neg (by omega),if_neg (by omega)] at x1 x2;rw[wth_rest_in k2 k5,wth_at (by omega),wth_at (by omega)];exact out_at hO hs (rest_less hH hi k2 k5) hw (by simp only[minus1];omega) (by simp only[minus1];omega) hg hd d1 d2 hu hne hm x1 x2
theorem span_sub{i k:Nat}:(R i k).1≤(spanP to R n i k).1∧(spanP to R n i k).2≤(R i k).2:=by
 obtain⟨d1,d2⟩:=down_six (to:=to) (R:=R) (U:=upP to R) (n:=n) n i;unfold spanP downP;by_cases k6:k=6
 ·subst k6;rw[if_pos rfl];unfold both;simp only;omega
 ·rw[if_neg k6];by_cases k1:k=1
  ·subst k1;rw[if_pos rfl];unfold both;simp only;omega
  ·rw[if_neg k1];unfold both;simp only;omega
/-- What is laid: the least that a weight can be. -/
def lay (n:Nat) (to:Nat→Option Nat) (R:Nat→Nat→Sp) (i k:Nat):Nat→Nat→Sp:=fun a b=>if a=i∧b=k then((spanP to R n i k).1,(spanP to R n i k).1) else R a b
theorem lay_wth(hF:Fwd n to)(hH:Holds n R (upP to R)){most:Int}(hI:InR n R most){i k:Nat}(hi:i<n)(h1:1≤k)(h6:k≤6):lay n to R i k=wth R i k (spanP to R n i k).1 (spanP to R n i k).1:=by
 have hs:=span_sub (n:=n) (to:=to) (R:=R) (i:=i) (k:=k);have hin:=span_in hF hH hI hi h1 h6
 funext a b
 unfold lay wth;by_cases h:a=i∧b=k
 ·rw[if_pos h,if_pos h];have e1:max (spanP to R n i k).1 (R i k).1=(spanP to R n i k).1:=(by omega);have e2:min (spanP to R n i k).1 (R i k).2=(spanP to R n i k).1:=(by omega);rw[e1,e2]
 ·rw[if_neg h,if_neg h]
structure FSt (n:Nat) (to:Nat→Option Nat) (R:Nat→Nat→Sp):Prop where
 hH:Holds n R (upP to R)
 hI:∀i k,0≤(R i k).1∧(R i k).1≤1000000∧0≤(R i k).2∧(R i k).2≤1000000
theorem FSt.lay(hF:Fwd n to)(h:FSt n to R){i k:Nat}(hi:i<n)(h1:1≤k)(h6:k≤6):FSt n to (lay n to R i k):=by
 have hIn:InR n R 1000000:=fun a _ b=>by have:=h.hI a b;omega
 have hin:=span_in hF h.hH hIn hi h1 h6;refine⟨?_,fun a b=>?_⟩
 ·rw[lay_wth hF h.hH hIn hi h1 h6];exact span_at hF h.hH hi h1 h6 (Int.le_refl _) hin.2.1
 ·unfold Go.Proofs.YtfplipbkjglmhaaDoor.lay;split
  ·simp only;omega
  ·exact h.hI a b
/-- Behind some kinds of a place; behind some places. -/
def layK (n:Nat) (to:Nat→Option Nat) (R:Nat→Nat→Sp) (i:Nat):Nat→Nat→Nat→Sp
 |0=>R
 |k+1=>lay n to (layK n to R i k) i (k+1)
def layI (n:Nat) (to:Nat→Option Nat) (R:Nat→Nat→Sp):Nat→Nat→Nat→Sp
 |0=>R
 |i+1=>layK n to (layI n to R i) i 6
theorem FSt.layK(hF:Fwd n to)(h:FSt n to R){i:Nat}(hi:i<n):∀k,k≤6→FSt n to (layK n to R i k)
 |0,_=>h
 |k+1,hk=>(FSt.layK hF h hi k (by omega)).lay hF hi (by omega) hk
theorem FSt.layI(hF:Fwd n to)(h:FSt n to R):∀i,i≤n→FSt n to (layI n to R i)
 |0,_=>h
 |i+1,hi=>(FSt.layI hF h i (by omega)).layK hF (by omega) 6 (by omega)
/-- The weight of kind k + 1 at place i. -/
def valF (n:Nat) (to:Nat→Option Nat) (R:Nat→Nat→Sp) (i k:Nat):Int:=(spanP to (Go.Proofs.YtfplipbkjglmhaaDoor.layK n to (Go.Proofs.YtfplipbkjglmhaaDoor.layI n to R i) i k) n i (k+1)).1
end
end Go.Proofs.YtfplipbkjglmhaaDoor

namespace Go.Proofs.YtfplipbkjglmhaaDoor
set_option linter.unusedVariables false
set_option linter.unusedSimpArgs false
/-- By scalars. -/
theorem in_lo{O s q Q g d u:Sp}{mid:Int}(hO:Ne O)(hs:Ne s)(hq:Ne q)(hQ:Ne Q)(hg:Ne g)(hd:Ne d)(d1:g.1≤d.1)(d2:d.2≤g.2)(hu:u=both (minus (plus O s) (plus q Q)) g)(hne:Ne u)(hm:Ne (both u d))
  (q0:0≤q.1) (q1:q.2≤1000000) (Q0:0≤Q.1) (Q1:Q.2≤3000000) (g0:0≤g.1) (g1:g.2≤1000000) :
  (Ne (both (plus O s) (0,mid))∧Ne (both (minus (both (plus O s) (0,mid)) q) (0,10000000))∧Ne (both (both (minus (both (minus (both (plus O s) (0,mid)) q) (0,10000000)) Q) g) d))↔(both (plus O s) (plus d (plus q Q))).1≤mid:=by
 subst hu;unfold Ne both minus plus at *;simp only at *;constructor
 ·rintro ⟨h1,h2,h3⟩;omega
 ·intro h;refine⟨by omega,by omega,by omega⟩
theorem in_hi{O s q Q g d u:Sp}{mid:Int}(hO:Ne O)(hs:Ne s)(hq:Ne q)(hQ:Ne Q)(hg:Ne g)(hd:Ne d)(d1:g.1≤d.1)(d2:d.2≤g.2)(hu:u=both (minus (plus O s) (plus q Q)) g)(hne:Ne u)(hm:Ne (both u d))
  (q0:0≤q.1) (q1:q.2≤1000000) (Q0:0≤Q.1) (Q1:Q.2≤3000000) (g0:0≤g.1) (g1:g.2≤1000000) :
  (Ne (both (plus O s) (mid,10000000))∧Ne (both (minus (both (plus O s) (mid,10000000)) q) (0,10000000))∧Ne (both (both (minus (both (minus (both (plus O s) (mid,10000000)) q) (0,10000000)) Q) g) d))↔mid≤(both (plus O s) (plus d (plus q Q))).2:=by
 subst hu;unfold Ne both minus plus at *;simp only at *;constructor
 ·rintro ⟨h1,h2,h3⟩;omega
 ·intro h;refine⟨by omega,by omega,by omega⟩
theorem ot_lo{O s q Q g d u:Sp}{mid:Int}(hO:Ne O)(hs:Ne s)(hq:Ne q)(hQ:Ne Q)(hg:Ne g)(hd:Ne d)(d1:g.1≤d.1)(d2:d.2≤g.2)(hu:u=both (minus (plus O s) (plus q Q)) g)(hne:Ne u)(hm:Ne (both u d))
  (q0:0≤q.1) (q1:q.2≤1000000) (Q0:0≤Q.1) (Q1:Q.2≤3000000) (g0:0≤g.1) (g1:g.2≤1000000) :
  (Ne (both (plus O s) (0,10000000))∧Ne (both (minus (both (plus O s) (0,10000000)) q) (0,mid))∧Ne (both (both (minus (both (minus (both (plus O s) (0,10000000)) q) (0,mid)) Q) g) d))↔(both (plus d Q) (minus (plus O s) q)).1≤mid:=by
 subst hu;unfold Ne both minus plus at *;simp only at *;constructor
 ·rintro ⟨h1,h2,h3⟩;omega
 ·intro h;refine⟨by omega,by omega,by omega⟩
theorem ot_hi{O s q Q g d u:Sp}{mid:Int}(hO:Ne O)(hs:Ne s)(hq:Ne q)(hQ:Ne Q)(hg:Ne g)(hd:Ne d)(d1:g.1≤d.1)(d2:d.2≤g.2)(hu:u=both (minus (plus O s) (plus q Q)) g)(hne:Ne u)(hm:Ne (both u d))
  (q0:0≤q.1) (q1:q.2≤1000000) (Q0:0≤Q.1) (Q1:Q.2≤3000000) (g0:0≤g.1) (g1:g.2≤1000000) :
  (Ne (both (plus O s) (0,10000000))∧Ne (both (minus (both (plus O s) (0,10000000)) q) (mid,10000000))∧Ne (both (both (minus (both (minus (both (plus O s) (0,10000000)) q) (mid,10000000)) Q) g) d))↔mid≤(both (plus d Q) (minus (plus O s) q)).2:=by
 subst hu;unfold Ne both minus plus at *;simp only at *;constructor
 ·rintro ⟨h1,h2,h3⟩;omega
 ·intro h;refine⟨by omega,by omega,by omega⟩
theorem io_in{O s q Q g d u:Sp}(hO:Ne O)(hs:Ne s)(hq:Ne q)(hQ:Ne Q)(hg:Ne g)(hd:Ne d)(d1:g.1≤d.1)(d2:d.2≤g.2)(hu:u=both (minus (plus O s) (plus q Q)) g)(hne:Ne u)(hm:Ne (both u d))
  (q0:0≤q.1) (q1:q.2≤1000000) (Q0:0≤Q.1) (Q1:Q.2≤3000000) (g0:0≤g.1) (g1:g.2≤1000000) :
  (0≤(both (plus O s) (plus d (plus q Q))).1∧(both (plus O s) (plus d (plus q Q))).1≤(both (plus O s) (plus d (plus q Q))).2∧(both (plus O s) (plus d (plus q Q))).2≤10000000)∧
  (0≤(both (plus d Q) (minus (plus O s) q)).1∧(both (plus d Q) (minus (plus O s) q)).1≤(both (plus d Q) (minus (plus O s) q)).2∧(both (plus d Q) (minus (plus O s) q)).2≤10000000):=by
 subst hu;unfold Ne both minus plus at *;simp only at *;omega
section
variable {n:Nat} {to:Nat→Option Nat} {R:Nat→Nat→Sp} {inn rst:Sp}
theorem side_turn(hF:Fwd n to){i:Nat}(hi:i<n):Turn n to R (upP to R) (upR to R (i:Int) inn rst) i where
 fwd:=hF
 rec_:=fun j _=>upP_eq to R j
 rec':=fun j _ hne=>by
  rw[upR_eq];exact st6_rec (by omega)
 lt:=hi
 lo:=by rw[upR_eq];unfold st6 both;simp only;omega
 hi:=by rw[upR_eq];unfold st6 both;simp only;omega
theorem side_holds(hF:Fwd n to)(hH:Holds n R (upP to R)){i:Nat}(hi:i<n) :
  holdsR to R (i:Int) inn rst n=true↔okI to R (i:Int) inn rst (upR to R (i:Int) inn rst) i∧Ne (both (upR to R (i:Int) inn rst i) (downP to R n i)):=by
 have T:=side_turn (R:=R) (inn:=inn) (rst:=rst) hF hi;have hA:=T.all hH;have h6:∀j,Ne (st6 to R (i:Int) inn rst (upR to R (i:Int) inn rst) j)↔Ne (upR to R (i:Int) inn rst j):=fun j=>by rw[←upR_eq]
 unfold holdsR downP;rw[decide_eq_true_iff];constructor
 ·intro h;have hn:∀j,j<n→Ne (upR to R (i:Int) inn rst j):=fun j hj=>(h6 j).1 (h j hj).2.2.2.2.2.2.2.2.2.1
  exact⟨h i hi,(hA.1 hn).2⟩
 ·rintro ⟨ho,hd⟩ j hj;have hn:=hA.2 ⟨(h6 i).1 ho.2.2.2.2.2.2.2.2.2.1,hd⟩;by_cases e:j=i
  ·subst e;exact ho
  ·exact(okI_off (by omega) (fun k hk=>hn k (by omega))).2 ⟨(hH j hj).1,(h6 j).2 (hn j hj)⟩
/-- At the place itself: what is asked, in few words. -/
theorem side_at(hF:Fwd n to)(hH:Holds n R (upP to R)){i:Nat}(hi:i<n) :
  holdsR to R (i:Int) inn rst n=true ↔
   (Ne (both (plus (feed to (upP to R) i i) (R i 1)) inn)∧Ne (both (minus (both (plus (feed to (upP to R) i i) (R i 1)) inn) (R i 2)) rst)∧
    Ne (both (both (minus (both (minus (both (plus (feed to (upP to R) i i) (R i 1)) inn) (R i 2)) rst) (plus (plus (R i 3) (R i 4)) (R i 5))) (R i 6)) (downP to R n i))):=by
 rw[side_holds hF hH hi];have T:=side_turn (R:=R) (inn:=inn) (rst:=rst) hF hi;have hO:=feed_off hF hi T;obtain⟨hd,-⟩:=down_meets hF (fun j _=>upP_eq to R j) hH n i hi (by omega);have r1:=(hH i hi).1 1 (by omega) (by omega);have r2:=(hH i hi).1 2 (by omega) (by omega);have r3:=(hH i hi).1 3 (by omega) (by omega);have r4:=(hH i hi).1 4 (by omega) (by omega);have r5:=(hH i hi).1 5 (by omega) (by omega);have e0:st0 to R (i:Int) inn (upR to R (i:Int) inn rst) i=both (plus (feed to (upP to R) i i) (R i 1)) inn:=by unfold st0 st1;rw[if_pos rfl,hO]
 have e2:st2 to R (i:Int) inn rst (upR to R (i:Int) inn rst) i=both (minus (both (plus (feed to (upP to R) i i) (R i 1)) inn) (R i 2)) rst:=by unfold st2;rw[if_pos rfl,e0]
 have e6:upR to R (i:Int) inn rst i=both (minus (both (minus (both (plus (feed to (upP to R) i i) (R i 1)) inn) (R i 2)) rst) (plus (plus (R i 3) (R i 4)) (R i 5))) (R i 6):=by
  rw[upR_eq];unfold st6 st5 st4 st3;rw[e2];simp only[both,minus,plus];congr 1<;>omega
 unfold okI;rw[←upR_eq,e6];unfold st5 st4 st3;rw[e2,e0];unfold downP;generalize both (plus (feed to (upP to R) i i) (R i 1)) inn=a at *;generalize both (minus a (R i 2)) rst=b at *;generalize downS to R (upP to R) n n i=d at *;clear e0 e2 e6;constructor
 ·rintro ⟨⟨h0,-,h2,-⟩,h⟩;exact⟨h0,h2,h⟩
 ·rintro ⟨h0,h2,h⟩;refine⟨⟨h0,r2,h2,r3,?_,r4,?_,r5,?_,?_,r1⟩,h⟩
  ·unfold Ne minus at *;simp only;omega
  ·unfold Ne minus at *;simp only;omega
  ·unfold Ne minus at *;simp only;omega
  ·unfold Ne both at *;simp only at *;omega
/-- What goes in, and all of it but its oil: what the questions tell. -/
theorem sides_law(hF:Fwd n to)(hH:Holds n R (upP to R))(hI:InR n R 1000000){i:Nat}(hi:i<n)(mid:Int) :
  (holdsR to R (i:Int) (0,mid) (0,10000000) n=decide ((insideP to R n i).1≤mid))∧(holdsR to R (i:Int) (mid,10000000) (0,10000000) n=decide (mid≤(insideP to R n i).2))∧
  (holdsR to R (i:Int) (0,10000000) (0,mid) n=decide ((othersP to R n i).1≤mid))∧(holdsR to R (i:Int) (0,10000000) (mid,10000000) n=decide (mid≤(othersP to R n i).2))∧
  ((0≤(insideP to R n i).1∧(insideP to R n i).1≤(insideP to R n i).2∧(insideP to R n i).2≤10000000)∧(0≤(othersP to R n i).1∧(othersP to R n i).1≤(othersP to R n i).2∧(othersP to R n i).2≤10000000)):=by
 have hO:=feed_ne (to:=to) (U:=upP to R) i i (fun j hj=>(hH j (by omega)).2);have r:=(hH i hi).1;have r1:=r 1 (by omega) (by omega);have r2:=r 2 (by omega) (by omega);have r3:=r 3 (by omega) (by omega);have r4:=r 4 (by omega) (by omega);have r5:=r 5 (by omega) (by omega);have r6:=r 6 (by omega) (by omega);obtain⟨hd,hm⟩:=down_meets hF (fun j _=>upP_eq to R j) hH n i hi (by omega);obtain⟨d1,d2⟩:=down_six (to:=to) (R:=R) (U:=upP to R) (n:=n) n i;have hQ:Ne (plus (plus (R i 3) (R i 4)) (R i 5)):=by unfold Ne plus at *;simp only;omega
 have eT:restS R i=plus (R i 2) (plus (plus (R i 3) (R i 4)) (R i 5)):=by unfold restS plus;simp only;congr 1<;>omega
 have hu:upP to R i=both (minus (plus (feed to (upP to R) i i) (R i 1)) (plus (R i 2) (plus (plus (R i 3) (R i 4)) (R i 5)))) (R i 6):=by rw[←eT];exact upP_eq to R i
 have hne:=(hH i hi).2;have i2:=hI i hi 2;have i3:=hI i hi 3;have i4:=hI i hi 4;have i5:=hI i hi 5;have i6:=hI i hi 6;have Q0:0≤(plus (plus (R i 3) (R i 4)) (R i 5)).1:=by simp only[plus];omega
 have Q1:(plus (plus (R i 3) (R i 4)) (R i 5)).2≤3000000:=by simp only[plus];omega
 have eI:insideP to R n i=both (plus (feed to (upP to R) i i) (R i 1)) (plus (downS to R (upP to R) n n i) (plus (R i 2) (plus (plus (R i 3) (R i 4)) (R i 5)))):=by unfold insideP intoP downP;rw[eT]
 have eX:othersP to R n i=both (plus (downS to R (upP to R) n n i) (plus (plus (R i 3) (R i 4)) (R i 5))) (minus (plus (feed to (upP to R) i i) (R i 1)) (R i 2)):=by
  unfold othersP intoP downP;rw[eT];congr 2;unfold minus1 plus;simp only;congr 1<;>omega
 rw[eI,eX];refine⟨?_,?_,?_,?_,io_in hO r1 r2 hQ r6 hd d1 d2 hu hne hm i2.1 i2.2 Q0 Q1 i6.1 i6.2⟩
 ·rw[Bool.eq_iff_iff,side_at hF hH hi,decide_eq_true_iff];exact in_lo hO r1 r2 hQ r6 hd d1 d2 hu hne hm i2.1 i2.2 Q0 Q1 i6.1 i6.2
 ·rw[Bool.eq_iff_iff,side_at hF hH hi,decide_eq_true_iff];exact in_hi hO r1 r2 hQ r6 hd d1 d2 hu hne hm i2.1 i2.2 Q0 Q1 i6.1 i6.2
 ·rw[Bool.eq_iff_iff,side_at hF hH hi,decide_eq_true_iff];exact ot_lo hO r1 r2 hQ r6 hd d1 d2 hu hne hm i2.1 i2.2 Q0 Q1 i6.1 i6.2
 ·rw[Bool.eq_iff_iff,side_at hF hH hi,decide_eq_true_iff];exact ot_hi hO r1 r2 hQ r6 hd d1 d2 hu hne hm i2.1 i2.2 Q0 Q1 i6.1 i6.2
end
end Go.Proofs.YtfplipbkjglmhaaDoor

namespace Go.Proofs.YtfplipbkjglmhaaDoor
set_option linter.unusedVariables false
set_option linter.unusedSimpArgs false
/-- The program's points: how much goes in, and how much oil, for the least part and for the greatest. -/
def n1 (o r a:Sp):Int:=min a.2 (max a.1 (o.1+r.2))
def o1 (o r a:Sp):Int:=max o.1 (n1 o r a - r.2)
def n2 (o r a:Sp):Int:=min a.2 (max a.1 (o.2+r.1))
def o2 (o r a:Sp):Int:=min o.2 (n2 o r a - r.1)
def okC (o r a x:Sp):Bool:=decide (o.1≤x.1) && decide (x.1≤o.2) && (decide (a.1≤x.2) && decide (x.2≤a.2)) && (decide (r.1≤x.2 - x.1) && decide (x.2 - x.1≤r.2))
theorem okC_iff{o r a x:Sp}:okC o r a x=true↔(o.1≤x.1∧x.1≤o.2)∧(a.1≤x.2∧x.2≤a.2)∧(r.1≤x.2 - x.1∧x.2 - x.1≤r.2):=by
 unfold okC;simp only[Bool.and_eq_true,decide_eq_true_eq];constructor
 ·rintro ⟨⟨⟨p,q⟩,s,t⟩,u,v⟩;exact⟨⟨p,q⟩,⟨s,t⟩,u,v⟩
 ·rintro ⟨⟨p,q⟩,⟨s,t⟩,u,v⟩;exact⟨⟨⟨p,q⟩,s,t⟩,u,v⟩
/-- There is some oil, and something that goes in, together. -/
structure Meets (o r a:Sp):Prop where
 ho:o.1≤o.2
 hr:r.1≤r.2
 ha:a.1≤a.2
 h1:o.1+r.1≤a.2
 h2:a.1≤o.2+r.2
section
variable {o r a:Sp}
theorem p1_cases(h:Meets o r a):(o1 o r a,n1 o r a)=(o.1,o.1+r.2)∨(o1 o r a,n1 o r a)=(o.1,a.2)∨(o1 o r a,n1 o r a)=(a.1 - r.2,a.1):=by
 obtain⟨a1,a2,a3,a4,a5⟩:=h;unfold o1 n1;simp only[Prod.mk.injEq];omega
theorem p2_cases(h:Meets o r a):(o2 o r a,n2 o r a)=(o.2,o.2+r.1)∨(o2 o r a,n2 o r a)=(a.2 - r.1,a.2)∨(o2 o r a,n2 o r a)=(o.2,a.1):=by
 obtain⟨a1,a2,a3,a4,a5⟩:=h;unfold o2 n2;simp only[Prod.mk.injEq];omega
theorem p1_least(h:Meets o r a){x:Sp}(hx:okC o r a x=true){D N:Int}(h0:0≤N)(hD:N≤D):o1 o r a*D - n1 o r a*N≤x.1*D - x.2*N:=by
 obtain⟨⟨x1,x2⟩,⟨x3,x4⟩,x5,x6⟩:=okC_iff.1 hx;rcases p1_cases h with e|e|e<;>simp only[Prod.mk.injEq] at e<;>obtain⟨e1,e2⟩:=e<;>rw[e1,e2]
 ·have g1:0≤(x.1 - o.1)*(D - N):=Int.mul_nonneg (by omega) (by omega);have g2:0≤(r.2 - (x.2 - x.1))*N:=Int.mul_nonneg (by omega) h0;simp only[Int.sub_mul,Int.mul_sub,Int.add_mul] at g1 g2 ⊢;omega
 ·have g1:0≤(x.1 - o.1)*D:=Int.mul_nonneg (by omega) (by omega);have g2:0≤(a.2 - x.2)*N:=Int.mul_nonneg (by omega) h0;simp only[Int.sub_mul] at g1 g2 ⊢;omega
 ·have g1:0≤(x.2 - a.1)*(D - N):=Int.mul_nonneg (by omega) (by omega);have g2:0≤(r.2 - (x.2 - x.1))*D:=Int.mul_nonneg (by omega) (by omega);simp only[Int.sub_mul,Int.mul_sub] at g1 g2 ⊢;omega
theorem p2_most(h:Meets o r a){x:Sp}(hx:okC o r a x=true){D N:Int}(h0:0≤N)(hD:N≤D):x.1*D - x.2*N≤o2 o r a*D - n2 o r a*N:=by
 obtain⟨⟨x1,x2⟩,⟨x3,x4⟩,x5,x6⟩:=okC_iff.1 hx;rcases p2_cases h with e|e|e<;>simp only[Prod.mk.injEq] at e<;>obtain⟨e1,e2⟩:=e<;>rw[e1,e2]
 ·have g1:0≤(o.2 - x.1)*(D - N):=Int.mul_nonneg (by omega) (by omega);have g2:0≤((x.2 - x.1) - r.1)*N:=Int.mul_nonneg (by omega) h0;simp only[Int.sub_mul,Int.mul_sub,Int.add_mul] at g1 g2 ⊢;omega
 ·have g1:0≤(a.2 - x.2)*(D - N):=Int.mul_nonneg (by omega) (by omega);have g2:0≤((x.2 - x.1) - r.1)*D:=Int.mul_nonneg (by omega) (by omega);simp only[Int.sub_mul,Int.mul_sub] at g1 g2 ⊢;omega
 ·have g1:0≤(o.2 - x.1)*D:=Int.mul_nonneg (by omega) (by omega);have g2:0≤(x.2 - a.1)*N:=Int.mul_nonneg (by omega) h0;simp only[Int.sub_mul] at g1 g2 ⊢;omega
end
/-- A fraction in lowest terms. -/
def redu (a b:Int):Sp:=(a/((Int.gcd a b:Nat):Int),b/((Int.gcd a b:Nat):Int))
section
variable {o r a:Sp}
end
theorem meet_lo{I d u t q g:Sp}(hq:Ne q)(ht:Ne (minus1 t q))(u1:u.1=max (I.1 - t.2) g.1)(hm:Ne (both u d)):(both q (minus I (plus (both d u) (minus1 t q)))).1+(both (plus d (minus1 t q)) (minus I q)).1≤(both I (plus d t)).1:=by
 obtain⟨i1,i2⟩:=I;obtain⟨a1,a2⟩:=d;obtain⟨b1,b2⟩:=u;obtain⟨c1,c2⟩:=t;obtain⟨e1,e2⟩:=q;obtain⟨g1,g2⟩:=g;unfold Ne both minus plus minus1 at *;simp only at *;have k1:i1 - c2≤min a2 b2:=by omega
 have k2:a1≤min a2 b2:=by omega
 clear u1 hm;generalize min a2 b2=X at *;omega
theorem meet_hi{I d u t q g:Sp}(hq:Ne q)(ht:Ne (minus1 t q))(u2:u.2=min (I.2 - t.1) g.2)(hm:Ne (both u d)):(both I (plus d t)).2≤(both q (minus I (plus (both d u) (minus1 t q)))).2+(both (plus d (minus1 t q)) (minus I q)).2:=by
 obtain⟨i1,i2⟩:=I;obtain⟨a1,a2⟩:=d;obtain⟨b1,b2⟩:=u;obtain⟨c1,c2⟩:=t;obtain⟨e1,e2⟩:=q;obtain⟨g1,g2⟩:=g;unfold Ne both minus plus minus1 at *;simp only at *;have k1:max a1 b1≤i2 - c1:=by omega
 have k2:max a1 b1≤a2:=by omega
 clear u2 hm;generalize max a1 b1=X at *;omega
section
variable {n:Nat} {to:Nat→Option Nat} {R:Nat→Nat→Sp}
/-- Oil, all else and all that goes in: there is a truth in which all goes in that can. -/
theorem spans_meet(hF:Fwd n to)(hH:Holds n R (upP to R)){i:Nat}(hi:i<n) :
  (spanP to R n i 2).1+(othersP to R n i).1≤(insideP to R n i).1∧(insideP to R n i).2≤(spanP to R n i 2).2+(othersP to R n i).2:=by
 have r2:=(hH i hi).1 2 (by omega) (by omega);have rr:=rest_less hH hi (k:=2) (by omega) (by omega);obtain⟨hd,hm⟩:=down_meets hF (fun j _=>upP_eq to R j) hH n i hi (by omega);have hu:=upP_eq to R i;have u1:(upP to R i).1=max ((intoP to R i).1 - (restS R i).2) (R i 6).1:=by rw[hu];rfl
 have u2:(upP to R i).2=min ((intoP to R i).2 - (restS R i).1) (R i 6).2:=by rw[hu];rfl
 have e:spanP to R n i 2=both (R i 2) (minus (intoP to R i) (plus (both (downP to R n i) (upP to R i)) (minus1 (restS R i) (R i 2)))):=by
  unfold spanP;rw[if_neg (by decide),if_neg (by decide)]
 rw[e];exact⟨meet_lo r2 rr u1 hm,meet_hi r2 rr u2 hm⟩
end
end Go.Proofs.YtfplipbkjglmhaaDoor

namespace Go.Proofs.YtfplipbkjglmhaaDoor
set_option linter.unusedVariables false
set_option linter.unusedSimpArgs false
/-- What is missing, if so much can be, and parings are so many. -/
def misP (c o:Sp):Int:=min 0 (c.2 - o.1)+max 0 (c.1 - o.2)
def parP (c o:Sp):Sp:=if misP c o > 0 then(o.2,o.2) else if misP c o<0 then(o.1,o.1) else both (c.1 - misP c o,c.2 - misP c o) o
/-- The same, by the reference. -/
def cR1 (c o:Sp):Sp:=if c.2<o.1 then(o.1,o.1) else c
def mR1 (c o:Sp):Int:=if c.2<o.1 then c.2 - o.1 else 0
def cR2 (c o:Sp):Sp:=if o.2<(cR1 c o).1 then(o.2,o.2) else cR1 c o
def misR (c o:Sp):Int:=if o.2<(cR1 c o).1 then(cR1 c o).1 - o.2 else mR1 c o
def parR (c o:Sp):Sp:=both (cR2 c o) o
theorem mis_eq{c o:Sp}(hc:Ne c)(ho:Ne o):misR c o=misP c o:=by
 unfold Ne at *;unfold misR misP mR1 cR1;split
 ·simp only;split<;>omega
 ·split<;>omega
theorem par_eq{c o:Sp}(hc:Ne c)(ho:Ne o):parR c o=parP c o:=by
 unfold Ne at *;unfold parR parP cR2 cR1 misP both;by_cases h1:c.2<o.1
 ·rw[if_pos h1,if_neg (by simp only;omega),if_neg (by omega),if_pos (by omega)];simp only;congr 1<;>omega
 ·rw[if_neg h1];by_cases h2:o.2<c.1
  ·rw[if_pos h2,if_pos (by omega)];simp only;congr 1<;>omega
  ·rw[if_neg h2,if_neg (by omega),if_neg (by omega)];simp only;congr 1<;>omega
theorem par_in{c o:Sp}(hc:Ne c)(ho:Ne o):Ne (parP c o)∧o.1≤(parP c o).1∧(parP c o).2≤o.2:=by
 unfold Ne at *;unfold parP misP both;split
 ·simp only;omega
 ·split
  ·simp only;omega
  ·simp only;omega
section
variable (to:Nat→Option Nat) (R:Nat→Nat→Sp)
def canS (f:Nat→Sp) (i:Nat):Sp:=minus (plus (feed to f i i) (R i 1)) (restS R i)
def parU:Nat→Sp:=fixU fun f i=>parP (canS to R f i) (R i 6)
def parV:Nat→Sp:=fixU fun f i=>parR (canS to R f i) (R i 6)
theorem parU_eq(i:Nat):parU to R i=parP (canS to R (parU to R) i) (R i 6):=
 fixU_eq (fun f f' i h=>by simp only[canS];rw[feed_congr i i (fun j hj _=>h j hj)]) i
theorem parV_eq(i:Nat):parV to R i=parR (canS to R (parV to R) i) (R i 6):=
 fixU_eq (fun f f' i h=>by simp only[canS];rw[feed_congr i i (fun j hj _=>h j hj)]) i
/-- What is missing at a place. -/
def misU (i:Nat):Int:=misP (canS to R (parU to R) i) (R i 6)
def misV (i:Nat):Int:=misR (canS to R (parV to R) i) (R i 6)
end
section
variable {n:Nat} {to:Nat→Option Nat} {R:Nat→Nat→Sp}
theorem can_ne{f:Nat→Sp}{i:Nat}(hf:∀j,j<i→Ne (f j))(hr:∀k,1≤k→k≤6→Ne (R i k)):Ne (canS to R f i):=by
 have h1:=feed_ne (to:=to) (U:=f) i i hf;have h2:=rest_ne hr;have h3:=hr 1 (by omega) (by omega);unfold canS Ne minus plus at *;simp only;omega
theorem gone_law(hr:∀i,i<n→∀k,1≤k→k≤6→Ne (R i k)):∀i,i<n→parV to R i=parU to R i∧misV to R i=misU to R i∧Ne (parU to R i)∧(R i 6).1≤(parU to R i).1∧(parU to R i).2≤(R i 6).2:=by
 intro i
 induction i using Nat.strongRecOn with
 |_ i ih=>
  intro hi;have hc:canS to R (parV to R) i=canS to R (parU to R) i:=by
   unfold canS;rw[feed_congr i i (fun j hj _=>(ih j hj (by omega)).1)]
  have hn:=can_ne (to:=to) (fun j hj=>(ih j hj (by omega)).2.2.1) (hr i hi);have h6:=hr i hi 6 (by omega) (by omega);obtain⟨p1,p2,p3⟩:=par_in hn h6;refine⟨?_,?_,?_,?_,?_⟩
  ·rw[parV_eq,parU_eq,hc];exact par_eq hn h6
  ·unfold misV misU;rw[hc];exact mis_eq hn h6
  ·rw[parU_eq];exact p1
  ·rw[parU_eq];exact p2
  ·rw[parU_eq];exact p3
end
/-- The sum of what is missing. -/
def sumM (m:Nat→Int):Nat→Int
 |0=>0
 |k+1=>sumM m k+max (m k) (-m k)
/-- What is missing, and where. -/
def listM (ids:Nat→Int) (m:Nat→Int):Nat→List (Int×Int)
 |0=>[]
 |k+1=>if m k≠0 then listM ids m k ++ [(ids k,m k)] else listM ids m k
end Go.Proofs.YtfplipbkjglmhaaDoor
