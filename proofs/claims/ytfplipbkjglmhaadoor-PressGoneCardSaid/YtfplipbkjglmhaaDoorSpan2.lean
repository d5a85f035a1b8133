/-
  The plain law of presses, second part: the least and the greatest of a weight, and of what goes in, are those with which the reference's way finds a truth.
-/
namespace Go.Proofs.YtfplipbkjglmhaaDoor
abbrev Sp:=Int×Int
def plus (a b:Sp):Sp:=(a.1+b.1,a.2+b.2)
def minus (a b:Sp):Sp:=(a.1 - b.2,a.2 - b.1)
def minus1 (a b:Sp):Sp:=(a.1 - b.1,a.2 - b.2)
def both (a b:Sp):Sp:=(max a.1 b.1,min a.2 b.2)
def Ne (s:Sp):Prop:=s.1≤s.2
instance (s:Sp):Decidable (Ne s):=by unfold Ne;infer_instance
/-- All that is fed into place k by the places below m. -/
def feed (to:Nat→Option Nat) (f:Nat→Sp) (k:Nat):Nat→Sp
  | 0=>(0,0)
  | j+1=>if to j=some k then plus (feed to f k j) (f j) else feed to f k j
/-- The same, but for one place. -/
def feedX (to:Nat→Option Nat) (f:Nat→Sp) (k a:Nat):Nat→Sp
  | 0=>(0,0)
  | j+1=>if to j=some k∧j≠a then plus (feedX to f k a j) (f j) else feedX to f k a j
def restS (R:Nat→Nat→Sp) (i:Nat):Sp:=plus (plus (plus (plus (0,0) (R i 2)) (R i 3)) (R i 4)) (R i 5)
def recS (to:Nat→Option Nat) (R:Nat→Nat→Sp) (U:Nat→Sp) (i:Nat):Sp:=
  both (minus (plus (feed to U i i) (R i 1)) (restS R i)) (R i 6)
/-- Parings lead on, and stay within n. -/
def Fwd (n:Nat) (to:Nat→Option Nat):Prop:=∀i k,i<n→to i=some k→i<k∧k<n
def downS (to:Nat→Option Nat) (R:Nat→Nat→Sp) (U:Nat→Sp) (n:Nat):Nat→Nat→Sp
  | 0,i=>R i 6
  | f+1,i=>match to i with
    | none=>R i 6
    | some k=>both (minus (minus (plus (downS to R U n f k) (restS R k)) (R k 1)) (feedX to U k i n)) (R i 6)
inductive Anc (to:Nat→Option Nat):Nat→Nat→Prop
  | refl (i:Nat):Anc to i i
  | step {i k j:Nat}:to i=some k→Anc to k j→Anc to i j
section
variable {n:Nat} {to:Nat→Option Nat} {R:Nat→Nat→Sp} {U U':Nat→Sp}
theorem feed_congr(k:Nat):∀m,(∀j,j<m→to j=some k→U j=U' j)→feed to U k m=feed to U' k m
  | 0,_=>rfl
  | m+1,h=>by
    have ih:=feed_congr k m (fun j hj=>h j (by omega));unfold feed;by_cases ht:to m=some k
    · rw[if_pos ht,if_pos ht,ih,h m (by omega) ht]
    · rw[if_neg ht,if_neg ht,ih]
theorem feedX_congr(k a:Nat):∀m,(∀j,j<m→to j=some k→j≠a→U j=U' j)→feedX to U k a m=feedX to U' k a m
  | 0,_=>rfl
  | m+1,h=>by
    have ih:=feedX_congr k a m (fun j hj=>h j (by omega));unfold feedX;by_cases ht:to m=some k∧m≠a
    · rw[if_pos ht,if_pos ht,ih,h m (by omega) ht.1 ht.2]
    · rw[if_neg ht,if_neg ht,ih]
theorem feedX_out(k a:Nat):∀m,m≤a→feedX to U k a m=feed to U k m
  | 0,_=>rfl
  | m+1,h=>by
    have ih:=feedX_out k a m (by omega);unfold feedX feed;by_cases ht:to m=some k
    · rw[if_pos ⟨ht,by omega⟩,if_pos ht,ih]
    · rw[if_neg (fun h=>ht h.1),if_neg ht,ih]
theorem feed_part(k a:Nat)(ha:to a=some k):∀m,a<m→feed to U k m=plus (feedX to U k a m) (U a)
  | 0,h=>by omega
  | m+1,h=>by
    unfold feedX feed;by_cases hm:m=a
    · subst hm;rw[if_pos ha,if_neg (fun h=>h.2 rfl),feedX_out k m m (Nat.le_refl _)]
    · have ih:=feed_part k a ha m (by omega);by_cases ht:to m=some k
      · rw[if_pos ht,if_pos ⟨ht,hm⟩,ih];simp only[plus];congr 1<;>omega
      · rw[if_neg ht,if_neg (fun h=>ht h.1),ih]
theorem feed_far(hF:Fwd n to)(k:Nat):∀m,k≤m→m≤n→feed to U k m=feed to U k k
  | 0, h, _ => by obtain rfl : k = 0 := by omega
                  rfl
  | m+1,h,hm=>by
    by_cases hk:k=m+1
    · subst hk;rfl
    · have ih:=feed_far hF k m (by omega) (by omega);rw[←ih]
      conv=>lhs;unfold feed
      have ht:¬to m=some k:=fun h=>(by have:=(hF m k (by omega) h).1;omega);rw[if_neg ht]
theorem feedX_ne(k a:Nat):∀m,(∀j,j<m→Ne (U j))→Ne (feedX to U k a m)
  | 0,_=>by simp[feedX,Ne]
  | m+1,h=>by
    have ih:=feedX_ne k a m (fun j hj=>h j (by omega));unfold feedX;by_cases ht:to m=some k∧m≠a
    · rw[if_pos ht];have:=h m (by omega);unfold Ne plus at *;simp only;omega
    · rw[if_neg ht];exact ih
theorem feed_ne(k:Nat):∀m,(∀j,j<m→Ne (U j))→Ne (feed to U k m)
  | 0,_=>by simp[feed,Ne]
  | m+1,h=>by
    have ih:=feed_ne k m (fun j hj=>h j (by omega));unfold feed;by_cases ht:to m=some k
    · rw[if_pos ht];have:=h m (by omega);unfold Ne plus at *;simp only;omega
    · rw[if_neg ht];exact ih
theorem rest_ne{i:Nat}(h:∀k,1≤k→k≤6→Ne (R i k)):Ne (restS R i):=by
  have h2:=h 2 (by omega) (by omega);have h3:=h 3 (by omega) (by omega);have h4:=h 4 (by omega) (by omega);have h5:=h 5 (by omega) (by omega);unfold restS Ne plus at *;simp only;omega
theorem Anc.le(hF:Fwd n to){i j:Nat}(h:Anc to i j)(hi:i<n):i≤j∧j<n:=by
  induction h with
  | refl i=>exact⟨Nat.le_refl _,hi⟩
  | step ht _ ih=>
    have:=hF _ _ hi ht;have:=ih this.2;omega
theorem Anc.snoc{i j k:Nat}(h:Anc to i j)(ht:to j=some k):Anc to i k:=by
  induction h with
  | refl i=>exact .step ht (.refl _)
  | step h1 _ ih=>exact .step h1 (ih ht)
/-- Of two places on one way, the later one lies on the way of the earlier one. -/
theorem Anc.cmp(hF:Fwd n to){i j k:Nat}(h:Anc to i j)(hi:i<n)(h':Anc to i k):j≤k→Anc to j k:=by
  induction h with
  | refl i=>exact fun _=>h'
  | @step i m j ht hm ih=>
    intro hjk;have hf:=hF _ _ hi ht;have hmj:=hm.le hF hf.2;cases h' with
    | refl=>omega
    | step ht' h''=>
      rw[ht] at ht';cases ht';exact ih hf.2 h'' hjk
def Holds (n:Nat) (R:Nat→Nat→Sp) (U:Nat→Sp):Prop:=∀i,i<n→(∀k,1≤k→k≤6→Ne (R i k))∧Ne (U i)
/-- A press in which one place's parings are others. -/
structure Turn (n:Nat) (to:Nat→Option Nat) (R:Nat→Nat→Sp) (U U':Nat→Sp) (i:Nat):Prop where
  fwd:Fwd n to
  rec_:∀j,j<n→U j=recS to R U j
  rec':∀j,j<n→j≠i→U' j=recS to R U' j
  lt:i<n
  lo:(R i 6).1≤(U' i).1
  hi:(U' i).2≤(R i 6).2
theorem Turn.off{i:Nat}(T:Turn n to R U U' i):∀j,j<n→¬Anc to i j→U' j=U j:=by
  intro j
  induction j using Nat.strongRecOn with
  | _ j ih=>
    intro hj hA;have hne:j≠i:=fun e=>hA (by subst e;exact .refl _);rw[T.rec' j hj hne,T.rec_ j hj];unfold recS;rw[feed_congr (U:=U') (U':=U) j j (fun k hk ht=>ih k hk (by omega) (fun hA'=>hA (hA'.snoc ht)))]
theorem Turn.six{i:Nat}(T:Turn n to R U U' i){j:Nat}(hj:j<n):(R j 6).1≤(U' j).1∧(U' j).2≤(R j 6).2:=by
  by_cases h:j=i
  · subst h;exact⟨T.lo,T.hi⟩
  · rw[T.rec' j hj h];unfold recS both;simp only;omega
theorem down_six(f i:Nat):(R i 6).1≤(downS to R U n f i).1∧(downS to R U n f i).2≤(R i 6).2:=by
  cases f with
  | zero=>simp[downS]
  | succ f=>
    unfold downS;cases to i with
    | none=>simp
    | some k=>unfold both;simp only;omega
/-- One step up the way: whether all is well at the next place, by what comes out here. -/
theorem step_up {a O s t g r d : Sp} (ha : Ne a) (hO : Ne O) (hs : Ne s) (ht : Ne t) (hd : Ne d) (hg1 : g.1 ≤ d.1) (hg2 : d.2 ≤ g.2) (h1 : r.1 ≤ a.1) (h2 : a.2 ≤ r.2) :
    (Ne (both (minus (plus (plus O a) s) t) g)∧Ne (both (both (minus (plus (plus O a) s) t) g) d))↔Ne (both a (both (minus (minus (plus d t) s) O) r)):=by
  unfold Ne both minus plus at *;simp only at *;omega
theorem step_up' {a O s t g r d : Sp} (ha : Ne a) (hO : Ne O) (hs : Ne s) (ht : Ne t) (h : Ne (both (both (minus (plus (plus O a) s) t) g) d)) (hd : Ne d) (h1 : r.1 ≤ a.1) (h2 : a.2 ≤ r.2) (hg1 : g.1 ≤ d.1) :
    Ne (both (minus (minus (plus d t) s) O) r):=by
  unfold Ne both minus plus at *;simp only at *;omega
/-- In a press with a truth: what comes out of a place, and what may come out, meet. -/
theorem Turn.same(hF:Fwd n to)(hU:∀j,j<n→U j=recS to R U j){i:Nat}(hi:i<n):Turn n to R U U i:=
  ⟨hF,hU,fun j hj _=>hU j hj,hi,by rw[hU i hi];unfold recS both;simp only;omega,by rw[hU i hi];unfold recS both;simp only;omega⟩
theorem down_meets(hF:Fwd n to)(hU:∀j,j<n→U j=recS to R U j)(hH:Holds n R U):∀f a,a<n→n - a≤f→Ne (downS to R U n f a)∧Ne (both (U a) (downS to R U n f a))
  | 0,a,ha,hf=>by omega
  | f+1,a,ha,hf=>by
    have h6:=(Turn.same hF hU ha).six ha;have hUa:=(hH a ha).2;have h6':=(hH a ha).1 6 (by omega) (by omega);unfold downS;cases ht:to a with
    | none=>
      simp only;refine⟨h6',?_⟩;unfold Ne both at *;simp only;omega
    | some b=>
      simp only;have hb:=hF a b ha ht;obtain⟨d1,d2⟩:=down_meets hF hU hH f b hb.2 (by omega);have hd6:=down_six (to:=to) (R:=R) (U:=U) (n:=n) f b;have hO:Ne (feedX to U b a n):=feedX_ne b a n (fun j hj=>(hH j hj).2);have hs:=(hH b hb.2).1 1 (by omega) (by omega);have hr:=rest_ne (hH b hb.2).1;have e:U b=both (minus (plus (plus (feedX to U b a n) (U a)) (R b 1)) (restS R b)) (R b 6):=by
        rw[hU b hb.2];unfold recS;rw[←feed_part b a ht n ha,feed_far hF b n (by omega) (Nat.le_refl _)]
      have hUb:=(hH b hb.2).2;rw[e] at d2 hUb;have h:=(step_up hUa hO hs hr d1 hd6.1 hd6.2 h6.1 h6.2).1 ⟨hUb,d2⟩;exact⟨step_up' hUa hO hs hr d2 d1 h6.1 h6.2 hd6.1,h⟩
theorem Turn.way {i : Nat} (T : Turn n to R U U' i) (hH : Holds n R U) : ∀ f a, a < n → n - a ≤ f → Anc to i a →
    ((∀j,Anc to a j→Ne (U' j))↔Ne (U' a)∧Ne (both (U' a) (downS to R U n f a)))
  | 0,a,ha,hf,_=>by omega
  | f+1,a,ha,hf,hA=>by
    have h6:=T.six ha;unfold downS;cases ht:to a with
    | none=>
      simp only;constructor
      · intro h;have:=h a (.refl _);refine⟨this,?_⟩;unfold Ne both at *;simp only;omega
      · rintro ⟨h,-⟩ j hj;cases hj with
        | refl=>exact h
        | step ht' _=>rw[ht] at ht';cases ht'
    | some b=>
      simp only;have hb:=T.fwd a b ha ht;have ih:=T.way hH f b hb.2 (by omega) (hA.snoc ht);have hia:=(hA.le T.fwd T.lt).1;obtain⟨d1,d2⟩:=down_meets T.fwd T.rec_ hH f b hb.2 (by omega);have hd6:=down_six (to:=to) (R:=R) (U:=U) (n:=n) f b;have hO:Ne (feedX to U b a n):=feedX_ne b a n (fun j hj=>(hH j hj).2);have hs:=(hH b hb.2).1 1 (by omega) (by omega);have hr:=rest_ne (hH b hb.2).1;have hX:feedX to U' b a n=feedX to U b a n:=feedX_congr b a n (fun j hj htj hja=>by
        refine T.off j hj (fun hAj=>hja ?_);rcases Nat.lt_or_ge j a with hlt|hge
        · have:=hAj.cmp T.fwd T.lt hA (Nat.le_of_lt hlt);cases this with
          | refl=>rfl
          | step h1 h2=>
            rw[htj] at h1;cases h1;have:=(h2.le T.fwd hb.2).1;omega
        · have:=hA.cmp T.fwd T.lt hAj hge;cases this with
          | refl=>rfl
          | step h1 h2=>
            rw[ht] at h1;cases h1;have h3:=(h2.le T.fwd hb.2).1;have h4:=(T.fwd j b hj htj).1
            omega)
      have e:U' b=both (minus (plus (plus (feedX to U b a n) (U' a)) (R b 1)) (restS R b)) (R b 6):=by
        rw[T.rec' b hb.2 (by omega)];unfold recS;rw[←hX,←feed_part b a ht n ha,feed_far T.fwd b n (by omega) (Nat.le_refl _)]
      rw[e] at ih;constructor
      · intro h;have ha':=h a (.refl _);exact⟨ha',(step_up ha' hO hs hr d1 hd6.1 hd6.2 h6.1 h6.2).1 (ih.1 fun j hj=>h j (.step ht hj))⟩
      · rintro ⟨h1,h2⟩ j hj;cases hj with
        | refl=>exact h1
        | step ht' hj'=>
          rw[ht] at ht';cases ht';exact ih.2 ((step_up h1 hO hs hr d1 hd6.1 hd6.2 h6.1 h6.2).2 h2) j hj'
/-- All is well in the turned press just if what comes out at that place is well, and may come out. -/
theorem Turn.all{i:Nat}(T:Turn n to R U U' i)(hH:Holds n R U):(∀j,j<n→Ne (U' j))↔Ne (U' i)∧Ne (both (U' i) (downS to R U n n i)):=by
  have hw:=T.way hH n i T.lt (by omega) (.refl _);rw[←hw];constructor
  · exact fun h j hj=>h j (hj.le T.fwd T.lt).2
  · intro h j hj;by_cases hA:Anc to i j
    · exact h j hA
    · rw[T.off j hj hA];exact(hH j hj).2
end
end Go.Proofs.YtfplipbkjglmhaaDoor

namespace Go.Proofs.YtfplipbkjglmhaaDoor
/-- Step by step: place m out of those below it. -/
def upsC (g:(Nat→Sp)→Nat→Sp):Nat→Nat→Sp
  | 0,_=>(0,0)
  | m+1,j=>if j=m then g (upsC g m) m else upsC g m j
def fixU (g:(Nat→Sp)→Nat→Sp) (j:Nat):Sp:=upsC g (j+1) j
theorem upsC_at(g:(Nat→Sp)→Nat→Sp):∀m j,j<m→upsC g m j=fixU g j
  | 0,j,h=>by omega
  | m+1,j,h=>by
    by_cases hj:j=m
    · subst hj;rfl
    · rw[upsC,if_neg hj];exact upsC_at g m j (by omega)
def Loc (g:(Nat→Sp)→Nat→Sp):Prop:=∀f f' i,(∀j,j<i→f j=f' j)→g f i=g f' i
theorem fixU_eq{g:(Nat→Sp)→Nat→Sp}(hg:Loc g)(i:Nat):fixU g i=g (fixU g) i:=by
  rw[fixU,upsC,if_pos rfl];exact hg _ _ _ (fun j hj=>upsC_at g i j hj)
section
variable (to:Nat→Option Nat) (R:Nat→Nat→Sp) (at_:Int) (inn rst:Sp)
def st1 (f:Nat→Sp) (i:Nat):Sp:=plus (feed to f i i) (R i 1)
def st0 (f:Nat→Sp) (i:Nat):Sp:=if(i:Int)=at_ then both (st1 to R f i) inn else st1 to R f i
def st2 (f:Nat→Sp) (i:Nat):Sp:=if(i:Int)=at_ then both (minus (st0 to R at_ inn f i) (R i 2)) rst else minus (st0 to R at_ inn f i) (R i 2)
def st3 (f:Nat→Sp) (i:Nat):Sp:=minus (st2 to R at_ inn rst f i) (R i 3)
def st4 (f:Nat→Sp) (i:Nat):Sp:=minus (st3 to R at_ inn rst f i) (R i 4)
def st5 (f:Nat→Sp) (i:Nat):Sp:=minus (st4 to R at_ inn rst f i) (R i 5)
def st6 (f:Nat→Sp) (i:Nat):Sp:=both (st5 to R at_ inn rst f i) (R i 6)
def okI (f:Nat→Sp) (i:Nat):Prop:=
  Ne (st0 to R at_ inn f i)∧Ne (R i 2)∧Ne (st2 to R at_ inn rst f i)∧Ne (R i 3)∧Ne (st3 to R at_ inn rst f i)∧Ne (R i 4)∧Ne (st4 to R at_ inn rst f i)∧Ne (R i 5)∧Ne (st5 to R at_ inn rst f i)∧Ne (st6 to R at_ inn rst f i)∧Ne (R i 1)
instance (f:Nat→Sp) (i:Nat):Decidable (okI to R at_ inn rst f i):=by unfold okI;infer_instance
def upR:Nat→Sp:=fixU (st6 to R at_ inn rst)
/-- What the reference asks: whether there is a truth, with what goes in at a place, and all of it but oil, within spans. -/
def holdsR (n:Nat):Bool:=decide (∀i,i<n→okI to R at_ inn rst (upR to R at_ inn rst) i)
/-- What the program asks. -/
def upP:Nat→Sp:=fixU (recS to R)
end
def rowOk (R:Nat→Nat→Sp) (f:Nat→Sp) (i:Nat):Prop:=(∀k,k<7→Ne (R i k))∧Ne (f i)
instance (R:Nat→Nat→Sp) (f:Nat→Sp) (i:Nat):Decidable (rowOk R f i):=by unfold rowOk;infer_instance
def holdsP (to:Nat→Option Nat) (R:Nat→Nat→Sp) (n:Nat):Bool:=decide (∀i,i<n→rowOk R (upP to R) i)
theorem Loc.recS(to:Nat→Option Nat)(R:Nat→Nat→Sp):Loc (recS to R):=fun f f' i h=>by
  unfold Go.Proofs.YtfplipbkjglmhaaDoor.recS;rw[feed_congr (U:=f) (U':=f') i i (fun j hj _=>h j hj)]
theorem Loc.st6(to:Nat→Option Nat)(R:Nat→Nat→Sp)(at_:Int)(inn rst:Sp):Loc (st6 to R at_ inn rst):=fun f f' i h=>by
  unfold Go.Proofs.YtfplipbkjglmhaaDoor.st6 st5 st4 st3 st2 st0 st1;rw[feed_congr (U:=f) (U':=f') i i (fun j hj _=>h j hj)]
theorem upP_eq(to:Nat→Option Nat)(R:Nat→Nat→Sp)(i:Nat):upP to R i=recS to R (upP to R) i:=fixU_eq (Loc.recS to R) i
theorem upR_eq(to:Nat→Option Nat)(R:Nat→Nat→Sp)(at_:Int)(inn rst:Sp)(i:Nat):upR to R at_ inn rst i=st6 to R at_ inn rst (upR to R at_ inn rst) i:=fixU_eq (Loc.st6 to R at_ inn rst) i
section
variable {n:Nat} {to:Nat→Option Nat} {R:Nat→Nat→Sp} {at_:Int} {inn rst:Sp}
theorem st6_rec{f:Nat→Sp}{i:Nat}(h:(i:Int)≠at_):st6 to R at_ inn rst f i=recS to R f i:=by
  unfold st6 st5 st4 st3 st2 st0 st1 recS restS;rw[if_neg h,if_neg h];simp only[both,minus,plus];congr 1<;>omega
theorem okI_off{f:Nat→Sp}{i:Nat}(h:(i:Int)≠at_)(hf:∀j,j<i→Ne (f j)):okI to R at_ inn rst f i↔(∀k,1≤k→k≤6→Ne (R i k))∧Ne (st6 to R at_ inn rst f i):=by
  have hO:=feed_ne (to:=to) (U:=f) i i hf;constructor
  · rintro ⟨h0,h2,g2,h3,g3,h4,g4,h5,g5,g6,h1⟩;refine⟨fun k k1 k6=>?_,g6⟩;have:Ne (R i 6):=by
      unfold st6 Ne both at g6;unfold Ne;simp only at g6;omega
    rcases (by omega:k=1∨k=2∨k=3∨k=4∨k=5∨k=6) with rfl|rfl|rfl|rfl|rfl|rfl<;>assumption
  · rintro ⟨hR,h6⟩;have h1:=hR 1 (by omega) (by omega);have h2:=hR 2 (by omega) (by omega);have h3:=hR 3 (by omega) (by omega);have h4:=hR 4 (by omega) (by omega);have h5:=hR 5 (by omega) (by omega);have g0:Ne (st0 to R at_ inn f i):=(by unfold st0 st1;rw[if_neg h];unfold Ne plus at *;simp only;omega);have g2:Ne (st2 to R at_ inn rst f i):=(by unfold st2;rw[if_neg h];unfold Ne minus at *;simp only;omega);have g3:Ne (st3 to R at_ inn rst f i):=(by unfold st3;unfold Ne minus at *;simp only;omega);have g4:Ne (st4 to R at_ inn rst f i):=(by unfold st4;unfold Ne minus at *;simp only;omega);have g5:Ne (st5 to R at_ inn rst f i):=(by unfold st5;unfold Ne minus at *;simp only;omega);exact⟨g0,h2,g2,h3,g3,h4,g4,h5,g5,h6,h1⟩
theorem holdsP_iff(h0:∀i,i<n→Ne (R i 0)):holdsP to R n=true↔Holds n R (upP to R):=by
  unfold holdsP Holds rowOk;simp only[decide_eq_true_eq];constructor
  · exact fun H i hi=>⟨fun k k1 k6=>(H i hi).1 k (by omega),(H i hi).2⟩
  · intro H i hi;refine⟨fun k hk=>?_,(H i hi).2⟩;by_cases k0:k=0
    · subst k0;exact h0 i hi
    · exact(H i hi).1 k (by omega) (by omega)
end
/-- Notes of which one weight is within a span more. -/
def wth (R:Nat→Nat→Sp) (i k:Nat) (lo hi:Int):Nat→Nat→Sp:=fun a b=>if a=i∧b=k then(max lo (R i k).1,min hi (R i k).2) else R a b
def downP (to:Nat→Option Nat) (R:Nat→Nat→Sp) (n i:Nat):Sp:=downS to R (upP to R) n n i
def intoP (to:Nat→Option Nat) (R:Nat→Nat→Sp) (i:Nat):Sp:=plus (feed to (upP to R) i i) (R i 1)
/-- What the program answers of a weight. -/
def spanP (to:Nat→Option Nat) (R:Nat→Nat→Sp) (n i k:Nat):Sp:=
  if k=6 then both (downP to R n i) (upP to R i)
  else if k=1 then both (R i 1) (minus (plus (both (downP to R n i) (upP to R i)) (restS R i)) (minus1 (intoP to R i) (R i 1)))
  else both (R i k) (minus (intoP to R i) (plus (both (downP to R n i) (upP to R i)) (minus1 (restS R i) (R i k))))
/-- What it answers of all that goes in. -/
def insideP (to:Nat→Option Nat) (R:Nat→Nat→Sp) (n i:Nat):Sp:=both (intoP to R i) (plus (downP to R n i) (restS R i))
def othersP (to:Nat→Option Nat) (R:Nat→Nat→Sp) (n i:Nat):Sp:=both (plus (downP to R n i) (minus1 (restS R i) (R i 2))) (minus (intoP to R i) (R i 2))
section
variable {n:Nat} {to:Nat→Option Nat} {R:Nat→Nat→Sp}
theorem feed_off(hF:Fwd n to){U U':Nat→Sp}{i:Nat}(hi:i<n)(T:Turn n to R U U' i):feed to U' i i=feed to U i i:=
  feed_congr i i (fun j hj ht=>T.off j (by omega) (fun hA=>by have:=(hA.le hF hi).1;omega))
theorem wth_turn(hF:Fwd n to){i k:Nat}(hi:i<n)(lo hi':Int):Turn n to R (upP to R) (upP to (wth R i k lo hi')) i where
  fwd:=hF
  rec_:=fun j _=>upP_eq to R j
  rec':=fun j _ hne=>by
    rw[upP_eq];have:∀b,wth R i k lo hi' j b=R j b:=fun b=>(by unfold wth;rw[if_neg (fun h=>hne h.1)]);unfold recS restS;simp only[this]
  lt:=hi
  lo:=by
    rw[upP_eq]
    have : (R i 6).1 ≤ (wth R i k lo hi' i 6).1 := by unfold wth; split <;> rename_i h
                                                      · obtain⟨-,rfl⟩:=h;simp only;omega
                                                      · omega
    unfold recS both;simp only;omega
  hi:=by
    rw[upP_eq]
    have : (wth R i k lo hi' i 6).2 ≤ (R i 6).2 := by unfold wth; split <;> rename_i h
                                                      · obtain⟨-,rfl⟩:=h;simp only;omega
                                                      · omega
    unfold recS both;simp only;omega
theorem wth_holds (hF : Fwd n to) (hH : Holds n R (upP to R)) {i k : Nat} (hi : i < n) (h1 : 1 ≤ k) (h6 : k ≤ 6) (lo hi' : Int) :
    Holds n (wth R i k lo hi') (upP to (wth R i k lo hi'))↔Ne (wth R i k lo hi' i k)∧Ne (upP to (wth R i k lo hi') i)∧Ne (both (upP to (wth R i k lo hi') i) (downP to R n i)):=by
  have T:=wth_turn (R:=R) (k:=k) hF hi lo hi';have hA:=T.all hH;unfold downP;rw[←hA];constructor
  · exact fun H=>⟨(H i hi).1 k h1 h6,fun j hj=>(H j hj).2⟩
  · rintro ⟨hk,H⟩ j hj;refine⟨fun b b1 b6=>?_,H j hj⟩;by_cases h:j=i∧b=k
    · obtain⟨rfl,rfl⟩:=h;exact hk
    · have:wth R i k lo hi' j b=R j b:=(by unfold wth;rw[if_neg h]);rw[this];exact(hH j hj).1 b b1 b6
/-- A seed weight by scalars. -/
theorem seed_lo {O s t g d u : Sp} {mid : Int} (hO : Ne O) (hs : Ne s) (ht : Ne t) (hg : Ne g) (hd : Ne d) (d1 : g.1 ≤ d.1) (d2 : d.2 ≤ g.2) (hu : u = both (minus (plus O s) t) g) (hne : Ne u) (hm : Ne (both u d)) (h0 : 0 ≤ s.1) :
    (Ne (max 0 s.1,min mid s.2)∧Ne (both (minus (plus O (max 0 s.1,min mid s.2)) t) g)∧Ne (both (both (minus (plus O (max 0 s.1,min mid s.2)) t) g) d))↔(both s (minus (plus (both d u) t) (minus1 (plus O s) s))).1≤mid:=by
  subst hu;unfold Ne both minus minus1 plus at *;simp only at *;omega
theorem seed_hi {O s t g d u : Sp} {mid most : Int} (hO : Ne O) (hs : Ne s) (ht : Ne t) (hg : Ne g) (hd : Ne d) (d1 : g.1 ≤ d.1) (d2 : d.2 ≤ g.2) (hu : u = both (minus (plus O s) t) g) (hne : Ne u) (hm : Ne (both u d)) (h0 : s.2 ≤ most) :
    (Ne (max mid s.1,min most s.2)∧Ne (both (minus (plus O (max mid s.1,min most s.2)) t) g)∧Ne (both (both (minus (plus O (max mid s.1,min most s.2)) t) g) d))↔mid≤(both s (minus (plus (both d u) t) (minus1 (plus O s) s))).2:=by
  subst hu;unfold Ne both minus minus1 plus at *;simp only at *;omega
/-- A weight that comes out: q is all else that comes out, but parings. -/
theorem out_lo {O s t q w g d u : Sp} {mid : Int} (hO : Ne O) (hs : Ne s) (hq : Ne q) (hw : Ne w) (e1 : t.1 = q.1 + w.1) (e2 : t.2 = q.2 + w.2) (hg : Ne g) (hd : Ne d) (d1 : g.1 ≤ d.1) (d2 : d.2 ≤ g.2) (hu : u = both (minus (plus O s) t) g) (hne : Ne u) (hm : Ne (both u d)) (h0 : 0 ≤ w.1) :
    (Ne (max 0 w.1,min mid w.2)∧Ne (both (minus (plus O s) (q.1+max 0 w.1,q.2+min mid w.2)) g)∧Ne (both (both (minus (plus O s) (q.1+max 0 w.1,q.2+min mid w.2)) g) d))↔(both w (minus (plus O s) (plus (both d u) (minus1 t w)))).1≤mid:=by
  subst hu;unfold Ne both minus minus1 plus at *;simp only at *;omega
theorem out_hi {O s t q w g d u : Sp} {mid most : Int} (hO : Ne O) (hs : Ne s) (hq : Ne q) (hw : Ne w) (e1 : t.1 = q.1 + w.1) (e2 : t.2 = q.2 + w.2) (hg : Ne g) (hd : Ne d) (d1 : g.1 ≤ d.1) (d2 : d.2 ≤ g.2) (hu : u = both (minus (plus O s) t) g) (hne : Ne u) (hm : Ne (both u d)) (h0 : w.2 ≤ most) :
    (Ne (max mid w.1,min most w.2)∧Ne (both (minus (plus O s) (q.1+max mid w.1,q.2+min most w.2)) g)∧Ne (both (both (minus (plus O s) (q.1+max mid w.1,q.2+min most w.2)) g) d))↔mid≤(both w (minus (plus O s) (plus (both d u) (minus1 t w)))).2:=by
  subst hu;unfold Ne both minus minus1 plus at *;simp only at *;omega
theorem par_lo {O s t g d u : Sp} {mid : Int} (hO : Ne O) (hs : Ne s) (ht : Ne t) (hg : Ne g) (hd : Ne d) (d1 : g.1 ≤ d.1) (d2 : d.2 ≤ g.2) (hu : u = both (minus (plus O s) t) g) (hne : Ne u) (hm : Ne (both u d)) (h0 : 0 ≤ g.1) :
    (Ne (max 0 g.1,min mid g.2)∧Ne (both (minus (plus O s) t) (max 0 g.1,min mid g.2))∧Ne (both (both (minus (plus O s) t) (max 0 g.1,min mid g.2)) d))↔(both d u).1≤mid:=by
  subst hu;unfold Ne both minus plus at *;simp only at *;omega
theorem par_hi {O s t g d u : Sp} {mid most : Int} (hO : Ne O) (hs : Ne s) (ht : Ne t) (hg : Ne g) (hd : Ne d) (d1 : g.1 ≤ d.1) (d2 : d.2 ≤ g.2) (hu : u = both (minus (plus O s) t) g) (hne : Ne u) (hm : Ne (both u d)) (h0 : g.2 ≤ most) :
    (Ne (max mid g.1,min most g.2)∧Ne (both (minus (plus O s) t) (max mid g.1,min most g.2))∧Ne (both (both (minus (plus O s) t) (max mid g.1,min most g.2)) d))↔mid≤(both d u).2:=by
  subst hu;unfold Ne both minus plus at *;simp only at *;omega
theorem seed_ne {O s t g d u : Sp} (hO : Ne O) (hs : Ne s) (ht : Ne t) (hu : u = both (minus (plus O s) t) g) (hne : Ne u) (hm : Ne (both u d)) (hd : Ne d) :
    Ne (both s (minus (plus (both d u) t) (minus1 (plus O s) s))):=by
  subst hu;unfold Ne both minus minus1 plus at *;simp only at *;omega
theorem out_ne {O s t q w g d u : Sp} (hO : Ne O) (hs : Ne s) (hq : Ne q) (hw : Ne w) (e1 : t.1 = q.1 + w.1) (e2 : t.2 = q.2 + w.2) (hu : u = both (minus (plus O s) t) g) (hne : Ne u) (hm : Ne (both u d)) (hd : Ne d) :
    Ne (both w (minus (plus O s) (plus (both d u) (minus1 t w)))):=by
  subst hu;unfold Ne both minus minus1 plus at *;simp only at *;omega
theorem wth_at{i k:Nat}{lo hi':Int}{b:Nat}(h:b≠k):wth R i k lo hi' i b=R i b:=by unfold wth;rw[if_neg (fun h'=>h h'.2)]
theorem wth_in{i k:Nat}{lo hi':Int}:wth R i k lo hi' i k=(max lo (R i k).1,min hi' (R i k).2):=by unfold wth;rw[if_pos ⟨rfl,rfl⟩]
/-- In turned notes: what comes out at the place. -/
theorem wth_up(hF:Fwd n to){i k:Nat}(hi:i<n)(lo hi':Int):upP to (wth R i k lo hi') i=both (minus (plus (feed to (upP to R) i i) (wth R i k lo hi' i 1)) (restS (wth R i k lo hi') i)) (wth R i k lo hi' i 6):=by
  rw[upP_eq];unfold recS;rw[feed_off hF hi (wth_turn (R:=R) (k:=k) hF hi lo hi')]
theorem wth_rest_out{i k:Nat}{lo hi':Int}(h:k=1∨k=6):restS (wth R i k lo hi') i=restS R i:=by
  unfold restS;rw[wth_at (by omega),wth_at (by omega),wth_at (by omega),wth_at (by omega)]
theorem wth_rest_in{i k:Nat}{lo hi':Int}(h2:2≤k)(h5:k≤5):restS (wth R i k lo hi') i=((minus1 (restS R i) (R i k)).1+max lo (R i k).1,(minus1 (restS R i) (R i k)).2+min hi' (R i k).2):=by
  rcases (by omega:k=2∨k=3∨k=4∨k=5) with rfl|rfl|rfl|rfl <;>
  · unfold restS;simp only[wth_in]
    repeat rw[wth_at (by omega)]
    simp only[plus,minus1];congr 1<;>omega
theorem rest_less(hH:Holds n R (upP to R)){i k:Nat}(hi:i<n)(h2:2≤k)(h5:k≤5):Ne (minus1 (restS R i) (R i k)):=by
  have h2':=(hH i hi).1 2 (by omega) (by omega);have h3':=(hH i hi).1 3 (by omega) (by omega);have h4':=(hH i hi).1 4 (by omega) (by omega);have h5':=(hH i hi).1 5 (by omega) (by omega);rcases (by omega:k=2∨k=3∨k=4∨k=5) with rfl|rfl|rfl|rfl <;>
  · unfold restS Ne minus1 plus at *;simp only;omega
/-- The notes leave numbers from 0 to most. -/
def InR (n:Nat) (R:Nat→Nat→Sp) (most:Int):Prop:=∀i,i<n→∀k,0≤(R i k).1∧(R i k).2≤most
theorem span_lo (hF : Fwd n to) (hH : Holds n R (upP to R)) {most : Int} (hI : InR n R most) {i k : Nat} (hi : i < n) (h1 : 1 ≤ k) (h6 : k ≤ 6) (mid : Int) :
    Holds n (wth R i k 0 mid) (upP to (wth R i k 0 mid))↔(spanP to R n i k).1≤mid:=by
  rw[wth_holds hF hH hi h1 h6,wth_up hF hi,wth_in];have hO:=feed_ne (to:=to) (U:=upP to R) i i (fun j hj=>(hH j (by omega)).2);have hs:=(hH i hi).1 1 (by omega) (by omega);have ht:=rest_ne (hH i hi).1;have hg:=(hH i hi).1 6 (by omega) (by omega);have hw:=(hH i hi).1 k h1 h6;obtain⟨hd,hm⟩:=down_meets hF (fun j _=>upP_eq to R j) hH n i hi (by omega);obtain⟨d1,d2⟩:=down_six (to:=to) (R:=R) (U:=upP to R) (n:=n) n i;have hu:upP to R i=both (minus (plus (feed to (upP to R) i i) (R i 1)) (restS R i)) (R i 6):=upP_eq to R i;have hne:=(hH i hi).2;have h0:=(hI i hi k).1;unfold spanP intoP downP;rcases (by omega:k=1∨k=6∨(2≤k∧k≤5)) with rfl|rfl|⟨k2,k5⟩
  · rw[if_neg (by omega),if_pos rfl,wth_in,wth_rest_out (Or.inl rfl),wth_at (by omega)];exact seed_lo hO hs ht hg hd d1 d2 hu hne hm h0
  · rw[if_pos rfl,wth_in,wth_rest_out (Or.inr rfl),wth_at (by omega)];exact par_lo hO hs ht hg hd d1 d2 hu hne hm h0
  · rw[if_neg (by omega),if_neg (by omega),wth_rest_in k2 k5,wth_at (by omega),wth_at (by omega)];exact out_lo hO hs (rest_less hH hi k2 k5) hw (by simp only[minus1];omega) (by simp only[minus1];omega) hg hd d1 d2 hu hne hm h0
theorem span_hi (hF : Fwd n to) (hH : Holds n R (upP to R)) {most : Int} (hI : InR n R most) {i k : Nat} (hi : i < n) (h1 : 1 ≤ k) (h6 : k ≤ 6) (mid : Int) :
    Holds n (wth R i k mid most) (upP to (wth R i k mid most))↔mid≤(spanP to R n i k).2:=by
  rw[wth_holds hF hH hi h1 h6,wth_up hF hi,wth_in];have hO:=feed_ne (to:=to) (U:=upP to R) i i (fun j hj=>(hH j (by omega)).2);have hs:=(hH i hi).1 1 (by omega) (by omega);have ht:=rest_ne (hH i hi).1;have hg:=(hH i hi).1 6 (by omega) (by omega);have hw:=(hH i hi).1 k h1 h6;obtain⟨hd,hm⟩:=down_meets hF (fun j _=>upP_eq to R j) hH n i hi (by omega);obtain⟨d1,d2⟩:=down_six (to:=to) (R:=R) (U:=upP to R) (n:=n) n i;have hu:upP to R i=both (minus (plus (feed to (upP to R) i i) (R i 1)) (restS R i)) (R i 6):=upP_eq to R i;have hne:=(hH i hi).2;have h0:=(hI i hi k).2;unfold spanP intoP downP;rcases (by omega:k=1∨k=6∨(2≤k∧k≤5)) with rfl|rfl|⟨k2,k5⟩
  · rw[if_neg (by omega),if_pos rfl,wth_in,wth_rest_out (Or.inl rfl),wth_at (by omega)];exact seed_hi hO hs ht hg hd d1 d2 hu hne hm h0
  · rw[if_pos rfl,wth_in,wth_rest_out (Or.inr rfl),wth_at (by omega)];exact par_hi hO hs ht hg hd d1 d2 hu hne hm h0
  · rw[if_neg (by omega),if_neg (by omega),wth_rest_in k2 k5,wth_at (by omega),wth_at (by omega)];exact out_hi hO hs (rest_less hH hi k2 k5) hw (by simp only[minus1];omega) (by simp only[minus1];omega) hg hd d1 d2 hu hne hm h0
/-- Both ends lie within the notes, and are in order. -/
theorem span_in (hF : Fwd n to) (hH : Holds n R (upP to R)) {most : Int} (hI : InR n R most) {i k : Nat} (hi : i < n) (h1 : 1 ≤ k) (h6 : k ≤ 6) :
    0≤(spanP to R n i k).1∧(spanP to R n i k).1≤(spanP to R n i k).2∧(spanP to R n i k).2≤most:=by
  have hw:=(hH i hi).1 k h1 h6;have h0:=hI i hi k;have hb:(R i k).1≤(spanP to R n i k).1∧(spanP to R n i k).2≤(R i k).2:=by
    obtain⟨d1,d2⟩:=down_six (to:=to) (R:=R) (U:=upP to R) (n:=n) n i;unfold spanP downP;by_cases k6:k=6
    · subst k6;rw[if_pos rfl];unfold both;simp only;omega
    · rw[if_neg k6];by_cases k1:k=1
      · subst k1;rw[if_pos rfl];unfold both;simp only;omega
      · rw[if_neg k1];unfold both;simp only;omega
  have hle:(spanP to R n i k).1≤(spanP to R n i k).2:=by
    have hO:=feed_ne (to:=to) (U:=upP to R) i i (fun j hj=>(hH j (by omega)).2);have hs:=(hH i hi).1 1 (by omega) (by omega);have ht:=rest_ne (hH i hi).1;obtain⟨hd,hm⟩:=down_meets hF (fun j _=>upP_eq to R j) hH n i hi (by omega);have hu:upP to R i=both (minus (plus (feed to (upP to R) i i) (R i 1)) (restS R i)) (R i 6):=upP_eq to R i;have hne:=(hH i hi).2;unfold spanP intoP downP;rcases (by omega:k=1∨k=6∨(2≤k∧k≤5)) with rfl|rfl|⟨k2,k5⟩
    · rw[if_neg (by omega),if_pos rfl];exact seed_ne hO hs ht hu hne hm hd
    · rw[if_pos rfl];unfold Ne both at *;simp only at *;omega
    · rw[if_neg (by omega),if_neg (by omega)];exact out_ne hO hs (rest_less hH hi k2 k5) hw (by simp only[minus1];omega) (by simp only[minus1];omega) hu hne hm hd
  omega
end
end Go.Proofs.YtfplipbkjglmhaaDoor
