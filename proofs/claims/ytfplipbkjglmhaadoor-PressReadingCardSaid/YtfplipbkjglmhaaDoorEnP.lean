/-
 The plain law of one end of what is told of a weight: with just that weight there is a truth.
-/
import Derived.Test.YtfplipbkjglmhaaDoorSpan2
namespace Go.Proofs.YtfplipbkjglmhaaDoor
theorem seed_pt{O s t g d u:Sp}{mid:Int}(hO:Ne O)(hs:Ne s)(ht:Ne t)(hg:Ne g)(hd:Ne d)(d1:g.1≤d.1)(d2:d.2≤g.2)(hu:u=both (minus (plus O s) t) g)(hne:Ne u)(hm:Ne (both u d))
  (h1:(both s (minus (plus (both d u) t) (minus1 (plus O s) s))).1≤mid) (h2:mid≤(both s (minus (plus (both d u) t) (minus1 (plus O s) s))).2) :
  Ne (max mid s.1,min mid s.2)∧Ne (both (minus (plus O (max mid s.1,min mid s.2)) t) g)∧Ne (both (both (minus (plus O (max mid s.1,min mid s.2)) t) g) d):=by
 subst hu;unfold Ne both minus minus1 plus at *;simp only at *;omega
theorem out_pt{O s t q w g d u:Sp}{mid:Int}(hO:Ne O)(hs:Ne s)(hq:Ne q)(hw:Ne w)(e1:t.1=q.1+w.1)(e2:t.2=q.2+w.2)(hg:Ne g)(hd:Ne d)(d1:g.1≤d.1)(d2:d.2≤g.2)(hu:u=both (minus (plus O s) t) g)(hne:Ne u)(hm:Ne (both u d))
  (h1:(both w (minus (plus O s) (plus (both d u) (minus1 t w)))).1≤mid) (h2:mid≤(both w (minus (plus O s) (plus (both d u) (minus1 t w)))).2) :
  Ne (max mid w.1,min mid w.2)∧Ne (both (minus (plus O s) (q.1+max mid w.1,q.2+min mid w.2)) g)∧Ne (both (both (minus (plus O s) (q.1+max mid w.1,q.2+min mid w.2)) g) d):=by
 subst hu;unfold Ne both minus minus1 plus at *;simp only at *;omega
theorem par_pt{O s t g d u:Sp}{mid:Int}(hO:Ne O)(hs:Ne s)(ht:Ne t)(hg:Ne g)(hd:Ne d)(d1:g.1≤d.1)(d2:d.2≤g.2)(hu:u=both (minus (plus O s) t) g)(hne:Ne u)(hm:Ne (both u d))
  (h1:(both d u).1≤mid) (h2:mid≤(both d u).2) :
  Ne (max mid g.1,min mid g.2)∧Ne (both (minus (plus O s) t) (max mid g.1,min mid g.2))∧Ne (both (both (minus (plus O s) t) (max mid g.1,min mid g.2)) d):=by
 subst hu;unfold Ne both minus plus at *;simp only at *;omega
section
variable {n:Nat} {to:Nat→Option Nat} {R:Nat→Nat→Sp}
theorem span_pt(hF:Fwd n to)(hH:Holds n R (upP to R)){i k:Nat}(hi:i<n)(h1:1≤k)(h6:k≤6){mid:Int}(ha:(spanP to R n i k).1≤mid)(hb:mid≤(spanP to R n i k).2) :
  Holds n (wth R i k mid mid) (upP to (wth R i k mid mid)):=by
 rw[wth_holds hF hH hi h1 h6,wth_up hF hi,wth_in];have hO:=feed_ne (to:=to) (U:=upP to R) i i (fun j hj=>(hH j (by omega)).2);have hs:=(hH i hi).1 1 (by omega) (by omega);have ht:=rest_ne (hH i hi).1;have hg:=(hH i hi).1 6 (by omega) (by omega);have hw:=(hH i hi).1 k h1 h6;obtain⟨hd,hm⟩:=down_meets hF (fun j _=>upP_eq to R j) hH n i hi (by omega);obtain⟨d1,d2⟩:=down_six (to:=to) (R:=R) (U:=upP to R) (n:=n) n i;have hu:upP to R i=both (minus (plus (feed to (upP to R) i i) (R i 1)) (restS R i)) (R i 6):=upP_eq to R i;have hne:=(hH i hi).2;unfold spanP intoP downP at ha hb;unfold downP;rcases (by omega:k=1∨k=6∨(2≤k∧k≤5)) with rfl|rfl|⟨k2,k5⟩
 ·rw[if_neg (by omega),if_pos rfl] at ha hb;rw[wth_in,wth_rest_out (Or.inl rfl),wth_at (by omega)];exact seed_pt hO hs ht hg hd d1 d2 hu hne hm ha hb
 ·rw[if_pos rfl] at ha hb;rw[wth_in,wth_rest_out (Or.inr rfl),wth_at (by omega)];exact par_pt hO hs ht hg hd d1 d2 hu hne hm ha hb
 ·rw[if_neg (by omega),if_neg (by omega)] at ha hb;rw[wth_rest_in k2 k5,wth_at (by omega),wth_at (by omega)];exact out_pt hO hs (rest_less hH hi k2 k5) hw (by simp only[minus1];omega) (by simp only[minus1];omega) hg hd d1 d2 hu hne hm ha hb
end
end Go.Proofs.YtfplipbkjglmhaaDoor
