/-
  Rows of records that the call itself made: what each element is, kept over stores into the row.
-/
import Derived.Test.YtfplipbkjglmhaaDoorKp
import Derived.Deep.OwnRows
import Derived.Laws.IdiomCopy
namespace Go.Proofs.YtfplipbkjglmhaaDoor
open Go.RowKit
set_option linter.unusedVariables false
theorem rowIs_sets{b:Nat}{t:TypeId}{n:Nat}:∀(vs:List Value) (o:Nat) (w:World) (f:Nat→Value),w.rowIs b t n f→(w.setCells b o vs).rowIs b t n (fun j=>if o≤j∧j<o+vs.length then vs[j - o]?.getD undef else f j)
  | [], o, w, f, h => h.congr fun i _ => by
      rw[if_neg (by simp)]
  | v :: r, o, w, f, h => (rowIs_sets r (o + 1) _ _ (h.set o v)).congr fun i _ => by
      by_cases h1:o+1≤i∧i<o+1+r.length
      · rw[if_pos h1,if_pos (by simp;omega)];rw[show i - o=(i - (o+1))+1 by omega];simp
      · rw[if_neg h1];by_cases h2:i=o
        · subst h2;rw[if_pos rfl,if_pos (by simp)];simp
        · rw[if_neg h2,if_neg (by simp;omega)]
theorem kp_sets{B b:Nat}{D:List Nat}{a:World}(hb:b∈D∨B≤b):∀(vs:List Value) (o:Nat) (w:World),Kp B D a w→Kp B D a (w.setCells b o vs)
  | [],_,_,h=>h
  | v::r,o,w,h=>kp_sets hb r (o+1) _ (h.set (p:=⟨b,o,none⟩) hb v)
section
variable {α:Type}
/-- Block gb is a row of cap elements, of m cells each; those ahead of n are F's. -/
def RowOf (w:World) (gb:Nat) (ty:TypeId) (m cap:Nat) (f:α→List Value) (n:Nat) (F:Nat→α):Prop:=
  ∃h:Nat→Value,w.rowIs gb ty (cap*m) h∧∀k,k<n→∀t u,(f (F k))[t]? = some u→h (k*m+t)=u
variable {w w':World} {gb:Nat} {ty:TypeId} {m cap n n':Nat} {f:α→List Value} {F G:Nat→α}
theorem RowOf.of_block(h:RowOf w gb ty m cap f n F)(e:w'.heap[gb]? = w.heap[gb]?):RowOf w' gb ty m cap f n F:=by
  obtain⟨g,h1,h2⟩:=h;exact⟨g,h1.of_block e,h2⟩
theorem RowOf.lt(h:RowOf w gb ty m cap f n F):gb<w.heap.size:=by
  obtain⟨g,h1,h2⟩:=h;exact h1.lt
theorem RowOf.frozen(h:RowOf w gb ty m cap f n F)(o:Nat):w.frozen? ⟨gb,o,none⟩=false:=by
  obtain⟨g,h1,h2⟩:=h;exact h1.frozen o
theorem RowOf.there(h:RowOf w gb ty m cap f n F){o:Nat}(ho:o<cap*m):(w.cell? ⟨gb,o,none⟩).isSome=true:=by
  obtain⟨g,h1,h2⟩:=h;rw[h1.cell ho];rfl
theorem at_lt(hm:∀x,(f x).length=m){k t:Nat}{x:α}{u:Value}(hk:k<cap)(hu:(f x)[t]? = some u):k*m+t<cap*m:=by
  have ht:t<m:=(by rw[←hm x];exact(List.getElem?_eq_some_iff.1 hu).1);have:(k+1)*m≤cap*m:=Nat.mul_le_mul_right _ hk;rw[Nat.succ_mul] at this;omega
theorem RowOf.cell(h:RowOf w gb ty m cap f n F)(hm:∀x,(f x).length=m)(hn:n≤cap){k t:Nat}{u:Value}(hk:k<n)(hu:(f (F k))[t]? = some u):w.cell? ⟨gb,k*m+t,none⟩=some u:=by
  obtain⟨g,h1,h2⟩:=h;rw[h1.cell (at_lt hm (by omega) hu),h2 k hk t u hu]
theorem RowOf.congr(h:RowOf w gb ty m cap f n F)(hn:n'≤n)(e:∀k,k<n'→G k=F k):RowOf w gb ty m cap f n' G:=by
  obtain⟨g,h1,h2⟩:=h;exact⟨g,h1,fun k hk t u hu=>h2 k (by omega) t u (by rw[←e k hk];exact hu)⟩
theorem split_at{m a k t:Nat}(ht:t<m)(b:Nat):(a*m≤k*m+t∧k*m+t<a*m+b*m)↔(a≤k∧k<a+b):=by
  rw[←Nat.add_mul];constructor
  · rintro ⟨h1,h2⟩;refine⟨?_,?_⟩
    · rcases Nat.lt_or_ge k a with h|h
      · have:(k+1)*m≤a*m:=Nat.mul_le_mul_right _ h;rw[Nat.succ_mul] at this;omega
      · exact h
    · rcases Nat.lt_or_ge k (a+b) with h|h
      · exact h
      · have:(a+b)*m≤k*m:=Nat.mul_le_mul_right _ h;omega
  · rintro ⟨h1,h2⟩;have e1:a*m≤k*m:=Nat.mul_le_mul_right _ h1;have e2:(k+1)*m≤(a+b)*m:=Nat.mul_le_mul_right _ h2;rw[Nat.succ_mul] at e2;omega
/-- Some elements are stored from place o on. -/
theorem RowOf.sets (h : RowOf w gb ty m cap f n F) (hm : ∀ x, (f x).length = m) (l : List α) (o : Nat) (hG : ∀ k, k < n' → (o ≤ k ∧ k < o + l.length → l[k - o]? = some (G k)) ∧ (¬ (o ≤ k ∧ k < o + l.length) → k < n ∧ G k = F k)) :
    RowOf (w.setCells gb (o*m) (l.flatMap f)) gb ty m cap f n' G:=by
  obtain⟨g,h1,h2⟩:=h;refine⟨_,rowIs_sets _ _ _ _ h1,fun k hk t u hu=>?_⟩;have ht:t<m:=(by rw[←hm (G k)];exact(List.getElem?_eq_some_iff.1 hu).1);rw[flat_len f m hm];by_cases hc:o≤k∧k<o+l.length
  · have e:=(split_at ht l.length).2 hc;have e1:k*m+t - o*m=(k - o)*m+t:=(by rw[Nat.sub_mul];have:o*m≤k*m:=Nat.mul_le_mul_right _ hc.1;omega);rw[if_pos e,e1,flat_get f m hm l _ _ ht,((hG k hk).1 hc)];simp[hu]
  · have e:¬(o*m≤k*m+t∧k*m+t<o*m+l.length*m):=fun e=>hc ((split_at ht l.length).1 e);rw[if_neg e];obtain⟨hk',e'⟩:=(hG k hk).2 hc;exact h2 k hk' t u (by rw[←e'];exact hu)
/-- One element is stored. -/
theorem RowOf.put(h:RowOf w gb ty m cap f n F)(hm:∀x,(f x).length=m)(i:Nat)(x:α):RowOf (w.setCells gb (i*m) (f x)) gb ty m cap f n (fun k=>if k=i then x else F k):=by
  have:=h.sets (n':=n) (G:=fun k=>if k=i then x else F k) hm [x] i (fun k hk=>⟨fun hc=>by
    have:k=i:=(by simp at hc;omega);subst this;simp,fun hc=>⟨hk,by
    have:¬k=i:=by simp at hc;omega
    simp[this]⟩⟩)
  simpa using this
/-- What lies from place i on is overwritten. -/
theorem RowOf.lose(h:RowOf w gb ty m cap f n F)(hm:∀x,(f x).length=m)(i:Nat)(hi:i≤n)(vs:List Value):RowOf (w.setCells gb (i*m) vs) gb ty m cap f i F:=by
  obtain⟨g,h1,h2⟩:=h;refine⟨_,rowIs_sets _ _ _ _ h1,fun k hk t u hu=>?_⟩;have ht:t<m:=(by rw[←hm (F k)];exact(List.getElem?_eq_some_iff.1 hu).1);have:(k+1)*m≤i*m:=Nat.mul_le_mul_right _ hk;rw[Nat.succ_mul] at this;rw[if_neg (by omega)];exact h2 k (by omega) t u hu
theorem RowOf.own (h : RowOf w gb ty m cap f n F) (hm : ∀ x, (f x).length = m) {base : Nat} {l : List α} (hl : l.length ≤ n) (hc : l.length ≤ cap) (hx : cap ≤ maxLen) (hb : base ≤ gb) (e : ∀ k x, l[k]? = some x → F k = x) :
    w.ownsRow base ty m (.slice (some ⟨gb,0,none⟩) l.length cap) l.length (l.flatMap f):=by
  obtain⟨g,⟨c,c1,c2,c3⟩,h2⟩:=h;refine⟨flat_len f m hm l,.inr ⟨gb,cap,c,rfl,hb,c1,hc,hx,c2,?_⟩⟩;have hle:l.length*m≤cap*m:=Nat.mul_le_mul_right _ hc;refine List.ext_getElem? fun i=>?_;rcases Nat.lt_or_ge i (l.length*m) with hi|hi
  · have h0 : 0 < m := by rcases Nat.eq_zero_or_pos m with h | h; · subst h; simp at hi
                          · exact h
    rw[List.getElem?_take_of_lt hi,Array.getElem?_toList,c3 i (by omega)];have e0:i=i/m*m+i%m:=(by rw[Nat.mul_comm];exact(Nat.div_add_mod i m).symm);have hk:i/m<l.length:=(by rw[Nat.div_lt_iff_lt_mul h0];exact hi);have hx:=List.getElem?_eq_getElem hk;rw[e0,flat_get f m hm l _ _ (Nat.mod_lt _ h0),hx,Option.bind_some];have ht:i%m<(f l[i/m]).length:=(by rw[hm];exact Nat.mod_lt _ h0);rw[List.getElem?_eq_getElem ht];congr 1;exact h2 (i/m) (by omega) (i%m) _ (by rw[e _ _ hx];exact List.getElem?_eq_getElem ht)
  · rw[List.getElem?_eq_none (by simp;omega),List.getElem?_eq_none (by rw[flat_len f m hm];exact hi)]
theorem RowOf.from [Inhabited α] {base c : Nat} {l : List α} (hm : ∀ x, (f x).length = m) (h0 : 0 < m) (h : w.ownsRow base ty m (.slice (some ⟨gb, 0, none⟩) n c) n (l.flatMap f)) :
    l.length=n∧n≤c∧c≤maxLen∧base≤gb∧RowOf w gb ty m c f n (fun k=>l.getD k default):=by
  have hl:l.length=n:=by
    have:=h.1;rw[flat_len f m hm] at this;exact Nat.eq_of_mul_eq_mul_right h0 this
  rcases h.2 with ⟨h1,_⟩|⟨g,cap',cur,h1,hb,hg,hnc,hcm,hcs,ht⟩
  · cases h1
  · simp only[Value.slice.injEq,Option.some.injEq,Addr.mk.injEq,and_true,true_and] at h1;obtain⟨rfl,rfl⟩:=h1;refine⟨hl,hnc,hcm,hb,fun i=>cur[i]?.getD undef,⟨cur,hg,hcs,fun i hi=>?_⟩,fun k hk t u hu=>?_⟩
    · rw[Array.getElem?_eq_getElem (by omega)];simp[Array.getElem?_eq_getElem (show i<cur.size by omega)]
    · have htm:t<m:=(by rw[←hm (l.getD k default)];exact(List.getElem?_eq_some_iff.1 hu).1);have hle:n*m≤c*m:=Nat.mul_le_mul_right _ hnc;have hkt:k*m+t<n*m:=at_lt hm hk hu;have e1:(cur.toList.take (n*m))[k*m+t]? = (l.flatMap f)[k*m+t]?:=(by rw[ht]);rw[List.getElem?_take_of_lt hkt,flat_get f m hm l _ _ htm,Array.getElem?_toList] at e1;show (cur[k*m+t]?).getD undef=u;rw[e1,List.getElem?_eq_getElem (by omega),Option.bind_some];have e2:l.getD k default=l[k]'(by omega):=(by rw[List.getD_eq_getElem?_getD,List.getElem?_eq_getElem (by omega)];rfl);simp only[e2] at hu;rw[hu];rfl
end
end Go.Proofs.YtfplipbkjglmhaaDoor
