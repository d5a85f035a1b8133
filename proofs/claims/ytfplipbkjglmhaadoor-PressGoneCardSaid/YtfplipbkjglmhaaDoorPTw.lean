/-
 The walk of the copy of a press.
-/
import Derived.Test.YtfplipbkjglmhaaDoorTk
import Derived.Test.YtfplipbkjglmhaaDoorLead
namespace Go.Proofs.YtfplipbkjglmhaaDoor
open Go.RowKit
set_option linter.unusedVariables false
set_option linter.unusedSimpArgs false
theorem own_grown{w w':World}{base:Nat}{e:TypeId}{size n:Nat}{v:Value}{xs:List Value}{row:Option Nat}(h:w.ownsRow base e size v n xs)(hg:w.grownBy w' row)(hr:∀k,v.ownBlock=some k→row≠some k):w'.ownsRow base e size v n xs:=by
 refine⟨h.1,?_⟩;rcases h.2 with h0|⟨g1,cap',cur,h1,h2,h3,h4⟩
 ·exact .inl h0
 ·exact .inr ⟨g1,cap',cur,h1,h2,(hg.block g1 (Array.getElem?_eq_some_iff.1 h3).1 (fun e=>hr g1 (by rw[h1];rfl) e.symm)).trans h3,h4⟩
/-- Rows of different kinds lie apart. -/
theorem own_ap{w:World}{base base' n m a b:Nat}{xs ys:List Value}{t t':TypeId}{u v:Value}(ht:t≠t')(h:w.ownsRow base t a u n xs)(h':w.ownsRow base' t' b v m ys):∀k,v.ownBlock=some k→u.ownBlock≠some k:=by
 intro k hk hu;rcases h.2 with ⟨h0,-⟩|⟨g1,cap1,cur1,h1,-,h3,-⟩
 ·rw[h0] at hu;cases hu
 ·rcases h'.2 with ⟨h0,-⟩|⟨g2,cap2,cur2,h1',-,h3',-⟩
  ·rw[h0] at hk;cases hk
  ·rw[h1] at hu;rw[h1'] at hk;simp only[Value.ownBlock,Option.some.injEq] at hu hk;subst hu;subst hk;rw[h3] at h3';injection h3' with h3';injection h3' with _ h5;exact ht h5
theorem own_ap1{w:World}{base base' n m a b:Nat}{xs ys:List Value}{t t':TypeId}{u v:Value}(h:w.ownsRow base t a u n xs)(h':w.ownsRow base' t' b v m ys)(ht:t≠t':=by decide):∀k,v.ownBlock=some k→u.ownBlock≠some k:=own_ap ht h h'
end Go.Proofs.YtfplipbkjglmhaaDoor
