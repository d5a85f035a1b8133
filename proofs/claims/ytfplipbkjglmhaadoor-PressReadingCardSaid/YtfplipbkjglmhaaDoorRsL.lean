/-
 The plain law of PressRests: with a weighing struck a weight is within wider bounds; what a weight rests on is told in order.
-/
import Derived.Test.YtfplipbkjglmhaaDoorFal
import Derived.Test.YtfplipbkjglmhaaDoorRWo
namespace Go.Proofs.YtfplipbkjglmhaaDoor
open Go.RowKit
set_option linter.unusedVariables false
set_option linter.unusedSimpArgs false
theorem feedX_wid{t:Nat→Option Nat}{U' U:Nat→Sp}(q a:Nat)(h:∀j,(U' j).1≤(U j).1∧(U j).2≤(U' j).2):∀m,(feedX t U' q a m).1≤(feedX t U q a m).1∧(feedX t U q a m).2≤(feedX t U' q a m).2
 |0=>⟨Int.le_refl _,Int.le_refl _⟩
 |m+1=>by
  have ih:=feedX_wid q a h m (t:=t);have:=h m;unfold feedX;split
  ·unfold plus;simp only;omega
  ·exact ih
theorem down_wid{t:Nat→Option Nat}{R' R:Nat→Nat→Sp}{U' U:Nat→Sp}(hR:Wid R' R)(h:∀j,(U' j).1≤(U j).1∧(U j).2≤(U' j).2)(n:Nat):∀f i,(downS t R' U' n f i).1≤(downS t R U n f i).1∧(downS t R U n f i).2≤(downS t R' U' n f i).2
 |0,i=>hR i 6
 |f+1,i=>by
  have h6:=hR i 6;unfold downS;cases ht:t i with
  |none=>exact h6
  |some k=>
   have ih:=down_wid hR h n f k (t:=t);have hx:=feedX_wid k i h n (t:=t);have h1:=hR k 1;have h2:=hR k 2;have h3:=hR k 3;have h4:=hR k 4;have h5:=hR k 5;simp only[restS,both,minus,plus] at ih hx ⊢;constructor<;>omega
theorem span_wid{t:Nat→Option Nat}{R' R:Nat→Nat→Sp}(hR:Wid R' R)(n i k:Nat)(hk:1≤k∧k≤6):(spanS t R' (upP t R') (intoP t R') n i k).1≤(spanS t R (upP t R) (intoP t R) n i k).1∧(spanS t R (upP t R) (intoP t R) n i k).2≤(spanS t R' (upP t R') (intoP t R') n i k).2:=by
 have hU:∀j,(upP t R' j).1≤(upP t R j).1∧(upP t R j).2≤(upP t R' j).2:=fun j=>up_wid hR (j+1) j (by omega);have hd:=down_wid (t:=t) hR hU n n i;have hu:=hU i;have hf:=feed_wid (t:=t) (U':=upP t R') (U:=upP t R) i i (fun j _=>hU j);have h1:=hR i 1;have h2:=hR i 2;have h3:=hR i 3;have h4:=hR i 4;have h5:=hR i 5;have h6:=hR i 6;unfold spanS intoP;rw[rest1_restS,rest1_restS];simp only[restS,both,minus,plus,minus1] at *;generalize (feed t (upP t R') i i).1=f1 at *;generalize (feed t (upP t R') i i).2=f2 at *;generalize (feed t (upP t R) i i).1=g1 at *;generalize (feed t (upP t R) i i).2=g2 at *;generalize (downS t R' (upP t R') n n i).1=d1 at *;generalize (downS t R' (upP t R') n n i).2=d2 at *;generalize (downS t R (upP t R) n n i).1=e1 at *;generalize (downS t R (upP t R) n n i).2=e2 at *;generalize (upP t R' i).1=u1 at *;generalize (upP t R' i).2=u2 at *;generalize (upP t R i).1=v1 at *;generalize (upP t R i).2=v2 at *;obtain rfl|rfl|rfl|rfl|rfl|rfl:k=1∨k=2∨k=3∨k=4∨k=5∨k=6:=by omega
 all_goals simp only[if_neg (show ¬(1:Nat)=6 by omega),if_neg (show ¬(2:Nat)=6 by omega),if_neg (show ¬(3:Nat)=6 by omega),if_neg (show ¬(4:Nat)=6 by omega),if_neg (show ¬(5:Nat)=6 by omega),if_neg (show ¬(2:Nat)=1 by omega),if_neg (show ¬(3:Nat)=1 by omega),if_neg (show ¬(4:Nat)=1 by omega),if_neg (show ¬(5:Nat)=1 by omega),if_pos]
 all_goals constructor<;>omega
theorem spanSp_less(ps:List PR)(ws:List WE)(L:List Int)(i k:Nat)(hk:1≤k∧k≤6):(spanSp ps (lessW ws L) i k).1≤(spanSp ps ws i k).1∧(spanSp ps ws i k).2≤(spanSp ps (lessW ws L) i k).2:=
 span_wid (less_wid ps ws L) _ _ _ hk
/-- Numbers of weighings rise. -/
theorem allW_up{ps:List PR}:∀(ws:List WE) (l:Int),allW ps l ws=true→(∀x∈ws,l<x.1)∧(ws.map fun x=>x.1).Pairwise (· < ·)
 |[],_,_=>by simp
 |x::r,l,h=>by
  simp only[allW,Bool.and_eq_true] at h;have hn:=okW_num h.1;obtain⟨h1,h2⟩:=allW_up r x.1 h.2;constructor
  ·intro y hy;rcases List.mem_cons.1 hy with rfl|hy
   ·exact hn
   ·have:=h1 y hy;omega
  ·rw[List.map_cons,List.pairwise_cons];refine⟨fun a ha=>?_,h2⟩;obtain⟨y,hy,rfl⟩:=List.mem_map.1 ha;exact h1 y hy
theorem rst_rise{ps:List PR}{ws:List WE}(hv:validP ps ws=true)(i k:Nat):(rstS ps ws ws i k).Pairwise (· < ·):=by
 have h:allW ps 0 ws=true:=by unfold validP at hv;simp only[Bool.and_eq_true] at hv;exact hv.2
 exact(allW_up ws 0 h).2.sublist (List.filter_sublist.map _)
theorem rst_mem{ps:List PR}{ws:List WE}{i k:Nat}{x:WE}(hx:x∈ws):x.1∈rstS ps ws ws i k↔spanSp ps (lessW ws [x.1]) i k≠spanSp ps ws i k:=by
 unfold rstS;simp only[List.mem_map,List.mem_filter,rstP,decide_eq_true_eq];constructor
 ·rintro ⟨y,⟨_,h⟩,e⟩;rw[e] at h;exact h
 ·intro h;exact⟨x,⟨hx,h⟩,rfl⟩
/-- The error of a question on a press that is valid, of a pressing and a kind that there are. -/
theorem askE_two{ps:List PR}{ws:List WE}{id kind:Int}(hv:validP ps ws=true)(hi:0≤idxP ps id)(hk:1≤kind∧kind≤6):askE ps ws id kind=if hasT ps ws then 0 else 8:=by
 unfold askE;rw[if_pos hv,if_neg (by omega),if_pos (by simp[rng];omega)]
theorem askE_less{ps:List PR}{ws:List WE}{id kind:Int}(L:List Int)(h:askE ps ws id kind=0):askE ps (lessW ws L) id kind=0:=by
 obtain⟨hv,hi,h1,h6,ht⟩:=askE_ok h;rw[askE_two (valid_less L hv) hi ⟨h1,h6⟩,hasT_less L hv ht];rfl
theorem num_bd{ps:List PR}{ws:List WE}{x:WE}(hv:validP ps ws=true)(hx:x∈ws):1≤x.1∧x.1≤9999:=by
 have h:allW ps 0 ws=true:=by unfold validP at hv;simp only[Bool.and_eq_true] at hv;exact hv.2
 obtain⟨m,hm⟩:=List.getElem?_of_mem hx;obtain⟨l,hl⟩:=allW_at h m x hm;unfold okW at hl;simp only[Bool.and_eq_true,decide_eq_true_eq] at hl;exact rng_iff hl.1.1.1.1.1.1
theorem strike_one{ps:List PR}{ws:List WE}{x:WE}(hv:validP ps ws=true)(hx:x∈ws):strikeS ps ws [x.1]=((ps,lessW ws [x.1]),0):=by
 unfold strikeS;rw[if_pos hv,if_pos];have h:numW ws x.1=true:=by unfold numW;rw[List.any_eq_true];exact⟨x,hx,by simp⟩
 simp[h,incB]
end Go.Proofs.YtfplipbkjglmhaaDoor
