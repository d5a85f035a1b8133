/-
 The walk of the reference's notes: all of them by value.
-/
import Derived.Test.YtfplipbkjglmhaaDoorStd
import Derived.Laws.OwnMore
import Derived.Lib.SmallJoins
import Derived.Test.YtfplipbkjglmhaaDoorPSpans
import Derived.Deep.WholeRow
import Derived.Laws.CopyOwn
import Derived.StillTailTactics
namespace Go.Proofs.YtfplipbkjglmhaaDoor
open Go.RowKit
set_option linter.unusedVariables false
set_option linter.unusedSimpArgs false
def spAt (s:Sp):Nat→Int
 |0=>s.1
 |_=>s.2
theorem rowc_get(f:Nat→Sp){k t:Nat}(hk:k<7)(ht:t<2):(rowc f)[k*2+t]? = some (.int .i64 (spAt (f k) t)):=by
 rcases (by omega:k=0∨k=1∨k=2∨k=3∨k=4∨k=5∨k=6) with rfl|rfl|rfl|rfl|rfl|rfl|rfl <;>
 rcases (by omega:t=0∨t=1) with rfl|rfl<;>rfl
theorem rws_g2(R:Nat→Nat→Sp){n i k t:Nat}(hi:i<n)(hk:k<7)(ht:t<2):(rws R n)[i*14+(k*2+t)]? = some (.int .i64 (spAt (R i k) t)):=by
 rw[rws,flat_get (fun i=>rowc (R i)) 14 (fun _=>rfl) _ _ _ (by omega),List.getElem?_range hi];exact rowc_get _ hk ht
def putR (R:Nat→Nat→Sp) (i k:Nat) (s:Sp):Nat→Nat→Sp:=fun a b=>if a=i∧b=k then s else R a b
theorem rws_put(R:Nat→Nat→Sp){n i k:Nat}(hi:i<n)(hk:k<7)(s:Sp):((rws R n).set (i*14+k*2) (.int .i64 s.1)).set (i*14+k*2+1) (.int .i64 s.2)=rws (putR R i k s) n:=by
 refine List.ext_getElem? fun j=>?_;rcases Nat.lt_or_ge j (n*14) with hj|hj
 ·have e1:j=j/14*14+(j%14/2*2+j%14%2):=(by omega);have h1:j/14<n:=(by omega);have h2:j%14/2<7:=(by omega);have h3:j%14%2<2:=(by omega);generalize j/14=a at *;generalize j%14/2=b at *;generalize j%14%2=c at *;subst e1;rw[rws_g2 _ h1 h2 h3];have hL:=rws_len R n;rw[List.getElem?_set,List.getElem?_set];by_cases hab:a=i∧b=k
  ·have hp:putR R i k s a b=s:=(by unfold putR;rw[if_pos hab]);rw[hp];obtain⟨rfl,rfl⟩:=hab;clear hp;rcases (by omega:c=0∨c=1) with rfl|rfl
   ·rw[if_neg (by omega),if_pos (by omega),if_pos (by omega)];rfl
   ·rw[if_pos (by omega),if_pos (by simp only[List.length_set];omega)];rfl
  ·have hp:putR R i k s a b=R a b:=(by unfold putR;rw[if_neg hab]);rw[hp,if_neg (by omega),if_neg (by omega)];exact rws_g2 _ h1 h2 h3
 ·rw[List.getElem?_eq_none (by simp[rws_len];omega),List.getElem?_eq_none (by simp[rws_len];omega)]
theorem tos_g2(t:Nat→Option Nat){n k:Nat}(hk:k<n):(ints (tos t n))[k]? = some (.int .i64 (toV t k)):=by
 simp[ints,tos,List.getElem?_range hk]
theorem note1_put{ps:List PR}{x:WE}{ix kd:Nat}(hi:idxP ps x.2.1=(ix:Int))(hk:x.2.2.1=(kd:Int))(R:Nat→Nat→Sp):note1 ps x R=putR R ix kd (both (R ix kd) (x.2.2.2.1,x.2.2.2.2)):=by
 funext a b
 unfold note1 putR;rw[hi,hk];by_cases h:a=ix∧b=kd
 ·obtain⟨rfl,rfl⟩:=h;rw[if_pos ⟨rfl,rfl⟩,if_pos ⟨rfl,rfl⟩]
 ·rw[if_neg h,if_neg (by omega)]
section
variable {w wr wz:World} {vp vw vt vr:Value} {kt kr:Nat} {t:Nat→Option Nat} {R:Nat→Nat→Sp} {A:Option Addr} {c:Nat}
/-- The last place where parings go is stored as it was. -/
theorem Std.to_cell(h:Std w wr vp vw (.slice A kt c) vr kt kr t R){k:Nat}(hk:k<kt):∃g,A=some ⟨g,0,none⟩∧wr.cell? ⟨g,k,none⟩=some (.int .i64 (toV t k))∧wr.frozen? ⟨g,k,none⟩=false∧
  (∀q:Nat,(wr.setCell ⟨g,k,none⟩ (.int .i64 (toV t k))).heap[q]? = wr.heap[q]?):=by
 have ho:=h.to_;obtain⟨g,cap,he,-,-⟩:=World.ownsRow.form ho (by omega);simp only[Value.slice.injEq,true_and] at he;obtain⟨rfl,rfl⟩:=he;have hc:=(ho.cellAt k (by omega)).trans (tos_g2 t hk);refine⟨g,rfl,hc,ho.frozenAt k,fun q=>?_⟩;by_cases hq:q=g
 ·subst hq;rcases ho.2 with ⟨h',_⟩|⟨g',cap',cur,h',hb,hg,-⟩
  ·cases h'
  ·simp only[Value.slice.injEq,Option.some.injEq,Addr.mk.injEq,and_true,true_and] at h';obtain⟨rfl,rfl⟩:=h';refine setCell_same wr q k _ hg ?_;rw[cell_of_row wr q k cur _ (0,0) hg] at hc;exact hc
 ·exact Below.heap_setCell _ _ _ _ hq
theorem Std.at_{g:Nat}(h:Std w wr vp vw vt (.slice (some ⟨g,0,none⟩) kr c) kt kr t R){i k:Nat}(hi:i<kr)(hk:k<7) :
  wr.cell? ⟨g,i*14+k*2,none⟩=some (.int .i64 (R i k).1)∧wr.cell? ⟨g,i*14+k*2+1,none⟩=some (.int .i64 (R i k).2)∧wr.frozen? ⟨g,i*14+k*2,none⟩=false∧wr.frozen? ⟨g,i*14+k*2+1,none⟩=false:=by
 have ho:=h.rows;exact⟨(ho.cellAt _ (by omega)).trans (rws_g2 R hi hk (t:=0) (by omega)),(ho.cellAt _ (by omega)).trans (rws_g2 R hi hk (t:=1) (by omega)),ho.frozenAt _,ho.frozenAt _⟩
theorem Std.put{g:Nat}(h:Std w wr vp vw vt (.slice (some ⟨g,0,none⟩) kr c) kt kr t R){i k:Nat}(hi:i<kr)(hk:k<7)(s:Sp) :
  Std w ((wr.setCell ⟨g,i*14+k*2,none⟩ (.int .i64 s.1)).setCell ⟨g,i*14+k*2+1,none⟩ (.int .i64 s.2)) vp vw vt (.slice (some ⟨g,0,none⟩) kr c) kt kr t (putR R i k s):=by
 have hg:w.heap.size+2≤g:=(ownR_lt h.rows rfl).1;have ho:=((h.rows.stored (i*14+k*2) (.int .i64 s.1)).1.stored (i*14+k*2+1) (.int .i64 s.2)).1;rw[rws_put R hi hk s] at ho;have hne:=own_ap1 h.to_ h.rows (ht:=by decide) g rfl;refine⟨?_,?_,ownR_block h.to_ fun q hq=>?_,ho,(h.bel.setCell (by simp only;omega) _).setCell (by simp only;omega) _,by simpa using h.sz⟩
 ·rw[Below.heap_setCell _ _ _ _ (by simp only;omega),Below.heap_setCell _ _ _ _ (by simp only;omega)];exact h.b1
 ·rw[Below.heap_setCell _ _ _ _ (by simp only;omega),Below.heap_setCell _ _ _ _ (by simp only;omega)];exact h.m
 ·have hq':q≠g:=fun e=>hne (by rw[hq,e]);rw[Below.heap_setCell _ _ _ _ hq',Below.heap_setCell _ _ _ _ hq']
theorem Std.rws(h:Std w wr vp vw vt vr kt kr t R){R':Nat→Nat→Sp}(e:R=R'):Std w wr vp vw vt vr kt kr t R':=e ▸ h
end
end Go.Proofs.YtfplipbkjglmhaaDoor

namespace Go.Proofs.YtfplipbkjglmhaaDoor
open Go.RowKit
set_option linter.unusedVariables false
set_option linter.unusedSimpArgs false
section
variable {w z:World} {b:Nat} {R:Nat→Nat→Sp}
end
theorem mx_if(a b:Int):(if a<b then b else a)=max a b:=by split<;>omega
theorem mn_if(a b:Int):(if b<a then b else a)=min a b:=by split<;>omega
end Go.Proofs.YtfplipbkjglmhaaDoor
