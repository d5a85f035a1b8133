/-
 The walks of the comparison of two lists of weights that are alike, and of the reference's Valid.
-/
import Derived.Test.YtfplipbkjglmhaaDoorRAsk
import Derived.Test.YtfplipbkjglmhaaDoorFir
import Derived.DeepKeys
import Derived.Laws.StructEq
import Derived.Test.YtfplipbkjglmhaaDoorKit
namespace Go.Proofs.YtfplipbkjglmhaaDoor
open Go.RowKit
set_option linter.unusedVariables false
set_option linter.unusedSimpArgs false
theorem wds_len{w:World}{B n:Nat}{A:Option Addr}{l:List (Nat→Int)}(h:Reads w B 8 A n (wds l)):l.length=n:=h.rec_len (m:=8) (fun _=>rfl) (by omega)
theorem Reads.wd{w:World}{B n k:Nat}{A:Option Addr}{l:List (Nat→Int)}(h:Reads w B 8 A n (wds l))(hk:k<n) :
  ∃b o f,A=some ⟨b,o,none⟩∧b<B∧l[k]? = some f∧∀j,j<8→w.cell? ⟨b,o+k*8+j,none⟩=some (.int .i64 (f j)):=by
 obtain⟨b,o,f,e,hb,hx,hc⟩:=h.rec_at (m:=8) (fun _=>rfl) (by omega) hk;refine⟨b,o,f,e,hb,hx,fun j hj=>?_⟩;rw[Nat.add_assoc];refine hc j _ ?_;rcases (by omega:j=0∨j=1∨j=2∨j=3∨j=4∨j=5∨j=6∨j=7) with rfl|rfl|rfl|rfl|rfl|rfl|rfl|rfl<;>rfl
def atF (l:List (Nat→Int)) (i:Nat):Nat→Int:=match l[i]? with|some f=>f|none=>fun _=>0
def okF (ps:List PR) (ws:List WE) (l:List (Nat→Int)) (i k:Nat):Prop:=(rowsT ps ws i k).1≤atF l i (1+k)∧atF l i (1+k)≤(rowsT ps ws i k).2
/-- The weights of one pressing are of the notes' spans. -/
def rowF (ps:List PR) (ws:List WE) (l:List (Nat→Int)) (i:Nat):Prop:=atF l i 0=idO ps i∧atF l i 1=0∧∀k,1≤k→k<7→okF ps ws l i k
/-- What comes into a place as parings, from those ahead of place m. -/
def inF2 (t:Nat→Option Nat) (l:List (Nat→Int)) (i:Nat):Nat→Int
 |0=>0
 |m+1=>if t m=some i then inF2 t l i m+atF l m 7 else inF2 t l i m
def outF (l:List (Nat→Int)) (i:Nat):Nat→Int
 |0=>0
 |m+1=>outF l i m+atF l i (3+m)
/-- What goes in comes out. -/
def balF (ps:List PR) (l:List (Nat→Int)) (i:Nat):Prop:=atF l i 2+inF2 (toT ps) l i i - outF l i 5=0
open Classical in
noncomputable def truB (ps:List PR) (ws:List WE) (l:List (Nat→Int)):Bool:=decide (l.length=ps.length∧∀i,i<ps.length→rowF ps ws l i∧balF ps l i)
open Classical in
theorem tru_no{ps:List PR}{ws:List WE}{l:List (Nat→Int)}(h:¬(l.length=ps.length∧∀i,i<ps.length→rowF ps ws l i∧balF ps l i)):truB ps ws l=false:=by
 unfold truB;exact decide_eq_false h
open Classical in
theorem tru_yes{ps:List PR}{ws:List WE}{l:List (Nat→Int)}(h:l.length=ps.length∧∀i,i<ps.length→rowF ps ws l i∧balF ps l i):truB ps ws l=true:=by
 unfold truB;exact decide_eq_true h
theorem row_bd{ps:List PR}{ws:List WE}{l:List (Nat→Int)}(hV:ValidF ps ws){i:Nat}(h:rowF ps ws l i){k:Nat}(h1:1≤k)(h7:k<7):0≤atF l i (1+k)∧atF l i (1+k)≤1000000:=by
 have:=hV.in_ i k;have:=h.2.2 k h1 h7;unfold okF at this;omega
theorem in_bd{ps:List PR}{ws:List WE}{l:List (Nat→Int)}(hV:ValidF ps ws)(t:Nat→Option Nat)(i:Nat):∀m,(∀j,j<m→rowF ps ws l j)→0≤inF2 t l i m∧inF2 t l i m≤1000000*(m:Int)
 |0,_=>by simp[inF2]
 |m+1,h=>by
  have ih:=in_bd hV t i m (fun j hj=>h j (by omega));have:0≤atF l m 7∧atF l m 7≤1000000:=row_bd hV (h m (by omega)) (k:=6) (by omega) (by omega);unfold inF2;split<;>omega
section
variable {w z y:World} {A A':Option Addr} {n c n' c':Nat}
end
end Go.Proofs.YtfplipbkjglmhaaDoor

namespace Go.Proofs.YtfplipbkjglmhaaDoor
open Go.RowKit
set_option linter.unusedVariables false
set_option linter.unusedSimpArgs false
theorem item_same{xs:Array Value}{j d:Nat}{is:List Nat}{x:Int}(w:World)(h1:xs[j]? = some (.int .i64 x)) :
  (Op.eqItems (d+1) 3 1 xs xs (j::is)).run Tryd.prog w=(Op.eqItems (d+1) 3 1 xs xs is).run Tryd.prog w:=by
 have hp:(part 3 xs j).run Tryd.prog w = .ok (.int .i64 x) w:=run_part_plain w (by kernel_rfl) h1;have he:(Op.equalIn (d+1) 3 (.int .i64 x) (.int .i64 x)).run Tryd.prog w = .ok (x==x) w:=run_equalIn_int w d _ .i64 _ x x Tryd.underlying3;simp only[Op.eqItems,Nat.mul_one,Sem.run_bind,hp,Result.andThen_ok,he];simp
theorem eq_same7(a b c d e f g:Int)(k:Nat)(w:World) :
  (Op.equalIn (k+2) 41 (.agg #[.int .i64 a,.int .i64 b,.int .i64 c,.int .i64 d,.int .i64 e,.int .i64 f,.int .i64 g]) (.agg #[.int .i64 a,.int .i64 b,.int .i64 c,.int .i64 d,.int .i64 e,.int .i64 f,.int .i64 g])).run Tryd.prog w = .ok true w:=by
 obtain⟨i0,hi,hz0,hz1,hz2⟩:=info_parts info_int;have hc:Tryd.prog.cellsOf 3=1:=by kernel_rfl
 rw[run_equalIn_array (n:=7) (e:=3) w (k+1) _ _ (by kernel_rfl) hi,hc,show List.range 7 = [0,1,2,3,4,5,6] from rfl];rw[item_same w rfl,item_same w rfl,item_same w rfl,item_same w rfl,item_same w rfl,item_same w rfl,item_same w rfl];simp[Op.eqItems]
theorem eq_wd(f0 f1 f2 f3 f4 f5 f6 f7:Int)(w:World) :
  (Op.equalIn 10000 43 (.agg #[.int .i64 f0,.int .i64 f1,.int .i64 f2,.int .i64 f3,.int .i64 f4,.int .i64 f5,.int .i64 f6,.int .i64 f7]) (.agg #[.int .i64 f0,.int .i64 f1,.int .i64 f2,.int .i64 f3,.int .i64 f4,.int .i64 f5,.int .i64 f6,.int .i64 f7])).run Tryd.prog w = .ok true w:=by
 have z3:=Tryd.sizeOf3;have a3:=Tryd.isAgg3;have u3:=Tryd.underlying3;have z4:=Tryd.sizeOf41;have a4:=Tryd.isAgg41;have hE:=eq_same7 f1 f2 f3 f4 f5 f6 f7;have hS:Tryd.prog.underlying 43=some (.struct (Tryd.prog.fieldsOf 43)):=by kernel_rfl
 have hp:Tryd.prog.stoodInHeld 43=false:=by kernel_rfl
 rw[show (10000:Nat)=9999+1 from rfl,run_equalIn_agg w 9999 43 _ _ hS hp];simp only[Program.fieldsOf,Tryd.underlying43];go_simp
set_option maxRecDepth 100000 in
set_option maxHeartbeats 2000000 in
theorem sameW_eq(A B:Option Addr)(m c d:Nat)(l:List (Nat→Int))(w:World)(hm:m≤maxLen)
  (h:Reads w w.heap.size 8 A m (wds l)) (g:Reads w w.heap.size 8 B m (wds l)) :
  Calls Tryd.prog 51 #[.slice A m c,.slice B m d] w fun e w'=>e = .returned (.bool true)∧Below w.heap.size w w':=by
 have gEq:Tryd.prog.eqGuardType Tryd.prog.depth 43=false:=by kernel_rfl
 unfold maxLen at hm;have hh:=Lib.hid h;have gh:=Lib.hid g;have hb:((m:Int) != (m:Int))=false:=by simp
 clear h g
 go_enter Tryd.func51,Tryd.ntmps51
 go_wp2;go_loopw [5] (fun x wr=>∃k:Nat,k≤m∧x = .int .i64 k∧Hid (∃q,wr=w.drewN q)) (fun x _=>m - (intOf x).toNat)
 case atStart=>exact⟨0,by omega,rfl,⟨0,rfl⟩⟩
 case round=>
  obtain⟨k,hk,rfl,hq⟩:=hrel;obtain⟨q,rfl⟩:=hq.out;clear hq;by_cases hlt:k<m
  ·obtain⟨b,o,f,rfl,hbb,hx,hc⟩:=hh.out.wd hlt;obtain⟨b',o',f',rfl,hbb',hx',hc'⟩:=gh.out.wd hlt;obtain rfl:=Option.some.inj (hx.symm.trans hx');clear hx hx' hh gh;have c0:w.cell? ⟨b,o+k*8,none⟩=some (.int .i64 (f 0)):=hc 0 (by omega);have c1:=hc 1 (by omega);have c2:=hc 2 (by omega);have c3:=hc 3 (by omega);have c4:=hc 4 (by omega);have c5:=hc 5 (by omega);have c6:=hc 6 (by omega);have c7:=hc 7 (by omega);have d0:w.cell? ⟨b',o'+k*8,none⟩=some (.int .i64 (f 0)):=hc' 0 (by omega);have d1:=hc' 1 (by omega);have d2:=hc' 2 (by omega);have d3:=hc' 3 (by omega);have d4:=hc' 4 (by omega);have d5:=hc' 5 (by omega);have d6:=hc' 6 (by omega);have d7:=hc' 7 (by omega);have hE1:=eq_wd (f 0) (f 1) (f 2) (f 3) (f 4) (f 5) (f 6) (f 7);clear hc hc';go_wp2;(go_quiet (fail));go_wp2;go_roundw
   case rel=>exact⟨k+1,by omega,by go_num,(by first|exact⟨_,rfl⟩|exact⟨_,World.drewN_drewN _ _ _⟩)⟩
   case measure=>simp[intOf];omega
  ·clear hh gh;go_wp2;go_ret;exact⟨rfl,below_drewN (Below.refl _ _) _⟩
noncomputable def valB (ps:List PR) (ws:List WE) (l:List (Nat→Int)):Bool:=validP ps ws && truB ps ws l
end Go.Proofs.YtfplipbkjglmhaaDoor

namespace Go.Proofs.YtfplipbkjglmhaaDoor
open Go.RowKit
theorem sameInts_any(A A':Option Addr)(n m c c':Nat)(l l':List Int)(w:World)(hn:n≤maxLen)(hm:m≤maxLen)
  (h:Reads w w.heap.size 1 A n (ints l)) (h':Reads w w.heap.size 1 A' m (ints l')) :
  Calls Tryd.prog 91 #[.slice A n c,.slice A' m c'] w fun e w'=>e = .returned (.bool (decide (l=l')))∧∃k,w'=w.drewN k:=by
 have hl:l.length=n:=by simpa using h.len
 have hl':l'.length=m:=by simpa using h'.len
 unfold maxLen at hn hm;by_cases hnm:n=m
 ·have hb:((n:Int) != (m:Int))=false:=(by simp[hnm]);subst hnm
  go_enter Tryd.func91,Tryd.ntmps91
  go_wp2;go_loopw [5] (fun i wr=>∃k:Nat,k≤n∧i = .int .i64 k∧Hid (l.take k=l'.take k)∧∃q,wr=w.drewN q) (fun i _=>n - (intOf i).toNat)
  case atStart=>exact⟨0,by omega,rfl,rfl,0,rfl⟩
  case round=>
   obtain⟨k,hk,rfl,ht,q,rfl⟩:=hrel;by_cases hlt:k<n
   ·obtain⟨b,o,rfl,hbb,hc⟩:=h.int hlt;obtain⟨b',o',rfl,hbb',hc'⟩:=h'.int hlt;have hlk:l[k]? = some (l[k]'(by omega)):=List.getElem?_eq_getElem (by omega);have hlk':l'[k]? = some (l'[k]'(by omega)):=List.getElem?_eq_getElem (by omega);by_cases he:l[k]?.getD 0=l'[k]?.getD 0
    ·have he':(l[k]?.getD 0 != l'[k]?.getD 0)=false:=(by simpa using he);have hnx:Hid (l.take (k+1)=l'.take (k+1)):=by
      show l.take (k+1)=l'.take (k+1);rw[hlk,hlk'] at he;have he2:l[k]'(by omega)=l'[k]'(by omega):=(by simpa using he);rw[List.take_add_one,List.take_add_one,ht.out,hlk,hlk',he2]
     clear ht he hlk hlk' hl hl';go_wp2;(go_quiet (fail));go_wp2;go_roundw
     case rel=>exact⟨k+1,by omega,by go_num,hnx,(by first|exact⟨_,rfl⟩|exact⟨_,World.drewN_drewN _ _ _⟩)⟩
     case measure=>simp[intOf];omega
    ·have he':(l[k]?.getD 0 != l'[k]?.getD 0)=true:=(by simpa using he);have hne:Hid (decide (l=l')=false):=by
      show decide (l=l')=false;simp only[decide_eq_false_iff_not];rintro rfl;exact he rfl
     clear ht he hlk hlk' hl hl';go_wp2;(go_quiet (fail));go_wp2;go_ret;exact⟨ret_bool hne.out.symm,(by first|exact⟨_,rfl⟩|exact⟨_,World.drewN_drewN _ _ _⟩)⟩
   ·have heq:Hid (decide (l=l')=true):=by
     show decide (l=l')=true;have:=ht.out;rw[List.take_of_length_le (by omega),List.take_of_length_le (by omega)] at this;simpa using this
    clear ht hl hl';go_wp2;go_ret;exact⟨ret_bool heq.out.symm,_,rfl⟩
 ·have hb:((n:Int) != (m:Int))=true:=(by simp;omega);have hne:Hid (decide (l=l')=false):=by
   show decide (l=l')=false;simp only[decide_eq_false_iff_not];rintro rfl;omega
  clear hnm hl hl'
  go_enter Tryd.func91,Tryd.ntmps91
  go_wp2;go_ret;exact⟨ret_bool hne.out.symm,0,rfl⟩
end Go.Proofs.YtfplipbkjglmhaaDoor
