/-
 Presses: pressings and weighings as cells; the index of a pressing, on both sides.
-/
import Derived.Test.YtfplipbkjglmhaaDoorPIn
import Derived.Test.YtfplipbkjglmhaaDoorKit
namespace Go.Proofs.YtfplipbkjglmhaaDoor
open Go.RowKit
set_option linter.unusedSimpArgs false
set_option linter.unusedVariables false
/-- A pressing: Id, Day, Press, To. -/
abbrev PR:=Int×Int×Int×Int
/-- A weighing: Number, Pressing, Kind, least and greatest ounces. -/
abbrev WE:=Int×Int×Int×Int×Int
def pgc (x:PR):List Value:=[.int .i64 x.1,.int .i64 x.2.1,.int .i64 x.2.2.1,.int .i64 x.2.2.2]
def pgs (l:List PR):List Value:=l.flatMap pgc
def wgc (x:WE):List Value:=[.int .i64 x.1,.int .i64 x.2.1,.int .i64 x.2.2.1,.int .i64 x.2.2.2.1,.int .i64 x.2.2.2.2]
def wgs (l:List WE):List Value:=l.flatMap wgc
theorem Reads.pg_len{w:World}{B n:Nat}{A:Option Addr}{l:List PR}(h:Reads w B 4 A n (pgs l)):l.length=n:=h.rec_len (m:=4) (fun _=>rfl) (by omega)
theorem Reads.wg_len{w:World}{B n:Nat}{A:Option Addr}{l:List WE}(h:Reads w B 5 A n (wgs l)):l.length=n:=h.rec_len (m:=5) (fun _=>rfl) (by omega)
theorem Reads.pg{w:World}{B n k:Nat}{A:Option Addr}{l:List PR}(h:Reads w B 4 A n (pgs l))(hk:k<n) :
  ∃b o I D P T,A=some ⟨b,o,none⟩∧b<B∧l[k]? = some (I,D,P,T)∧w.cell? ⟨b,o+k*4,none⟩=some (.int .i64 I)∧w.cell? ⟨b,o+k*4+1,none⟩=some (.int .i64 D)∧
   w.cell? ⟨b,o+k*4+2,none⟩=some (.int .i64 P)∧w.cell? ⟨b,o+k*4+3,none⟩=some (.int .i64 T):=by
 obtain⟨b,o,⟨I,D,P,T⟩,e,hb,hx,hc⟩:=h.rec_at (m:=4) (fun _=>rfl) (by omega) hk;exact⟨b,o,I,D,P,T,e,hb,hx,hc 0 _ rfl,hc 1 _ rfl,hc 2 _ rfl,hc 3 _ rfl⟩
theorem Reads.wg{w:World}{B n k:Nat}{A:Option Addr}{l:List WE}(h:Reads w B 5 A n (wgs l))(hk:k<n) :
  ∃b o N P K L H,A=some ⟨b,o,none⟩∧b<B∧l[k]? = some (N,P,K,L,H)∧w.cell? ⟨b,o+k*5,none⟩=some (.int .i64 N)∧w.cell? ⟨b,o+k*5+1,none⟩=some (.int .i64 P)∧
   w.cell? ⟨b,o+k*5+2,none⟩=some (.int .i64 K)∧w.cell? ⟨b,o+k*5+3,none⟩=some (.int .i64 L)∧w.cell? ⟨b,o+k*5+4,none⟩=some (.int .i64 H):=by
 obtain⟨b,o,⟨N,P,K,L,H⟩,e,hb,hx,hc⟩:=h.rec_at (m:=5) (fun _=>rfl) (by omega) hk;exact⟨b,o,N,P,K,L,H,e,hb,hx,hc 0 _ rfl,hc 1 _ rfl,hc 2 _ rfl,hc 3 _ rfl,hc 4 _ rfl⟩
theorem heap_lt_alloc'(w:World)(o:Obj)(b:Nat)(h:b<w.heap.size):(w.alloc o).heap[b]? = w.heap[b]?:=Below.heap_alloc w o b h
/-- A press in a box of the call's own, and what comes behind it. -/
theorem box_below{w x:World}{o:Obj}(hx:Below (w.heap.size+1) (w.alloc o) x):Below w.heap.size w x:=((Below.refl _ _).alloc (Nat.le_refl _) _).trans (hx.mono (by omega))
theorem keep_reads{w x:World}{o:Obj}{size n:Nat}{A:Option Addr}{xs:List Value}(hS:Reads w w.heap.size size A n xs)(hx:Below (w.heap.size+1) (w.alloc o) x):Reads x x.heap.size size A n xs:=
 have hz:w.heap.size+1≤x.heap.size:=by simpa using hx.size
 ((hS.alloc (Nat.le_refl _) _).below (hx.mono (by omega))).more (by omega)
theorem press_box{w x:World}{A A':Option Addr}{n c n' c':Nat}(hx:Below (w.heap.size+1) (w.alloc (.cells #[.slice A n c,.slice A' n' c'] 25)) x) :
  x.cell? ⟨w.heap.size,0,none⟩=some (.slice A n c)∧x.cell? ⟨w.heap.size,1,none⟩=some (.slice A' n' c')∧w.heap.size+1≤x.heap.size:=by
 have hz:w.heap.size+1≤x.heap.size:=by simpa using hx.size
 refine⟨?_,?_,hz⟩
 ·rw[hx.cell (by simp),World.cell?_alloc_at _ _ _ _ rfl];rfl
 ·rw[hx.cell (by simp),World.cell?_alloc_at _ _ _ _ rfl];rfl
def isId (id:Int) (x:PR):Bool:=x.1==id
/-- The index of a pressing; -1 if there is none. -/
def idxP (ps:List PR) (id:Int):Int:=match ps.findIdx? (isId id) with|some i=>i|none=>-1
theorem idxP_at{ps:List PR}{id:Int}{k:Nat}{x:PR}(h:∀j y,j<k→ps[j]? = some y→isId id y=false)(hx:ps[k]? = some x)(hp:isId id x=true):idxP ps id=k:=by
 have hk:=(List.getElem?_eq_some_iff.1 hx).1;unfold idxP;have:ps.findIdx? (isId id)=some k:=by
  rw[List.findIdx?_eq_some_iff_getElem];rw[List.getElem?_eq_getElem hk] at hx;cases hx;refine⟨hk,hp,fun j hj=>?_⟩;have:=h j _ hj (List.getElem?_eq_getElem (by omega));simp[this]
 rw[this]
theorem idxP_none{ps:List PR}{id:Int}(h:∀(j:Nat) (y:PR),ps[j]? = some y→isId id y=false):idxP ps id = -1:=by
 unfold idxP;have:ps.findIdx? (isId id)=none:=by
  rw[List.findIdx?_eq_none_iff];intro x hx;obtain⟨j,hj⟩:=List.getElem?_of_mem hx;exact h j x hj
 rw[this]
theorem idxP_bound(ps:List PR)(id:Int):-1≤idxP ps id∧idxP ps id<ps.length:=by
 unfold idxP;cases h:ps.findIdx? (isId id) with
 |none=>simp only;omega
 |some i=>
  rw[List.findIdx?_eq_some_iff_getElem] at h;obtain⟨h1,-⟩:=h;simp only;omega
theorem index1_any(x:PR)(id:Int)(b:Nat)(w:World)(hb:b<w.heap.size)(hc:w.cell? ⟨b,0,none⟩=some (.int .i64 id)) :
  Calls Tryd.prog 102 #[.agg #[.int .i64 x.1,.int .i64 x.2.1,.int .i64 x.2.2.1,.int .i64 x.2.2.2],.pointer (some ⟨b,0,none⟩)] w fun e w'=>e = .returned (.bool (isId id x))∧Below w.heap.size w w':=by
 have hc':∀o,(w.alloc o).cell? ⟨b,0,none⟩=some (.int .i64 id):=fun o=>by rw[World.cell?_alloc_lt _ _ _ hb];exact hc
 obtain⟨I,D,P,T⟩:=x;have hr:Hid (isId id (I,D,P,T)=(I==id)):=rfl;rw[hr.out];clear hr
 go_enter Tryd.func102,Tryd.ntmps102
 go_wp2;go_ret;exact⟨rfl,(Below.refl _ _).alloc (Nat.le_refl _) _⟩
theorem Pressing_any(A A':Option Addr)(n c n' c':Nat)(ps:List PR)(id:Int)(w:World)(hn:n≤maxLen)(hR:Reads w w.heap.size 4 A n (pgs ps)) :
  Calls Tryd.prog 20 #[.agg #[.slice A n c,.slice A' n' c'],.int .i64 id] w fun e w'=>e = .returned (.int .i64 (idxP ps id))∧Below w.heap.size w w':=by
 have hl:=hR.pg_len;unfold maxLen at hn;have hB:Hid (Below w.heap.size w (w.alloc (.cells #[.slice A n c,.slice A' n' c'] 25))):=(Below.refl _ _).alloc (Nat.le_refl _) _;obtain⟨m0,m1,-⟩:=press_box (w:=w) (A:=A) (A':=A') (n:=n) (c:=c) (n':=n') (c':=c') (Below.refl _ _);have hR1:=hR.alloc (Nat.le_refl _) (.cells #[.slice A n c,.slice A' n' c'] 25);clear hR
 go_enter Tryd.func20,Tryd.ntmps20
 go_wp2;generalize (w.alloc (.cells #[.slice A n c,.slice A' n' c'] 25))=wb at *
 go_loop [5] (fun x=>∃k:Nat,k≤n∧x = .int .i64 k∧Hid (∀j y,j<k→ps[j]? = some y→isId id y=false)) (fun x=>n - (intOf x).toNat)
 case atStart=>exact⟨0,by omega,rfl,fun j y h=>absurd h (by omega)⟩
 case round=>
  obtain⟨k,hk,rfl,hno⟩:=hrel;by_cases hlt:k<n
  ·obtain⟨b,o,I,D,P,T,rfl,hb,hx,c0,-,-,-⟩:=hR1.pg hlt;by_cases he:I=id
   ·have hres:=Lib.hid (idxP_at (id:=id) hno.out hx (by simp[isId,he]));have he':(I==id)=true:=(by simpa using he);clear hx hno he;go_wp2;go_ret;exact⟨ret_int hres.out.symm,hB.out⟩
   ·have hnx:Hid (∀j y,j<k+1→ps[j]? = some y→isId id y=false):=by
     intro j y hj hy;by_cases hjk:j=k
     ·subst hjk;rw[hx] at hy;cases hy;simpa [isId] using he
     ·exact hno.out j y (by omega) hy
    have he':(I==id)=false:=(by simpa using he);clear hx hno he;go_wp2
    go_round
    case rel=>exact⟨k+1,by omega,by go_num,hnx⟩
    case measure=>simp[intOf];omega
  ·have hres:=Lib.hid (idxP_none (ps:=ps) (id:=id) (fun j y hy=>hno.out j y (by have:=(List.getElem?_eq_some_iff.1 hy).1;omega) hy));clear hno;go_wp2;go_ret;exact⟨ret_int hres.out.symm,hB.out⟩
theorem indexP_any(id:Int)(g:Nat)(lb:Array Value)(A:Option Addr)(n c:Nat)(ps:List PR)(w:World)(hn:n≤maxLen)
  (eg:∀args w,(callFunc g args).run Tryd.prog w = .ok (.enter g args) w) (hR:Reads w w.heap.size 4 A n (pgs ps))
  (hf:∀(x:PR) w1,Below w.heap.size w w1→Calls Tryd.prog g (#[.agg #[.int .i64 x.1,.int .i64 x.2.1,.int .i64 x.2.2.1,.int .i64 x.2.2.2]]++lb) w1 fun e w'=>e = .returned (.bool (isId id x))∧Below w1.heap.size w1 w') :
  Calls Tryd.prog 101 #[.slice A n c,.func (.func g) #[] lb] w fun e w'=>e = .returned (.int .i64 (idxP ps id))∧Below w.heap.size w w':=by
 have hl:=hR.pg_len;unfold maxLen at hn
 go_enter Tryd.func101,Tryd.ntmps101
 go_wp2;go_loopw [8] (fun x wr=>∃k:Nat,k≤n∧x = .int .i64 k∧Hid (∀j y,j<k→ps[j]? = some y→isId id y=false)∧Hid (Below w.heap.size w wr)) (fun x _=>n - (intOf x).toNat)
 case atStart=>exact⟨0,by omega,rfl,fun j y h=>absurd h (by omega),Below.refl _ _⟩
 case round=>
  obtain⟨k,hk,rfl,hno,hB⟩:=hrel;by_cases hlt:k<n
  ·obtain⟨b,o,I,D,P,T,rfl,hb,hx,c0,c1,c2,c3⟩:=(hR.below hB.out).pg hlt;have hF:=Lib.hid (hf (I,D,P,T) wr hB.out);have hsz:=Lib.hid hB.out.size;clear hf hR;cases hp:isId id (I,D,P,T)
   ·rw[hp] at hF;have hnx:Hid (∀j y,j<k+1→ps[j]? = some y→isId id y=false):=by
     intro j y hj hy;by_cases hjk:j=k
     ·subst hjk;rw[hx] at hy;cases hy;exact hp
     ·exact hno.out j y (by omega) hy
    clear hx hno hp;(go_wp2_with fail);refine hF.out.mono ?_;rintro e w1 ⟨rfl,hb1⟩;have hB1:=Lib.hid (below_via hB.out hsz.out hb1);clear hb1;go_wp2;go_roundw
    case rel=>exact⟨k+1,by omega,by go_num,hnx,hB1⟩
    case measure=>simp[intOf];omega
   ·rw[hp] at hF;have hres:=Lib.hid (idxP_at (id:=id) hno.out hx hp);clear hx hno hp;(go_wp2_with fail);refine hF.out.mono ?_;rintro e w1 ⟨rfl,hb1⟩;have hB1:=Lib.hid (below_via hB.out hsz.out hb1);clear hb1;go_wp2;go_ret;exact⟨ret_int hres.out.symm,hB1.out⟩
  ·have hres:=Lib.hid (idxP_none (ps:=ps) (id:=id) (fun j y hy=>hno.out j y (by have:=(List.getElem?_eq_some_iff.1 hy).1;omega) hy));clear hno hf hR;go_wp2;go_ret;exact⟨ret_int hres.out.symm,hB.out⟩
theorem index_any(A A':Option Addr)(n c n' c':Nat)(ps:List PR)(id:Int)(w:World)(hn:n≤maxLen)(hR:Reads w w.heap.size 4 A n (pgs ps)) :
  Calls Tryd.prog 82 #[.agg #[.slice A n c,.slice A' n' c'],.int .i64 id] w fun e w'=>e = .returned (.int .i64 (idxP ps id))∧Below w.heap.size w w':=by
 have eg:∀args w,(callFunc 102 args).run Tryd.prog w = .ok (.enter 102 args) w:=fun _ _=>by kernel_rfl
 have hB:Below w.heap.size w ((w.alloc (.cells #[.slice A n c,.slice A' n' c'] 25)).alloc (.cells #[.int .i64 id] 3)):=((Below.refl _ _).alloc (Nat.le_refl _) _).alloc (by simp) _;have hc:((w.alloc (.cells #[.slice A n c,.slice A' n' c'] 25)).alloc (.cells #[.int .i64 id] 3)).cell? ⟨w.heap.size+1,0,none⟩=some (.int .i64 id):=by
  rw[World.cell?_alloc_at _ _ _ _ (by simp)];rfl
 have H:=Lib.hid (indexP_any id 102 #[.pointer (some ⟨w.heap.size+1,0,none⟩)] A n c ps _ hn eg ((hR.below hB).more hB.size)
  (fun x w1 hb1=>index1_any x id (w.heap.size+1) w1 (by have:=hb1.size;simp at this;omega) ((hb1.cell (p:=⟨w.heap.size+1,0,none⟩) (by simp)).trans hc)))
 have hB':=Lib.hid hB;have m0:((w.alloc (.cells #[.slice A n c,.slice A' n' c'] 25)).alloc (.cells #[.int .i64 id] 3)).cell? ⟨w.heap.size,0,none⟩=some (.slice A n c):=by
  rw[World.cell?_alloc_lt _ _ _ (by simp),World.cell?_alloc_at _ _ _ _ rfl];rfl
 clear hR hB hc eg
 go_enter Tryd.func82,Tryd.ntmps82
 go_wp2_with fail
 refine H.out.mono ?_;rintro e w1 ⟨rfl,hb1⟩;have hB1:=Lib.hid (below_via hB'.out hB'.out.size hb1);clear hb1;go_wp2;go_ret;exact⟨rfl,hB1.out⟩
end Go.Proofs.YtfplipbkjglmhaaDoor
