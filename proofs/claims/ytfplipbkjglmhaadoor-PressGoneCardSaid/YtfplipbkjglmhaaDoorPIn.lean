/-
 The walks of the question whether all numbers are from lo to hi: the closure, the library's search, and the functions of both sides.
-/
import Derived.Test.YtfplipbkjglmhaaDoorKit
namespace Go.Proofs.YtfplipbkjglmhaaDoor
open Go.RowKit
theorem in1_any(x lo hi:Int)(b b':Nat)(w:World)(hl:w.cell? ⟨b,0,none⟩=some (.int .i64 lo))(hh:w.cell? ⟨b',0,none⟩=some (.int .i64 hi)) :
  Calls Tryd.prog 104 #[.int .i64 x,.pointer (some ⟨b,0,none⟩),.pointer (some ⟨b',0,none⟩)] w fun e w'=>e = .returned (.bool (decide (x<lo) || decide (hi<x)))∧w'=w:=by
 by_cases h1:x<lo
 ·go_enter Tryd.func104,Tryd.ntmps104
  go_wp2;go_ret;exact⟨ret_bool (by simp[h1]),rfl⟩
 ·by_cases h2:hi<x
  ·go_enter Tryd.func104,Tryd.ntmps104
   go_wp2;go_ret;exact⟨ret_bool (by simp),rfl⟩
  ·go_enter Tryd.func104,Tryd.ntmps104
   go_wp2;go_ret;exact⟨ret_bool (by simp[h1,h2]),rfl⟩
def idxF (p:Int→Bool) (l:List Int):Int:=match l.findIdx? p with|some i=>i|none=>-1
theorem indexFunc_any(p:Int→Bool)(g:Nat)(lb:Array Value)(A:Option Addr)(n c:Nat)(l:List Int)(w:World)(hn:n≤maxLen)
  (eg:∀args w,(callFunc g args).run Tryd.prog w = .ok (.enter g args) w) (hR:Reads w w.heap.size 1 A n (ints l)) (hf:∀x,Calls Tryd.prog g (#[.int .i64 x]++lb) w fun e w'=>e = .returned (.bool (p x))∧w'=w) :
  Calls Tryd.prog 115 #[.slice A n c,.func (.func g) #[] lb] w fun e w'=>e = .returned (.int .i64 (idxF p l))∧w'=w:=by
 unfold maxLen at hn
 go_enter Tryd.func115,Tryd.ntmps115
 go_wp2
 go_loop [8] (fun i=>∃k:Nat,k≤n∧i = .int .i64 k∧Hid ((l.take k).any p=false)) (fun i=>n - (intOf i).toNat)
 case atStart=>exact⟨0,by omega,rfl,by simp[Hid]⟩
 case round=>
  obtain⟨k,hk,rfl,ha⟩:=hrel;by_cases hlt:k<n
  ·obtain⟨b,o,rfl,hb,hc⟩:=hR.int hlt;have hF:=Lib.hid (hf (l[k]?.getD 0));clear hf;cases hp:p (l[k]?.getD 0)
   ·have hnx:Hid ((l.take (k+1)).any p=false):=by
     have hl:l.length=n:=(by simpa using hR.len);show (l.take (k+1)).any p=false;rw[List.take_succ_eq_append_getElem (by omega),List.any_append,show (l.take k).any p=false from ha];rw[List.getElem?_eq_getElem (by omega)] at hp;simpa using hp
    rw[hp] at hF;clear ha hp;(go_wp2_with fail);refine hF.mono ?_;rintro e w' ⟨rfl,rfl⟩;go_wp2
    go_round
    case rel=>exact⟨k+1,by omega,by go_num,hnx⟩
    case measure=>simp[intOf];omega
   ·have hres:Hid (idxF p l=k):=by
     have hl:l.length=n:=(by simpa using hR.len);show idxF p l=k;unfold idxF;have:l.findIdx? p=some k:=by
      rw[List.findIdx?_eq_some_iff_getElem];rw[List.getElem?_eq_getElem (by omega)] at hp;refine⟨by omega,by simpa using hp,fun j hj=>?_⟩;have h0:(l.take k).any p=false:=ha;rw[List.any_eq_false] at h0;have:=h0 l[j] (by rw[List.mem_take_iff_getElem];exact⟨j,by omega,rfl⟩);simpa using this
     rw[this]
    rw[hp] at hF;clear ha hp;(go_wp2_with fail);refine hF.mono ?_;rintro e w' ⟨rfl,rfl⟩;go_wp2;go_ret;exact⟨ret_int hres.symm,rfl⟩
  ·have hres:Hid (idxF p l = -1):=by
    have hl:l.length=n:=(by simpa using hR.len);show idxF p l = -1;have h0:(l.take k).any p=false:=ha;rw[List.take_of_length_le (by omega),List.any_eq_false] at h0;have:l.findIdx? p=none:=by
     rw[List.findIdx?_eq_none_iff];intro x hx;simpa using h0 x hx
    unfold idxF;rw[this]
   clear ha;go_wp2;go_ret;exact⟨ret_int hres.symm,rfl⟩
theorem idxF_any(p:Int→Bool)(l:List Int):decide (0≤idxF p l)=l.any p:=by
 unfold idxF;cases h:l.findIdx? p with
 |none=>
  rw[List.findIdx?_eq_none_iff] at h
  symm
  simp;exact h
 |some i=>
  have:=List.findIdx?_isSome (xs:=l) (p:=p);rw[h] at this;simp at this;simp only[Int.natCast_nonneg,decide_true]
  symm
  simpa using this
theorem containsFunc_any(p:Int→Bool)(g:Nat)(lb:Array Value)(A:Option Addr)(n c:Nat)(l:List Int)(w:World)(hn:n≤maxLen)
  (eg:∀args w,(callFunc g args).run Tryd.prog w = .ok (.enter g args) w) (hR:Reads w w.heap.size 1 A n (ints l)) (hf:∀x,Calls Tryd.prog g (#[.int .i64 x]++lb) w fun e w'=>e = .returned (.bool (p x))∧w'=w) :
  Calls Tryd.prog 103 #[.slice A n c,.func (.func g) #[] lb] w fun e w'=>e = .returned (.bool (l.any p))∧w'=w:=by
 have H:=Lib.hid (indexFunc_any p g lb A n c l w hn eg hR hf);have hi:=Lib.hid (idxF_any p l);clear hf hR eg
 go_enter Tryd.func103,Tryd.ntmps103
 go_wp2_with fail
 refine H.mono ?_;rintro e w' ⟨rfl,rfl⟩;go_wp2;go_ret;exact⟨ret_bool hi.out,rfl⟩
/-- All numbers are from lo to hi. -/
def inB (lo hi:Int) (l:List Int):Bool:=l.all fun x=>decide (lo≤x) && decide (x≤hi)
theorem in_any(lo hi:Int)(A:Option Addr)(n c:Nat)(l:List Int)(w:World)(hn:n≤maxLen)(hR:Reads w w.heap.size 1 A n (ints l)) :
  Calls Tryd.prog 83 #[.int .i64 lo,.int .i64 hi,.slice A n c] w fun e w'=>e = .returned (.bool (inB lo hi l))∧Below w.heap.size w w':=by
 have hmf:∀(fn:Fn) (first cap:Array Value) (w:World),(Instr.makeFunc fn first cap).run Tryd.prog w = .ok (.func fn first cap) w:=fun _ _ _ _=>rfl;have eg:∀args w,(callFunc 104 args).run Tryd.prog w = .ok (.enter 104 args) w:=fun _ _=>by kernel_rfl
 have hR':Reads ((w.alloc (.cells #[.int .i64 lo] 3)).alloc (.cells #[.int .i64 hi] 3)) ((w.alloc (.cells #[.int .i64 lo] 3)).alloc (.cells #[.int .i64 hi] 3)).heap.size 1 A n (ints l):=
  ((hR.alloc (Nat.le_refl _) _).alloc (by simp) _).more (by simp;omega)
 have H:=Lib.hid (containsFunc_any (fun x=>decide (x<lo) || decide (hi<x)) 104 #[.pointer (some ⟨w.heap.size,0,none⟩),.pointer (some ⟨w.heap.size+1,0,none⟩)] A n c l _ hn eg hR'
  (fun x=>in1_any x lo hi w.heap.size (w.heap.size+1) _ (by rw[World.cell?_alloc_past _ _ _ (by simp),World.cell?_alloc_at _ _ _ _ rfl];rfl) (by rw[World.cell?_alloc_at _ _ _ _ (by simp)];rfl)))
 have hres:Hid ((!(l.any fun x=>decide (x<lo) || decide (hi<x)))=inB lo hi l):=by
  show (!(l.any fun x=>decide (x<lo) || decide (hi<x)))=inB lo hi l;unfold inB;rw[Bool.eq_iff_iff];simp
 clear hR hR' eg
 go_enter Tryd.func83,Tryd.ntmps83
 go_wp2_with fail
 refine H.mono ?_;rintro e w' ⟨rfl,rfl⟩;go_wp2;go_ret;exact⟨ret_bool hres,((Below.refl _ _).alloc (Nat.le_refl _) _).alloc (by simp) _⟩
theorem within_any(n lo hi:Int)(w:World) :
  Calls Tryd.prog 92 #[.int .i64 n,.int .i64 lo,.int .i64 hi] w fun e w'=>e = .returned (.bool (decide (lo≤n) && decide (n≤hi)))∧w'=w:=by
 by_cases h1:lo≤n
 ·go_enter Tryd.func92,Tryd.ntmps92
  go_wp2
  all_goals go_ret
  all_goals exact⟨ret_bool (by simp[*]),rfl⟩
 ·go_enter Tryd.func92,Tryd.ntmps92
  go_wp2;go_ret;exact⟨ret_bool (by simp;omega),rfl⟩
end Go.Proofs.YtfplipbkjglmhaaDoor
