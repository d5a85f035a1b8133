/-
 The walk of the comparison of two lists of what is missing that are alike; both ways of looking for a proof find the same.
-/
import Derived.Test.YtfplipbkjglmhaaDoorSumB
import Derived.Test.YtfplipbkjglmhaaDoorRAsk
import Derived.Test.YtfplipbkjglmhaaDoorCut
import Derived.Test.YtfplipbkjglmhaaDoorApp0
import Derived.Test.YtfplipbkjglmhaaDoorPAll
import Derived.Test.YtfplipbkjglmhaaDoorPSame
import Derived.Test.YtfplipbkjglmhaaDoorGonD
import Derived.Test.YtfplipbkjglmhaaDoorPPf
namespace Go.Proofs.YtfplipbkjglmhaaDoor
open Go.RowKit
set_option linter.unusedVariables false
set_option linter.unusedSimpArgs false
end Go.Proofs.YtfplipbkjglmhaaDoor

namespace Go.Proofs.YtfplipbkjglmhaaDoor
open Go.RowKit
set_option linter.unusedVariables false
set_option linter.unusedSimpArgs false
end Go.Proofs.YtfplipbkjglmhaaDoor

namespace Go.Proofs.YtfplipbkjglmhaaDoor
open Go.RowKit
set_option linter.unusedVariables false
set_option linter.unusedSimpArgs false
end Go.Proofs.YtfplipbkjglmhaaDoor

namespace Go.Proofs.YtfplipbkjglmhaaDoor
open Go.RowKit
set_option linter.unusedVariables false
set_option linter.unusedSimpArgs false
theorem eq_ms(I O:Int)(w:World) :
  (Op.equalIn 10000 62 (.agg #[.int .i64 I,.int .i64 O]) (.agg #[.int .i64 I,.int .i64 O])).run Tryd.prog w = .ok true w:=by
 have z3:=Tryd.sizeOf3;have a3:=Tryd.isAgg3;have u3:=Tryd.underlying3;have hS:Tryd.prog.underlying 62=some (.struct (Tryd.prog.fieldsOf 62)):=by kernel_rfl
 have hp:Tryd.prog.stoodInHeld 62=false:=by kernel_rfl
 rw[show (10000:Nat)=9999+1 from rfl,run_equalIn_agg w 9999 62 _ _ hS hp];simp only[Program.fieldsOf,Tryd.underlying62];go_simp
theorem mss_at{w:World}{B n k:Nat}{A:Option Addr}{l:List (Int×Int)}(h:Reads w B 2 A n (mss l))(hk:k<n) :
  ∃b o I O,A=some ⟨b,o,none⟩∧b<B∧l[k]? = some (I,O)∧w.cell? ⟨b,o+k*2,none⟩=some (.int .i64 I)∧w.cell? ⟨b,o+k*2+1,none⟩=some (.int .i64 O):=by
 obtain⟨b,o,⟨I,O⟩,e,hb,hx,hc⟩:=Reads.rec_at (f:=fun p:Int×Int=>spc p) (m:=2) (fun _=>rfl) (by omega) h hk;exact⟨b,o,I,O,e,hb,hx,hc 0 _ rfl,hc 1 _ rfl⟩
theorem mss_len{w:World}{B n:Nat}{A:Option Addr}{l:List (Int×Int)}(h:Reads w B 2 A n (mss l)):l.length=n:=Reads.rec_len (f:=fun p:Int×Int=>spc p) (m:=2) (fun _=>rfl) (by omega) h
set_option maxRecDepth 100000 in
set_option maxHeartbeats 2000000 in
theorem sameMissing_eq(A B:Option Addr)(n m c d:Nat)(l:List (Int×Int))(w:World)(hn:n≤10)(h:Reads w w.heap.size 2 A n (mss l))(g:Reads w w.heap.size 2 B m (mss l)) :
  Calls Tryd.prog 53 #[.slice A n c,.slice B m d] w fun e w'=>e = .returned (.bool true)∧∃k,w'=w.drewN k:=by
 have gEq:Tryd.prog.eqGuardType Tryd.prog.depth 62=false:=by kernel_rfl
 obtain rfl:n=m:=(mss_len h).symm.trans (mss_len g)
 go_enter Tryd.func53,Tryd.ntmps53
 go_wp2;go_loopw [5] (fun x wr=>∃k:Nat,k≤n∧x = .int .i64 k∧Hid (∃q,wr=w.drewN q)) (fun x _=>n - (intOf x).toNat)
 case atStart=>exact⟨0,by omega,rfl,⟨0,rfl⟩⟩
 case round=>
  obtain⟨k,hk,rfl,hq⟩:=hrel;obtain⟨q,rfl⟩:=hq.out;clear hq;by_cases hlt:k<n
  ·obtain⟨b,o,I,O,rfl,hb,hx,c0,c1⟩:=mss_at h hlt;obtain⟨b',o',I',O',rfl,hb',hx',c0',c1'⟩:=mss_at g hlt;rw[hx] at hx';simp only[Option.some.injEq,Prod.mk.injEq] at hx';obtain⟨rfl,rfl⟩:=hx';clear hx;have hE1:=eq_ms I O;go_wp2;(go_quiet (fail));go_wp2;go_roundw
   case rel=>exact⟨k+1,by omega,by go_num,(by first|exact⟨_,rfl⟩|exact⟨_,World.drewN_drewN _ _ _⟩)⟩
   case measure=>simp[intOf];omega
  ·go_wp2;go_ret;exact⟨rfl,q,rfl⟩
end Go.Proofs.YtfplipbkjglmhaaDoor
