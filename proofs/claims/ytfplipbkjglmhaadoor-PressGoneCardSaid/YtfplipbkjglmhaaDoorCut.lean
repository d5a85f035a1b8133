/-
 The walk of the program's cut of what there is with some parings.
-/
import Derived.Test.YtfplipbkjglmhaaDoorSumB
import Derived.Test.YtfplipbkjglmhaaDoorWith
namespace Go.Proofs.YtfplipbkjglmhaaDoor
open Go.RowKit
set_option linter.unusedVariables false
set_option linter.unusedSimpArgs false
/-- The number of a pressing. -/
def idQ (ps:List PR) (i:Nat):Int:=match ps[i]? with|some x=>x.1|none=>0
set_option maxRecDepth 100000 in
set_option maxHeartbeats 4000000 in
theorem cut_any(w:Wo)(s:Sp)(hw:WB 1000000000000 w)(hs:-1000000000≤s.1∧s.1≤1000000000∧-1000000000≤s.2∧s.2≤1000000000)(W:World) :
  Calls Tryd.prog 95 #[.agg #[.int .i64 w.most,.int .i64 w.lo,.int .i64 w.ri,.int .i64 w.fl,.int .i64 w.fa],.agg #[.int .i64 s.1,.int .i64 s.2]] W fun e W'=>e = .returned (.agg #[.int .i64 (cutW w s).most,.int .i64 (cutW w s).lo,.int .i64 (cutW w s).ri,.int .i64 (cutW w s).fl,.int .i64 (cutW w s).fa])∧Below W.heap.size W W':=by
 obtain⟨⟨b1,b1'⟩,⟨b2,b2'⟩,⟨b3,b3'⟩,⟨b4,b4'⟩,b5,b5'⟩:=hw;obtain⟨s1,s1',s2,s2'⟩:=hs;obtain⟨m,l,r,f,g⟩:=w;obtain⟨lo,hi⟩:=s;simp only at *;have HB:=Lib.hid ((((Below.refl W.heap.size W).alloc (Nat.le_refl _) (.cells #[.int .i64 m,.int .i64 l,.int .i64 r,.int .i64 f,.int .i64 g] 155)).alloc (by simp) (.cells #[.int .i64 lo,.int .i64 hi] 36)).alloc (by simp<;>omega) (.cells #[.int .i64 0,.int .i64 0,.int .i64 0,.int .i64 0,.int .i64 0] 155));have hOw:Hid ((((W.alloc (.cells #[.int .i64 m,.int .i64 l,.int .i64 r,.int .i64 f,.int .i64 g] 155)).alloc (.cells #[.int .i64 lo,.int .i64 hi] 36)).alloc (.cells #[.int .i64 0,.int .i64 0,.int .i64 0,.int .i64 0,.int .i64 0] 155)).heap[W.heap.size]? = some (.cells #[.int .i64 m,.int .i64 l,.int .i64 r,.int .i64 f,.int .i64 g] 155 (0,0))):=by
  show _=_;rw[heap_lt_alloc' _ _ _ (by simp<;>omega),heap_lt_alloc' _ _ _ (by simp)];exact heap_alloc_new W _
 have hOs:Hid ((((W.alloc (.cells #[.int .i64 m,.int .i64 l,.int .i64 r,.int .i64 f,.int .i64 g] 155)).alloc (.cells #[.int .i64 lo,.int .i64 hi] 36)).alloc (.cells #[.int .i64 0,.int .i64 0,.int .i64 0,.int .i64 0,.int .i64 0] 155)).heap[W.heap.size+1]? = some (.cells #[.int .i64 lo,.int .i64 hi] 36 (0,0))):=by
  show _=_;rw[heap_lt_alloc' _ _ _ (by simp)];have:=heap_alloc_new (W.alloc (.cells #[.int .i64 m,.int .i64 l,.int .i64 r,.int .i64 f,.int .i64 g] 155)) (.cells #[.int .i64 lo,.int .i64 hi] 36);simpa using this
 go_enter Tryd.func95,Tryd.ntmps95
 go_wp2_with fail
 all_goals refine bodyPost_ret (v:=.agg #[.int .i64 (cutW ⟨m,l,r,f,g⟩ (lo,hi)).most,.int .i64 (cutW ⟨m,l,r,f,g⟩ (lo,hi)).lo,.int .i64 (cutW ⟨m,l,r,f,g⟩ (lo,hi)).ri,.int .i64 (cutW ⟨m,l,r,f,g⟩ (lo,hi)).fl,.int .i64 (cutW ⟨m,l,r,f,g⟩ (lo,hi)).fa]) ?_ rfl ⟨rfl,?_⟩
 all_goals try exact(((Below.refl W.heap.size W).alloc (Nat.le_refl _) _).alloc (by simp) _).alloc (by simp<;>omega) _
 all_goals simp[results,Tryd.results95,go_sem]
 all_goals clear HB hOw hOs
 all_goals unfold cutW cutR cutL cutR'
 all_goals simp only
 all_goals split
 all_goals try (exfalso;omega)
 all_goals simp only
 all_goals split
 all_goals try (exfalso;omega)
 all_goals refine⟨?_,?_,?_,?_,?_⟩
 all_goals simp only
 all_goals omega
end Go.Proofs.YtfplipbkjglmhaaDoor
