/-
 The walks of the small functions on spans.
-/
import Derived.Test.YtfplipbkjglmhaaDoorPPress
import Derived.Test.YtfplipbkjglmhaaDoorSpan2
namespace Go.Proofs.YtfplipbkjglmhaaDoor
open Go.RowKit
set_option linter.unusedVariables false
set_option linter.unusedSimpArgs false
/-- Small enough for sums. -/
def Sml (s:Sp):Prop:=-1000000000000000≤s.1∧s.1≤1000000000000000∧-1000000000000000≤s.2∧s.2≤1000000000000000
theorem end3(w:World)(o1 o2:Obj)(x y:Int)(t:TypeId) :
  (((w.alloc o1).alloc o2).alloc (.cells #[.int .i64 x,.int .i64 y] t)).cell? ⟨w.heap.size+1+1,0,none⟩=some (.int .i64 x)∧
  (((w.alloc o1).alloc o2).alloc (.cells #[.int .i64 x,.int .i64 y] t)).cell? ⟨w.heap.size+1+1,1,none⟩=some (.int .i64 y)∧
  Below w.heap.size w (((w.alloc o1).alloc o2).alloc (.cells #[.int .i64 x,.int .i64 y] t)):=by
 refine⟨?_,?_,(((Below.refl _ _).alloc (Nat.le_refl _) _).alloc (by simp) _).alloc (by simp;omega) _⟩
 ·rw[World.cell?_alloc_at _ _ _ _ (by simp)];rfl
 ·rw[World.cell?_alloc_at _ _ _ _ (by simp)];rfl
set_option maxRecDepth 100000 in
theorem plus_any(a b:Sp)(ha:Sml a)(hb:Sml b)(w:World):Calls Tryd.prog 75 #[.agg #[.int .i64 a.1,.int .i64 a.2],.agg #[.int .i64 b.1,.int .i64 b.2]] w fun e w'=>e = .returned (.agg #[.int .i64 (plus a b).1,.int .i64 (plus a b).2])∧Below w.heap.size w w':=by
 obtain⟨a1,a2⟩:=a;obtain⟨b1,b2⟩:=b;obtain⟨h1,h2,h3,h4⟩:=ha;obtain⟨g1,g2,g3,g4⟩:=hb;simp only[plus] at *;have y1:wrap64 (a1+b1)=a1+b1:=w64 (by omega) (by omega);have y2:wrap64 (a2+b2)=a2+b2:=w64 (by omega) (by omega);clear h1 h2 h3 h4 g1 g2 g3 g4
 go_enter Tryd.func75,Tryd.ntmps75
 go_wp2;obtain⟨c1,c2,hB⟩:=end3 w (.cells #[.int .i64 a1,.int .i64 a2] 36) (.cells #[.int .i64 b1,.int .i64 b2] 36) (a1+b1) (a2+b2) 36;exact bodyPost_ret (v:=.agg #[.int .i64 (a1+b1),.int .i64 (a2+b2)]) (by simp[results,Tryd.results75,go_sem,c1,c2]) rfl ⟨rfl,hB⟩
set_option maxRecDepth 100000 in
theorem minus_any(a b:Sp)(ha:Sml a)(hb:Sml b)(w:World):Calls Tryd.prog 74 #[.agg #[.int .i64 a.1,.int .i64 a.2],.agg #[.int .i64 b.1,.int .i64 b.2]] w fun e w'=>e = .returned (.agg #[.int .i64 (minus a b).1,.int .i64 (minus a b).2])∧Below w.heap.size w w':=by
 obtain⟨a1,a2⟩:=a;obtain⟨b1,b2⟩:=b;obtain⟨h1,h2,h3,h4⟩:=ha;obtain⟨g1,g2,g3,g4⟩:=hb;simp only[minus] at *;have y1:wrap64 (a1 - b2)=a1 - b2:=w64 (by omega) (by omega);have y2:wrap64 (a2 - b1)=a2 - b1:=w64 (by omega) (by omega);clear h1 h2 h3 h4 g1 g2 g3 g4
 go_enter Tryd.func74,Tryd.ntmps74
 go_wp2;obtain⟨c1,c2,hB⟩:=end3 w (.cells #[.int .i64 a1,.int .i64 a2] 36) (.cells #[.int .i64 b1,.int .i64 b2] 36) (a1 - b2) (a2 - b1) 36;exact bodyPost_ret (v:=.agg #[.int .i64 (a1 - b2),.int .i64 (a2 - b1)]) (by simp[results,Tryd.results74,go_sem,c1,c2]) rfl ⟨rfl,hB⟩
set_option maxRecDepth 100000 in
theorem minus1_any(a b:Sp)(ha:Sml a)(hb:Sml b)(w:World):Calls Tryd.prog 94 #[.agg #[.int .i64 a.1,.int .i64 a.2],.agg #[.int .i64 b.1,.int .i64 b.2]] w fun e w'=>e = .returned (.agg #[.int .i64 (minus1 a b).1,.int .i64 (minus1 a b).2])∧Below w.heap.size w w':=by
 obtain⟨a1,a2⟩:=a;obtain⟨b1,b2⟩:=b;obtain⟨h1,h2,h3,h4⟩:=ha;obtain⟨g1,g2,g3,g4⟩:=hb;simp only[minus1] at *;have y1:wrap64 (a1 - b1)=a1 - b1:=w64 (by omega) (by omega);have y2:wrap64 (a2 - b2)=a2 - b2:=w64 (by omega) (by omega);clear h1 h2 h3 h4 g1 g2 g3 g4
 go_enter Tryd.func94,Tryd.ntmps94
 go_wp2;obtain⟨c1,c2,hB⟩:=end3 w (.cells #[.int .i64 a1,.int .i64 a2] 36) (.cells #[.int .i64 b1,.int .i64 b2] 36) (a1 - b1) (a2 - b2) 36;exact bodyPost_ret (v:=.agg #[.int .i64 (a1 - b1),.int .i64 (a2 - b2)]) (by simp[results,Tryd.results94,go_sem,c1,c2]) rfl ⟨rfl,hB⟩
set_option maxRecDepth 100000 in
theorem both_any(a b:Sp)(w:World):Calls Tryd.prog 77 #[.agg #[.int .i64 a.1,.int .i64 a.2],.agg #[.int .i64 b.1,.int .i64 b.2]] w fun e w'=>e = .returned (.agg #[.int .i64 (both a b).1,.int .i64 (both a b).2])∧Below w.heap.size w w':=by
 obtain⟨a1,a2⟩:=a;obtain⟨b1,b2⟩:=b;simp only[both] at *
 go_enter Tryd.func77,Tryd.ntmps77
 go_wp2
 all_goals
  obtain⟨c1,c2,hB⟩:=end3 w (.cells #[.int .i64 a1,.int .i64 a2] 36) (.cells #[.int .i64 b1,.int .i64 b2] 36) (max a1 b1) (min a2 b2) 36
  first
  |rw[show max a1 b1=b1 by omega,show min a2 b2=b2 by omega] at c1 c2 hB ⊢
  |rw[show max a1 b1=b1 by omega,show min a2 b2=a2 by omega] at c1 c2 hB ⊢
  |rw[show max a1 b1=a1 by omega,show min a2 b2=b2 by omega] at c1 c2 hB ⊢
  |rw[show max a1 b1=a1 by omega,show min a2 b2=a2 by omega] at c1 c2 hB ⊢
  exact bodyPost_ret (v:=.agg #[.int .i64 _,.int .i64 _]) (by simp[results,Tryd.results77,go_sem,c1,c2]) rfl ⟨rfl,hB⟩
/-- A span has no number. -/
def noneB (s:Sp):Bool:=decide (s.2<s.1)
theorem none_any(a:Sp)(w:World):Calls Tryd.prog 73 #[.agg #[.int .i64 a.1,.int .i64 a.2]] w fun e w'=>e = .returned (.bool (noneB a))∧Below w.heap.size w w':=by
 obtain⟨a1,a2⟩:=a;have hr:Hid (noneB (a1,a2)=decide (a2<a1)):=rfl;rw[hr.out];clear hr
 go_enter Tryd.func73,Tryd.ntmps73
 go_wp2
 all_goals go_ret
 all_goals exact⟨ret_bool (by simp[*]<;>omega),(Below.refl _ _).alloc (Nat.le_refl _) _⟩
end Go.Proofs.YtfplipbkjglmhaaDoor
