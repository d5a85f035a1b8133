/-
 The walks of the comparison of presses that are alike, and of the bound on their size.
-/
import Derived.Test.YtfplipbkjglmhaaDoorPRec
import Derived.Laws.StructEq
namespace Go.Proofs.YtfplipbkjglmhaaDoor
open Go.RowKit
set_option linter.unusedVariables false
set_option linter.unusedSimpArgs false
theorem Great_any(A A':Option Addr)(n c n' c':Nat)(w:World) :
  Calls Tryd.prog 54 #[.agg #[.slice A n c,.slice A' n' c']] w fun e w'=>e = .returned (.bool (decide (20<n) || decide (50<n')))∧Below w.heap.size w w':=by
 by_cases h1:20<n
 ·have r:(decide (20<n) || decide (50<n'))=true:=(by simp[h1]);rw[r];have g1:(20:Int)<(n:Int):=(by omega);clear r h1
  go_enter Tryd.func54,Tryd.ntmps54
  go_wp2;go_ret;exact⟨ret_bool (by simp[g1]),(Below.refl _ _).alloc (Nat.le_refl _) _⟩
 ·by_cases h2:50<n'
  ·have r:(decide (20<n) || decide (50<n'))=true:=(by simp[h2]);rw[r];have g1:¬(20:Int)<(n:Int):=(by omega);have g2:(50:Int)<(n':Int):=(by omega);clear r h1 h2
   go_enter Tryd.func54,Tryd.ntmps54
   go_wp2;go_ret;exact⟨ret_bool (by simp[g1,g2]),(Below.refl _ _).alloc (Nat.le_refl _) _⟩
  ·have r:(decide (20<n) || decide (50<n'))=false:=(by simp[h1,h2]);rw[r];have g1:¬(20:Int)<(n:Int):=(by omega);have g2:¬(50:Int)<(n':Int):=(by omega);clear r h1 h2
   go_enter Tryd.func54,Tryd.ntmps54
   go_wp2;go_ret;exact⟨ret_bool (by simp[g1,g2]),(Below.refl _ _).alloc (Nat.le_refl _) _⟩
end Go.Proofs.YtfplipbkjglmhaaDoor
