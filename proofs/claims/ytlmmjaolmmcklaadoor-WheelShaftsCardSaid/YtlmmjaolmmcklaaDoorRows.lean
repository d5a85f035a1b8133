/-
  NARROWER THAN 'FOR EVERY INPUT', by the rows' own cells (each row's printed sentence says how): WheelChanges: laid · WheelShafts: laid.
  DERIVED. THE GIVEN ROWS OF THIS SEAT. 2 by the template 'for every input the law returns true; each argument reads behind the call as it read before'; 0 by the template 'total and deterministic' (their statements: YtlmmjaolmmcklaaDoorTotals.lean).
  GIVEN WITH THE SEED: the statements are not yours to turn. If you find one false, say at which input.
  Laid BY PROGRAM, IN A SANDBOX (cutbox-rows.mjs): the forced cells as the released guide's own fill.sh prints them over the translation f0499932327debd9… (all of the seat's roots in one cut). By AI agents, Wed Nov 11 2026. No macro, syntax, notation, axiom, sorry.
-/
import Derived.Test.YtlmmjaolmmcklaaDoorChecked
import GoSem.Claim
import GoSem.ClaimJoined
import GoSem.ClaimMapViews
import Derived.JoinedTies
import Derived.KernelRfl
namespace Go.Proofs.YtlmmjaolmmcklaaDoor
/- THE CELL 'sum', in the pinned program and in every row, IS THE sha256 OF THE DUMP (.gsa) THAT YtlmmjaolmmcklaaDoorProg.lean LOADS. Nothing in Lean hashes anything: it is a label: what it is worth is what the hold of that sum in a sandbox is worth. -/
noncomputable def Tryd.pinned : Pinned := { name := "ytlmmjaolmmcklaadoor", sum := "f0499932327debd92818f76a74a1e26cf24bd9094b3d32556b853abca87eb483", checked := Tryd.checked }
namespace Rows
def none {H : Type} : Left H := { results := [], args := [] }

/- WHAT THE LISTED PACKAGE-LEVEL VARIABLES READ AS WHEN THE CALL BEGINS. Each datum BY PROGRAM (the guide's laid-datum.mjs) off the statement by which the dump's own 'gosem.cut.vars' lays the variable. In a bare row this is a premise. The card (YtlmmjaolmmcklaaDoorCards.lean) ties it to the program's text. -/
def laid_oilcake_wheel_checks {H : Type} : DataW H := .iface "func table" (.agg [.agg [.iface "func" (.lit (.string [111, 105, 108, 99, 97, 107, 101, 47, 119, 104, 101, 101, 108, 46, 99, 104, 101, 99, 107, 115, 36, 49]))], .agg [.iface "func" (.lit (.string [111, 105, 108, 99, 97, 107, 101, 47, 119, 104, 101, 101, 108, 46, 99, 104, 101, 99, 107, 115, 36, 50]))]])

/-- 'oilcakelaw10.WheelChanges': WHATEVER THE INPUT: true; the input reads as it did. -/
def wheelChangesSpec : ChangeSpec := { name := "wheelChanges", fn := fun _ => fun
  | [d1, d2, d3, d4] => { results := [.lit (.bool true)], args := [d1, d2, d3, d4] }
  | _ => none }
def wheelChangesRow : OpenClaim := { program := "ytlmmjaolmmcklaadoor", sum := "f0499932327debd92818f76a74a1e26cf24bd9094b3d32556b853abca87eb483", func := "oilcake/oilcakelaw10.WheelChanges", spec := "wheelChanges", unfollowed := true, recurses := true, named := ["oilcake/wheel.checks"], plainKeys := false, apart := false, laid := [("oilcake/wheel.checks", laid_oilcake_wheel_checks)] }
def WheelChangesSaid : Prop := wheelChangesRow.holds Tryd.pinned (OpenSpec.ofChange wheelChangesSpec)

/-- ITS FALSE NEIGHBOUR: 'it returns false'. Refute it at one input. -/
def wheelChangesWrong : ChangeSpec := { name := "wheelChanges", fn := fun _ => fun
  | [d1, d2, d3, d4] => { results := [.lit (.bool false)], args := [d1, d2, d3, d4] }
  | _ => none }
def WheelChangesWrongFalsely : Prop := wheelChangesRow.holds Tryd.pinned (OpenSpec.ofChange wheelChangesWrong)

/-- 'oilcakelaw10.WheelShafts': WHATEVER THE INPUT: true; the input reads as it did. -/
def wheelShaftsSpec : ChangeSpec := { name := "wheelShafts", fn := fun _ => fun
  | [d1, d2] => { results := [.lit (.bool true)], args := [d1, d2] }
  | _ => none }
def wheelShaftsRow : OpenClaim := { program := "ytlmmjaolmmcklaadoor", sum := "f0499932327debd92818f76a74a1e26cf24bd9094b3d32556b853abca87eb483", func := "oilcake/oilcakelaw10.WheelShafts", spec := "wheelShafts", unfollowed := true, recurses := true, named := ["oilcake/wheel.checks"], plainKeys := false, apart := false, laid := [("oilcake/wheel.checks", laid_oilcake_wheel_checks)] }
def WheelShaftsSaid : Prop := wheelShaftsRow.holds Tryd.pinned (OpenSpec.ofChange wheelShaftsSpec)

/-- ITS FALSE NEIGHBOUR: 'it returns false'. Refute it at one input. -/
def wheelShaftsWrong : ChangeSpec := { name := "wheelShafts", fn := fun _ => fun
  | [d1, d2] => { results := [.lit (.bool false)], args := [d1, d2] }
  | _ => none }
def WheelShaftsWrongFalsely : Prop := wheelShaftsRow.holds Tryd.pinned (OpenSpec.ofChange wheelShaftsWrong)

/- THE SECOND FORM. 'bulk': how many values and letters a reading holds, each counted each time it is reached (what is shared counts as often as it is met; a slice's spare places count too). A statement '..UptoSaid' is the law's where the arguments, and the package variables that the reading takes, are together of bulk at most 1048576: NARROWER than '..Said'. Prove '..Said' where nothing that the law and all that it calls make is longer than what came in: it says more and counts as full. Else prove '..UptoSaid'. A law counts once. -/
mutual
def uptoBulk {H : Type} : DataW H → Nat
  | .lit (.string bytes) => bytes.length + 1
  | .lit _ => 1
  | .nil => 1
  | .ptr d => uptoBulk d + 1
  | .slice elems spare => uptoBulkAll elems + uptoBulkAll spare + 1
  | .agg parts => uptoBulkAll parts + 1
  | .iface _ d => uptoBulk d + 1
  | .map entries => uptoBulkEntries entries + 1
  | .held _ => 1
def uptoBulkAll {H : Type} : List (DataW H) → Nat
  | [] => 0
  | d :: r => uptoBulk d + uptoBulkAll r
def uptoBulkEntries {H : Type} : List (Lit × DataW H) → Nat
  | [] => 0
  | x :: r => uptoBulkEntry x + uptoBulkEntries r
def uptoBulkEntry {H : Type} : Lit × DataW H → Nat
  | (.string bytes, d) => bytes.length + uptoBulk d + 1
  | (_, d) => uptoBulk d + 1
 end
def uptoSmall : (H : Type) → List (DataW H) → Bool := fun _ ds => decide (uptoBulkAll ds ≤ 1048576)
def OpenSpec.upto (s : _root_.Go.ChangeSpec) : _root_.Go.OpenSpec := { _root_.Go.OpenSpec.ofChange s with cond := some uptoSmall }

/-- 'oilcakelaw10.WheelChanges', WHERE WHAT IT READS IS OF BULK AT MOST 1048576: true; the input reads as it did. -/
def wheelChangesUptoRow : OpenClaim := { program := "ytlmmjaolmmcklaadoor", sum := "f0499932327debd92818f76a74a1e26cf24bd9094b3d32556b853abca87eb483", func := "oilcake/oilcakelaw10.WheelChanges", spec := "wheelChanges", unfollowed := true, recurses := true, named := ["oilcake/wheel.checks"], plainKeys := false, apart := false, laid := [("oilcake/wheel.checks", laid_oilcake_wheel_checks)], narrowed := true }
def WheelChangesUptoSaid : Prop := wheelChangesUptoRow.holds Tryd.pinned (OpenSpec.upto wheelChangesSpec)

/-- 'oilcakelaw10.WheelShafts', WHERE WHAT IT READS IS OF BULK AT MOST 1048576: true; the input reads as it did. -/
def wheelShaftsUptoRow : OpenClaim := { program := "ytlmmjaolmmcklaadoor", sum := "f0499932327debd92818f76a74a1e26cf24bd9094b3d32556b853abca87eb483", func := "oilcake/oilcakelaw10.WheelShafts", spec := "wheelShafts", unfollowed := true, recurses := true, named := ["oilcake/wheel.checks"], plainKeys := false, apart := false, laid := [("oilcake/wheel.checks", laid_oilcake_wheel_checks)], narrowed := true }
def WheelShaftsUptoSaid : Prop := wheelShaftsUptoRow.holds Tryd.pinned (OpenSpec.upto wheelShaftsSpec)

end Rows
end Go.Proofs.YtlmmjaolmmcklaaDoor
