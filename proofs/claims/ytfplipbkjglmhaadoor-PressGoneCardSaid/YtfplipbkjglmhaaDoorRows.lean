/-
  NARROWER THAN 'FOR EVERY INPUT', by the rows' own cells (each row's printed sentence says how): PressWhole: laid · PressProof: laid · PressGone: laid · PressYield: laid · PressLed: laid · PressFalse: laid · PressRests: laid · PressTruth: laid · PressEnds: laid · PressReading: laid · PressExamples: laid.
  DERIVED. THE GIVEN ROWS OF THIS SEAT. 11 by the template 'for every input the law returns true; each argument reads behind the call as it read before'; 0 by the template 'total and deterministic' (their statements: YtfplipbkjglmhaaDoorTotals.lean).
  GIVEN WITH THE SEED: the statements are not yours to turn. If you find one false, say at which input.
  Laid BY PROGRAM, IN A SANDBOX (cutbox-rows.mjs): the forced cells as the released guide's own fill.sh prints them over the translation 2c161c940438a5b1… (all of the seat's roots in one cut). By AI agents, Wed Nov 11 2026. No macro, syntax, notation, axiom, sorry.
-/
import Derived.Test.YtfplipbkjglmhaaDoorChecked
import GoSem.Claim
import GoSem.ClaimJoined
import GoSem.ClaimMapViews
import Derived.JoinedTies
import Derived.KernelRfl
namespace Go.Proofs.YtfplipbkjglmhaaDoor
/- THE CELL 'sum', in the pinned program and in every row, IS THE sha256 OF THE DUMP (.gsa) THAT YtfplipbkjglmhaaDoorProg.lean LOADS. Nothing in Lean hashes anything: it is a label: what it is worth is what the hold of that sum in a sandbox is worth. -/
noncomputable def Tryd.pinned : Pinned := { name := "ytfplipbkjglmhaadoor", sum := "2c161c940438a5b1542d08bcf3aa62e60374cddc8bd29252cb06cc6d3ed192c6", checked := Tryd.checked }
namespace Rows
def none {H : Type} : Left H := { results := [], args := [] }

/- WHAT THE LISTED PACKAGE-LEVEL VARIABLES READ AS WHEN THE CALL BEGINS. Each datum BY PROGRAM (the guide's laid-datum.mjs) off the statement by which the dump's own 'gosem.cut.vars' lays the variable. In a bare row this is a premise. The card (YtfplipbkjglmhaaDoorCards.lean) ties it to the program's text. -/
def laid_oilcake_press_checks {H : Type} : DataW H := .iface "func table" (.agg [.agg [.iface "func" (.lit (.string [111, 105, 108, 99, 97, 107, 101, 47, 112, 114, 101, 115, 115, 46, 99, 104, 101, 99, 107, 115, 36, 49]))], .agg [.iface "func" (.lit (.string [111, 105, 108, 99, 97, 107, 101, 47, 112, 114, 101, 115, 115, 46, 99, 104, 101, 99, 107, 115, 36, 50]))], .agg [.iface "func" (.lit (.string [111, 105, 108, 99, 97, 107, 101, 47, 112, 114, 101, 115, 115, 46, 99, 104, 101, 99, 107, 115, 36, 51]))]])

/-- 'oilcakelaw02.PressWhole': WHATEVER THE INPUT: true; the input reads as it did. -/
def pressWholeSpec : ChangeSpec := { name := "pressWhole", fn := fun _ => fun
  | [d1, d2] => { results := [.lit (.bool true)], args := [d1, d2] }
  | _ => none }
def pressWholeRow : OpenClaim := { program := "ytfplipbkjglmhaadoor", sum := "2c161c940438a5b1542d08bcf3aa62e60374cddc8bd29252cb06cc6d3ed192c6", func := "oilcake/oilcakelaw02.PressWhole", spec := "pressWhole", unfollowed := true, recurses := true, named := ["oilcake/press.checks"], apart := false, laid := [("oilcake/press.checks", laid_oilcake_press_checks)] }
def PressWholeSaid : Prop := pressWholeRow.holds Tryd.pinned (OpenSpec.ofChange pressWholeSpec)

/-- ITS FALSE NEIGHBOUR: 'it returns false'. Refute it at one input. -/
def pressWholeWrong : ChangeSpec := { name := "pressWhole", fn := fun _ => fun
  | [d1, d2] => { results := [.lit (.bool false)], args := [d1, d2] }
  | _ => none }
def PressWholeWrongFalsely : Prop := pressWholeRow.holds Tryd.pinned (OpenSpec.ofChange pressWholeWrong)

/-- 'oilcakelaw02.PressProof': WHATEVER THE INPUT: true; the input reads as it did. -/
def pressProofSpec : ChangeSpec := { name := "pressProof", fn := fun _ => fun
  | [d1, d2, d3] => { results := [.lit (.bool true)], args := [d1, d2, d3] }
  | _ => none }
def pressProofRow : OpenClaim := { program := "ytfplipbkjglmhaadoor", sum := "2c161c940438a5b1542d08bcf3aa62e60374cddc8bd29252cb06cc6d3ed192c6", func := "oilcake/oilcakelaw02.PressProof", spec := "pressProof", unfollowed := true, recurses := true, named := ["oilcake/press.checks"], apart := false, laid := [("oilcake/press.checks", laid_oilcake_press_checks)] }
def PressProofSaid : Prop := pressProofRow.holds Tryd.pinned (OpenSpec.ofChange pressProofSpec)

/-- ITS FALSE NEIGHBOUR: 'it returns false'. Refute it at one input. -/
def pressProofWrong : ChangeSpec := { name := "pressProof", fn := fun _ => fun
  | [d1, d2, d3] => { results := [.lit (.bool false)], args := [d1, d2, d3] }
  | _ => none }
def PressProofWrongFalsely : Prop := pressProofRow.holds Tryd.pinned (OpenSpec.ofChange pressProofWrong)

/-- 'oilcakelaw02.PressGone': WHATEVER THE INPUT: true; the input reads as it did. -/
def pressGoneSpec : ChangeSpec := { name := "pressGone", fn := fun _ => fun
  | [d1, d2, d3] => { results := [.lit (.bool true)], args := [d1, d2, d3] }
  | _ => none }
def pressGoneRow : OpenClaim := { program := "ytfplipbkjglmhaadoor", sum := "2c161c940438a5b1542d08bcf3aa62e60374cddc8bd29252cb06cc6d3ed192c6", func := "oilcake/oilcakelaw02.PressGone", spec := "pressGone", unfollowed := true, recurses := true, named := ["oilcake/press.checks"], apart := false, laid := [("oilcake/press.checks", laid_oilcake_press_checks)] }
def PressGoneSaid : Prop := pressGoneRow.holds Tryd.pinned (OpenSpec.ofChange pressGoneSpec)

/-- ITS FALSE NEIGHBOUR: 'it returns false'. Refute it at one input. -/
def pressGoneWrong : ChangeSpec := { name := "pressGone", fn := fun _ => fun
  | [d1, d2, d3] => { results := [.lit (.bool false)], args := [d1, d2, d3] }
  | _ => none }
def PressGoneWrongFalsely : Prop := pressGoneRow.holds Tryd.pinned (OpenSpec.ofChange pressGoneWrong)

/-- 'oilcakelaw02.PressYield': WHATEVER THE INPUT: true; the input reads as it did. -/
def pressYieldSpec : ChangeSpec := { name := "pressYield", fn := fun _ => fun
  | [d1, d2, d3, d4, d5] => { results := [.lit (.bool true)], args := [d1, d2, d3, d4, d5] }
  | _ => none }
def pressYieldRow : OpenClaim := { program := "ytfplipbkjglmhaadoor", sum := "2c161c940438a5b1542d08bcf3aa62e60374cddc8bd29252cb06cc6d3ed192c6", func := "oilcake/oilcakelaw02.PressYield", spec := "pressYield", unfollowed := true, recurses := true, named := ["oilcake/press.checks"], apart := false, laid := [("oilcake/press.checks", laid_oilcake_press_checks)] }
def PressYieldSaid : Prop := pressYieldRow.holds Tryd.pinned (OpenSpec.ofChange pressYieldSpec)

/-- ITS FALSE NEIGHBOUR: 'it returns false'. Refute it at one input. -/
def pressYieldWrong : ChangeSpec := { name := "pressYield", fn := fun _ => fun
  | [d1, d2, d3, d4, d5] => { results := [.lit (.bool false)], args := [d1, d2, d3, d4, d5] }
  | _ => none }
def PressYieldWrongFalsely : Prop := pressYieldRow.holds Tryd.pinned (OpenSpec.ofChange pressYieldWrong)

/-- 'oilcakelaw02.PressLed': WHATEVER THE INPUT: true; the input reads as it did. -/
def pressLedSpec : ChangeSpec := { name := "pressLed", fn := fun _ => fun
  | [d1, d2, d3] => { results := [.lit (.bool true)], args := [d1, d2, d3] }
  | _ => none }
def pressLedRow : OpenClaim := { program := "ytfplipbkjglmhaadoor", sum := "2c161c940438a5b1542d08bcf3aa62e60374cddc8bd29252cb06cc6d3ed192c6", func := "oilcake/oilcakelaw02.PressLed", spec := "pressLed", unfollowed := true, recurses := true, named := ["oilcake/press.checks"], apart := false, laid := [("oilcake/press.checks", laid_oilcake_press_checks)] }
def PressLedSaid : Prop := pressLedRow.holds Tryd.pinned (OpenSpec.ofChange pressLedSpec)

/-- ITS FALSE NEIGHBOUR: 'it returns false'. Refute it at one input. -/
def pressLedWrong : ChangeSpec := { name := "pressLed", fn := fun _ => fun
  | [d1, d2, d3] => { results := [.lit (.bool false)], args := [d1, d2, d3] }
  | _ => none }
def PressLedWrongFalsely : Prop := pressLedRow.holds Tryd.pinned (OpenSpec.ofChange pressLedWrong)

/-- 'oilcakelaw02.PressFalse': WHATEVER THE INPUT: true; the input reads as it did. -/
def pressFalseSpec : ChangeSpec := { name := "pressFalse", fn := fun _ => fun
  | [d1, d2] => { results := [.lit (.bool true)], args := [d1, d2] }
  | _ => none }
def pressFalseRow : OpenClaim := { program := "ytfplipbkjglmhaadoor", sum := "2c161c940438a5b1542d08bcf3aa62e60374cddc8bd29252cb06cc6d3ed192c6", func := "oilcake/oilcakelaw02.PressFalse", spec := "pressFalse", unfollowed := true, recurses := true, named := ["oilcake/press.checks"], apart := false, laid := [("oilcake/press.checks", laid_oilcake_press_checks)] }
def PressFalseSaid : Prop := pressFalseRow.holds Tryd.pinned (OpenSpec.ofChange pressFalseSpec)

/-- ITS FALSE NEIGHBOUR: 'it returns false'. Refute it at one input. -/
def pressFalseWrong : ChangeSpec := { name := "pressFalse", fn := fun _ => fun
  | [d1, d2] => { results := [.lit (.bool false)], args := [d1, d2] }
  | _ => none }
def PressFalseWrongFalsely : Prop := pressFalseRow.holds Tryd.pinned (OpenSpec.ofChange pressFalseWrong)

/-- 'oilcakelaw02.PressRests': WHATEVER THE INPUT: true; the input reads as it did. -/
def pressRestsSpec : ChangeSpec := { name := "pressRests", fn := fun _ => fun
  | [d1, d2, d3, d4] => { results := [.lit (.bool true)], args := [d1, d2, d3, d4] }
  | _ => none }
def pressRestsRow : OpenClaim := { program := "ytfplipbkjglmhaadoor", sum := "2c161c940438a5b1542d08bcf3aa62e60374cddc8bd29252cb06cc6d3ed192c6", func := "oilcake/oilcakelaw02.PressRests", spec := "pressRests", unfollowed := true, recurses := true, named := ["oilcake/press.checks"], apart := false, laid := [("oilcake/press.checks", laid_oilcake_press_checks)] }
def PressRestsSaid : Prop := pressRestsRow.holds Tryd.pinned (OpenSpec.ofChange pressRestsSpec)

/-- ITS FALSE NEIGHBOUR: 'it returns false'. Refute it at one input. -/
def pressRestsWrong : ChangeSpec := { name := "pressRests", fn := fun _ => fun
  | [d1, d2, d3, d4] => { results := [.lit (.bool false)], args := [d1, d2, d3, d4] }
  | _ => none }
def PressRestsWrongFalsely : Prop := pressRestsRow.holds Tryd.pinned (OpenSpec.ofChange pressRestsWrong)

/-- 'oilcakelaw02.PressTruth': WHATEVER THE INPUT: true; the input reads as it did. -/
def pressTruthSpec : ChangeSpec := { name := "pressTruth", fn := fun _ => fun
  | [d1, d2] => { results := [.lit (.bool true)], args := [d1, d2] }
  | _ => none }
def pressTruthRow : OpenClaim := { program := "ytfplipbkjglmhaadoor", sum := "2c161c940438a5b1542d08bcf3aa62e60374cddc8bd29252cb06cc6d3ed192c6", func := "oilcake/oilcakelaw02.PressTruth", spec := "pressTruth", unfollowed := true, recurses := true, named := ["oilcake/press.checks"], apart := false, laid := [("oilcake/press.checks", laid_oilcake_press_checks)] }
def PressTruthSaid : Prop := pressTruthRow.holds Tryd.pinned (OpenSpec.ofChange pressTruthSpec)

/-- ITS FALSE NEIGHBOUR: 'it returns false'. Refute it at one input. -/
def pressTruthWrong : ChangeSpec := { name := "pressTruth", fn := fun _ => fun
  | [d1, d2] => { results := [.lit (.bool false)], args := [d1, d2] }
  | _ => none }
def PressTruthWrongFalsely : Prop := pressTruthRow.holds Tryd.pinned (OpenSpec.ofChange pressTruthWrong)

/-- 'oilcakelaw02.PressEnds': WHATEVER THE INPUT: true; the input reads as it did. -/
def pressEndsSpec : ChangeSpec := { name := "pressEnds", fn := fun _ => fun
  | [d1, d2, d3] => { results := [.lit (.bool true)], args := [d1, d2, d3] }
  | _ => none }
def pressEndsRow : OpenClaim := { program := "ytfplipbkjglmhaadoor", sum := "2c161c940438a5b1542d08bcf3aa62e60374cddc8bd29252cb06cc6d3ed192c6", func := "oilcake/oilcakelaw02.PressEnds", spec := "pressEnds", inPlace := ["slices.overlaps[oilcake/api.Weighing]"], unfollowed := true, recurses := true, named := ["oilcake/press.checks"], apart := false, laid := [("oilcake/press.checks", laid_oilcake_press_checks)] }
def PressEndsSaid : Prop := pressEndsRow.holds Tryd.pinned (OpenSpec.ofChange pressEndsSpec)

/-- ITS FALSE NEIGHBOUR: 'it returns false'. Refute it at one input. -/
def pressEndsWrong : ChangeSpec := { name := "pressEnds", fn := fun _ => fun
  | [d1, d2, d3] => { results := [.lit (.bool false)], args := [d1, d2, d3] }
  | _ => none }
def PressEndsWrongFalsely : Prop := pressEndsRow.holds Tryd.pinned (OpenSpec.ofChange pressEndsWrong)

/-- 'oilcakelaw02.PressReading': WHATEVER THE INPUT: true; the input reads as it did. -/
def pressReadingSpec : ChangeSpec := { name := "pressReading", fn := fun _ => fun
  | [d1, d2, d3, d4, d5, d6, d7] => { results := [.lit (.bool true)], args := [d1, d2, d3, d4, d5, d6, d7] }
  | _ => none }
def pressReadingRow : OpenClaim := { program := "ytfplipbkjglmhaadoor", sum := "2c161c940438a5b1542d08bcf3aa62e60374cddc8bd29252cb06cc6d3ed192c6", func := "oilcake/oilcakelaw02.PressReading", spec := "pressReading", inPlace := ["slices.overlaps[oilcake/api.Weighing]"], unfollowed := true, recurses := true, named := ["oilcake/press.checks"], apart := false, laid := [("oilcake/press.checks", laid_oilcake_press_checks)] }
def PressReadingSaid : Prop := pressReadingRow.holds Tryd.pinned (OpenSpec.ofChange pressReadingSpec)

/-- ITS FALSE NEIGHBOUR: 'it returns false'. Refute it at one input. -/
def pressReadingWrong : ChangeSpec := { name := "pressReading", fn := fun _ => fun
  | [d1, d2, d3, d4, d5, d6, d7] => { results := [.lit (.bool false)], args := [d1, d2, d3, d4, d5, d6, d7] }
  | _ => none }
def PressReadingWrongFalsely : Prop := pressReadingRow.holds Tryd.pinned (OpenSpec.ofChange pressReadingWrong)

/-- 'oilcakelaw02.PressExamples': WHATEVER THE INPUT: true; the input reads as it did. -/
def pressExamplesSpec : ChangeSpec := { name := "pressExamples", fn := fun _ => fun
  | [] => { results := [.lit (.bool true)], args := [] }
  | _ => none }
def pressExamplesRow : OpenClaim := { program := "ytfplipbkjglmhaadoor", sum := "2c161c940438a5b1542d08bcf3aa62e60374cddc8bd29252cb06cc6d3ed192c6", func := "oilcake/oilcakelaw02.PressExamples", spec := "pressExamples", inPlace := ["slices.overlaps[oilcake/api.Weighing]"], unfollowed := true, recurses := true, named := ["oilcake/press.checks"], apart := false, laid := [("oilcake/press.checks", laid_oilcake_press_checks)] }
def PressExamplesSaid : Prop := pressExamplesRow.holds Tryd.pinned (OpenSpec.ofChange pressExamplesSpec)

/-- ITS FALSE NEIGHBOUR: 'it returns false'. Refute it at one input. -/
def pressExamplesWrong : ChangeSpec := { name := "pressExamples", fn := fun _ => fun
  | [] => { results := [.lit (.bool false)], args := [] }
  | _ => none }
def PressExamplesWrongFalsely : Prop := pressExamplesRow.holds Tryd.pinned (OpenSpec.ofChange pressExamplesWrong)

/- THE SECOND FORM. 'bulk': how many values and letters a reading holds, each counted each time it is reached (what is shared counts as often as it is met; a slice's spare places count too). A statement '..UptoSaid' is the law's where the arguments, and the package variables that the reading takes, are together of bulk at most 1048576: NARROWER than '..Said'. Prove '..Said' where nothing that the law and all that it calls make is longer than what came in: it says more and counts as full. Else prove '..UptoSaid'. A law counts once. -/
mutual
def uptoBulk {H : Type} : DataW H → Nat
  | .lit (.string bytes) => bytes.length + 1
  | .lit _ => 1
  | .nil => 1
  | .ptr d => uptoBulk d + 1
  | .slice elems spare => uptoBulkAll elems + uptoBulkAll spare + 1
  | .agg parts => uptoBulkAll parts + 1
  | .iface _ d => uptoBulk d + 1
  | .map entries => uptoBulkEntries entries + 1
  | .held _ => 1
def uptoBulkAll {H : Type} : List (DataW H) → Nat
  | [] => 0
  | d :: r => uptoBulk d + uptoBulkAll r
def uptoBulkEntries {H : Type} : List (Lit × DataW H) → Nat
  | [] => 0
  | x :: r => uptoBulkEntry x + uptoBulkEntries r
def uptoBulkEntry {H : Type} : Lit × DataW H → Nat
  | (.string bytes, d) => bytes.length + uptoBulk d + 1
  | (_, d) => uptoBulk d + 1
 end
def uptoSmall : (H : Type) → List (DataW H) → Bool := fun _ ds => decide (uptoBulkAll ds ≤ 1048576)
def OpenSpec.upto (s : _root_.Go.ChangeSpec) : _root_.Go.OpenSpec := { _root_.Go.OpenSpec.ofChange s with cond := some uptoSmall }

/-- 'oilcakelaw02.PressWhole', WHERE WHAT IT READS IS OF BULK AT MOST 1048576: true; the input reads as it did. -/
def pressWholeUptoRow : OpenClaim := { program := "ytfplipbkjglmhaadoor", sum := "2c161c940438a5b1542d08bcf3aa62e60374cddc8bd29252cb06cc6d3ed192c6", func := "oilcake/oilcakelaw02.PressWhole", spec := "pressWhole", unfollowed := true, recurses := true, named := ["oilcake/press.checks"], apart := false, laid := [("oilcake/press.checks", laid_oilcake_press_checks)], narrowed := true }
def PressWholeUptoSaid : Prop := pressWholeUptoRow.holds Tryd.pinned (OpenSpec.upto pressWholeSpec)

/-- 'oilcakelaw02.PressProof', WHERE WHAT IT READS IS OF BULK AT MOST 1048576: true; the input reads as it did. -/
def pressProofUptoRow : OpenClaim := { program := "ytfplipbkjglmhaadoor", sum := "2c161c940438a5b1542d08bcf3aa62e60374cddc8bd29252cb06cc6d3ed192c6", func := "oilcake/oilcakelaw02.PressProof", spec := "pressProof", unfollowed := true, recurses := true, named := ["oilcake/press.checks"], apart := false, laid := [("oilcake/press.checks", laid_oilcake_press_checks)], narrowed := true }
def PressProofUptoSaid : Prop := pressProofUptoRow.holds Tryd.pinned (OpenSpec.upto pressProofSpec)

/-- 'oilcakelaw02.PressGone', WHERE WHAT IT READS IS OF BULK AT MOST 1048576: true; the input reads as it did. -/
def pressGoneUptoRow : OpenClaim := { program := "ytfplipbkjglmhaadoor", sum := "2c161c940438a5b1542d08bcf3aa62e60374cddc8bd29252cb06cc6d3ed192c6", func := "oilcake/oilcakelaw02.PressGone", spec := "pressGone", unfollowed := true, recurses := true, named := ["oilcake/press.checks"], apart := false, laid := [("oilcake/press.checks", laid_oilcake_press_checks)], narrowed := true }
def PressGoneUptoSaid : Prop := pressGoneUptoRow.holds Tryd.pinned (OpenSpec.upto pressGoneSpec)

/-- 'oilcakelaw02.PressYield', WHERE WHAT IT READS IS OF BULK AT MOST 1048576: true; the input reads as it did. -/
def pressYieldUptoRow : OpenClaim := { program := "ytfplipbkjglmhaadoor", sum := "2c161c940438a5b1542d08bcf3aa62e60374cddc8bd29252cb06cc6d3ed192c6", func := "oilcake/oilcakelaw02.PressYield", spec := "pressYield", unfollowed := true, recurses := true, named := ["oilcake/press.checks"], apart := false, laid := [("oilcake/press.checks", laid_oilcake_press_checks)], narrowed := true }
def PressYieldUptoSaid : Prop := pressYieldUptoRow.holds Tryd.pinned (OpenSpec.upto pressYieldSpec)

/-- 'oilcakelaw02.PressLed', WHERE WHAT IT READS IS OF BULK AT MOST 1048576: true; the input reads as it did. -/
def pressLedUptoRow : OpenClaim := { program := "ytfplipbkjglmhaadoor", sum := "2c161c940438a5b1542d08bcf3aa62e60374cddc8bd29252cb06cc6d3ed192c6", func := "oilcake/oilcakelaw02.PressLed", spec := "pressLed", unfollowed := true, recurses := true, named := ["oilcake/press.checks"], apart := false, laid := [("oilcake/press.checks", laid_oilcake_press_checks)], narrowed := true }
def PressLedUptoSaid : Prop := pressLedUptoRow.holds Tryd.pinned (OpenSpec.upto pressLedSpec)

/-- 'oilcakelaw02.PressFalse', WHERE WHAT IT READS IS OF BULK AT MOST 1048576: true; the input reads as it did. -/
def pressFalseUptoRow : OpenClaim := { program := "ytfplipbkjglmhaadoor", sum := "2c161c940438a5b1542d08bcf3aa62e60374cddc8bd29252cb06cc6d3ed192c6", func := "oilcake/oilcakelaw02.PressFalse", spec := "pressFalse", unfollowed := true, recurses := true, named := ["oilcake/press.checks"], apart := false, laid := [("oilcake/press.checks", laid_oilcake_press_checks)], narrowed := true }
def PressFalseUptoSaid : Prop := pressFalseUptoRow.holds Tryd.pinned (OpenSpec.upto pressFalseSpec)

/-- 'oilcakelaw02.PressRests', WHERE WHAT IT READS IS OF BULK AT MOST 1048576: true; the input reads as it did. -/
def pressRestsUptoRow : OpenClaim := { program := "ytfplipbkjglmhaadoor", sum := "2c161c940438a5b1542d08bcf3aa62e60374cddc8bd29252cb06cc6d3ed192c6", func := "oilcake/oilcakelaw02.PressRests", spec := "pressRests", unfollowed := true, recurses := true, named := ["oilcake/press.checks"], apart := false, laid := [("oilcake/press.checks", laid_oilcake_press_checks)], narrowed := true }
def PressRestsUptoSaid : Prop := pressRestsUptoRow.holds Tryd.pinned (OpenSpec.upto pressRestsSpec)

/-- 'oilcakelaw02.PressTruth', WHERE WHAT IT READS IS OF BULK AT MOST 1048576: true; the input reads as it did. -/
def pressTruthUptoRow : OpenClaim := { program := "ytfplipbkjglmhaadoor", sum := "2c161c940438a5b1542d08bcf3aa62e60374cddc8bd29252cb06cc6d3ed192c6", func := "oilcake/oilcakelaw02.PressTruth", spec := "pressTruth", unfollowed := true, recurses := true, named := ["oilcake/press.checks"], apart := false, laid := [("oilcake/press.checks", laid_oilcake_press_checks)], narrowed := true }
def PressTruthUptoSaid : Prop := pressTruthUptoRow.holds Tryd.pinned (OpenSpec.upto pressTruthSpec)

/-- 'oilcakelaw02.PressEnds', WHERE WHAT IT READS IS OF BULK AT MOST 1048576: true; the input reads as it did. -/
def pressEndsUptoRow : OpenClaim := { program := "ytfplipbkjglmhaadoor", sum := "2c161c940438a5b1542d08bcf3aa62e60374cddc8bd29252cb06cc6d3ed192c6", func := "oilcake/oilcakelaw02.PressEnds", spec := "pressEnds", inPlace := ["slices.overlaps[oilcake/api.Weighing]"], unfollowed := true, recurses := true, named := ["oilcake/press.checks"], apart := false, laid := [("oilcake/press.checks", laid_oilcake_press_checks)], narrowed := true }
def PressEndsUptoSaid : Prop := pressEndsUptoRow.holds Tryd.pinned (OpenSpec.upto pressEndsSpec)

/-- 'oilcakelaw02.PressReading', WHERE WHAT IT READS IS OF BULK AT MOST 1048576: true; the input reads as it did. -/
def pressReadingUptoRow : OpenClaim := { program := "ytfplipbkjglmhaadoor", sum := "2c161c940438a5b1542d08bcf3aa62e60374cddc8bd29252cb06cc6d3ed192c6", func := "oilcake/oilcakelaw02.PressReading", spec := "pressReading", inPlace := ["slices.overlaps[oilcake/api.Weighing]"], unfollowed := true, recurses := true, named := ["oilcake/press.checks"], apart := false, laid := [("oilcake/press.checks", laid_oilcake_press_checks)], narrowed := true }
def PressReadingUptoSaid : Prop := pressReadingUptoRow.holds Tryd.pinned (OpenSpec.upto pressReadingSpec)

/-- 'oilcakelaw02.PressExamples', WHERE WHAT IT READS IS OF BULK AT MOST 1048576: true; the input reads as it did. -/
def pressExamplesUptoRow : OpenClaim := { program := "ytfplipbkjglmhaadoor", sum := "2c161c940438a5b1542d08bcf3aa62e60374cddc8bd29252cb06cc6d3ed192c6", func := "oilcake/oilcakelaw02.PressExamples", spec := "pressExamples", inPlace := ["slices.overlaps[oilcake/api.Weighing]"], unfollowed := true, recurses := true, named := ["oilcake/press.checks"], apart := false, laid := [("oilcake/press.checks", laid_oilcake_press_checks)], narrowed := true }
def PressExamplesUptoSaid : Prop := pressExamplesUptoRow.holds Tryd.pinned (OpenSpec.upto pressExamplesSpec)

end Rows
end Go.Proofs.YtfplipbkjglmhaaDoor
