/-
  NARROWER THAN 'FOR EVERY INPUT', by the rows' own cells (each row's printed sentence says how): PressFirst: laid · PressTells: laid · PressYields: laid · PressNotes: laid · PressChanges: laid · PressSums: laid.
  DERIVED. THE GIVEN ROWS OF THIS SEAT. 6 by the template 'for every input the law returns true; each argument reads behind the call as it read before'; 0 by the template 'total and deterministic' (their statements: YtoakeclpakjbiaaDoorTotals.lean).
  GIVEN WITH THE SEED: the statements are not yours to turn. If you find one false, say at which input.
  Laid BY PROGRAM, IN A SANDBOX (cutbox-rows.mjs): the forced cells as the released guide's own fill.sh prints them over the translation 2a6ecac1c30b6ac2… (all of the seat's roots in one cut). By AI agents, Wed Nov 11 2026. No macro, syntax, notation, axiom, sorry.
-/
import Derived.Test.YtoakeclpakjbiaaDoorChecked
import GoSem.Claim
import GoSem.ClaimJoined
import GoSem.ClaimMapViews
import Derived.JoinedTies
import Derived.KernelRfl
namespace Go.Proofs.YtoakeclpakjbiaaDoor
/- THE CELL 'sum', in the pinned program and in every row, IS THE sha256 OF THE DUMP (.gsa) THAT YtoakeclpakjbiaaDoorProg.lean LOADS. Nothing in Lean hashes anything: it is a label: what it is worth is what the hold of that sum in a sandbox is worth. -/
noncomputable def Tryd.pinned : Pinned := { name := "ytoakeclpakjbiaadoor", sum := "2a6ecac1c30b6ac21c31c05a847168faa4a0d79998cfaae744911acacebfedd7", checked := Tryd.checked }
namespace Rows
def none {H : Type} : Left H := { results := [], args := [] }

/- WHAT THE LISTED PACKAGE-LEVEL VARIABLES READ AS WHEN THE CALL BEGINS. Each datum BY PROGRAM (the guide's laid-datum.mjs) off the statement by which the dump's own 'gosem.cut.vars' lays the variable. In a bare row this is a premise. The card (YtoakeclpakjbiaaDoorCards.lean) ties it to the program's text. -/
def laid_oilcake_press_checks {H : Type} : DataW H := .iface "func table" (.agg [.agg [.iface "func" (.lit (.string [111, 105, 108, 99, 97, 107, 101, 47, 112, 114, 101, 115, 115, 46, 99, 104, 101, 99, 107, 115, 36, 49]))], .agg [.iface "func" (.lit (.string [111, 105, 108, 99, 97, 107, 101, 47, 112, 114, 101, 115, 115, 46, 99, 104, 101, 99, 107, 115, 36, 50]))], .agg [.iface "func" (.lit (.string [111, 105, 108, 99, 97, 107, 101, 47, 112, 114, 101, 115, 115, 46, 99, 104, 101, 99, 107, 115, 36, 51]))]])

/-- 'oilcakelaw02.PressFirst': WHATEVER THE INPUT: true; the input reads as it did. -/
def pressFirstSpec : ChangeSpec := { name := "pressFirst", fn := fun _ => fun
  | [d1, d2] => { results := [.lit (.bool true)], args := [d1, d2] }
  | _ => none }
def pressFirstRow : OpenClaim := { program := "ytoakeclpakjbiaadoor", sum := "2a6ecac1c30b6ac21c31c05a847168faa4a0d79998cfaae744911acacebfedd7", func := "oilcake/oilcakelaw02.PressFirst", spec := "pressFirst", unfollowed := true, recurses := true, named := ["oilcake/press.checks"], apart := false, laid := [("oilcake/press.checks", laid_oilcake_press_checks)] }
def PressFirstSaid : Prop := pressFirstRow.holds Tryd.pinned (OpenSpec.ofChange pressFirstSpec)

/-- ITS FALSE NEIGHBOUR: 'it returns false'. Refute it at one input. -/
def pressFirstWrong : ChangeSpec := { name := "pressFirst", fn := fun _ => fun
  | [d1, d2] => { results := [.lit (.bool false)], args := [d1, d2] }
  | _ => none }
def PressFirstWrongFalsely : Prop := pressFirstRow.holds Tryd.pinned (OpenSpec.ofChange pressFirstWrong)

/-- 'oilcakelaw02.PressTells': WHATEVER THE INPUT: true; the input reads as it did. -/
def pressTellsSpec : ChangeSpec := { name := "pressTells", fn := fun _ => fun
  | [d1, d2, d3] => { results := [.lit (.bool true)], args := [d1, d2, d3] }
  | _ => none }
def pressTellsRow : OpenClaim := { program := "ytoakeclpakjbiaadoor", sum := "2a6ecac1c30b6ac21c31c05a847168faa4a0d79998cfaae744911acacebfedd7", func := "oilcake/oilcakelaw02.PressTells", spec := "pressTells", unfollowed := true, recurses := true, named := ["oilcake/press.checks"], apart := false, laid := [("oilcake/press.checks", laid_oilcake_press_checks)] }
def PressTellsSaid : Prop := pressTellsRow.holds Tryd.pinned (OpenSpec.ofChange pressTellsSpec)

/-- ITS FALSE NEIGHBOUR: 'it returns false'. Refute it at one input. -/
def pressTellsWrong : ChangeSpec := { name := "pressTells", fn := fun _ => fun
  | [d1, d2, d3] => { results := [.lit (.bool false)], args := [d1, d2, d3] }
  | _ => none }
def PressTellsWrongFalsely : Prop := pressTellsRow.holds Tryd.pinned (OpenSpec.ofChange pressTellsWrong)

/-- 'oilcakelaw02.PressYields': WHATEVER THE INPUT: true; the input reads as it did. -/
def pressYieldsSpec : ChangeSpec := { name := "pressYields", fn := fun _ => fun
  | [d1, d2, d3] => { results := [.lit (.bool true)], args := [d1, d2, d3] }
  | _ => none }
def pressYieldsRow : OpenClaim := { program := "ytoakeclpakjbiaadoor", sum := "2a6ecac1c30b6ac21c31c05a847168faa4a0d79998cfaae744911acacebfedd7", func := "oilcake/oilcakelaw02.PressYields", spec := "pressYields", unfollowed := true, recurses := true, named := ["oilcake/press.checks"], apart := false, laid := [("oilcake/press.checks", laid_oilcake_press_checks)] }
def PressYieldsSaid : Prop := pressYieldsRow.holds Tryd.pinned (OpenSpec.ofChange pressYieldsSpec)

/-- ITS FALSE NEIGHBOUR: 'it returns false'. Refute it at one input. -/
def pressYieldsWrong : ChangeSpec := { name := "pressYields", fn := fun _ => fun
  | [d1, d2, d3] => { results := [.lit (.bool false)], args := [d1, d2, d3] }
  | _ => none }
def PressYieldsWrongFalsely : Prop := pressYieldsRow.holds Tryd.pinned (OpenSpec.ofChange pressYieldsWrong)

/-- 'oilcakelaw02.PressNotes': WHATEVER THE INPUT: true; the input reads as it did. -/
def pressNotesSpec : ChangeSpec := { name := "pressNotes", fn := fun _ => fun
  | [d1, d2, d3] => { results := [.lit (.bool true)], args := [d1, d2, d3] }
  | _ => none }
def pressNotesRow : OpenClaim := { program := "ytoakeclpakjbiaadoor", sum := "2a6ecac1c30b6ac21c31c05a847168faa4a0d79998cfaae744911acacebfedd7", func := "oilcake/oilcakelaw02.PressNotes", spec := "pressNotes", unfollowed := true, recurses := true, named := ["oilcake/press.checks"], apart := false, laid := [("oilcake/press.checks", laid_oilcake_press_checks)] }
def PressNotesSaid : Prop := pressNotesRow.holds Tryd.pinned (OpenSpec.ofChange pressNotesSpec)

/-- ITS FALSE NEIGHBOUR: 'it returns false'. Refute it at one input. -/
def pressNotesWrong : ChangeSpec := { name := "pressNotes", fn := fun _ => fun
  | [d1, d2, d3] => { results := [.lit (.bool false)], args := [d1, d2, d3] }
  | _ => none }
def PressNotesWrongFalsely : Prop := pressNotesRow.holds Tryd.pinned (OpenSpec.ofChange pressNotesWrong)

/-- 'oilcakelaw02.PressChanges': WHATEVER THE INPUT: true; the input reads as it did. -/
def pressChangesSpec : ChangeSpec := { name := "pressChanges", fn := fun _ => fun
  | [d1, d2, d3, d4, d5] => { results := [.lit (.bool true)], args := [d1, d2, d3, d4, d5] }
  | _ => none }
def pressChangesRow : OpenClaim := { program := "ytoakeclpakjbiaadoor", sum := "2a6ecac1c30b6ac21c31c05a847168faa4a0d79998cfaae744911acacebfedd7", func := "oilcake/oilcakelaw02.PressChanges", spec := "pressChanges", inPlace := ["slices.overlaps[oilcake/api.Weighing]"], unfollowed := true, recurses := true, named := ["oilcake/press.checks"], apart := false, laid := [("oilcake/press.checks", laid_oilcake_press_checks)] }
def PressChangesSaid : Prop := pressChangesRow.holds Tryd.pinned (OpenSpec.ofChange pressChangesSpec)

/-- ITS FALSE NEIGHBOUR: 'it returns false'. Refute it at one input. -/
def pressChangesWrong : ChangeSpec := { name := "pressChanges", fn := fun _ => fun
  | [d1, d2, d3, d4, d5] => { results := [.lit (.bool false)], args := [d1, d2, d3, d4, d5] }
  | _ => none }
def PressChangesWrongFalsely : Prop := pressChangesRow.holds Tryd.pinned (OpenSpec.ofChange pressChangesWrong)

/-- 'oilcakelaw02.PressSums': WHATEVER THE INPUT: true; the input reads as it did. -/
def pressSumsSpec : ChangeSpec := { name := "pressSums", fn := fun _ => fun
  | [d1, d2] => { results := [.lit (.bool true)], args := [d1, d2] }
  | _ => none }
def pressSumsRow : OpenClaim := { program := "ytoakeclpakjbiaadoor", sum := "2a6ecac1c30b6ac21c31c05a847168faa4a0d79998cfaae744911acacebfedd7", func := "oilcake/oilcakelaw02.PressSums", spec := "pressSums", unfollowed := true, recurses := true, named := ["oilcake/press.checks"], apart := false, laid := [("oilcake/press.checks", laid_oilcake_press_checks)] }
def PressSumsSaid : Prop := pressSumsRow.holds Tryd.pinned (OpenSpec.ofChange pressSumsSpec)

/-- ITS FALSE NEIGHBOUR: 'it returns false'. Refute it at one input. -/
def pressSumsWrong : ChangeSpec := { name := "pressSums", fn := fun _ => fun
  | [d1, d2] => { results := [.lit (.bool false)], args := [d1, d2] }
  | _ => none }
def PressSumsWrongFalsely : Prop := pressSumsRow.holds Tryd.pinned (OpenSpec.ofChange pressSumsWrong)

/- THE SECOND FORM. 'bulk': how many values and letters a reading holds, each counted each time it is reached (what is shared counts as often as it is met; a slice's spare places count too). A statement '..UptoSaid' is the law's where the arguments, and the package variables that the reading takes, are together of bulk at most 1048576: NARROWER than '..Said'. Prove '..Said' where nothing that the law and all that it calls make is longer than what came in: it says more and counts as full. Else prove '..UptoSaid'. A law counts once. -/
mutual
def uptoBulk {H : Type} : DataW H → Nat
  | .lit (.string bytes) => bytes.length + 1
  | .lit _ => 1
  | .nil => 1
  | .ptr d => uptoBulk d + 1
  | .slice elems spare => uptoBulkAll elems + uptoBulkAll spare + 1
  | .agg parts => uptoBulkAll parts + 1
  | .iface _ d => uptoBulk d + 1
  | .map entries => uptoBulkEntries entries + 1
  | .held _ => 1
def uptoBulkAll {H : Type} : List (DataW H) → Nat
  | [] => 0
  | d :: r => uptoBulk d + uptoBulkAll r
def uptoBulkEntries {H : Type} : List (Lit × DataW H) → Nat
  | [] => 0
  | x :: r => uptoBulkEntry x + uptoBulkEntries r
def uptoBulkEntry {H : Type} : Lit × DataW H → Nat
  | (.string bytes, d) => bytes.length + uptoBulk d + 1
  | (_, d) => uptoBulk d + 1
 end
def uptoSmall : (H : Type) → List (DataW H) → Bool := fun _ ds => decide (uptoBulkAll ds ≤ 1048576)
def OpenSpec.upto (s : _root_.Go.ChangeSpec) : _root_.Go.OpenSpec := { _root_.Go.OpenSpec.ofChange s with cond := some uptoSmall }

/-- 'oilcakelaw02.PressFirst', WHERE WHAT IT READS IS OF BULK AT MOST 1048576: true; the input reads as it did. -/
def pressFirstUptoRow : OpenClaim := { program := "ytoakeclpakjbiaadoor", sum := "2a6ecac1c30b6ac21c31c05a847168faa4a0d79998cfaae744911acacebfedd7", func := "oilcake/oilcakelaw02.PressFirst", spec := "pressFirst", unfollowed := true, recurses := true, named := ["oilcake/press.checks"], apart := false, laid := [("oilcake/press.checks", laid_oilcake_press_checks)], narrowed := true }
def PressFirstUptoSaid : Prop := pressFirstUptoRow.holds Tryd.pinned (OpenSpec.upto pressFirstSpec)

/-- 'oilcakelaw02.PressTells', WHERE WHAT IT READS IS OF BULK AT MOST 1048576: true; the input reads as it did. -/
def pressTellsUptoRow : OpenClaim := { program := "ytoakeclpakjbiaadoor", sum := "2a6ecac1c30b6ac21c31c05a847168faa4a0d79998cfaae744911acacebfedd7", func := "oilcake/oilcakelaw02.PressTells", spec := "pressTells", unfollowed := true, recurses := true, named := ["oilcake/press.checks"], apart := false, laid := [("oilcake/press.checks", laid_oilcake_press_checks)], narrowed := true }
def PressTellsUptoSaid : Prop := pressTellsUptoRow.holds Tryd.pinned (OpenSpec.upto pressTellsSpec)

/-- 'oilcakelaw02.PressYields', WHERE WHAT IT READS IS OF BULK AT MOST 1048576: true; the input reads as it did. -/
def pressYieldsUptoRow : OpenClaim := { program := "ytoakeclpakjbiaadoor", sum := "2a6ecac1c30b6ac21c31c05a847168faa4a0d79998cfaae744911acacebfedd7", func := "oilcake/oilcakelaw02.PressYields", spec := "pressYields", unfollowed := true, recurses := true, named := ["oilcake/press.checks"], apart := false, laid := [("oilcake/press.checks", laid_oilcake_press_checks)], narrowed := true }
def PressYieldsUptoSaid : Prop := pressYieldsUptoRow.holds Tryd.pinned (OpenSpec.upto pressYieldsSpec)

/-- 'oilcakelaw02.PressNotes', WHERE WHAT IT READS IS OF BULK AT MOST 1048576: true; the input reads as it did. -/
def pressNotesUptoRow : OpenClaim := { program := "ytoakeclpakjbiaadoor", sum := "2a6ecac1c30b6ac21c31c05a847168faa4a0d79998cfaae744911acacebfedd7", func := "oilcake/oilcakelaw02.PressNotes", spec := "pressNotes", unfollowed := true, recurses := true, named := ["oilcake/press.checks"], apart := false, laid := [("oilcake/press.checks", laid_oilcake_press_checks)], narrowed := true }
def PressNotesUptoSaid : Prop := pressNotesUptoRow.holds Tryd.pinned (OpenSpec.upto pressNotesSpec)

/-- 'oilcakelaw02.PressChanges', WHERE WHAT IT READS IS OF BULK AT MOST 1048576: true; the input reads as it did. -/
def pressChangesUptoRow : OpenClaim := { program := "ytoakeclpakjbiaadoor", sum := "2a6ecac1c30b6ac21c31c05a847168faa4a0d79998cfaae744911acacebfedd7", func := "oilcake/oilcakelaw02.PressChanges", spec := "pressChanges", inPlace := ["slices.overlaps[oilcake/api.Weighing]"], unfollowed := true, recurses := true, named := ["oilcake/press.checks"], apart := false, laid := [("oilcake/press.checks", laid_oilcake_press_checks)], narrowed := true }
def PressChangesUptoSaid : Prop := pressChangesUptoRow.holds Tryd.pinned (OpenSpec.upto pressChangesSpec)

/-- 'oilcakelaw02.PressSums', WHERE WHAT IT READS IS OF BULK AT MOST 1048576: true; the input reads as it did. -/
def pressSumsUptoRow : OpenClaim := { program := "ytoakeclpakjbiaadoor", sum := "2a6ecac1c30b6ac21c31c05a847168faa4a0d79998cfaae744911acacebfedd7", func := "oilcake/oilcakelaw02.PressSums", spec := "pressSums", unfollowed := true, recurses := true, named := ["oilcake/press.checks"], apart := false, laid := [("oilcake/press.checks", laid_oilcake_press_checks)], narrowed := true }
def PressSumsUptoSaid : Prop := pressSumsUptoRow.holds Tryd.pinned (OpenSpec.upto pressSumsSpec)

end Rows
end Go.Proofs.YtoakeclpakjbiaaDoor
