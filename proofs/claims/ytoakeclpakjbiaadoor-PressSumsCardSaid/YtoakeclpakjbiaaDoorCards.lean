/-
  DERIVED. GIVEN WITH THE SEED: THE CARDS: each row of YtoakeclpakjbiaaDoorRows.lean that lists a variable, with what it lists TIED to the program's text (the seventh form; the later family's looks); each row that meets fmt, with fmt's text TOLD by the authors' own Lean function (tested against real Go, not proved from fmt's source: count such statements apart). THE CARD IS WHAT COUNTS. Prove the row's statement (the work); the ties are given (YtoakeclpakjbiaaDoorTie.lean); close each card by the builder's one call (the guide's Derived/Test/ToyasCard.lean, 'card_holds'). Laid BY PROGRAM, IN A SANDBOX (cutbox-door.mjs). By AI agents, Wed Nov 11 2026. No macro, syntax, notation, axiom, sorry.
-/
import Derived.Test.YtoakeclpakjbiaaDoorRows
import GoSem.ClaimSeven
namespace Go.Proofs.YtoakeclpakjbiaaDoor
namespace Rows

/-- THE TIED CARD OF 'oilcakelaw02.PressFirst'. -/
def pressFirstCard : Claim7 := { stood := { row := pressFirstRow, standIns := [], harness := (true, "0b31f141b72e65f31c3cceb1081272df0690a7f2ec44cdc5233557f6ea6fdf11"), looks := false }, kinds := [], alts := [], laidByText := true, laidKinds := [.funcs], laidTests := true, laidLooks := .later }
def PressFirstCardSaid : Prop := Claim7.holds Tryd.pinned (.plain (OpenSpec.ofChange pressFirstSpec)) pressFirstCard

/-- THE TIED CARD OF 'oilcakelaw02.PressTells'. -/
def pressTellsCard : Claim7 := { stood := { row := pressTellsRow, standIns := [], harness := (true, "0b31f141b72e65f31c3cceb1081272df0690a7f2ec44cdc5233557f6ea6fdf11"), looks := false }, kinds := [], alts := [], laidByText := true, laidKinds := [.funcs], laidTests := true, laidLooks := .later }
def PressTellsCardSaid : Prop := Claim7.holds Tryd.pinned (.plain (OpenSpec.ofChange pressTellsSpec)) pressTellsCard

/-- THE TIED CARD OF 'oilcakelaw02.PressYields'. -/
def pressYieldsCard : Claim7 := { stood := { row := pressYieldsRow, standIns := [], harness := (true, "0b31f141b72e65f31c3cceb1081272df0690a7f2ec44cdc5233557f6ea6fdf11"), looks := false }, kinds := [], alts := [], laidByText := true, laidKinds := [.funcs], laidTests := true, laidLooks := .later }
def PressYieldsCardSaid : Prop := Claim7.holds Tryd.pinned (.plain (OpenSpec.ofChange pressYieldsSpec)) pressYieldsCard

/-- THE TIED CARD OF 'oilcakelaw02.PressNotes'. -/
def pressNotesCard : Claim7 := { stood := { row := pressNotesRow, standIns := [], harness := (true, "0b31f141b72e65f31c3cceb1081272df0690a7f2ec44cdc5233557f6ea6fdf11"), looks := false }, kinds := [], alts := [], laidByText := true, laidKinds := [.funcs], laidTests := true, laidLooks := .later }
def PressNotesCardSaid : Prop := Claim7.holds Tryd.pinned (.plain (OpenSpec.ofChange pressNotesSpec)) pressNotesCard

/-- THE TIED CARD OF 'oilcakelaw02.PressChanges'. -/
def pressChangesCard : Claim7 := { stood := { row := pressChangesRow, standIns := [], harness := (true, "0b31f141b72e65f31c3cceb1081272df0690a7f2ec44cdc5233557f6ea6fdf11"), looks := false }, kinds := [], alts := [], laidByText := true, laidKinds := [.funcs], laidTests := true, laidLooks := .later }
def PressChangesCardSaid : Prop := Claim7.holds Tryd.pinned (.plain (OpenSpec.ofChange pressChangesSpec)) pressChangesCard

/-- THE TIED CARD OF 'oilcakelaw02.PressSums'. -/
def pressSumsCard : Claim7 := { stood := { row := pressSumsRow, standIns := [], harness := (true, "0b31f141b72e65f31c3cceb1081272df0690a7f2ec44cdc5233557f6ea6fdf11"), looks := false }, kinds := [], alts := [], laidByText := true, laidKinds := [.funcs], laidTests := true, laidLooks := .later }
def PressSumsCardSaid : Prop := Claim7.holds Tryd.pinned (.plain (OpenSpec.ofChange pressSumsSpec)) pressSumsCard

/-- THE SECOND FORM's CARD OF 'oilcakelaw02.PressFirst'. -/
def pressFirstUptoCard : Claim7 := { stood := { row := pressFirstUptoRow, standIns := [], harness := (true, "0b31f141b72e65f31c3cceb1081272df0690a7f2ec44cdc5233557f6ea6fdf11"), looks := false }, kinds := [], alts := [], laidByText := true, laidKinds := [.funcs], laidTests := true, laidLooks := .later }
def PressFirstUptoCardSaid : Prop := Claim7.holds Tryd.pinned (.plain (OpenSpec.upto pressFirstSpec)) pressFirstUptoCard

/-- THE SECOND FORM's CARD OF 'oilcakelaw02.PressTells'. -/
def pressTellsUptoCard : Claim7 := { stood := { row := pressTellsUptoRow, standIns := [], harness := (true, "0b31f141b72e65f31c3cceb1081272df0690a7f2ec44cdc5233557f6ea6fdf11"), looks := false }, kinds := [], alts := [], laidByText := true, laidKinds := [.funcs], laidTests := true, laidLooks := .later }
def PressTellsUptoCardSaid : Prop := Claim7.holds Tryd.pinned (.plain (OpenSpec.upto pressTellsSpec)) pressTellsUptoCard

/-- THE SECOND FORM's CARD OF 'oilcakelaw02.PressYields'. -/
def pressYieldsUptoCard : Claim7 := { stood := { row := pressYieldsUptoRow, standIns := [], harness := (true, "0b31f141b72e65f31c3cceb1081272df0690a7f2ec44cdc5233557f6ea6fdf11"), looks := false }, kinds := [], alts := [], laidByText := true, laidKinds := [.funcs], laidTests := true, laidLooks := .later }
def PressYieldsUptoCardSaid : Prop := Claim7.holds Tryd.pinned (.plain (OpenSpec.upto pressYieldsSpec)) pressYieldsUptoCard

/-- THE SECOND FORM's CARD OF 'oilcakelaw02.PressNotes'. -/
def pressNotesUptoCard : Claim7 := { stood := { row := pressNotesUptoRow, standIns := [], harness := (true, "0b31f141b72e65f31c3cceb1081272df0690a7f2ec44cdc5233557f6ea6fdf11"), looks := false }, kinds := [], alts := [], laidByText := true, laidKinds := [.funcs], laidTests := true, laidLooks := .later }
def PressNotesUptoCardSaid : Prop := Claim7.holds Tryd.pinned (.plain (OpenSpec.upto pressNotesSpec)) pressNotesUptoCard

/-- THE SECOND FORM's CARD OF 'oilcakelaw02.PressChanges'. -/
def pressChangesUptoCard : Claim7 := { stood := { row := pressChangesUptoRow, standIns := [], harness := (true, "0b31f141b72e65f31c3cceb1081272df0690a7f2ec44cdc5233557f6ea6fdf11"), looks := false }, kinds := [], alts := [], laidByText := true, laidKinds := [.funcs], laidTests := true, laidLooks := .later }
def PressChangesUptoCardSaid : Prop := Claim7.holds Tryd.pinned (.plain (OpenSpec.upto pressChangesSpec)) pressChangesUptoCard

/-- THE SECOND FORM's CARD OF 'oilcakelaw02.PressSums'. -/
def pressSumsUptoCard : Claim7 := { stood := { row := pressSumsUptoRow, standIns := [], harness := (true, "0b31f141b72e65f31c3cceb1081272df0690a7f2ec44cdc5233557f6ea6fdf11"), looks := false }, kinds := [], alts := [], laidByText := true, laidKinds := [.funcs], laidTests := true, laidLooks := .later }
def PressSumsUptoCardSaid : Prop := Claim7.holds Tryd.pinned (.plain (OpenSpec.upto pressSumsSpec)) pressSumsUptoCard
end Rows
end Go.Proofs.YtoakeclpakjbiaaDoor
