/-
  DERIVED. GIVEN WITH THE SEED: THE CARDS: each row of YtlmmjaolmmcklaaDoorRows.lean that lists a variable, with what it lists TIED to the program's text (the seventh form; the later family's looks); each row that meets fmt, with fmt's text TOLD by the authors' own Lean function (tested against real Go, not proved from fmt's source: count such statements apart). THE CARD IS WHAT COUNTS. Prove the row's statement (the work); the ties are given (YtlmmjaolmmcklaaDoorTie.lean); close each card by the builder's one call (the guide's Derived/Test/ToyasCard.lean, 'card_holds'). Laid BY PROGRAM, IN A SANDBOX (cutbox-door.mjs). By AI agents, Wed Nov 11 2026. No macro, syntax, notation, axiom, sorry.
-/
import Derived.Test.YtlmmjaolmmcklaaDoorRows
import GoSem.ClaimSeven
namespace Go.Proofs.YtlmmjaolmmcklaaDoor
namespace Rows

/-- THE TIED CARD OF 'oilcakelaw10.WheelChanges'. -/
def wheelChangesCard : Claim7 := { stood := { row := wheelChangesRow, standIns := [], harness := (true, "41062574eaf6d7676e50ca3522bc924bc3d843144f2a7a6e859e78c74e730f3a"), looks := false }, kinds := [], alts := [], laidByText := true, laidKinds := [.funcs], laidTests := true, laidLooks := .later }
def WheelChangesCardSaid : Prop := Claim7.holds Tryd.pinned (.plain (OpenSpec.ofChange wheelChangesSpec)) wheelChangesCard

/-- THE TIED CARD OF 'oilcakelaw10.WheelShafts'. -/
def wheelShaftsCard : Claim7 := { stood := { row := wheelShaftsRow, standIns := [], harness := (true, "41062574eaf6d7676e50ca3522bc924bc3d843144f2a7a6e859e78c74e730f3a"), looks := false }, kinds := [], alts := [], laidByText := true, laidKinds := [.funcs], laidTests := true, laidLooks := .later }
def WheelShaftsCardSaid : Prop := Claim7.holds Tryd.pinned (.plain (OpenSpec.ofChange wheelShaftsSpec)) wheelShaftsCard

/-- THE SECOND FORM's CARD OF 'oilcakelaw10.WheelChanges'. -/
def wheelChangesUptoCard : Claim7 := { stood := { row := wheelChangesUptoRow, standIns := [], harness := (true, "41062574eaf6d7676e50ca3522bc924bc3d843144f2a7a6e859e78c74e730f3a"), looks := false }, kinds := [], alts := [], laidByText := true, laidKinds := [.funcs], laidTests := true, laidLooks := .later }
def WheelChangesUptoCardSaid : Prop := Claim7.holds Tryd.pinned (.plain (OpenSpec.upto wheelChangesSpec)) wheelChangesUptoCard

/-- THE SECOND FORM's CARD OF 'oilcakelaw10.WheelShafts'. -/
def wheelShaftsUptoCard : Claim7 := { stood := { row := wheelShaftsUptoRow, standIns := [], harness := (true, "41062574eaf6d7676e50ca3522bc924bc3d843144f2a7a6e859e78c74e730f3a"), looks := false }, kinds := [], alts := [], laidByText := true, laidKinds := [.funcs], laidTests := true, laidLooks := .later }
def WheelShaftsUptoCardSaid : Prop := Claim7.holds Tryd.pinned (.plain (OpenSpec.upto wheelShaftsSpec)) wheelShaftsUptoCard
end Rows
end Go.Proofs.YtlmmjaolmmcklaaDoor
