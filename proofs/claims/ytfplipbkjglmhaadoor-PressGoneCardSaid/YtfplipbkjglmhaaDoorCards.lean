/-
  DERIVED. GIVEN WITH THE SEED: THE CARDS: each row of YtfplipbkjglmhaaDoorRows.lean that lists a variable, with what it lists TIED to the program's text (the seventh form; the later family's looks); each row that meets fmt, with fmt's text TOLD by the authors' own Lean function (tested against real Go, not proved from fmt's source: count such statements apart). THE CARD IS WHAT COUNTS. Prove the row's statement (the work); the ties are given (YtfplipbkjglmhaaDoorTie.lean); close each card by the builder's one call (the guide's Derived/Test/ToyasCard.lean, 'card_holds'). Laid BY PROGRAM, IN A SANDBOX (cutbox-door.mjs). By AI agents, Wed Nov 11 2026. No macro, syntax, notation, axiom, sorry.
-/
import Derived.Test.YtfplipbkjglmhaaDoorRows
import GoSem.ClaimSeven
namespace Go.Proofs.YtfplipbkjglmhaaDoor
namespace Rows

/-- THE TIED CARD OF 'oilcakelaw02.PressWhole'. -/
def pressWholeCard : Claim7 := { stood := { row := pressWholeRow, standIns := [], harness := (true, "3cbcdd9f0d995b805788fb1a66c61468378cabb8fb1e0a1aebf8d521baf47642"), looks := false }, kinds := [], alts := [], laidByText := true, laidKinds := [.funcs], laidTests := true, laidLooks := .later }
def PressWholeCardSaid : Prop := Claim7.holds Tryd.pinned (.plain (OpenSpec.ofChange pressWholeSpec)) pressWholeCard

/-- THE TIED CARD OF 'oilcakelaw02.PressProof'. -/
def pressProofCard : Claim7 := { stood := { row := pressProofRow, standIns := [], harness := (true, "3cbcdd9f0d995b805788fb1a66c61468378cabb8fb1e0a1aebf8d521baf47642"), looks := false }, kinds := [], alts := [], laidByText := true, laidKinds := [.funcs], laidTests := true, laidLooks := .later }
def PressProofCardSaid : Prop := Claim7.holds Tryd.pinned (.plain (OpenSpec.ofChange pressProofSpec)) pressProofCard

/-- THE TIED CARD OF 'oilcakelaw02.PressGone'. -/
def pressGoneCard : Claim7 := { stood := { row := pressGoneRow, standIns := [], harness := (true, "3cbcdd9f0d995b805788fb1a66c61468378cabb8fb1e0a1aebf8d521baf47642"), looks := false }, kinds := [], alts := [], laidByText := true, laidKinds := [.funcs], laidTests := true, laidLooks := .later }
def PressGoneCardSaid : Prop := Claim7.holds Tryd.pinned (.plain (OpenSpec.ofChange pressGoneSpec)) pressGoneCard

/-- THE TIED CARD OF 'oilcakelaw02.PressYield'. -/
def pressYieldCard : Claim7 := { stood := { row := pressYieldRow, standIns := [], harness := (true, "3cbcdd9f0d995b805788fb1a66c61468378cabb8fb1e0a1aebf8d521baf47642"), looks := false }, kinds := [], alts := [], laidByText := true, laidKinds := [.funcs], laidTests := true, laidLooks := .later }
def PressYieldCardSaid : Prop := Claim7.holds Tryd.pinned (.plain (OpenSpec.ofChange pressYieldSpec)) pressYieldCard

/-- THE TIED CARD OF 'oilcakelaw02.PressLed'. -/
def pressLedCard : Claim7 := { stood := { row := pressLedRow, standIns := [], harness := (true, "3cbcdd9f0d995b805788fb1a66c61468378cabb8fb1e0a1aebf8d521baf47642"), looks := false }, kinds := [], alts := [], laidByText := true, laidKinds := [.funcs], laidTests := true, laidLooks := .later }
def PressLedCardSaid : Prop := Claim7.holds Tryd.pinned (.plain (OpenSpec.ofChange pressLedSpec)) pressLedCard

/-- THE TIED CARD OF 'oilcakelaw02.PressFalse'. -/
def pressFalseCard : Claim7 := { stood := { row := pressFalseRow, standIns := [], harness := (true, "3cbcdd9f0d995b805788fb1a66c61468378cabb8fb1e0a1aebf8d521baf47642"), looks := false }, kinds := [], alts := [], laidByText := true, laidKinds := [.funcs], laidTests := true, laidLooks := .later }
def PressFalseCardSaid : Prop := Claim7.holds Tryd.pinned (.plain (OpenSpec.ofChange pressFalseSpec)) pressFalseCard

/-- THE TIED CARD OF 'oilcakelaw02.PressRests'. -/
def pressRestsCard : Claim7 := { stood := { row := pressRestsRow, standIns := [], harness := (true, "3cbcdd9f0d995b805788fb1a66c61468378cabb8fb1e0a1aebf8d521baf47642"), looks := false }, kinds := [], alts := [], laidByText := true, laidKinds := [.funcs], laidTests := true, laidLooks := .later }
def PressRestsCardSaid : Prop := Claim7.holds Tryd.pinned (.plain (OpenSpec.ofChange pressRestsSpec)) pressRestsCard

/-- THE TIED CARD OF 'oilcakelaw02.PressTruth'. -/
def pressTruthCard : Claim7 := { stood := { row := pressTruthRow, standIns := [], harness := (true, "3cbcdd9f0d995b805788fb1a66c61468378cabb8fb1e0a1aebf8d521baf47642"), looks := false }, kinds := [], alts := [], laidByText := true, laidKinds := [.funcs], laidTests := true, laidLooks := .later }
def PressTruthCardSaid : Prop := Claim7.holds Tryd.pinned (.plain (OpenSpec.ofChange pressTruthSpec)) pressTruthCard

/-- THE TIED CARD OF 'oilcakelaw02.PressEnds'. -/
def pressEndsCard : Claim7 := { stood := { row := pressEndsRow, standIns := [], harness := (true, "3cbcdd9f0d995b805788fb1a66c61468378cabb8fb1e0a1aebf8d521baf47642"), looks := false }, kinds := [], alts := [], laidByText := true, laidKinds := [.funcs], laidTests := true, laidLooks := .later }
def PressEndsCardSaid : Prop := Claim7.holds Tryd.pinned (.plain (OpenSpec.ofChange pressEndsSpec)) pressEndsCard

/-- THE TIED CARD OF 'oilcakelaw02.PressReading'. -/
def pressReadingCard : Claim7 := { stood := { row := pressReadingRow, standIns := [], harness := (true, "3cbcdd9f0d995b805788fb1a66c61468378cabb8fb1e0a1aebf8d521baf47642"), looks := false }, kinds := [], alts := [], laidByText := true, laidKinds := [.funcs], laidTests := true, laidLooks := .later }
def PressReadingCardSaid : Prop := Claim7.holds Tryd.pinned (.plain (OpenSpec.ofChange pressReadingSpec)) pressReadingCard

/-- THE TIED CARD OF 'oilcakelaw02.PressExamples'. -/
def pressExamplesCard : Claim7 := { stood := { row := pressExamplesRow, standIns := [], harness := (true, "3cbcdd9f0d995b805788fb1a66c61468378cabb8fb1e0a1aebf8d521baf47642"), looks := false }, kinds := [], alts := [], laidByText := true, laidKinds := [.funcs], laidTests := true, laidLooks := .later }
def PressExamplesCardSaid : Prop := Claim7.holds Tryd.pinned (.plain (OpenSpec.ofChange pressExamplesSpec)) pressExamplesCard

/-- THE SECOND FORM's CARD OF 'oilcakelaw02.PressWhole'. -/
def pressWholeUptoCard : Claim7 := { stood := { row := pressWholeUptoRow, standIns := [], harness := (true, "3cbcdd9f0d995b805788fb1a66c61468378cabb8fb1e0a1aebf8d521baf47642"), looks := false }, kinds := [], alts := [], laidByText := true, laidKinds := [.funcs], laidTests := true, laidLooks := .later }
def PressWholeUptoCardSaid : Prop := Claim7.holds Tryd.pinned (.plain (OpenSpec.upto pressWholeSpec)) pressWholeUptoCard

/-- THE SECOND FORM's CARD OF 'oilcakelaw02.PressProof'. -/
def pressProofUptoCard : Claim7 := { stood := { row := pressProofUptoRow, standIns := [], harness := (true, "3cbcdd9f0d995b805788fb1a66c61468378cabb8fb1e0a1aebf8d521baf47642"), looks := false }, kinds := [], alts := [], laidByText := true, laidKinds := [.funcs], laidTests := true, laidLooks := .later }
def PressProofUptoCardSaid : Prop := Claim7.holds Tryd.pinned (.plain (OpenSpec.upto pressProofSpec)) pressProofUptoCard

/-- THE SECOND FORM's CARD OF 'oilcakelaw02.PressGone'. -/
def pressGoneUptoCard : Claim7 := { stood := { row := pressGoneUptoRow, standIns := [], harness := (true, "3cbcdd9f0d995b805788fb1a66c61468378cabb8fb1e0a1aebf8d521baf47642"), looks := false }, kinds := [], alts := [], laidByText := true, laidKinds := [.funcs], laidTests := true, laidLooks := .later }
def PressGoneUptoCardSaid : Prop := Claim7.holds Tryd.pinned (.plain (OpenSpec.upto pressGoneSpec)) pressGoneUptoCard

/-- THE SECOND FORM's CARD OF 'oilcakelaw02.PressYield'. -/
def pressYieldUptoCard : Claim7 := { stood := { row := pressYieldUptoRow, standIns := [], harness := (true, "3cbcdd9f0d995b805788fb1a66c61468378cabb8fb1e0a1aebf8d521baf47642"), looks := false }, kinds := [], alts := [], laidByText := true, laidKinds := [.funcs], laidTests := true, laidLooks := .later }
def PressYieldUptoCardSaid : Prop := Claim7.holds Tryd.pinned (.plain (OpenSpec.upto pressYieldSpec)) pressYieldUptoCard

/-- THE SECOND FORM's CARD OF 'oilcakelaw02.PressLed'. -/
def pressLedUptoCard : Claim7 := { stood := { row := pressLedUptoRow, standIns := [], harness := (true, "3cbcdd9f0d995b805788fb1a66c61468378cabb8fb1e0a1aebf8d521baf47642"), looks := false }, kinds := [], alts := [], laidByText := true, laidKinds := [.funcs], laidTests := true, laidLooks := .later }
def PressLedUptoCardSaid : Prop := Claim7.holds Tryd.pinned (.plain (OpenSpec.upto pressLedSpec)) pressLedUptoCard

/-- THE SECOND FORM's CARD OF 'oilcakelaw02.PressFalse'. -/
def pressFalseUptoCard : Claim7 := { stood := { row := pressFalseUptoRow, standIns := [], harness := (true, "3cbcdd9f0d995b805788fb1a66c61468378cabb8fb1e0a1aebf8d521baf47642"), looks := false }, kinds := [], alts := [], laidByText := true, laidKinds := [.funcs], laidTests := true, laidLooks := .later }
def PressFalseUptoCardSaid : Prop := Claim7.holds Tryd.pinned (.plain (OpenSpec.upto pressFalseSpec)) pressFalseUptoCard

/-- THE SECOND FORM's CARD OF 'oilcakelaw02.PressRests'. -/
def pressRestsUptoCard : Claim7 := { stood := { row := pressRestsUptoRow, standIns := [], harness := (true, "3cbcdd9f0d995b805788fb1a66c61468378cabb8fb1e0a1aebf8d521baf47642"), looks := false }, kinds := [], alts := [], laidByText := true, laidKinds := [.funcs], laidTests := true, laidLooks := .later }
def PressRestsUptoCardSaid : Prop := Claim7.holds Tryd.pinned (.plain (OpenSpec.upto pressRestsSpec)) pressRestsUptoCard

/-- THE SECOND FORM's CARD OF 'oilcakelaw02.PressTruth'. -/
def pressTruthUptoCard : Claim7 := { stood := { row := pressTruthUptoRow, standIns := [], harness := (true, "3cbcdd9f0d995b805788fb1a66c61468378cabb8fb1e0a1aebf8d521baf47642"), looks := false }, kinds := [], alts := [], laidByText := true, laidKinds := [.funcs], laidTests := true, laidLooks := .later }
def PressTruthUptoCardSaid : Prop := Claim7.holds Tryd.pinned (.plain (OpenSpec.upto pressTruthSpec)) pressTruthUptoCard

/-- THE SECOND FORM's CARD OF 'oilcakelaw02.PressEnds'. -/
def pressEndsUptoCard : Claim7 := { stood := { row := pressEndsUptoRow, standIns := [], harness := (true, "3cbcdd9f0d995b805788fb1a66c61468378cabb8fb1e0a1aebf8d521baf47642"), looks := false }, kinds := [], alts := [], laidByText := true, laidKinds := [.funcs], laidTests := true, laidLooks := .later }
def PressEndsUptoCardSaid : Prop := Claim7.holds Tryd.pinned (.plain (OpenSpec.upto pressEndsSpec)) pressEndsUptoCard

/-- THE SECOND FORM's CARD OF 'oilcakelaw02.PressReading'. -/
def pressReadingUptoCard : Claim7 := { stood := { row := pressReadingUptoRow, standIns := [], harness := (true, "3cbcdd9f0d995b805788fb1a66c61468378cabb8fb1e0a1aebf8d521baf47642"), looks := false }, kinds := [], alts := [], laidByText := true, laidKinds := [.funcs], laidTests := true, laidLooks := .later }
def PressReadingUptoCardSaid : Prop := Claim7.holds Tryd.pinned (.plain (OpenSpec.upto pressReadingSpec)) pressReadingUptoCard

/-- THE SECOND FORM's CARD OF 'oilcakelaw02.PressExamples'. -/
def pressExamplesUptoCard : Claim7 := { stood := { row := pressExamplesUptoRow, standIns := [], harness := (true, "3cbcdd9f0d995b805788fb1a66c61468378cabb8fb1e0a1aebf8d521baf47642"), looks := false }, kinds := [], alts := [], laidByText := true, laidKinds := [.funcs], laidTests := true, laidLooks := .later }
def PressExamplesUptoCardSaid : Prop := Claim7.holds Tryd.pinned (.plain (OpenSpec.upto pressExamplesSpec)) pressExamplesUptoCard
end Rows
end Go.Proofs.YtfplipbkjglmhaaDoor
