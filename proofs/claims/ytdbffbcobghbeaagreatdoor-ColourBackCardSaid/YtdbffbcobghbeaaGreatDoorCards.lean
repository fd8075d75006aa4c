/-
  DERIVED. GIVEN WITH THE SEED: THE CARDS: each row of YtdbffbcobghbeaaGreatDoorRows.lean that lists a variable, with what it lists TIED to the program's text (the seventh form; the later family's looks); each row that meets fmt, with fmt's text TOLD by the authors' own Lean function (tested against real Go, not proved from fmt's source: count such statements apart). THE CARD IS WHAT COUNTS. Prove the row's statement (the work); the ties are given (YtdbffbcobghbeaaGreatDoorTie.lean); close each card by the builder's one call (the guide's Derived/Test/ToyasCard.lean, 'card_holds'). Laid BY PROGRAM, IN A SANDBOX (cutbox-door.mjs). By AI agents, Wed Nov 11 2026. No macro, syntax, notation, axiom, sorry.
-/
import Derived.Test.YtdbffbcobghbeaaGreatDoorRows
import GoSem.ClaimSeven
namespace Go.Proofs.YtdbffbcobghbeaaGreatDoor
namespace Rows

/-- THE TIED CARD OF 'genlocklaw02.ColourCurves'. -/
def colourCurvesCard : Claim7 := { stood := { row := colourCurvesRow, standIns := [], harness := (true, "2306cca8b3e93af9638497b3c11ea407bbe0c7ae526ba8eab852d6b954fbc0a4"), looks := false }, kinds := [], alts := [], laidByText := true, laidKinds := [.data, .data, .data, .data], laidTests := true, laidLooks := .later }
def ColourCurvesCardSaid : Prop := Claim7.holds Tryz.pinned (.plain (OpenSpec.ofChange colourCurvesSpec)) colourCurvesCard

/-- THE TIED CARD OF 'genlocklaw02.ColourMatrices'. -/
def colourMatricesCard : Claim7 := { stood := { row := colourMatricesRow, standIns := [], harness := (true, "2306cca8b3e93af9638497b3c11ea407bbe0c7ae526ba8eab852d6b954fbc0a4"), looks := false }, kinds := [], alts := [], laidByText := true, laidKinds := [.data, .data, .data, .data], laidTests := true, laidLooks := .later }
def ColourMatricesCardSaid : Prop := Claim7.holds Tryz.pinned (.plain (OpenSpec.ofChange colourMatricesSpec)) colourMatricesCard

/-- THE TIED CARD OF 'genlocklaw02.ColourComposed'. -/
def colourComposedCard : Claim7 := { stood := { row := colourComposedRow, standIns := [], harness := (true, "2306cca8b3e93af9638497b3c11ea407bbe0c7ae526ba8eab852d6b954fbc0a4"), looks := false }, kinds := [], alts := [], laidByText := true, laidKinds := [.data, .data, .data, .data], laidTests := true, laidLooks := .later }
def ColourComposedCardSaid : Prop := Claim7.holds Tryz.pinned (.plain (OpenSpec.ofChange colourComposedSpec)) colourComposedCard

/-- THE TIED CARD OF 'genlocklaw02.ColourUnit'. -/
def colourUnitCard : Claim7 := { stood := { row := colourUnitRow, standIns := [], harness := (true, "2306cca8b3e93af9638497b3c11ea407bbe0c7ae526ba8eab852d6b954fbc0a4"), looks := false }, kinds := [], alts := [], laidByText := true, laidKinds := [.data, .data, .data, .data], laidTests := true, laidLooks := .later }
def ColourUnitCardSaid : Prop := Claim7.holds Tryz.pinned (.plain (OpenSpec.ofChange colourUnitSpec)) colourUnitCard

/-- THE TIED CARD OF 'genlocklaw02.ColourReached'. -/
def colourReachedCard : Claim7 := { stood := { row := colourReachedRow, standIns := [], harness := (true, "2306cca8b3e93af9638497b3c11ea407bbe0c7ae526ba8eab852d6b954fbc0a4"), looks := false }, kinds := [], alts := [], laidByText := true, laidKinds := [.data, .data, .data, .data], laidTests := true, laidLooks := .later }
def ColourReachedCardSaid : Prop := Claim7.holds Tryz.pinned (.plain (OpenSpec.ofChange colourReachedSpec)) colourReachedCard

/-- THE TIED CARD OF 'genlocklaw02.ColourShaded'. -/
def colourShadedCard : Claim7 := { stood := { row := colourShadedRow, standIns := [], harness := (true, "2306cca8b3e93af9638497b3c11ea407bbe0c7ae526ba8eab852d6b954fbc0a4"), looks := false }, kinds := [], alts := [], laidByText := true, laidKinds := [.data, .data, .data, .data], laidTests := true, laidLooks := .later }
def ColourShadedCardSaid : Prop := Claim7.holds Tryz.pinned (.plain (OpenSpec.ofChange colourShadedSpec)) colourShadedCard

/-- THE TIED CARD OF 'genlocklaw02.ColourLumas'. -/
def colourLumasCard : Claim7 := { stood := { row := colourLumasRow, standIns := [], harness := (true, "2306cca8b3e93af9638497b3c11ea407bbe0c7ae526ba8eab852d6b954fbc0a4"), looks := false }, kinds := [], alts := [], laidByText := true, laidKinds := [.data, .data, .data, .data], laidTests := true, laidLooks := .later }
def ColourLumasCardSaid : Prop := Claim7.holds Tryz.pinned (.plain (OpenSpec.ofChange colourLumasSpec)) colourLumasCard

/-- THE TIED CARD OF 'genlocklaw02.ColourFlashes'. -/
def colourFlashesCard : Claim7 := { stood := { row := colourFlashesRow, standIns := [], harness := (true, "2306cca8b3e93af9638497b3c11ea407bbe0c7ae526ba8eab852d6b954fbc0a4"), looks := false }, kinds := [], alts := [], laidByText := true, laidKinds := [.data, .data, .data, .data], laidTests := true, laidLooks := .later }
def ColourFlashesCardSaid : Prop := Claim7.holds Tryz.pinned (.plain (OpenSpec.ofChange colourFlashesSpec)) colourFlashesCard

/-- THE TIED CARD OF 'genlocklaw02.ColourSounds'. -/
def colourSoundsCard : Claim7 := { stood := { row := colourSoundsRow, standIns := [], harness := (true, "2306cca8b3e93af9638497b3c11ea407bbe0c7ae526ba8eab852d6b954fbc0a4"), looks := false }, kinds := [], alts := [], laidByText := true, laidKinds := [.data, .data, .data, .data], laidTests := true, laidLooks := .later }
def ColourSoundsCardSaid : Prop := Claim7.holds Tryz.pinned (.plain (OpenSpec.ofChange colourSoundsSpec)) colourSoundsCard

/-- THE TIED CARD OF 'genlocklaw02.ColourMeasured'. -/
def colourMeasuredCard : Claim7 := { stood := { row := colourMeasuredRow, standIns := [], harness := (true, "2306cca8b3e93af9638497b3c11ea407bbe0c7ae526ba8eab852d6b954fbc0a4"), looks := false }, kinds := [], alts := [], laidByText := true, laidKinds := [.data, .data, .data, .data], laidTests := true, laidLooks := .later }
def ColourMeasuredCardSaid : Prop := Claim7.holds Tryz.pinned (.plain (OpenSpec.ofChange colourMeasuredSpec)) colourMeasuredCard

/-- THE TIED CARD OF 'genlocklaw02.ColourLimits'. -/
def colourLimitsCard : Claim7 := { stood := { row := colourLimitsRow, standIns := [], harness := (true, "2306cca8b3e93af9638497b3c11ea407bbe0c7ae526ba8eab852d6b954fbc0a4"), looks := false }, kinds := [], alts := [], laidByText := true, laidKinds := [.data, .data, .data, .data], laidTests := true, laidLooks := .later }
def ColourLimitsCardSaid : Prop := Claim7.holds Tryz.pinned (.plain (OpenSpec.ofChange colourLimitsSpec)) colourLimitsCard

/-- THE TIED CARD OF 'genlocklaw02.ColourApplied'. -/
def colourAppliedCard : Claim7 := { stood := { row := colourAppliedRow, standIns := [], harness := (true, "2306cca8b3e93af9638497b3c11ea407bbe0c7ae526ba8eab852d6b954fbc0a4"), looks := false }, kinds := [], alts := [], laidByText := true, laidKinds := [.data, .data, .data, .data], laidTests := true, laidLooks := .later }
def ColourAppliedCardSaid : Prop := Claim7.holds Tryz.pinned (.plain (OpenSpec.ofChange colourAppliedSpec)) colourAppliedCard

/-- THE TIED CARD OF 'genlocklaw02.ColourInverse'. -/
def colourInverseCard : Claim7 := { stood := { row := colourInverseRow, standIns := [], harness := (true, "2306cca8b3e93af9638497b3c11ea407bbe0c7ae526ba8eab852d6b954fbc0a4"), looks := false }, kinds := [], alts := [], laidByText := true, laidKinds := [.data, .data, .data, .data], laidTests := true, laidLooks := .later }
def ColourInverseCardSaid : Prop := Claim7.holds Tryz.pinned (.plain (OpenSpec.ofChange colourInverseSpec)) colourInverseCard

/-- THE TIED CARD OF 'genlocklaw02.ColourWitness'. -/
def colourWitnessCard : Claim7 := { stood := { row := colourWitnessRow, standIns := [], harness := (true, "2306cca8b3e93af9638497b3c11ea407bbe0c7ae526ba8eab852d6b954fbc0a4"), looks := false }, kinds := [], alts := [], laidByText := true, laidKinds := [.data, .data, .data, .data], laidTests := true, laidLooks := .later }
def ColourWitnessCardSaid : Prop := Claim7.holds Tryz.pinned (.plain (OpenSpec.ofChange colourWitnessSpec)) colourWitnessCard

/-- THE TIED CARD OF 'genlocklaw02.ColourTexts'. -/
def colourTextsCard : Claim7 := { stood := { row := colourTextsRow, standIns := [], harness := (true, "2306cca8b3e93af9638497b3c11ea407bbe0c7ae526ba8eab852d6b954fbc0a4"), looks := false }, kinds := [], alts := [], laidByText := true, laidKinds := [.data, .data, .data, .data, .data, .pinned], laidTests := true, laidLooks := .later }
def ColourTextsCardSaid : Prop := Claim7.holds Tryz.pinned (.plain (OpenSpec.ofChange colourTextsSpec)) colourTextsCard

/-- THE TIED CARD OF 'genlocklaw02.ColourBack'. -/
def colourBackCard : Claim7 := { stood := { row := colourBackRow, standIns := [], harness := (true, "2306cca8b3e93af9638497b3c11ea407bbe0c7ae526ba8eab852d6b954fbc0a4"), looks := false }, kinds := [], alts := [], laidByText := true, laidKinds := [.data, .data, .data, .data, .data, .pinned], laidTests := true, laidLooks := .later }
def ColourBackCardSaid : Prop := Claim7.holds Tryz.pinned (.plain (OpenSpec.ofChange colourBackSpec)) colourBackCard

/-- THE SECOND FORM's CARD OF 'genlocklaw02.ColourCurves'. -/
def colourCurvesUptoCard : Claim7 := { stood := { row := colourCurvesUptoRow, standIns := [], harness := (true, "2306cca8b3e93af9638497b3c11ea407bbe0c7ae526ba8eab852d6b954fbc0a4"), looks := false }, kinds := [], alts := [], laidByText := true, laidKinds := [.data, .data, .data, .data], laidTests := true, laidLooks := .later }
def ColourCurvesUptoCardSaid : Prop := Claim7.holds Tryz.pinned (.plain (OpenSpec.upto colourCurvesSpec)) colourCurvesUptoCard

/-- THE SECOND FORM's CARD OF 'genlocklaw02.ColourMatrices'. -/
def colourMatricesUptoCard : Claim7 := { stood := { row := colourMatricesUptoRow, standIns := [], harness := (true, "2306cca8b3e93af9638497b3c11ea407bbe0c7ae526ba8eab852d6b954fbc0a4"), looks := false }, kinds := [], alts := [], laidByText := true, laidKinds := [.data, .data, .data, .data], laidTests := true, laidLooks := .later }
def ColourMatricesUptoCardSaid : Prop := Claim7.holds Tryz.pinned (.plain (OpenSpec.upto colourMatricesSpec)) colourMatricesUptoCard

/-- THE SECOND FORM's CARD OF 'genlocklaw02.ColourComposed'. -/
def colourComposedUptoCard : Claim7 := { stood := { row := colourComposedUptoRow, standIns := [], harness := (true, "2306cca8b3e93af9638497b3c11ea407bbe0c7ae526ba8eab852d6b954fbc0a4"), looks := false }, kinds := [], alts := [], laidByText := true, laidKinds := [.data, .data, .data, .data], laidTests := true, laidLooks := .later }
def ColourComposedUptoCardSaid : Prop := Claim7.holds Tryz.pinned (.plain (OpenSpec.upto colourComposedSpec)) colourComposedUptoCard

/-- THE SECOND FORM's CARD OF 'genlocklaw02.ColourUnit'. -/
def colourUnitUptoCard : Claim7 := { stood := { row := colourUnitUptoRow, standIns := [], harness := (true, "2306cca8b3e93af9638497b3c11ea407bbe0c7ae526ba8eab852d6b954fbc0a4"), looks := false }, kinds := [], alts := [], laidByText := true, laidKinds := [.data, .data, .data, .data], laidTests := true, laidLooks := .later }
def ColourUnitUptoCardSaid : Prop := Claim7.holds Tryz.pinned (.plain (OpenSpec.upto colourUnitSpec)) colourUnitUptoCard

/-- THE SECOND FORM's CARD OF 'genlocklaw02.ColourReached'. -/
def colourReachedUptoCard : Claim7 := { stood := { row := colourReachedUptoRow, standIns := [], harness := (true, "2306cca8b3e93af9638497b3c11ea407bbe0c7ae526ba8eab852d6b954fbc0a4"), looks := false }, kinds := [], alts := [], laidByText := true, laidKinds := [.data, .data, .data, .data], laidTests := true, laidLooks := .later }
def ColourReachedUptoCardSaid : Prop := Claim7.holds Tryz.pinned (.plain (OpenSpec.upto colourReachedSpec)) colourReachedUptoCard

/-- THE SECOND FORM's CARD OF 'genlocklaw02.ColourShaded'. -/
def colourShadedUptoCard : Claim7 := { stood := { row := colourShadedUptoRow, standIns := [], harness := (true, "2306cca8b3e93af9638497b3c11ea407bbe0c7ae526ba8eab852d6b954fbc0a4"), looks := false }, kinds := [], alts := [], laidByText := true, laidKinds := [.data, .data, .data, .data], laidTests := true, laidLooks := .later }
def ColourShadedUptoCardSaid : Prop := Claim7.holds Tryz.pinned (.plain (OpenSpec.upto colourShadedSpec)) colourShadedUptoCard

/-- THE SECOND FORM's CARD OF 'genlocklaw02.ColourLumas'. -/
def colourLumasUptoCard : Claim7 := { stood := { row := colourLumasUptoRow, standIns := [], harness := (true, "2306cca8b3e93af9638497b3c11ea407bbe0c7ae526ba8eab852d6b954fbc0a4"), looks := false }, kinds := [], alts := [], laidByText := true, laidKinds := [.data, .data, .data, .data], laidTests := true, laidLooks := .later }
def ColourLumasUptoCardSaid : Prop := Claim7.holds Tryz.pinned (.plain (OpenSpec.upto colourLumasSpec)) colourLumasUptoCard

/-- THE SECOND FORM's CARD OF 'genlocklaw02.ColourFlashes'. -/
def colourFlashesUptoCard : Claim7 := { stood := { row := colourFlashesUptoRow, standIns := [], harness := (true, "2306cca8b3e93af9638497b3c11ea407bbe0c7ae526ba8eab852d6b954fbc0a4"), looks := false }, kinds := [], alts := [], laidByText := true, laidKinds := [.data, .data, .data, .data], laidTests := true, laidLooks := .later }
def ColourFlashesUptoCardSaid : Prop := Claim7.holds Tryz.pinned (.plain (OpenSpec.upto colourFlashesSpec)) colourFlashesUptoCard

/-- THE SECOND FORM's CARD OF 'genlocklaw02.ColourSounds'. -/
def colourSoundsUptoCard : Claim7 := { stood := { row := colourSoundsUptoRow, standIns := [], harness := (true, "2306cca8b3e93af9638497b3c11ea407bbe0c7ae526ba8eab852d6b954fbc0a4"), looks := false }, kinds := [], alts := [], laidByText := true, laidKinds := [.data, .data, .data, .data], laidTests := true, laidLooks := .later }
def ColourSoundsUptoCardSaid : Prop := Claim7.holds Tryz.pinned (.plain (OpenSpec.upto colourSoundsSpec)) colourSoundsUptoCard

/-- THE SECOND FORM's CARD OF 'genlocklaw02.ColourMeasured'. -/
def colourMeasuredUptoCard : Claim7 := { stood := { row := colourMeasuredUptoRow, standIns := [], harness := (true, "2306cca8b3e93af9638497b3c11ea407bbe0c7ae526ba8eab852d6b954fbc0a4"), looks := false }, kinds := [], alts := [], laidByText := true, laidKinds := [.data, .data, .data, .data], laidTests := true, laidLooks := .later }
def ColourMeasuredUptoCardSaid : Prop := Claim7.holds Tryz.pinned (.plain (OpenSpec.upto colourMeasuredSpec)) colourMeasuredUptoCard

/-- THE SECOND FORM's CARD OF 'genlocklaw02.ColourLimits'. -/
def colourLimitsUptoCard : Claim7 := { stood := { row := colourLimitsUptoRow, standIns := [], harness := (true, "2306cca8b3e93af9638497b3c11ea407bbe0c7ae526ba8eab852d6b954fbc0a4"), looks := false }, kinds := [], alts := [], laidByText := true, laidKinds := [.data, .data, .data, .data], laidTests := true, laidLooks := .later }
def ColourLimitsUptoCardSaid : Prop := Claim7.holds Tryz.pinned (.plain (OpenSpec.upto colourLimitsSpec)) colourLimitsUptoCard

/-- THE SECOND FORM's CARD OF 'genlocklaw02.ColourApplied'. -/
def colourAppliedUptoCard : Claim7 := { stood := { row := colourAppliedUptoRow, standIns := [], harness := (true, "2306cca8b3e93af9638497b3c11ea407bbe0c7ae526ba8eab852d6b954fbc0a4"), looks := false }, kinds := [], alts := [], laidByText := true, laidKinds := [.data, .data, .data, .data], laidTests := true, laidLooks := .later }
def ColourAppliedUptoCardSaid : Prop := Claim7.holds Tryz.pinned (.plain (OpenSpec.upto colourAppliedSpec)) colourAppliedUptoCard

/-- THE SECOND FORM's CARD OF 'genlocklaw02.ColourInverse'. -/
def colourInverseUptoCard : Claim7 := { stood := { row := colourInverseUptoRow, standIns := [], harness := (true, "2306cca8b3e93af9638497b3c11ea407bbe0c7ae526ba8eab852d6b954fbc0a4"), looks := false }, kinds := [], alts := [], laidByText := true, laidKinds := [.data, .data, .data, .data], laidTests := true, laidLooks := .later }
def ColourInverseUptoCardSaid : Prop := Claim7.holds Tryz.pinned (.plain (OpenSpec.upto colourInverseSpec)) colourInverseUptoCard

/-- THE SECOND FORM's CARD OF 'genlocklaw02.ColourWitness'. -/
def colourWitnessUptoCard : Claim7 := { stood := { row := colourWitnessUptoRow, standIns := [], harness := (true, "2306cca8b3e93af9638497b3c11ea407bbe0c7ae526ba8eab852d6b954fbc0a4"), looks := false }, kinds := [], alts := [], laidByText := true, laidKinds := [.data, .data, .data, .data], laidTests := true, laidLooks := .later }
def ColourWitnessUptoCardSaid : Prop := Claim7.holds Tryz.pinned (.plain (OpenSpec.upto colourWitnessSpec)) colourWitnessUptoCard

/-- THE SECOND FORM's CARD OF 'genlocklaw02.ColourTexts'. -/
def colourTextsUptoCard : Claim7 := { stood := { row := colourTextsUptoRow, standIns := [], harness := (true, "2306cca8b3e93af9638497b3c11ea407bbe0c7ae526ba8eab852d6b954fbc0a4"), looks := false }, kinds := [], alts := [], laidByText := true, laidKinds := [.data, .data, .data, .data, .data, .pinned], laidTests := true, laidLooks := .later }
def ColourTextsUptoCardSaid : Prop := Claim7.holds Tryz.pinned (.plain (OpenSpec.upto colourTextsSpec)) colourTextsUptoCard

/-- THE SECOND FORM's CARD OF 'genlocklaw02.ColourBack'. -/
def colourBackUptoCard : Claim7 := { stood := { row := colourBackUptoRow, standIns := [], harness := (true, "2306cca8b3e93af9638497b3c11ea407bbe0c7ae526ba8eab852d6b954fbc0a4"), looks := false }, kinds := [], alts := [], laidByText := true, laidKinds := [.data, .data, .data, .data, .data, .pinned], laidTests := true, laidLooks := .later }
def ColourBackUptoCardSaid : Prop := Claim7.holds Tryz.pinned (.plain (OpenSpec.upto colourBackSpec)) colourBackUptoCard
end Rows
end Go.Proofs.YtdbffbcobghbeaaGreatDoor
