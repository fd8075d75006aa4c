/-
  DERIVED. GIVEN WITH THE SEED: THE CARDS: each row of YtmfophoejjcnlaaGreatDoorRows.lean that lists a variable, with what it lists TIED to the program's text (the seventh form; the later family's looks); each row that meets fmt, with fmt's text TOLD by the authors' own Lean function (tested against real Go, not proved from fmt's source: count such statements apart). THE CARD IS WHAT COUNTS. Prove the row's statement (the work); the ties are given (YtmfophoejjcnlaaGreatDoorTie.lean); close each card by the builder's one call (the guide's Derived/Test/ToyasCard.lean, 'card_holds'). Laid BY PROGRAM, IN A SANDBOX (cutbox-door.mjs). By AI agents, Wed Nov 11 2026. No macro, syntax, notation, axiom, sorry.
-/
import Derived.Test.YtmfophoejjcnlaaGreatDoorRows
import GoSem.ClaimSeven
namespace Go.Proofs.YtmfophoejjcnlaaGreatDoor
namespace Rows

/-- THE TIED CARD OF 'genlocklaw04.TimingCounters'. -/
def timingCountersCard : Claim7 := { stood := { row := timingCountersRow, standIns := [], harness := (true, "5c459ee22161914e5cde3a1581268262fa41faa3c917d347914687266b73eeca"), looks := false }, kinds := [], alts := [], laidByText := true, laidKinds := [.data, .data, .data, .data], laidTests := true, laidLooks := .later }
def TimingCountersCardSaid : Prop := Claim7.holds Tryz.pinned (.plain (OpenSpec.ofChange timingCountersSpec)) timingCountersCard

/-- THE TIED CARD OF 'genlocklaw04.TimingSignals'. -/
def timingSignalsCard : Claim7 := { stood := { row := timingSignalsRow, standIns := [], harness := (true, "5c459ee22161914e5cde3a1581268262fa41faa3c917d347914687266b73eeca"), looks := false }, kinds := [], alts := [], laidByText := true, laidKinds := [.data, .data, .data, .data], laidTests := true, laidLooks := .later }
def TimingSignalsCardSaid : Prop := Claim7.holds Tryz.pinned (.plain (OpenSpec.ofChange timingSignalsSpec)) timingSignalsCard

/-- THE TIED CARD OF 'genlocklaw04.TimingClocks'. -/
def timingClocksCard : Claim7 := { stood := { row := timingClocksRow, standIns := [], harness := (true, "5c459ee22161914e5cde3a1581268262fa41faa3c917d347914687266b73eeca"), looks := false }, kinds := [], alts := [], laidByText := true, laidKinds := [.data, .data, .data, .data], laidTests := true, laidLooks := .later }
def TimingClocksCardSaid : Prop := Claim7.holds Tryz.pinned (.plain (OpenSpec.ofChange timingClocksSpec)) timingClocksCard

/-- THE TIED CARD OF 'genlocklaw04.TimingPositions'. -/
def timingPositionsCard : Claim7 := { stood := { row := timingPositionsRow, standIns := [], harness := (true, "5c459ee22161914e5cde3a1581268262fa41faa3c917d347914687266b73eeca"), looks := false }, kinds := [], alts := [], laidByText := true, laidKinds := [.data, .data, .data, .data], laidTests := true, laidLooks := .later }
def TimingPositionsCardSaid : Prop := Claim7.holds Tryz.pinned (.plain (OpenSpec.ofChange timingPositionsSpec)) timingPositionsCard

/-- THE TIED CARD OF 'genlocklaw04.TimingSteps'. -/
def timingStepsCard : Claim7 := { stood := { row := timingStepsRow, standIns := [], harness := (true, "5c459ee22161914e5cde3a1581268262fa41faa3c917d347914687266b73eeca"), looks := false }, kinds := [], alts := [], laidByText := true, laidKinds := [.data, .data, .data, .data], laidTests := true, laidLooks := .later }
def TimingStepsCardSaid : Prop := Claim7.holds Tryz.pinned (.plain (OpenSpec.ofChange timingStepsSpec)) timingStepsCard

/-- THE TIED CARD OF 'genlocklaw04.TimingPlans'. -/
def timingPlansCard : Claim7 := { stood := { row := timingPlansRow, standIns := [], harness := (true, "5c459ee22161914e5cde3a1581268262fa41faa3c917d347914687266b73eeca"), looks := false }, kinds := [], alts := [], laidByText := true, laidKinds := [.data, .data, .data, .data], laidTests := true, laidLooks := .later }
def TimingPlansCardSaid : Prop := Claim7.holds Tryz.pinned (.plain (OpenSpec.ofChange timingPlansSpec)) timingPlansCard

/-- THE TIED CARD OF 'genlocklaw04.TimingWider'. -/
def timingWiderCard : Claim7 := { stood := { row := timingWiderRow, standIns := [], harness := (true, "5c459ee22161914e5cde3a1581268262fa41faa3c917d347914687266b73eeca"), looks := false }, kinds := [], alts := [], laidByText := true, laidKinds := [.data, .data, .data, .data], laidTests := true, laidLooks := .later }
def TimingWiderCardSaid : Prop := Claim7.holds Tryz.pinned (.plain (OpenSpec.ofChange timingWiderSpec)) timingWiderCard

/-- THE TIED CARD OF 'genlocklaw04.TimingFeasible'. -/
def timingFeasibleCard : Claim7 := { stood := { row := timingFeasibleRow, standIns := [], harness := (true, "5c459ee22161914e5cde3a1581268262fa41faa3c917d347914687266b73eeca"), looks := false }, kinds := [], alts := [], laidByText := true, laidKinds := [.data, .data, .data, .data], laidTests := true, laidLooks := .later }
def TimingFeasibleCardSaid : Prop := Claim7.holds Tryz.pinned (.plain (OpenSpec.ofChange timingFeasibleSpec)) timingFeasibleCard

/-- THE TIED CARD OF 'genlocklaw04.TimingLoops'. -/
def timingLoopsCard : Claim7 := { stood := { row := timingLoopsRow, standIns := [], harness := (true, "5c459ee22161914e5cde3a1581268262fa41faa3c917d347914687266b73eeca"), looks := false }, kinds := [], alts := [], laidByText := true, laidKinds := [.data, .data, .data, .data], laidTests := true, laidLooks := .later }
def TimingLoopsCardSaid : Prop := Claim7.holds Tryz.pinned (.plain (OpenSpec.ofChange timingLoopsSpec)) timingLoopsCard

/-- THE TIED CARD OF 'genlocklaw04.TimingTexts'. -/
def timingTextsCard : Claim7 := { stood := { row := timingTextsRow, standIns := [], harness := (true, "5c459ee22161914e5cde3a1581268262fa41faa3c917d347914687266b73eeca"), looks := false }, kinds := [], alts := [], laidByText := true, laidKinds := [.data, .data, .data, .data, .data, .pinned], laidTests := true, laidLooks := .later }
def TimingTextsCardSaid : Prop := Claim7.holds Tryz.pinned (.plain (OpenSpec.ofChange timingTextsSpec)) timingTextsCard

/-- THE TIED CARD OF 'genlocklaw04.TimingBack'. -/
def timingBackCard : Claim7 := { stood := { row := timingBackRow, standIns := [], harness := (true, "5c459ee22161914e5cde3a1581268262fa41faa3c917d347914687266b73eeca"), looks := false }, kinds := [], alts := [], laidByText := true, laidKinds := [.data, .data, .data, .data, .data, .pinned], laidTests := true, laidLooks := .later }
def TimingBackCardSaid : Prop := Claim7.holds Tryz.pinned (.plain (OpenSpec.ofChange timingBackSpec)) timingBackCard

/-- THE SECOND FORM's CARD OF 'genlocklaw04.TimingCounters'. -/
def timingCountersUptoCard : Claim7 := { stood := { row := timingCountersUptoRow, standIns := [], harness := (true, "5c459ee22161914e5cde3a1581268262fa41faa3c917d347914687266b73eeca"), looks := false }, kinds := [], alts := [], laidByText := true, laidKinds := [.data, .data, .data, .data], laidTests := true, laidLooks := .later }
def TimingCountersUptoCardSaid : Prop := Claim7.holds Tryz.pinned (.plain (OpenSpec.upto timingCountersSpec)) timingCountersUptoCard

/-- THE SECOND FORM's CARD OF 'genlocklaw04.TimingSignals'. -/
def timingSignalsUptoCard : Claim7 := { stood := { row := timingSignalsUptoRow, standIns := [], harness := (true, "5c459ee22161914e5cde3a1581268262fa41faa3c917d347914687266b73eeca"), looks := false }, kinds := [], alts := [], laidByText := true, laidKinds := [.data, .data, .data, .data], laidTests := true, laidLooks := .later }
def TimingSignalsUptoCardSaid : Prop := Claim7.holds Tryz.pinned (.plain (OpenSpec.upto timingSignalsSpec)) timingSignalsUptoCard

/-- THE SECOND FORM's CARD OF 'genlocklaw04.TimingClocks'. -/
def timingClocksUptoCard : Claim7 := { stood := { row := timingClocksUptoRow, standIns := [], harness := (true, "5c459ee22161914e5cde3a1581268262fa41faa3c917d347914687266b73eeca"), looks := false }, kinds := [], alts := [], laidByText := true, laidKinds := [.data, .data, .data, .data], laidTests := true, laidLooks := .later }
def TimingClocksUptoCardSaid : Prop := Claim7.holds Tryz.pinned (.plain (OpenSpec.upto timingClocksSpec)) timingClocksUptoCard

/-- THE SECOND FORM's CARD OF 'genlocklaw04.TimingPositions'. -/
def timingPositionsUptoCard : Claim7 := { stood := { row := timingPositionsUptoRow, standIns := [], harness := (true, "5c459ee22161914e5cde3a1581268262fa41faa3c917d347914687266b73eeca"), looks := false }, kinds := [], alts := [], laidByText := true, laidKinds := [.data, .data, .data, .data], laidTests := true, laidLooks := .later }
def TimingPositionsUptoCardSaid : Prop := Claim7.holds Tryz.pinned (.plain (OpenSpec.upto timingPositionsSpec)) timingPositionsUptoCard

/-- THE SECOND FORM's CARD OF 'genlocklaw04.TimingSteps'. -/
def timingStepsUptoCard : Claim7 := { stood := { row := timingStepsUptoRow, standIns := [], harness := (true, "5c459ee22161914e5cde3a1581268262fa41faa3c917d347914687266b73eeca"), looks := false }, kinds := [], alts := [], laidByText := true, laidKinds := [.data, .data, .data, .data], laidTests := true, laidLooks := .later }
def TimingStepsUptoCardSaid : Prop := Claim7.holds Tryz.pinned (.plain (OpenSpec.upto timingStepsSpec)) timingStepsUptoCard

/-- THE SECOND FORM's CARD OF 'genlocklaw04.TimingPlans'. -/
def timingPlansUptoCard : Claim7 := { stood := { row := timingPlansUptoRow, standIns := [], harness := (true, "5c459ee22161914e5cde3a1581268262fa41faa3c917d347914687266b73eeca"), looks := false }, kinds := [], alts := [], laidByText := true, laidKinds := [.data, .data, .data, .data], laidTests := true, laidLooks := .later }
def TimingPlansUptoCardSaid : Prop := Claim7.holds Tryz.pinned (.plain (OpenSpec.upto timingPlansSpec)) timingPlansUptoCard

/-- THE SECOND FORM's CARD OF 'genlocklaw04.TimingWider'. -/
def timingWiderUptoCard : Claim7 := { stood := { row := timingWiderUptoRow, standIns := [], harness := (true, "5c459ee22161914e5cde3a1581268262fa41faa3c917d347914687266b73eeca"), looks := false }, kinds := [], alts := [], laidByText := true, laidKinds := [.data, .data, .data, .data], laidTests := true, laidLooks := .later }
def TimingWiderUptoCardSaid : Prop := Claim7.holds Tryz.pinned (.plain (OpenSpec.upto timingWiderSpec)) timingWiderUptoCard

/-- THE SECOND FORM's CARD OF 'genlocklaw04.TimingFeasible'. -/
def timingFeasibleUptoCard : Claim7 := { stood := { row := timingFeasibleUptoRow, standIns := [], harness := (true, "5c459ee22161914e5cde3a1581268262fa41faa3c917d347914687266b73eeca"), looks := false }, kinds := [], alts := [], laidByText := true, laidKinds := [.data, .data, .data, .data], laidTests := true, laidLooks := .later }
def TimingFeasibleUptoCardSaid : Prop := Claim7.holds Tryz.pinned (.plain (OpenSpec.upto timingFeasibleSpec)) timingFeasibleUptoCard

/-- THE SECOND FORM's CARD OF 'genlocklaw04.TimingLoops'. -/
def timingLoopsUptoCard : Claim7 := { stood := { row := timingLoopsUptoRow, standIns := [], harness := (true, "5c459ee22161914e5cde3a1581268262fa41faa3c917d347914687266b73eeca"), looks := false }, kinds := [], alts := [], laidByText := true, laidKinds := [.data, .data, .data, .data], laidTests := true, laidLooks := .later }
def TimingLoopsUptoCardSaid : Prop := Claim7.holds Tryz.pinned (.plain (OpenSpec.upto timingLoopsSpec)) timingLoopsUptoCard

/-- THE SECOND FORM's CARD OF 'genlocklaw04.TimingTexts'. -/
def timingTextsUptoCard : Claim7 := { stood := { row := timingTextsUptoRow, standIns := [], harness := (true, "5c459ee22161914e5cde3a1581268262fa41faa3c917d347914687266b73eeca"), looks := false }, kinds := [], alts := [], laidByText := true, laidKinds := [.data, .data, .data, .data, .data, .pinned], laidTests := true, laidLooks := .later }
def TimingTextsUptoCardSaid : Prop := Claim7.holds Tryz.pinned (.plain (OpenSpec.upto timingTextsSpec)) timingTextsUptoCard

/-- THE SECOND FORM's CARD OF 'genlocklaw04.TimingBack'. -/
def timingBackUptoCard : Claim7 := { stood := { row := timingBackUptoRow, standIns := [], harness := (true, "5c459ee22161914e5cde3a1581268262fa41faa3c917d347914687266b73eeca"), looks := false }, kinds := [], alts := [], laidByText := true, laidKinds := [.data, .data, .data, .data, .data, .pinned], laidTests := true, laidLooks := .later }
def TimingBackUptoCardSaid : Prop := Claim7.holds Tryz.pinned (.plain (OpenSpec.upto timingBackSpec)) timingBackUptoCard
end Rows
end Go.Proofs.YtmfophoejjcnlaaGreatDoor
