/-
  DERIVED. GIVEN WITH THE SEED: THE CARDS: each row of YtjkgklhjbopoaaaGreatDoorRows.lean that lists a variable, with what it lists TIED to the program's text (the seventh form; the later family's looks); each row that meets fmt, with fmt's text TOLD by the authors' own Lean function (tested against real Go, not proved from fmt's source: count such statements apart). THE CARD IS WHAT COUNTS. Prove the row's statement (the work); the ties are given (YtjkgklhjbopoaaaGreatDoorTie.lean); close each card by the builder's one call (the guide's Derived/Test/ToyasCard.lean, 'card_holds'). Laid BY PROGRAM, IN A SANDBOX (cutbox-door.mjs). By AI agents, Wed Nov 11 2026. No macro, syntax, notation, axiom, sorry.
-/
import Derived.Test.YtjkgklhjbopoaaaGreatDoorRows
import GoSem.ClaimSeven
namespace Go.Proofs.YtjkgklhjbopoaaaGreatDoor
namespace Rows

/-- THE TIED CARD OF 'genlocklaw06.MixerWipes'. -/
def mixerWipesCard : Claim7 := { stood := { row := mixerWipesRow, standIns := [], harness := (true, "f53774289ea3af8748fc20dcf1470304273d0283f2b362fa6f289927ae7086fa"), looks := true }, kinds := [], alts := [], laidByText := true, laidKinds := [.data, .data, .data, .sentinel, .sentinel, .data], laidTests := true, laidLooks := .later }
def MixerWipesCardSaid : Prop := Claim7.holds Tryz.pinned (.plain (OpenSpec.ofChange mixerWipesSpec)) mixerWipesCard

/-- THE TIED CARD OF 'genlocklaw06.MixerBanks'. -/
def mixerBanksCard : Claim7 := { stood := { row := mixerBanksRow, standIns := [], harness := (true, "f53774289ea3af8748fc20dcf1470304273d0283f2b362fa6f289927ae7086fa"), looks := true }, kinds := [], alts := [], laidByText := true, laidKinds := [.data, .data, .data, .sentinel, .sentinel, .data], laidTests := true, laidLooks := .later }
def MixerBanksCardSaid : Prop := Claim7.holds Tryz.pinned (.plain (OpenSpec.ofChange mixerBanksSpec)) mixerBanksCard

/-- THE TIED CARD OF 'genlocklaw06.MixerOpens'. -/
def mixerOpensCard : Claim7 := { stood := { row := mixerOpensRow, standIns := [], harness := (true, "f53774289ea3af8748fc20dcf1470304273d0283f2b362fa6f289927ae7086fa"), looks := true }, kinds := [], alts := [], laidByText := true, laidKinds := [.data, .data, .data, .sentinel, .sentinel, .data], laidTests := true, laidLooks := .later }
def MixerOpensCardSaid : Prop := Claim7.holds Tryz.pinned (.plain (OpenSpec.ofChange mixerOpensSpec)) mixerOpensCard

/-- THE TIED CARD OF 'genlocklaw06.MixerTrees'. -/
def mixerTreesCard : Claim7 := { stood := { row := mixerTreesRow, standIns := [], harness := (true, "f53774289ea3af8748fc20dcf1470304273d0283f2b362fa6f289927ae7086fa"), looks := true }, kinds := [], alts := [], laidByText := true, laidKinds := [.data, .data, .data, .sentinel, .sentinel, .data], laidTests := true, laidLooks := .later }
def MixerTreesCardSaid : Prop := Claim7.holds Tryz.pinned (.plain (OpenSpec.ofChange mixerTreesSpec)) mixerTreesCard

/-- THE TIED CARD OF 'genlocklaw06.MixerChroma'. -/
def mixerChromaCard : Claim7 := { stood := { row := mixerChromaRow, standIns := [], harness := (true, "f53774289ea3af8748fc20dcf1470304273d0283f2b362fa6f289927ae7086fa"), looks := true }, kinds := [], alts := [], laidByText := true, laidKinds := [.data, .data, .data, .sentinel, .sentinel, .data], laidTests := true, laidLooks := .later }
def MixerChromaCardSaid : Prop := Claim7.holds Tryz.pinned (.plain (OpenSpec.ofChange mixerChromaSpec)) mixerChromaCard

/-- THE TIED CARD OF 'genlocklaw06.MixerPictures'. -/
def mixerPicturesCard : Claim7 := { stood := { row := mixerPicturesRow, standIns := [], harness := (true, "f53774289ea3af8748fc20dcf1470304273d0283f2b362fa6f289927ae7086fa"), looks := true }, kinds := [], alts := [], laidByText := true, laidKinds := [.data, .data, .data, .sentinel, .sentinel, .data], laidTests := true, laidLooks := .later }
def MixerPicturesCardSaid : Prop := Claim7.holds Tryz.pinned (.plain (OpenSpec.ofChange mixerPicturesSpec)) mixerPicturesCard

/-- THE TIED CARD OF 'genlocklaw06.MixerCuts'. -/
def mixerCutsCard : Claim7 := { stood := { row := mixerCutsRow, standIns := [], harness := (true, "f53774289ea3af8748fc20dcf1470304273d0283f2b362fa6f289927ae7086fa"), looks := true }, kinds := [], alts := [], laidByText := true, laidKinds := [.data, .data, .data, .sentinel, .sentinel, .data], laidTests := true, laidLooks := .later }
def MixerCutsCardSaid : Prop := Claim7.holds Tryz.pinned (.plain (OpenSpec.ofChange mixerCutsSpec)) mixerCutsCard

/-- THE TIED CARD OF 'genlocklaw06.MixerMixes'. -/
def mixerMixesCard : Claim7 := { stood := { row := mixerMixesRow, standIns := [], harness := (true, "f53774289ea3af8748fc20dcf1470304273d0283f2b362fa6f289927ae7086fa"), looks := true }, kinds := [], alts := [], laidByText := true, laidKinds := [.data, .data, .data, .sentinel, .sentinel, .data], laidTests := true, laidLooks := .later }
def MixerMixesCardSaid : Prop := Claim7.holds Tryz.pinned (.plain (OpenSpec.ofChange mixerMixesSpec)) mixerMixesCard

/-- THE TIED CARD OF 'genlocklaw06.MixerTiles'. -/
def mixerTilesCard : Claim7 := { stood := { row := mixerTilesRow, standIns := [], harness := (true, "f53774289ea3af8748fc20dcf1470304273d0283f2b362fa6f289927ae7086fa"), looks := true }, kinds := [], alts := [], laidByText := true, laidKinds := [.data, .data, .data, .sentinel, .sentinel, .data], laidTests := true, laidLooks := .later }
def MixerTilesCardSaid : Prop := Claim7.holds Tryz.pinned (.plain (OpenSpec.ofChange mixerTilesSpec)) mixerTilesCard

/-- THE TIED CARD OF 'genlocklaw06.MixerKeys'. -/
def mixerKeysCard : Claim7 := { stood := { row := mixerKeysRow, standIns := [], harness := (true, "f53774289ea3af8748fc20dcf1470304273d0283f2b362fa6f289927ae7086fa"), looks := true }, kinds := [], alts := [], laidByText := true, laidKinds := [.data, .data, .data, .sentinel, .sentinel, .data], laidTests := true, laidLooks := .later }
def MixerKeysCardSaid : Prop := Claim7.holds Tryz.pinned (.plain (OpenSpec.ofChange mixerKeysSpec)) mixerKeysCard

/-- THE TIED CARD OF 'genlocklaw06.MixerBetween'. -/
def mixerBetweenCard : Claim7 := { stood := { row := mixerBetweenRow, standIns := [], harness := (true, "f53774289ea3af8748fc20dcf1470304273d0283f2b362fa6f289927ae7086fa"), looks := true }, kinds := [], alts := [], laidByText := true, laidKinds := [.data, .data, .data, .sentinel, .sentinel, .data], laidTests := true, laidLooks := .later }
def MixerBetweenCardSaid : Prop := Claim7.holds Tryz.pinned (.plain (OpenSpec.ofChange mixerBetweenSpec)) mixerBetweenCard

/-- THE TIED CARD OF 'genlocklaw06.MixerTexts'. -/
def mixerTextsCard : Claim7 := { stood := { row := mixerTextsRow, standIns := [], harness := (true, "f53774289ea3af8748fc20dcf1470304273d0283f2b362fa6f289927ae7086fa"), looks := true }, kinds := [], alts := [], laidByText := true, laidKinds := [.data, .data, .data, .data, .sentinel, .sentinel, .data, .pinned], laidTests := true, laidLooks := .later }
def MixerTextsCardSaid : Prop := Claim7.holds Tryz.pinned (.plain (OpenSpec.ofChange mixerTextsSpec)) mixerTextsCard

/-- THE TIED CARD OF 'genlocklaw06.MixerBack'. -/
def mixerBackCard : Claim7 := { stood := { row := mixerBackRow, standIns := [], harness := (true, "f53774289ea3af8748fc20dcf1470304273d0283f2b362fa6f289927ae7086fa"), looks := true }, kinds := [], alts := [], laidByText := true, laidKinds := [.data, .data, .data, .data, .sentinel, .sentinel, .data, .pinned], laidTests := true, laidLooks := .later }
def MixerBackCardSaid : Prop := Claim7.holds Tryz.pinned (.plain (OpenSpec.ofChange mixerBackSpec)) mixerBackCard

/-- THE SECOND FORM's CARD OF 'genlocklaw06.MixerWipes'. -/
def mixerWipesUptoCard : Claim7 := { stood := { row := mixerWipesUptoRow, standIns := [], harness := (true, "f53774289ea3af8748fc20dcf1470304273d0283f2b362fa6f289927ae7086fa"), looks := true }, kinds := [], alts := [], laidByText := true, laidKinds := [.data, .data, .data, .sentinel, .sentinel, .data], laidTests := true, laidLooks := .later }
def MixerWipesUptoCardSaid : Prop := Claim7.holds Tryz.pinned (.plain (OpenSpec.upto mixerWipesSpec)) mixerWipesUptoCard

/-- THE SECOND FORM's CARD OF 'genlocklaw06.MixerBanks'. -/
def mixerBanksUptoCard : Claim7 := { stood := { row := mixerBanksUptoRow, standIns := [], harness := (true, "f53774289ea3af8748fc20dcf1470304273d0283f2b362fa6f289927ae7086fa"), looks := true }, kinds := [], alts := [], laidByText := true, laidKinds := [.data, .data, .data, .sentinel, .sentinel, .data], laidTests := true, laidLooks := .later }
def MixerBanksUptoCardSaid : Prop := Claim7.holds Tryz.pinned (.plain (OpenSpec.upto mixerBanksSpec)) mixerBanksUptoCard

/-- THE SECOND FORM's CARD OF 'genlocklaw06.MixerOpens'. -/
def mixerOpensUptoCard : Claim7 := { stood := { row := mixerOpensUptoRow, standIns := [], harness := (true, "f53774289ea3af8748fc20dcf1470304273d0283f2b362fa6f289927ae7086fa"), looks := true }, kinds := [], alts := [], laidByText := true, laidKinds := [.data, .data, .data, .sentinel, .sentinel, .data], laidTests := true, laidLooks := .later }
def MixerOpensUptoCardSaid : Prop := Claim7.holds Tryz.pinned (.plain (OpenSpec.upto mixerOpensSpec)) mixerOpensUptoCard

/-- THE SECOND FORM's CARD OF 'genlocklaw06.MixerTrees'. -/
def mixerTreesUptoCard : Claim7 := { stood := { row := mixerTreesUptoRow, standIns := [], harness := (true, "f53774289ea3af8748fc20dcf1470304273d0283f2b362fa6f289927ae7086fa"), looks := true }, kinds := [], alts := [], laidByText := true, laidKinds := [.data, .data, .data, .sentinel, .sentinel, .data], laidTests := true, laidLooks := .later }
def MixerTreesUptoCardSaid : Prop := Claim7.holds Tryz.pinned (.plain (OpenSpec.upto mixerTreesSpec)) mixerTreesUptoCard

/-- THE SECOND FORM's CARD OF 'genlocklaw06.MixerChroma'. -/
def mixerChromaUptoCard : Claim7 := { stood := { row := mixerChromaUptoRow, standIns := [], harness := (true, "f53774289ea3af8748fc20dcf1470304273d0283f2b362fa6f289927ae7086fa"), looks := true }, kinds := [], alts := [], laidByText := true, laidKinds := [.data, .data, .data, .sentinel, .sentinel, .data], laidTests := true, laidLooks := .later }
def MixerChromaUptoCardSaid : Prop := Claim7.holds Tryz.pinned (.plain (OpenSpec.upto mixerChromaSpec)) mixerChromaUptoCard

/-- THE SECOND FORM's CARD OF 'genlocklaw06.MixerPictures'. -/
def mixerPicturesUptoCard : Claim7 := { stood := { row := mixerPicturesUptoRow, standIns := [], harness := (true, "f53774289ea3af8748fc20dcf1470304273d0283f2b362fa6f289927ae7086fa"), looks := true }, kinds := [], alts := [], laidByText := true, laidKinds := [.data, .data, .data, .sentinel, .sentinel, .data], laidTests := true, laidLooks := .later }
def MixerPicturesUptoCardSaid : Prop := Claim7.holds Tryz.pinned (.plain (OpenSpec.upto mixerPicturesSpec)) mixerPicturesUptoCard

/-- THE SECOND FORM's CARD OF 'genlocklaw06.MixerCuts'. -/
def mixerCutsUptoCard : Claim7 := { stood := { row := mixerCutsUptoRow, standIns := [], harness := (true, "f53774289ea3af8748fc20dcf1470304273d0283f2b362fa6f289927ae7086fa"), looks := true }, kinds := [], alts := [], laidByText := true, laidKinds := [.data, .data, .data, .sentinel, .sentinel, .data], laidTests := true, laidLooks := .later }
def MixerCutsUptoCardSaid : Prop := Claim7.holds Tryz.pinned (.plain (OpenSpec.upto mixerCutsSpec)) mixerCutsUptoCard

/-- THE SECOND FORM's CARD OF 'genlocklaw06.MixerMixes'. -/
def mixerMixesUptoCard : Claim7 := { stood := { row := mixerMixesUptoRow, standIns := [], harness := (true, "f53774289ea3af8748fc20dcf1470304273d0283f2b362fa6f289927ae7086fa"), looks := true }, kinds := [], alts := [], laidByText := true, laidKinds := [.data, .data, .data, .sentinel, .sentinel, .data], laidTests := true, laidLooks := .later }
def MixerMixesUptoCardSaid : Prop := Claim7.holds Tryz.pinned (.plain (OpenSpec.upto mixerMixesSpec)) mixerMixesUptoCard

/-- THE SECOND FORM's CARD OF 'genlocklaw06.MixerTiles'. -/
def mixerTilesUptoCard : Claim7 := { stood := { row := mixerTilesUptoRow, standIns := [], harness := (true, "f53774289ea3af8748fc20dcf1470304273d0283f2b362fa6f289927ae7086fa"), looks := true }, kinds := [], alts := [], laidByText := true, laidKinds := [.data, .data, .data, .sentinel, .sentinel, .data], laidTests := true, laidLooks := .later }
def MixerTilesUptoCardSaid : Prop := Claim7.holds Tryz.pinned (.plain (OpenSpec.upto mixerTilesSpec)) mixerTilesUptoCard

/-- THE SECOND FORM's CARD OF 'genlocklaw06.MixerKeys'. -/
def mixerKeysUptoCard : Claim7 := { stood := { row := mixerKeysUptoRow, standIns := [], harness := (true, "f53774289ea3af8748fc20dcf1470304273d0283f2b362fa6f289927ae7086fa"), looks := true }, kinds := [], alts := [], laidByText := true, laidKinds := [.data, .data, .data, .sentinel, .sentinel, .data], laidTests := true, laidLooks := .later }
def MixerKeysUptoCardSaid : Prop := Claim7.holds Tryz.pinned (.plain (OpenSpec.upto mixerKeysSpec)) mixerKeysUptoCard

/-- THE SECOND FORM's CARD OF 'genlocklaw06.MixerBetween'. -/
def mixerBetweenUptoCard : Claim7 := { stood := { row := mixerBetweenUptoRow, standIns := [], harness := (true, "f53774289ea3af8748fc20dcf1470304273d0283f2b362fa6f289927ae7086fa"), looks := true }, kinds := [], alts := [], laidByText := true, laidKinds := [.data, .data, .data, .sentinel, .sentinel, .data], laidTests := true, laidLooks := .later }
def MixerBetweenUptoCardSaid : Prop := Claim7.holds Tryz.pinned (.plain (OpenSpec.upto mixerBetweenSpec)) mixerBetweenUptoCard

/-- THE SECOND FORM's CARD OF 'genlocklaw06.MixerTexts'. -/
def mixerTextsUptoCard : Claim7 := { stood := { row := mixerTextsUptoRow, standIns := [], harness := (true, "f53774289ea3af8748fc20dcf1470304273d0283f2b362fa6f289927ae7086fa"), looks := true }, kinds := [], alts := [], laidByText := true, laidKinds := [.data, .data, .data, .data, .sentinel, .sentinel, .data, .pinned], laidTests := true, laidLooks := .later }
def MixerTextsUptoCardSaid : Prop := Claim7.holds Tryz.pinned (.plain (OpenSpec.upto mixerTextsSpec)) mixerTextsUptoCard

/-- THE SECOND FORM's CARD OF 'genlocklaw06.MixerBack'. -/
def mixerBackUptoCard : Claim7 := { stood := { row := mixerBackUptoRow, standIns := [], harness := (true, "f53774289ea3af8748fc20dcf1470304273d0283f2b362fa6f289927ae7086fa"), looks := true }, kinds := [], alts := [], laidByText := true, laidKinds := [.data, .data, .data, .data, .sentinel, .sentinel, .data, .pinned], laidTests := true, laidLooks := .later }
def MixerBackUptoCardSaid : Prop := Claim7.holds Tryz.pinned (.plain (OpenSpec.upto mixerBackSpec)) mixerBackUptoCard
end Rows
end Go.Proofs.YtjkgklhjbopoaaaGreatDoor
