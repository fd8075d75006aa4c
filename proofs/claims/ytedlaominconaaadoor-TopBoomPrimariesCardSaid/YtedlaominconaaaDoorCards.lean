/-
  DERIVED. GIVEN WITH THE SEED: THE CARDS: each row of YtedlaominconaaaDoorRows.lean that lists a variable, with what it lists TIED to the program's text (the seventh form; the later family's looks); each row that meets fmt, with fmt's text TOLD by the authors' own Lean function (tested against real Go, not proved from fmt's source: count such statements apart). THE CARD IS WHAT COUNTS. Prove the row's statement (the work); the ties are given (YtedlaominconaaaDoorTie.lean); close each card by the builder's one call (the guide's Derived/Test/ToyasCard.lean, 'card_holds'). Laid BY PROGRAM, IN A SANDBOX (cutbox-door.mjs). By AI agents, Wed Nov 11 2026. No macro, syntax, notation, axiom, sorry.
-/
import Derived.Test.YtedlaominconaaaDoorRows
import GoSem.ClaimSeven
namespace Go.Proofs.YtedlaominconaaaDoor
namespace Rows

/-- THE TIED CARD OF 'genlocktop.TopBoomPrimaries'. -/
def topBoomPrimariesCard : Claim7 := { stood := { row := topBoomPrimariesRow, standIns := [], harness := (true, "2ae9f3bd8c016d2d2113201426e3f152a7234659ca83d03ae8c292636b66ff4e"), looks := false }, kinds := [], alts := [], laidByText := true, laidKinds := [.data], laidTests := true, laidLooks := .later }
def TopBoomPrimariesCardSaid : Prop := Claim7.holds Tryd.pinned (.plain (OpenSpec.ofChange topBoomPrimariesSpec)) topBoomPrimariesCard

/-- THE SECOND FORM's CARD OF 'genlocktop.TopBoomPrimaries'. -/
def topBoomPrimariesUptoCard : Claim7 := { stood := { row := topBoomPrimariesUptoRow, standIns := [], harness := (true, "2ae9f3bd8c016d2d2113201426e3f152a7234659ca83d03ae8c292636b66ff4e"), looks := false }, kinds := [], alts := [], laidByText := true, laidKinds := [.data], laidTests := true, laidLooks := .later }
def TopBoomPrimariesUptoCardSaid : Prop := Claim7.holds Tryd.pinned (.plain (OpenSpec.upto topBoomPrimariesSpec)) topBoomPrimariesUptoCard
end Rows
end Go.Proofs.YtedlaominconaaaDoor
