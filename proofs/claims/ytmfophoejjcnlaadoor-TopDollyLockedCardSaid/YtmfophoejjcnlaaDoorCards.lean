/-
  DERIVED. GIVEN WITH THE SEED: THE CARDS: each row of YtmfophoejjcnlaaDoorRows.lean that lists a variable, with what it lists TIED to the program's text (the seventh form; the later family's looks); each row that meets fmt, with fmt's text TOLD by the authors' own Lean function (tested against real Go, not proved from fmt's source: count such statements apart). THE CARD IS WHAT COUNTS. Prove the row's statement (the work); the ties are given (YtmfophoejjcnlaaDoorTie.lean); close each card by the builder's one call (the guide's Derived/Test/ToyasCard.lean, 'card_holds'). Laid BY PROGRAM, IN A SANDBOX (cutbox-door.mjs). By AI agents, Wed Nov 11 2026. No macro, syntax, notation, axiom, sorry.
-/
import Derived.Test.YtmfophoejjcnlaaDoorRows
import GoSem.ClaimSeven
namespace Go.Proofs.YtmfophoejjcnlaaDoor
namespace Rows

/-- THE TIED CARD OF 'genlocktop.TopDollyLocked'. -/
def topDollyLockedCard : Claim7 := { stood := { row := topDollyLockedRow, standIns := [], harness := (true, "99954d637273f6a262c3bc61655f768cee3b0ed35b3c99c8a9f4fa3f1ff7c175"), looks := false }, kinds := [], alts := [], laidByText := true, laidKinds := [.data], laidTests := true, laidLooks := .later }
def TopDollyLockedCardSaid : Prop := Claim7.holds Tryd.pinned (.plain (OpenSpec.ofChange topDollyLockedSpec)) topDollyLockedCard

/-- THE SECOND FORM's CARD OF 'genlocktop.TopDollyLocked'. -/
def topDollyLockedUptoCard : Claim7 := { stood := { row := topDollyLockedUptoRow, standIns := [], harness := (true, "99954d637273f6a262c3bc61655f768cee3b0ed35b3c99c8a9f4fa3f1ff7c175"), looks := false }, kinds := [], alts := [], laidByText := true, laidKinds := [.data], laidTests := true, laidLooks := .later }
def TopDollyLockedUptoCardSaid : Prop := Claim7.holds Tryd.pinned (.plain (OpenSpec.upto topDollyLockedSpec)) topDollyLockedUptoCard
end Rows
end Go.Proofs.YtmfophoejjcnlaaDoor
