/- The reference: positions. -/
import Derived.Test.YtmfophoejjcnlaaGreatDoorTiming11
namespace Go.Proofs.YtmfophoejjcnlaaGreatDoor
open Go.E Go.RowKit
attribute [local irreducible] G C S D Calls
set_option maxRecDepth 100000
set_option linter.unusedSimpArgs false
set_option linter.unusedVariables false

end Go.Proofs.YtmfophoejjcnlaaGreatDoor
