/- The reference: counters; comparison of lists. -/
import Derived.Test.YtmfophoejjcnlaaGreatDoorTiming13
namespace Go.Proofs.YtmfophoejjcnlaaGreatDoor
open Go.E Go.RowKit
attribute [local irreducible] G C S D Calls
set_option maxRecDepth 100000
set_option linter.unusedSimpArgs false
set_option linter.unusedVariables false

end Go.Proofs.YtmfophoejjcnlaaGreatDoor
