/- The reference: positions of ticks. -/
import Derived.Test.YtmfophoejjcnlaaGreatDoorTiming16
import Derived.Test.YtmfophoejjcnlaaGreatDoorEng3
namespace Go.Proofs.YtmfophoejjcnlaaGreatDoor
open Go.E Go.RowKit
attribute [local irreducible] G C S D DY DS Calls
set_option maxRecDepth 100000
set_option linter.unusedSimpArgs false
set_option linter.unusedVariables false

end Go.Proofs.YtmfophoejjcnlaaGreatDoor
