/- The reference: plans of a net. -/
import Derived.Test.YtmfophoejjcnlaaGreatDoorTiming55
import Derived.Test.YtmfophoejjcnlaaGreatDoorTiming27
import Derived.Test.YtmfophoejjcnlaaGreatDoorEng3
namespace Go.Proofs.YtmfophoejjcnlaaGreatDoor
open Go.E Go.RowKit
attribute [local irreducible] G C S D DY DS V Yl QV Calls
set_option maxRecDepth 100000
set_option linter.unusedSimpArgs false
set_option linter.unusedVariables false

end Go.Proofs.YtmfophoejjcnlaaGreatDoor
