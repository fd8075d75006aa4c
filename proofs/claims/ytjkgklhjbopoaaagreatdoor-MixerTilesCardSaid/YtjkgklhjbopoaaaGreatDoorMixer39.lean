/- Mixer: wipes, chroma keys: contracts of the reference. -/
import Derived.Test.YtjkgklhjbopoaaaGreatDoorMixer38
namespace Go.Proofs.YtjkgklhjbopoaaaGreatDoor
open Go.E Go.RowKit Go.Fl
attribute [local irreducible] G C S D Calls
set_option maxRecDepth 100000
set_option linter.all false
set_option maxHeartbeats 8000000
end Go.Proofs.YtjkgklhjbopoaaaGreatDoor
