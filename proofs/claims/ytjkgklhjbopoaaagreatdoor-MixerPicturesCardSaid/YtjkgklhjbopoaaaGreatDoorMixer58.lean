/- What the laws of keys and pictures call: contracts as they are used. -/
import Derived.Test.YtjkgklhjbopoaaaGreatDoorPartJ
import Derived.Test.YtjkgklhjbopoaaaGreatDoorMixer15
import Derived.Test.YtjkgklhjbopoaaaGreatDoorMixer38
namespace Go.Proofs.YtjkgklhjbopoaaaGreatDoor
open Go.E Go.RowKit Go.Fl
attribute [local irreducible] G C S D Calls
set_option maxRecDepth 100000
set_option linter.unusedSimpArgs false
set_option linter.unusedVariables false
set_option maxHeartbeats 8000000
section
variable {p q : Pic} {A B D : Option Addr} {c c2 c3 : Nat} {w : World} {l k k2 : List Int} {e cl ga u t : Int} {b : Bool} {y : Pic}
end
end Go.Proofs.YtjkgklhjbopoaaaGreatDoor
