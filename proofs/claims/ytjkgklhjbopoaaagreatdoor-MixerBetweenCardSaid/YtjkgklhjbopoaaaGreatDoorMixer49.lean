/- Mixer: fills over pictures, borders: contracts of the reference. -/
import Derived.Test.YtjkgklhjbopoaaaGreatDoorMixer45
namespace Go.Proofs.YtjkgklhjbopoaaaGreatDoor
open Go.E Go.RowKit Go.Fl
attribute [local irreducible] G C S D Calls
set_option maxRecDepth 100000
set_option linter.all false
set_option maxHeartbeats 8000000
section
variable {p q : Pic} {key : List Int} {f b : Nat → Int} {n k : Nat}
end
end Go.Proofs.YtjkgklhjbopoaaaGreatDoor
