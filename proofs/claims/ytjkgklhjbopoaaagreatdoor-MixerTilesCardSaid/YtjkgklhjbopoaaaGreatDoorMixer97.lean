/- What the law of openings calls: contracts as they are used, plain laws. -/
import Derived.Test.YtjkgklhjbopoaaaGreatDoorMixer96
import Derived.Test.YtjkgklhjbopoaaaGreatDoorMixer58
import Derived.Test.YtjkgklhjbopoaaaGreatDoorMixer41
namespace Go.Proofs.YtjkgklhjbopoaaaGreatDoor
open Go.E Go.RowKit Go.Fl
attribute [local irreducible] G C S D Calls
set_option maxRecDepth 100000
set_option linter.all false
set_option maxHeartbeats 8000000
section
variable {x : Wip} {d u t : Int} {w : World} {l : List Int} {e : Int}
end
section
variable {x : Wip} {W H k : Nat} {d : Int}
end
end Go.Proofs.YtjkgklhjbopoaaaGreatDoor
