/- What the laws of pictures call: contracts as they are used. -/
import Derived.Test.YtjkgklhjbopoaaaGreatDoorMixer58
import Derived.Test.YtjkgklhjbopoaaaGreatDoorMixer43
import Derived.Test.YtjkgklhjbopoaaaGreatDoorEng4
namespace Go.Proofs.YtjkgklhjbopoaaaGreatDoor
open Go.E Go.RowKit Go.Fl
attribute [local irreducible] G C S D Calls
set_option maxRecDepth 100000
set_option linter.all false
set_option maxHeartbeats 8000000
section
variable {p q : Pic} {A B D : Option Addr} {c c2 c3 : Nat} {w : World} {l k k2 : List Int} {e cl ga cu cv u t : Int} {b : Bool} {y : Pic}
end
section
variable {p q : Pic} {A B D : Option Addr} {c c2 c3 : Nat} {w : World} {l k k2 : List Int} {e cl ga cu cv u t : Int} {b : Bool} {y : Pic}
end
end Go.Proofs.YtjkgklhjbopoaaaGreatDoor
