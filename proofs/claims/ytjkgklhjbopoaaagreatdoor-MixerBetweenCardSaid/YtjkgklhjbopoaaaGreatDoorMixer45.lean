/- Mixer: fills: contracts of the reference. -/
import Derived.Test.YtjkgklhjbopoaaaGreatDoorMixer44
import Derived.Test.YtjkgklhjbopoaaaGreatDoorEng4
namespace Go.Proofs.YtjkgklhjbopoaaaGreatDoor
open Go.E Go.RowKit Go.Fl
attribute [local irreducible] G C S D Calls
set_option maxRecDepth 100000
set_option linter.all false
set_option maxHeartbeats 8000000
theorem fi_of {n k : Int} (h1 : 0 ≤ n) (h2 : n ≤ 64 * k) : fiF n k = true := by unfold fiF; simp [h1, h2]
end Go.Proofs.YtjkgklhjbopoaaaGreatDoor
