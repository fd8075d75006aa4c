/- The band of a line of colours gives back the colours. -/
import Derived.Test.YtedlaominconaaaTops13
namespace Go.Proofs.Ytedlaominconaaa
open Go.E Go.RowKit Go.Fl
attribute [local irreducible] G C S D Calls
set_option maxRecDepth 100000
set_option linter.unusedSimpArgs false
set_option linter.unusedVariables false

/-- The four levels of a colour. -/
def lv (s : Int) (c : Col) : List Int := [c.1 + s * c.2.1, c.1 + s * c.2.2, c.1 + (0 - s) * c.2.1, c.1 + (0 - s) * c.2.2]
end Go.Proofs.Ytedlaominconaaa
