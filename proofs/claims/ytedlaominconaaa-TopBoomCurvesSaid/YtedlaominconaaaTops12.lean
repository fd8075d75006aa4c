/- The parts of colours. -/
import Derived.Test.YtedlaominconaaaTops10
import Derived.Test.YtedlaominconaaaEng4
namespace Go.Proofs.Ytedlaominconaaa
open Go.E Go.RowKit Go.Fl
attribute [local irreducible] G C S D DY DS V VT Yl QV QT Calls
set_option maxRecDepth 100000
set_option linter.unusedSimpArgs false
set_option linter.unusedVariables false

/-- The luma of the first colours, four times each. -/
def lmL (l : List Col) : List Int := l.flatMap fun c => [c.1, c.1, c.1, c.1]
def uL (l : List Col) : List Int := l.map (·.2.1)
def vL (l : List Col) : List Int := l.map (·.2.2)
end Go.Proofs.Ytedlaominconaaa
