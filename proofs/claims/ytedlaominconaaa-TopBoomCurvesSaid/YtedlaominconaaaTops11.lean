/- The planes of an interval; parts of colours. -/
import Derived.Test.YtedlaominconaaaTops10
import Derived.Test.YtedlaominconaaaEng4
namespace Go.Proofs.Ytedlaominconaaa
open Go.E Go.RowKit Go.Fl
attribute [local irreducible] G C S D DY DS V VT Yl QV QT Calls
set_option maxRecDepth 100000
set_option linter.unusedSimpArgs false
set_option linter.unusedVariables false

end Go.Proofs.Ytedlaominconaaa
