/- Composite signals: carriers, sums, samples. -/
import Derived.Test.YtedlaominconaaaTops2
namespace Go.Proofs.Ytedlaominconaaa
open Go.E Go.RowKit Go.Fl
attribute [local irreducible] G C S D Calls
set_option maxRecDepth 100000
set_option linter.unusedSimpArgs false
set_option linter.unusedVariables false


end Go.Proofs.Ytedlaominconaaa
