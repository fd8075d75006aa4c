/- The fixed example of the signal of a line. -/
import Derived.Test.YtedlaominconaaaTops13
import Derived.Test.YtedlaominconaaaEng4
namespace Go.Proofs.Ytedlaominconaaa
open Go.E Go.RowKit Go.Fl
attribute [local irreducible] G C S D DY DS V VT Yl QV QT Calls
set_option maxRecDepth 100000
set_option linter.unusedSimpArgs false
set_option linter.unusedVariables false

theorem RdS.some {S : Nat → Prop} {w : World} {A : Option Addr} {xs : List Value} (h : RdS S w A xs) (hx : 0 < xs.length) : ∃ ad, A = Option.some ad := h.rd.some hx
end Go.Proofs.Ytedlaominconaaa
