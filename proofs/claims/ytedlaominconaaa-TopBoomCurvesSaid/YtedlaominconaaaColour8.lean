/- Matrices: conversions, determinants, inverses: the program. -/
import Derived.Test.YtedlaominconaaaColour7
import Derived.Test.YtedlaominconaaaEng4
namespace Go.Proofs.Ytedlaominconaaa
open Go.E Go.RowKit Go.Fl
attribute [local irreducible] G C S D DY DS V VT Yl QV QT Calls
set_option maxRecDepth 100000
set_option linter.unusedSimpArgs false
set_option linter.unusedVariables false

def Mat.at (m : Mat) : Nat → Nat → Int
  | 0, 0 => m.a
  | 0, 1 => m.b
  | 0, _ => m.c
  | 1, 0 => m.d
  | 1, 1 => m.e
  | 1, _ => m.f
  | _, 0 => m.g
  | _, 1 => m.h
  | _, _ => m.i
-- Converted

-- cof00

-- cof01

-- cof02

-- cof10

-- cof11

-- cof12

-- cof20

-- cof21

-- cof22

end Go.Proofs.Ytedlaominconaaa
