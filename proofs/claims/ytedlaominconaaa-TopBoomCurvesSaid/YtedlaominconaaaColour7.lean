/- Matrices: checks, products, conversions: the program. -/
import Derived.Test.YtedlaominconaaaColour6
import Derived.Test.YtedlaominconaaaEng4
namespace Go.Proofs.Ytedlaominconaaa
open Go.E Go.RowKit Go.Fl
attribute [local irreducible] G C S D Calls
set_option maxRecDepth 100000
set_option linter.unusedSimpArgs false
set_option linter.unusedVariables false

/-- A matrix: nine integers and a denominator. -/
structure Mat where
  a : Int
  b : Int
  c : Int
  d : Int
  e : Int
  f : Int
  g : Int
  h : Int
  i : Int
  n : Int
deriving DecidableEq
structure MatOk (m : Mat) : Prop where
  a : -4096 ≤ m.a ∧ m.a ≤ 4096
  b : -4096 ≤ m.b ∧ m.b ≤ 4096
  c : -4096 ≤ m.c ∧ m.c ≤ 4096
  d : -4096 ≤ m.d ∧ m.d ≤ 4096
  e : -4096 ≤ m.e ∧ m.e ≤ 4096
  f : -4096 ≤ m.f ∧ m.f ≤ 4096
  g : -4096 ≤ m.g ∧ m.g ≤ 4096
  h : -4096 ≤ m.h ∧ m.h ≤ 4096
  i : -4096 ≤ m.i ∧ m.i ≤ 4096
  n : 1 ≤ m.n ∧ m.n ≤ 4096
def dotF (a b c x y z : Int) : Int := a * x + b * y + c * z
abbrev Col := Int × Int × Int
def ColOk (c : Col) : Prop := (-16384 ≤ c.1 ∧ c.1 ≤ 16384) ∧ (-16384 ≤ c.2.1 ∧ c.2.1 ≤ 16384) ∧ (-16384 ≤ c.2.2 ∧ c.2.2 ≤ 16384)
-- checkColour

-- checkMatrix

-- converted

end Go.Proofs.Ytedlaominconaaa
