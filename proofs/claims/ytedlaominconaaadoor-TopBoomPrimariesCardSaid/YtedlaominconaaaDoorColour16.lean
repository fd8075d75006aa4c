/- Gamuts: the program. -/
import Derived.Test.YtedlaominconaaaDoorColour15
namespace Go.Proofs.YtedlaominconaaaDoor
open Go.E Go.RowKit Go.Fl
attribute [local irreducible] G C S D Calls
set_option maxRecDepth 100000
set_option linter.unusedSimpArgs false
set_option linter.unusedVariables false

structure Pla where
  a : Int
  b : Int
  c : Int
  m : Int
deriving DecidableEq
structure PlaOk (p : Pla) : Prop where
  a : -4096 ≤ p.a ∧ p.a ≤ 4096
  b : -4096 ≤ p.b ∧ p.b ≤ 4096
  c : -4096 ≤ p.c ∧ p.c ≤ 4096
  m : -1099511627776 ≤ p.m ∧ p.m ≤ 1099511627776
-- plCheck

-- checkGamut

-- forbids

-- Legal

end Go.Proofs.YtedlaominconaaaDoor
