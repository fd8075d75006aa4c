/- Composite signals: checks, signals encoded. -/
import Derived.Test.YtedlaominconaaaTops4
namespace Go.Proofs.Ytedlaominconaaa
open Go.E Go.RowKit Go.Fl
attribute [local irreducible] G C S D Calls
set_option maxRecDepth 100000
set_option linter.unusedSimpArgs false
set_option linter.unusedVariables false

/-- Parts that are right. -/
structure PtOk (L U V : List Nat) : Prop where
  n : L.length = 4 * U.length
  v : V.length = U.length
  m : U.length ≤ 64
  sl : ∀ b ∈ L, Smp b
  su : ∀ b ∈ U, Smp b
  sv : ∀ b ∈ V, Smp b
end Go.Proofs.Ytedlaominconaaa
