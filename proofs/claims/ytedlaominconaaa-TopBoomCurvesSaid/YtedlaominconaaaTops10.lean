/- Pictures of a row, planes of an interval, parts that are the same. -/
import Derived.Test.YtedlaominconaaaTops9
namespace Go.Proofs.Ytedlaominconaaa
open Go.E Go.RowKit Go.Fl
attribute [local irreducible] G C S D Calls
set_option maxRecDepth 100000
set_option linter.unusedSimpArgs false
set_option linter.unusedVariables false

theorem dsameS_as {A B : Option Addr} {c c2 n : Nat} {l : List Nat} (hn : l.length = n) (hl : n ≤ 1000000) (hs : ∀ x ∈ l, Fin32 x) (w : World) (hr : Rd w A (l.map (.float .f32))) (hr2 : Rd w B (l.map (.float .f32))) : Calls Try.prog 40 #[.slice A n c, .slice B n c2] w fun r w' => r = .returned (.bool true) ∧ Below w.heap.size w w' := by
  subst hn
  have h := rSameSamples_c A B c c2 l l hl hl hs hs w hr hr2
  rw [decide_eq_true rfl] at h
  exact h
end Go.Proofs.Ytedlaominconaaa
