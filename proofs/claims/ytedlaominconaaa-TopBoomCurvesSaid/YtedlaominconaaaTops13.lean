/- A line of colours: its signal, its violations, in the words of the law. -/
import Derived.Test.YtedlaominconaaaTops12
import Derived.Test.YtedlaominconaaaTops11
namespace Go.Proofs.Ytedlaominconaaa
open Go.E Go.RowKit Go.Fl
attribute [local irreducible] G C S D Calls
set_option maxRecDepth 100000
set_option linter.unusedSimpArgs false
set_option linter.unusedVariables false

/-- Colours that are small. -/
def CsOk (cs : List Col) : Prop := ∀ x ∈ cs, (-500 ≤ x.1 ∧ x.1 ≤ 500) ∧ (-500 ≤ x.2.1 ∧ x.2.1 ≤ 500) ∧ (-500 ≤ x.2.2 ∧ x.2.2 ≤ 500)
theorem CsOk.y {cs : List Col} (h : CsOk cs) : ∀ x ∈ lmL cs, -500 ≤ x ∧ x ≤ 500 := fun x hx => by
  obtain ⟨c, hc, hx⟩ := List.mem_flatMap.1 hx
  have := (h c hc).1
  simp only [List.mem_cons, List.mem_nil_iff, or_false] at hx
  rcases hx with rfl | rfl | rfl | rfl <;> exact this
theorem CsOk.u {cs : List Col} (h : CsOk cs) : ∀ x ∈ uL cs, -500 ≤ x ∧ x ≤ 500 := fun x hx => by
  obtain ⟨c, hc, rfl⟩ := List.mem_map.1 hx
  exact (h c hc).2.1
theorem CsOk.v {cs : List Col} (h : CsOk cs) : ∀ x ∈ vL cs, -500 ≤ x ∧ x ≤ 500 := fun x hx => by
  obtain ⟨c, hc, rfl⟩ := List.mem_map.1 hx
  exact (h c hc).2.2
theorem wide {l : List Int} (h : ∀ x ∈ l, -500 ≤ x ∧ x ≤ 500) : ∀ x ∈ l, -16384 ≤ x ∧ x ≤ 16384 := fun x hx => by have := h x hx; omega
/-! ### Violations -/
end Go.Proofs.Ytedlaominconaaa
