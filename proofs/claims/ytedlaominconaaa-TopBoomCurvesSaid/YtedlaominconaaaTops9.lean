/- Violations; pictures of a row, parts of colours, planes of an interval. -/
import Derived.Test.YtedlaominconaaaTops8
import Derived.Test.YtedlaominconaaaColour18
namespace Go.Proofs.Ytedlaominconaaa
open Go.E Go.RowKit Go.Fl
attribute [local irreducible] G C S D Calls
set_option maxRecDepth 100000
set_option linter.unusedSimpArgs false
set_option linter.unusedVariables false

theorem pic_len {p : Pic} (h : PicOk p) : p.s.length ≤ 4096 ∧ 0 < p.s.length := by
  have h1 := h.n
  have h2 := Int.mul_le_mul h.w.2 h.h.2 (by have := h.h; omega) (by omega)
  have h3 := Int.mul_pos (show 0 < p.w by have := h.w; omega) (show 0 < p.h by have := h.h; omega)
  omega

end Go.Proofs.Ytedlaominconaaa
