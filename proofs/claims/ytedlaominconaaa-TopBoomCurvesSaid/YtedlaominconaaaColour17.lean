/- Three pictures of one size; their places, as an iterator: the program. -/
import Derived.Test.YtedlaominconaaaColour16
import Derived.Test.YtedlaominconaaaColour11
namespace Go.Proofs.Ytedlaominconaaa
open Go.E Go.RowKit Go.Fl
attribute [local irreducible] G C S D Calls
set_option maxRecDepth 100000
set_option linter.unusedSimpArgs false
set_option linter.unusedVariables false

/-- A picture with its slice. -/
structure PV' where
  p : Pic
  A : Option Addr
  c : Nat
structure ThOk (x y z : Pic) : Prop where
  px : PicOk x
  py : PicOk y
  pz : PicOk z
  ww : x.w = y.w ∧ x.w = z.w
  hh : x.h = y.h ∧ x.h = z.h
theorem ThOk.len {x y z : Pic} (h : ThOk x y z) : x.s.length = y.s.length ∧ x.s.length = z.s.length := by
  have h1 := h.px.n
  have h2 := h.py.n
  have h3 := h.pz.n
  rw [← h.ww.1, ← h.hh.1] at h2
  rw [← h.ww.2, ← h.hh.2] at h3
  omega

end Go.Proofs.Ytedlaominconaaa
