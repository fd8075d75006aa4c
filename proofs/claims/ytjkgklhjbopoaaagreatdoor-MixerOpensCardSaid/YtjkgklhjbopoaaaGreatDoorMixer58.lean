/- What the laws of keys and pictures call: contracts as they are used. -/
import Derived.Test.YtjkgklhjbopoaaaGreatDoorPartJ
import Derived.Test.YtjkgklhjbopoaaaGreatDoorMixer15
import Derived.Test.YtjkgklhjbopoaaaGreatDoorMixer38
namespace Go.Proofs.YtjkgklhjbopoaaaGreatDoor
open Go.E Go.RowKit Go.Fl
attribute [local irreducible] G C S D Calls
set_option maxRecDepth 100000
set_option linter.all false
set_option maxHeartbeats 8000000
section
variable {p q : Pic} {A B D : Option Addr} {c c2 c3 : Nat} {w : World} {l k k2 : List Int} {e cl ga u t : Int} {b : Bool} {y : Pic}
theorem linear_as (h : lnR p cl ga = (l, e)) (hs : p.s.length ≤ 1000000) (hr : Rd w A (p.s.map (.float .f32))) : Calls Tryz.prog 41 #[.agg #[.string p.nm, .int .i64 p.w, .int .i64 p.h, .slice A p.s.length c], .agg #[.int .i64 cl, .int .i64 ga]] w fun r w' => ∃ v, r = .returned v ∧ Below w.heap.size w w' ∧ Sl2 w w' v l.length (l.map (.int .i64)) (.int .i64 e) := by
  have := mLinear_c p A c hs cl ga w hr
  rw [h] at this
  exact this
end
end Go.Proofs.YtjkgklhjbopoaaaGreatDoor
