/- What the law of chroma keys calls: contracts as they are used. -/
import Derived.Test.YtjkgklhjbopoaaaGreatDoorMixer60
import Derived.Test.YtjkgklhjbopoaaaGreatDoorMixer43
import Derived.Test.YtjkgklhjbopoaaaGreatDoorMixer39
namespace Go.Proofs.YtjkgklhjbopoaaaGreatDoor
open Go.E Go.RowKit Go.Fl
attribute [local irreducible] G C S D Calls
set_option maxRecDepth 100000
set_option linter.all false
set_option maxHeartbeats 8000000
section
variable {p q : Pic} {A B D : Option Addr} {c c2 c3 : Nat} {w : World} {l k k2 : List Int} {e cl ga cu cv u t : Int} {b : Bool} {y : Pic}
theorem unspilled_as (h : usR p k = (y, e)) (hs : p.s.length ≤ 1000000) (hl : k.length ≤ 1000000) (hr : Rd w A (p.s.map (.float .f32))) (hr3 : Rd w D (k.map (.int .i64))) : Calls Tryz.prog 55 #[.agg #[.string p.nm, .int .i64 p.w, .int .i64 p.h, .slice A p.s.length c], .slice D k.length c3] w fun r w' => ∃ v, r = .returned v ∧ Below w.heap.size w w' ∧ PicR w w' v y e := by
  have := mUnspilled_c p A c hs D c3 k hl w hr hr3
  rw [h] at this
  exact this
end
end Go.Proofs.YtjkgklhjbopoaaaGreatDoor
