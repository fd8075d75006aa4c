/- What the laws of keys and pictures call: contracts as they are used. -/
import Derived.Test.YtjkgklhjbopoaaaGreatDoorPartJ
import Derived.Test.YtjkgklhjbopoaaaGreatDoorMixer15
import Derived.Test.YtjkgklhjbopoaaaGreatDoorMixer38
namespace Go.Proofs.YtjkgklhjbopoaaaGreatDoor
open Go.E Go.RowKit Go.Fl
attribute [local irreducible] G C S D Calls
set_option maxRecDepth 100000
set_option linter.all false
set_option maxHeartbeats 8000000
section
variable {p q : Pic} {A B D : Option Addr} {c c2 c3 : Nat} {w : World} {l k k2 : List Int} {e cl ga u t : Int} {b : Bool} {y : Pic}
theorem aS3 (h : picE p = e) (hs : p.s.length ≤ 1000000) (hn : p.nm.size ≤ maxLen) (hr : Rd w A (p.s.map (.float .f32))) : Calls Tryz.prog 60 #[.agg #[.string p.nm, .int .i64 p.w, .int .i64 p.h, .slice A p.s.length c]] w fun r w' => r = .returned (.int .i64 e) ∧ Below w.heap.size w w' := by
  subst h
  exact I4 p A c hs hn w hr
end
end Go.Proofs.YtjkgklhjbopoaaaGreatDoor
