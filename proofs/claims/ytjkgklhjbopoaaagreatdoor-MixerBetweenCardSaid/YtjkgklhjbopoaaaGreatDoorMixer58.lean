/- What the laws of keys and pictures call: contracts as they are used. -/
import Derived.Test.YtjkgklhjbopoaaaGreatDoorPartJ
import Derived.Test.YtjkgklhjbopoaaaGreatDoorMixer15
import Derived.Test.YtjkgklhjbopoaaaGreatDoorMixer38
namespace Go.Proofs.YtjkgklhjbopoaaaGreatDoor
open Go.E Go.RowKit Go.Fl
attribute [local irreducible] G C S D Calls
set_option maxRecDepth 100000
set_option linter.all false
set_option maxHeartbeats 8000000
section
variable {p q : Pic} {A B D : Option Addr} {c c2 c3 : Nat} {w : World} {l k k2 : List Int} {e cl ga u t : Int} {b : Bool} {y : Pic}
theorem xcp_as (h : picE p = e) (hs : p.s.length ≤ 1000000) (hn : p.nm.size ≤ maxLen) (hr : Rd w A (p.s.map (.float .f32))) : Calls Tryz.prog 60 #[.agg #[.string p.nm, .int .i64 p.w, .int .i64 p.h, .slice A p.s.length c]] w fun r w' => r = .returned (.int .i64 e) ∧ Below w.heap.size w w' := by
  subst h
  exact rCheckPicture_c p A c hs hn w hr
theorem inverted_as (h : kvR k = (l, e)) (hl : k.length ≤ 1000000) (hr2 : Rd w B (k.map (.int .i64))) : Calls Tryz.prog 87 #[.slice B k.length c2] w fun r w' => ∃ v, r = .returned v ∧ Below w.heap.size w w' ∧ Sl2 w w' v l.length (l.map (.int .i64)) (.int .i64 e) := by
  have := mInverted_c B c2 k hl w hr2
  rw [h] at this
  exact this
theorem lesser_as (h : tgR (fun x y => min x y) k k2 = (l, e)) (hl : k.length ≤ 1000000) (hl2 : k2.length ≤ 1000000) (hr2 : Rd w B (k.map (.int .i64))) (hr3 : Rd w D (k2.map (.int .i64))) : Calls Tryz.prog 88 #[.slice B k.length c2, .slice D k2.length c3] w fun r w' => ∃ v, r = .returned v ∧ Below w.heap.size w w' ∧ Sl2 w w' v l.length (l.map (.int .i64)) (.int .i64 e) := by
  have := mLesser_c B c2 k hl D c3 k2 hl2 w hr2 hr3
  rw [h] at this
  exact this
theorem greater_as (h : tgR (fun x y => max x y) k k2 = (l, e)) (hl : k.length ≤ 1000000) (hl2 : k2.length ≤ 1000000) (hr2 : Rd w B (k.map (.int .i64))) (hr3 : Rd w D (k2.map (.int .i64))) : Calls Tryz.prog 89 #[.slice B k.length c2, .slice D k2.length c3] w fun r w' => ∃ v, r = .returned v ∧ Below w.heap.size w w' ∧ Sl2 w w' v l.length (l.map (.int .i64)) (.int .i64 e) := by
  have := mGreater_c B c2 k hl D c3 k2 hl2 w hr2 hr3
  rw [h] at this
  exact this
end
end Go.Proofs.YtjkgklhjbopoaaaGreatDoor
