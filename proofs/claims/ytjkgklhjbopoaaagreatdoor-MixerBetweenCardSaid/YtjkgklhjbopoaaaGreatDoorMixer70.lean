/- What the law of the mixes calls: contracts as they are used. -/
import Derived.Test.YtjkgklhjbopoaaaGreatDoorMixer60
import Derived.Test.YtjkgklhjbopoaaaGreatDoorMixer49
namespace Go.Proofs.YtjkgklhjbopoaaaGreatDoor
open Go.E Go.RowKit Go.Fl
attribute [local irreducible] G C S D Calls
set_option maxRecDepth 100000
set_option linter.all false
set_option maxHeartbeats 8000000
section
variable {p q : Pic} {A B D : Option Addr} {c c2 c3 : Nat} {w : World} {l k k2 : List Int} {e cl ga cu cv u t : Int} {b : Bool} {y : Pic}
theorem premultiplied_as (h : pmR p k = (y, e)) (hs : p.s.length ≤ 1000000) (hl : k.length ≤ 1000000) (hr : Rd w A (p.s.map (.float .f32))) (hr3 : Rd w D (k.map (.int .i64))) : Calls Tryz.prog 76 #[.agg #[.string p.nm, .int .i64 p.w, .int .i64 p.h, .slice A p.s.length c], .slice D k.length c3] w fun r w' => ∃ v, r = .returned v ∧ Below w.heap.size w w' ∧ PicR w w' v y e := by
  have := mPremultiplied_c p A c hs D c3 k hl w hr hr3
  rw [h] at this
  exact this
theorem mixed_as (h : mxR p q k = (y, e)) (hs : p.s.length ≤ 1000000) (hs2 : q.s.length ≤ 1000000) (hl : k.length ≤ 1000000) (hr : Rd w A (p.s.map (.float .f32))) (hq : Rd w B (q.s.map (.float .f32))) (hr3 : Rd w D (k.map (.int .i64))) : Calls Tryz.prog 75 #[.agg #[.string p.nm, .int .i64 p.w, .int .i64 p.h, .slice A p.s.length c], .agg #[.string q.nm, .int .i64 q.w, .int .i64 q.h, .slice B q.s.length c2], .slice D k.length c3] w fun r w' => ∃ v, r = .returned v ∧ Below w.heap.size w w' ∧ PicR w w' v y e := by
  have := mMixed_c p q A c hs B c2 hs2 D c3 k hl w hr hq hr3
  rw [h] at this
  exact this
theorem over_as (h : ovR p q k = (y, e)) (hs : p.s.length ≤ 1000000) (hs2 : q.s.length ≤ 1000000) (hl : k.length ≤ 1000000) (hr : Rd w A (p.s.map (.float .f32))) (hq : Rd w B (q.s.map (.float .f32))) (hr3 : Rd w D (k.map (.int .i64))) : Calls Tryz.prog 77 #[.agg #[.string p.nm, .int .i64 p.w, .int .i64 p.h, .slice A p.s.length c], .agg #[.string q.nm, .int .i64 q.w, .int .i64 q.h, .slice B q.s.length c2], .slice D k.length c3] w fun r w' => ∃ v, r = .returned v ∧ Below w.heap.size w w' ∧ PicR w w' v y e := by
  have := mOver_c p q A c hs B c2 hs2 D c3 k hl w hr hq hr3
  rw [h] at this
  exact this
theorem cfill_as (h : cfE p k = e) (hs : p.s.length ≤ 1000000) (hl : k.length ≤ 1000000) (hr : Rd w A (p.s.map (.float .f32))) (hr3 : Rd w D (k.map (.int .i64))) : Calls Tryz.prog 83 #[.agg #[.string p.nm, .int .i64 p.w, .int .i64 p.h, .slice A p.s.length c], .slice D k.length c3] w fun r w' => r = .returned (.int .i64 e) ∧ Below w.heap.size w w' := by
  subst h
  exact mCheckFill_c p A c hs D c3 k hl w hr hr3
end
end Go.Proofs.YtjkgklhjbopoaaaGreatDoor
