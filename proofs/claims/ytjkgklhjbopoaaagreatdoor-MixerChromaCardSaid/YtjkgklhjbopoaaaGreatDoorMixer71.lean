/- What the law of chroma keys calls: contracts as they are used. -/
import Derived.Test.YtjkgklhjbopoaaaGreatDoorMixer60
import Derived.Test.YtjkgklhjbopoaaaGreatDoorMixer43
import Derived.Test.YtjkgklhjbopoaaaGreatDoorMixer39
namespace Go.Proofs.YtjkgklhjbopoaaaGreatDoor
open Go.E Go.RowKit Go.Fl
attribute [local irreducible] G C S D Calls
set_option maxRecDepth 100000
set_option linter.unusedSimpArgs false
set_option linter.unusedVariables false
set_option maxHeartbeats 8000000
section
variable {p q : Pic} {A B D : Option Addr} {c c2 c3 : Nat} {w : World} {l k k2 : List Int} {e cl ga cu cv u t : Int} {b : Bool} {y : Pic}
theorem xcc_as  : Calls Tryz.prog 58 #[.agg #[.int .i64 cu, .int .i64 cv]] w fun r w' => r = .returned (.int .i64 (firstL [lvE cu, lvE cv])) ∧ Below w.heap.size w w' := by
  exact xCheckColour_c cu cv w
theorem chroma_as (h : crR p q cu cv cl ga = (l, e)) (hs : p.s.length ≤ 1000000) (hs2 : q.s.length ≤ 1000000) (hr : Rd w A (p.s.map (.float .f32))) (hq : Rd w B (q.s.map (.float .f32))) : Calls Tryz.prog 54 #[.agg #[.string p.nm, .int .i64 p.w, .int .i64 p.h, .slice A p.s.length c], .agg #[.string q.nm, .int .i64 q.w, .int .i64 q.h, .slice B q.s.length c2], .agg #[.int .i64 cu, .int .i64 cv], .agg #[.int .i64 cl, .int .i64 ga]] w fun r w' => ∃ v, r = .returned v ∧ Below w.heap.size w w' ∧ Sl2 w w' v l.length (l.map (.int .i64)) (.int .i64 e) := by
  have := mChroma_c p q A c hs B c2 hs2 cu cv cl ga w hr hq
  rw [h] at this
  exact this
theorem xchroma_as (hs : p.s.length ≤ 1000000) (hs2 : q.s.length ≤ 1000000) (hp : PicOk p) (hq2 : PicOk q) (hpq : q.s.length = p.s.length) (hcu : -16384 ≤ cu ∧ cu ≤ 16384) (hcv : -16384 ≤ cv ∧ cv ≤ 16384) (hsl : SlOk cl ga) (hr : Rd w A (p.s.map (.float .f32))) (hq : Rd w B (q.s.map (.float .f32))) : Calls Tryz.prog 62 #[.agg #[.string p.nm, .int .i64 p.w, .int .i64 p.h, .slice A p.s.length c], .agg #[.string q.nm, .int .i64 q.w, .int .i64 q.h, .slice B q.s.length c2], .agg #[.int .i64 cu, .int .i64 cv], .agg #[.int .i64 cl, .int .i64 ga]] w fun r w' => ∃ v, r = .returned v ∧ Below w.heap.size w w' ∧ Sl w w' v p.s.length ((zwI (crF cu cv cl ga) (lvs p) (lvs q)).map (.int .i64)) := by
  refine (xChroma_c p q A B c c2 hs hs2 hp hq2 hpq cu cv cl ga hcu hcv hsl w hr hq).mono ?_
  rintro r w' ⟨v, h1, h2, h3⟩
  rw [ch_rf hpq] at h3
  exact ⟨v, h1, h2, own_sl h3⟩
theorem unspilled_as (h : usR p k = (y, e)) (hs : p.s.length ≤ 1000000) (hl : k.length ≤ 1000000) (hr : Rd w A (p.s.map (.float .f32))) (hr3 : Rd w D (k.map (.int .i64))) : Calls Tryz.prog 55 #[.agg #[.string p.nm, .int .i64 p.w, .int .i64 p.h, .slice A p.s.length c], .slice D k.length c3] w fun r w' => ∃ v, r = .returned v ∧ Below w.heap.size w w' ∧ PicR w w' v y e := by
  have := mUnspilled_c p A c hs D c3 k hl w hr hr3
  rw [h] at this
  exact this
theorem xunspilled_as (hs : p.s.length ≤ 1000000) (hp : PicOk p) (hko : KeOk k) (hkl : k.length = p.s.length) (hr : Rd w A (p.s.map (.float .f32))) (hr3 : Rd w D (k.map (.int .i64))) : Calls Tryz.prog 63 #[.agg #[.string p.nm, .int .i64 p.w, .int .i64 p.h, .slice A p.s.length c], .slice D k.length c3] w fun r w' => ∃ v, r = .returned v ∧ Below w.heap.size w w' ∧ PicS w w' v (wiP p (zwI usF' (lvs p) k)) := by
  have := xUnspilled_c p A c hs D c3 k hkl hko.s hp w hr hr3
  rw [us_rf hkl] at this
  exact this
end
end Go.Proofs.YtjkgklhjbopoaaaGreatDoor
