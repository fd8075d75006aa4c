/- Mixer: pictures of levels: contracts of the reference. -/
import Derived.Test.YtjkgklhjbopoaaaGreatDoorMixer40
namespace Go.Proofs.YtjkgklhjbopoaaaGreatDoor
open Go.E Go.RowKit Go.Fl
attribute [local irreducible] G C S D Calls
set_option maxRecDepth 100000
set_option linter.all false
set_option maxHeartbeats 8000000
def PicS (w w' : World) (v : Value) (q : Pic) : Prop := ∃ A c, v = .agg #[.string q.nm, .int .i64 q.w, .int .i64 q.h, .slice A q.s.length c] ∧ RdS (fun b => w.heap.size ≤ b ∧ b < w'.heap.size) w' A (q.s.map (.float .f32))
theorem PicS.of {w w' : World} {v : Value} {n : Nat} {s : List Nat} (h : Sl w w' v n (s.map (.float .f32))) (hn : n = s.length) {nm : ByteArray} {a e : Int} {u : Value} (hu : u = .agg #[.string nm, .int .i64 a, .int .i64 e, v]) : PicS w w' u ⟨nm, a, e, s⟩ := by
  obtain ⟨A, c, rfl, hr⟩ := h
  subst hn
  exact ⟨A, c, hu, hr⟩
end Go.Proofs.YtjkgklhjbopoaaaGreatDoor
