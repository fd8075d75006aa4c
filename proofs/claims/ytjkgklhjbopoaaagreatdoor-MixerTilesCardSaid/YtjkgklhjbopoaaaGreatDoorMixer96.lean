/- Guarded operations that read alone, in a region that draws its order. -/
import Derived.Test.YtjkgklhjbopoaaaGreatDoorPartJ
namespace Go.Proofs.YtjkgklhjbopoaaaGreatDoor
open Go.E Go.RowKit Go.Fl
attribute [local irreducible] G C S D Calls
set_option maxRecDepth 100000
set_option linter.all false
set_option maxHeartbeats 8000000
theorem aa8 {X : Cx} {Ps0 : Past} {bx0 : List Bx} {rw0 : List Rw} {l0 : List Oper} {o : Oper} {sl sl' : List (Nat × AV)} {j : Nat} {b : Bool} {ctx : List (Bool × Bool)} (hg : o.guard = some (j, b)) (hx : gctx l0 ⟨sl, bx0, rw0⟩ (some (j, b)) = some ctx) (hc : gOk ctx = true) (h : Yl X Ps0 bx0 rw0 l0 (unG o) sl sl') : Yl X Ps0 bx0 rw0 l0 o sl sl' := by
  unfold Yl at h ⊢
  intro a ha
  obtain ⟨v, h1, h2⟩ := h a ha
  have w1 : Region.wanted o (yielded l0.toArray a.tmps) = true := by rw [N7 ha (ctx := ctx) (by rw [hg]; exact hx)]; exact hc
  have w2 : Region.wanted (unG o) (yielded l0.toArray a.tmps) = true := o7 rfl
  refine ⟨v, ?_, h2⟩
  rcases h1 with ⟨_, h1⟩ | ⟨h1, _⟩
  · exact .inl ⟨w1, h1⟩
  · rw [w2] at h1
    cases h1
end Go.Proofs.YtjkgklhjbopoaaaGreatDoor
