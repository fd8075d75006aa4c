/- The table of powers, carried through a walk. -/
import Derived.Test.YtmfophoejjcnlaaGreatDoorTiming32
namespace Go.Proofs.YtmfophoejjcnlaaGreatDoor
open Go.E Go.RowKit
attribute [local irreducible] G C S D Calls
set_option maxRecDepth 100000
set_option linter.unusedSimpArgs false
set_option linter.unusedVariables false

theorem gPow : ∃ g, Tryz.prog.globalNamed powName = some g := ⟨2, by kernel_rfl⟩
theorem Pw_at {w0 w : World} {Ps : Past} {σ : St} {B : Nat} (h : Pw w0) (hw : HW B w0 Ps σ w) (hp : (w0, fun b => b < w0.heap.size) ∈ Ps) : Pw w := by
  obtain ⟨g, hg⟩ := gPow
  unfold Pw Lib.TabIs at h ⊢
  simp only [World.var?, hg, Option.bind_some] at h ⊢
  cases ho : w0.heap[g]? with
  | none => simp [ho] at h
  | some o =>
    have hlt : g < w0.heap.size := (Array.getElem?_eq_some_iff.1 ho).1
    have := (hw.past _ hp g hlt).1.2
    rw [this]
    exact h

end Go.Proofs.YtmfophoejjcnlaaGreatDoor
