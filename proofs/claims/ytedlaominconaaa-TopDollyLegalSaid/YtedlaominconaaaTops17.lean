/- The violations of a line, one after another. -/
import Derived.Test.YtedlaominconaaaTops13
namespace Go.Proofs.Ytedlaominconaaa
open Go.E Go.RowKit Go.Fl
attribute [local irreducible] G C S D Calls
set_option maxRecDepth 100000
set_option linter.unusedSimpArgs false
set_option linter.unusedVariables false

theorem viC_s (lo hi : Int) (cs : List Col) (i : Nat) : viC lo hi cs (i + 1) = viC lo hi cs i ++ (if fbF (dpl lo hi) (gC cs i) ≠ -1 then [((i : Int), fbF (dpl lo hi) (gC cs i))] else []) := by
  unfold viC
  rw [List.range_succ, List.filter_append, List.map_append]
  congr 1
  by_cases h : fbF (dpl lo hi) (gC cs i) = -1
  · simp [h]
  · simp [h]
theorem viC_pre (lo hi : Int) (cs : List Col) {i n : Nat} (h : i ≤ n) : viC lo hi cs i <+: viC lo hi cs n := by
  obtain ⟨m, rfl⟩ := Nat.le.dest h
  clear h
  induction m with
  | zero => exact List.prefix_refl _
  | succ m ih =>
    refine ih.trans ?_
    rw [← Nat.add_assoc, viC_s]
    exact List.prefix_append _ _
/-- The violation of a colour stands behind those of the colours before it. -/
theorem viC_at {lo hi : Int} {cs : List Col} {i n : Nat} (h : i < n) (hne : fbF (dpl lo hi) (gC cs i) ≠ -1) : (viC lo hi cs n)[(viC lo hi cs i).length]? = some ((i : Int), fbF (dpl lo hi) (gC cs i)) := by
  have hp := viC_pre lo hi cs (i := i + 1) (n := n) h
  rw [viC_s, if_pos hne] at hp
  obtain ⟨t, ht⟩ := hp
  rw [← ht]
  simp

end Go.Proofs.Ytedlaominconaaa
