/- Plain laws of clocks that slip. -/
import Derived.Test.YtmfophoejjcnlaaGreatDoorTiming13
import Derived.Test.YtmfophoejjcnlaaGreatDoorTiming45
namespace Go.Proofs.YtmfophoejjcnlaaGreatDoor
open Go.E Go.RowKit
attribute [local irreducible] G C S D Calls
set_option maxRecDepth 100000
set_option linter.unusedSimpArgs false
set_option linter.unusedVariables false

theorem slipN_pos {n d t : Int} (hd : 1 ≤ d) (ht : 1 ≤ t) : 1 ≤ slipN n d t := by
  have := (slip_iff (n := n) (x := 0) hd ht (by omega)).2
  rcases Int.lt_or_le (slipN n d t) 1 with h | h
  · have := this (by omega)
    simp at this
    omega
  · exact h
theorem count_mono {n d a b : Int} (hn : 1 ≤ n) (hd : 1 ≤ d) (h : a ≤ b) : a * n / d ≤ b * n / d := Int.ediv_le_ediv (by omega) (Int.mul_le_mul_of_nonneg_right h (by omega))
theorem countR_ok {n d t : Int} (hc : clockE n d = 0) (ht : 0 ≤ t ∧ t ≤ 10000000) : countR n d t = (t * n / d, 0) := by
  have : countE n d t = 0 := by
    unfold countE
    rw [firstL_zero]
    simp only [List.mem_cons, List.mem_nil_iff, or_false, forall_eq_or_imp, forall_eq, wi_eq]
    exact ⟨hc, ht⟩
  unfold countR
  rw [if_neg (Classical.not_not.2 this)]
theorem slipE_ok {n d t : Int} (hc : clockE n d = 0) (ht : 1 ≤ t ∧ t ≤ 1000) : slipE n d t = 0 := by
  unfold slipE
  rw [firstL_zero]
  simp only [List.mem_cons, List.mem_nil_iff, or_false, forall_eq_or_imp, forall_eq, wi_eq]
  exact ⟨hc, ht⟩

end Go.Proofs.YtmfophoejjcnlaaGreatDoor
