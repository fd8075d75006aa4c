/- Mixer: ranges of trees: contracts of the reference. -/
import Derived.Test.YtjkgklhjbopoaaaGreatDoorPartK
namespace Go.Proofs.YtjkgklhjbopoaaaGreatDoor
open Go.E Go.RowKit Go.Fl
attribute [local irreducible] G C S D Calls
set_option maxRecDepth 100000
set_option linter.all false
set_option maxHeartbeats 8000000
theorem bz7 {t : List Nod} {z : Int} (h : z ∈ scI t) : 0 ≤ z ∧ z < 8 := by
  unfold scI scL at h
  obtain ⟨k, hk, rfl⟩ := List.mem_map.1 h
  have := List.mem_range.1 (List.mem_filter.1 hk).1
  omega
theorem bu0 {t : List Nod} {n : Nat} (h : ∀ j : Nat, n ≤ j → j < 8 → (scI t).any (eqB j) = false) : (scI t).any (gtB n) = false := by
  rw [List.any_eq_false]
  intro z hz hg
  have hb := bz7 hz
  have hn : (n : Int) ≤ z := of_decide_eq_true hg
  have := h z.toNat (by omega) (by omega)
  rw [ad1, decide_eq_false_iff_not] at this
  exact this (by rw [Int.toNat_of_nonneg hb.1]; exact hz)
theorem bm3 {t : List Nod} {n k : Nat} (hk : n ≤ k) (h : (scI t).any (eqB k) = true) : (scI t).any (gtB n) = true := by
  rw [ad1, decide_eq_true_eq] at h
  rw [List.any_eq_true]
  exact ⟨_, h, decide_eq_true (by omega)⟩
end Go.Proofs.YtjkgklhjbopoaaaGreatDoor
