/- Mixer: pictures changed level by level: contracts of the reference. -/
import Derived.Test.YtjkgklhjbopoaaaGreatDoorMixer42
namespace Go.Proofs.YtjkgklhjbopoaaaGreatDoor
open Go.E Go.RowKit Go.Fl
attribute [local irreducible] G C S D Calls
set_option maxRecDepth 100000
set_option linter.all false
set_option maxHeartbeats 8000000
theorem un_bd {n k : Int} (hn : -16384 ≤ n ∧ n ≤ 16384) (hk : 0 ≤ k ∧ k ≤ 256) : -16384 ≤ n - paF n (256 - k) ∧ n - paF n (256 - k) ≤ 16384 := by
  have hs : 0 ≤ 256 - k ∧ 256 - k ≤ 256 := by omega
  generalize 256 - k = s at hs
  unfold paF rnd
  rcases Int.le_total 0 n with h | h
  · have h1 := Int.mul_le_mul_of_nonneg_left hs.2 h
    have h2 := Int.mul_nonneg h hs.1
    omega
  · have h1 := Int.mul_le_mul_of_nonneg_left hs.2 (show 0 ≤ -n by omega)
    have h2 := Int.mul_nonneg (show 0 ≤ -n by omega) hs.1
    rw [Int.neg_mul] at h1 h2
    omega
end Go.Proofs.YtjkgklhjbopoaaaGreatDoor
