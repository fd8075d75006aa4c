/- Plain laws of positions. -/
import Derived.Test.YtmfophoejjcnlaaGreatDoorTiming17
import Derived.Test.YtmfophoejjcnlaaGreatDoorTiming54
namespace Go.Proofs.YtmfophoejjcnlaaGreatDoor
open Go.E Go.RowKit
attribute [local irreducible] G C S D Calls
set_option maxRecDepth 100000
set_option linter.unusedSimpArgs false
set_option linter.unusedVariables false

theorem atF_R (f : Fmt) (t : Int) : (atF f t).R = t / (f.S * f.L) := by unfold atF; dsimp only; split <;> rfl
/-- The line of a frame, counted over both fields. -/
theorem atF_line (f : Fmt) (t : Int) : (atF f t).F * linesF f 0 + (atF f t).L = t % (f.S * f.L) / f.S := by
  unfold atF
  dsimp only
  split
  · simp only [Int.one_mul]; omega
  · simp only [Int.zero_mul]; omega
theorem line_bd {f : Fmt} (hv : Valid f) (t : Int) : 0 ≤ t % (f.S * f.L) / f.S ∧ t % (f.S * f.L) / f.S < f.L := by
  have hS := hv.S
  have hL := hv.L
  have hfr := frame_bd f ⟨by omega, hS.2⟩ ⟨by omega, hL.2⟩
  have h5 := Int.emod_nonneg t (show f.S * f.L ≠ 0 by omega)
  have h6 := Int.emod_lt_of_pos t (show 0 < f.S * f.L by omega)
  exact ⟨Int.ediv_nonneg h5 (by omega), Int.ediv_lt_of_lt_mul (by omega) (by rwa [Int.mul_comm f.L f.S])⟩
theorem tick_at {f : Fmt} (hv : Valid f) (t : Int) : tickN f (atF f t) = t := by
  have hS := hv.S
  unfold tickN
  rw [atF_line, atF_R, atF_S]
  have e1 := Int.mul_ediv_add_emod t (f.S * f.L)
  have e2 := Int.mul_ediv_add_emod (t % (f.S * f.L)) f.S
  have e3 : t % (f.S * f.L) % f.S = t % f.S := Int.emod_emod_of_dvd t (Int.dvd_mul_right f.S f.L)
  rw [e3] at e2
  rw [Int.mul_comm] at e1 e2
  omega
theorem linesF_sum {f : Fmt} (hF : f.F = 2) : linesF f 0 + linesF f 1 = f.L := by
  simp [linesF, hF, exA]
  omega
theorem posE_at {f : Fmt} (hv : Valid f) {t : Int} (ht : 0 ≤ t ∧ t ≤ 10000000) : posE f (atF f t) = 0 := by
  have hS := hv.S
  have hL := hv.L
  have hF := hv.F
  have hlb := line_bd hv t
  have hab := atF_bd hv ht.1
  have htk := tick_at hv t
  have key : (0 ≤ (atF f t).F ∧ (atF f t).F ≤ f.F - 1) ∧ (0 ≤ (atF f t).L ∧ (atF f t).L ≤ linesF f (atF f t).F - 1) := by
    have hl1 : f.F = 1 → linesF f 0 = f.L := fun h => by simp [linesF, h]
    have hl2 : f.F = 2 → linesF f 0 + linesF f 1 = f.L := linesF_sum
    unfold atF
    dsimp only
    split
    · rename_i h
      have hF2 : f.F = 2 := by
        rcases (show f.F = 1 ∨ f.F = 2 by omega) with h1 | h1
        · have := hl1 h1; omega
        · exact h1
      have := hl2 hF2
      exact ⟨by show (0 : Int) ≤ 1 ∧ (1 : Int) ≤ f.F - 1; omega, by show 0 ≤ t % (f.S * f.L) / f.S - linesF f 0 ∧ t % (f.S * f.L) / f.S - linesF f 0 ≤ linesF f 1 - 1; omega⟩
    · exact ⟨by show (0 : Int) ≤ 0 ∧ (0 : Int) ≤ f.F - 1; omega, by show 0 ≤ t % (f.S * f.L) / f.S ∧ t % (f.S * f.L) / f.S ≤ linesF f 0 - 1; omega⟩
  have e1 : tickE1 f (atF f t) = 0 := (wi_eq _ _ _).2 key.1
  have e2 : tickE2 f (atF f t) = 0 := (tickE2_iff f _).2 ⟨key.2, by omega, by omega⟩
  unfold posE
  rw [if_neg (by simp [e1]), if_neg (by simp [e2]), htk]
  unfold wh
  simp
  omega
theorem TickR_at {f : Fmt} (hv : Valid f) {t : Int} (ht : 0 ≤ t ∧ t ≤ 10000000) : TickR f (atF f t) = (t, 0) := by
  rw [TickR_eq hv, if_pos (posE_at hv ht), tick_at hv]
/-- The next tick is in the next sample, or at a line's beginning. -/
theorem at_next {f : Fmt} (hv : Valid f) {t : Int} (ht : 0 ≤ t) : ((t + 1) % f.S ≠ 0 → atF f (t + 1) = ⟨(atF f t).R, (atF f t).F, (atF f t).L, (atF f t).S + 1⟩) ∧ ((t + 1) % f.S = 0 → t % f.S = f.S - 1) := by
  have hS := hv.S
  have hL := hv.L
  have m0 := Int.emod_nonneg t (show f.S ≠ 0 by omega)
  have m1 := Int.emod_lt_of_pos t (show 0 < f.S by omega)
  have e := Int.mul_ediv_add_emod t f.S
  constructor
  · intro h
    have hlt : t % f.S + 1 < f.S := by
      rcases (show t % f.S + 1 < f.S ∨ t % f.S + 1 = f.S by omega) with h1 | h1
      · exact h1
      · refine absurd ?_ h
        rw [show t + 1 = 0 + f.S * (t / f.S + 1) by rw [Int.mul_add, Int.mul_one]; omega, Int.add_mul_emod_self_left]
        rfl
    have q : (t + 1) / f.S = t / f.S := by
      rw [show t + 1 = (t % f.S + 1) + f.S * (t / f.S) by omega, Int.add_mul_ediv_left _ _ (by omega), Int.ediv_eq_zero_of_lt (by omega) hlt]
      omega
    have r : (t + 1) % f.S = t % f.S + 1 := by
      rw [show t + 1 = (t % f.S + 1) + f.S * (t / f.S) by omega, Int.add_mul_emod_self_left, Int.emod_eq_of_lt (by omega) hlt]
    obtain ⟨a1, a2⟩ := at_eq (S := f.S) (L := f.L) (t := t) (by omega) (by omega) ht
    obtain ⟨b1, b2⟩ := at_eq (S := f.S) (L := f.L) (t := t + 1) (by omega) (by omega) (by omega)
    rw [q] at b1 b2
    unfold atF
    dsimp only
    rw [← b1, ← b2, ← a1, ← a2, r]
    split <;> rfl
  · intro h
    rcases (show t % f.S + 1 < f.S ∨ t % f.S + 1 = f.S by omega) with h1 | h1
    · exfalso
      have r : (t + 1) % f.S = t % f.S + 1 := by
        rw [show t + 1 = (t % f.S + 1) + f.S * (t / f.S) by omega, Int.add_mul_emod_self_left, Int.emod_eq_of_lt (by omega) h1]
      omega
    · omega

end Go.Proofs.YtmfophoejjcnlaaGreatDoor
