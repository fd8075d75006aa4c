/- Samples of ticks, errors of signals. -/
import Derived.Test.YtmfophoejjcnlaaGreatDoorTiming8
namespace Go.Proofs.YtmfophoejjcnlaaGreatDoor
open Go.E Go.RowKit
attribute [local irreducible] G C S D Calls
set_option maxRecDepth 100000
set_option linter.unusedSimpArgs false
set_option linter.unusedVariables false

theorem atF_S (f : Fmt) (t : Int) : (atF f t).S = t % f.S := by unfold atF; dsimp only; split <;> rfl
/-- The error of a tick and a number of samples. -/
def sigC (t n : Int) : Int := if ¬ firstL [wi t 0 10000000, wi n 0 4096] = 0 then firstL [wi t 0 10000000, wi n 0 4096] else wh (decide (0 < n) && decide (10000000 < t + n - 1)) 4
theorem sigC_eq (f : Fmt) (t n : Int) : firstL [checkF f, sigC t n] = sigE f t n := by
  unfold sigE checkT sigC
  by_cases h0 : checkF f = 0
  · rcases wi_3 t 0 10000000 with h1 | h1
    · rcases wi_3 n 0 4096 with h2 | h2
      · have g1 := (wi_eq _ _ _).1 h1
        have g2 := (wi_eq _ _ _).1 h2
        have e : IntKind.i64.wrap (10000000 - t) = 10000000 - t := inR_wrap (by simp only [inR]; omega)
        have e' : IntKind.i64.wrap (n - 1) = n - 1 := inR_wrap (by simp only [inR]; omega)
        rw [e, e']
        have hd : decide (10000000 < t + n - 1) = decide (10000000 - t < n - 1) := decide_eq_decide.2 (by omega)
        rw [hd]
        simp [firstL, h0, h1, h2]
      · simp [firstL, h0, h1, h2]
    · simp [firstL, h0, h1]
  · simp [firstL, h0]

end Go.Proofs.YtmfophoejjcnlaaGreatDoor
