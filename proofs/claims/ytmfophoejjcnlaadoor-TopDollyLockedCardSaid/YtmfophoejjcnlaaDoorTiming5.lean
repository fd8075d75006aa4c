/- Ticks, rows and phases. -/
import Derived.Test.YtmfophoejjcnlaaDoorTiming4
namespace Go.Proofs.YtmfophoejjcnlaaDoor
open Go.E Go.RowKit
attribute [local irreducible] G C S D Calls
set_option maxRecDepth 100000
set_option linter.unusedSimpArgs false
set_option linter.unusedVariables false

def wh (b : Bool) (e : Int) : Int := if b then e else 0
/-- The tick of a position of a valid format, and the error. -/
def tickE1 (f : Fmt) (p : Pos) : Int := wi p.F 0 (f.F - 1)
def tickE2 (f : Fmt) (p : Pos) : Int := firstL [wi p.L 0 (linesF f p.F - 1), wi p.S 0 (f.S - 1), wh (decide (p.R < 0)) 3, wh (decide (10000000 < p.R)) 4]
def tickN (f : Fmt) (p : Pos) : Int := p.R * (f.S * f.L) + (p.F * linesF f 0 + p.L) * f.S + p.S
def tickR (f : Fmt) (p : Pos) : Int × Int :=
  if p.R = 0 ∧ p.F = 0 ∧ p.L = 0 ∧ p.S = 0 then (0, 0) else
  if ¬ tickE1 f p = 0 then (0, tickE1 f p) else
  if ¬ tickE2 f p = 0 then (0, tickE2 f p) else
  if 10000000 < tickN f p then (0, 4) else (tickN f p, 0)
def TickR (f : Fmt) (p : Pos) : Int × Int := if ¬ checkF f = 0 then (0, checkF f) else tickR f p
theorem tickE2_iff (f : Fmt) (p : Pos) : tickE2 f p = 0 ↔ (0 ≤ p.L ∧ p.L ≤ linesF f p.F - 1) ∧ (0 ≤ p.S ∧ p.S ≤ f.S - 1) ∧ 0 ≤ p.R ∧ p.R ≤ 10000000 := by
  unfold tickE2 wh
  rw [firstL_zero]
  simp only [List.mem_cons, List.mem_nil_iff, or_false, forall_eq_or_imp, forall_eq, wi_eq, decide_eq_true_eq]
  refine and_congr Iff.rfl (and_congr Iff.rfl ?_)
  split <;> split <;> omega

-- tick

-- Tick

end Go.Proofs.YtmfophoejjcnlaaDoor
