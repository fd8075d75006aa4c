/- Matrices: determinants, inverses, products: the program. -/
import Derived.Test.YtedlaominconaaaColour8
namespace Go.Proofs.Ytedlaominconaaa
open Go.E Go.RowKit Go.Fl
attribute [local irreducible] G C S D Calls
set_option maxRecDepth 100000
set_option linter.unusedSimpArgs false
set_option linter.unusedVariables false

-- determinant

theorem det_bd {m : Mat} (hm : MatOk m) : -824633720832 ≤ detF m ∧ detF m ≤ 824633720832 := dot_bd (m := m) hm.a hm.b hm.c (by have := cof_bd hm 0 0; omega) (by have := cof_bd hm 0 1; omega) (by have := cof_bd hm 0 2; omega)
def detR (m : Mat) : Int × Int := if matE m = 0 then (detF m, 0) else (0, matE m)
theorem detR_1 {m : Mat} (h : ¬ matE m = 0) : (detR m).1 = 0 ∧ (detR m).2 = matE m := by simp [detR, h]
theorem detR_2 {m : Mat} (h : matE m = 0) : (detR m).1 = detF m ∧ (detR m).2 = 0 := by simp [detR, h]

-- Determinant

theorem ratF_neg {x y : Int} (h : y < 0) : ratF x y = (x.tdiv (0 - (Int.gcd x y : Nat)), y.tdiv (0 - (Int.gcd x y : Nat))) := by rw [ratF, if_pos h, Int.zero_sub]
theorem ratF_pos {x y : Int} (h : ¬ y < 0) : ratF x y = (x.tdiv (Int.gcd x y : Nat), y.tdiv (Int.gcd x y : Nat)) := by rw [ratF, if_neg h]
theorem rPt {q p : Int × Int} (h : q = p) : Ending.returned (.agg #[.int .i64 p.1, .int .i64 p.2]) = Ending.returned (.agg #[.int .i64 q.1, .int .i64 q.2]) := by rw [h]

-- ratio

/-- An entry of the inverse. -/
def ivF (m : Mat) (i k : Nat) : Int × Int := ratF (m.n * cofF m k i) (detF m)
def iv9 (m : Mat) : List (Int × Int) := [ivF m 0 0, ivF m 0 1, ivF m 0 2, ivF m 1 0, ivF m 1 1, ivF m 1 2, ivF m 2 0, ivF m 2 1, ivF m 2 2]
def z9 : List (Int × Int) := [(0, 0), (0, 0), (0, 0), (0, 0), (0, 0), (0, 0), (0, 0), (0, 0), (0, 0)]
def v9 (l : List (Int × Int)) : Value := .agg (l.flatMap ptC).toArray
def ivR (m : Mat) : List (Int × Int) × Int := if matE m = 0 then (if detF m = 0 then (z9, 17) else (iv9 m, 0)) else (z9, matE m)
theorem ivR_1 {m : Mat} (h : ¬ matE m = 0) : ivR m = (z9, matE m) := if_neg h
theorem ivR_2 {m : Mat} (h : matE m = 0) (h2 : detF m = 0) : ivR m = (z9, 17) := by rw [ivR, if_pos h, if_pos h2]
theorem ivR_3 {m : Mat} (h : matE m = 0) (h2 : ¬ detF m = 0) : ivR m = (iv9 m, 0) := by rw [ivR, if_pos h, if_neg h2]
theorem rV9 {q p : List (Int × Int) × Int} (h : q = p) : Ending.returned (.tuple #[v9 p.1, .int .i64 p.2]) = Ending.returned (.tuple #[v9 q.1, .int .i64 q.2]) := by rw [h]
theorem nc_bd {m : Mat} (hm : MatOk m) (i k : Nat) : -137438953472 ≤ m.n * cofF m i k ∧ m.n * cofF m i k ≤ 137438953472 := by
  have h := mul_ab (a := m.n) (A := 4096) (by have := hm.n; omega) (cof_bd hm i k)
  omega

-- Inverted

end Go.Proofs.Ytedlaominconaaa
