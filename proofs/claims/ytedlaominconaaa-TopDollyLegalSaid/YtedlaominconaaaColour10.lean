/- Matrices: composed ones: the program. -/
import Derived.Test.YtedlaominconaaaColour9
namespace Go.Proofs.Ytedlaominconaaa
open Go.E Go.RowKit Go.Fl
attribute [local irreducible] G C S D Calls
set_option maxRecDepth 100000
set_option linter.unusedSimpArgs false
set_option linter.unusedVariables false

/-- The product before it is brought to lowest terms, its entries' greatest common divisor with the denominator. -/
def prM (a b : Mat) : Mat := ⟨(dotF b.a b.b b.c a.a a.d a.g), (dotF b.a b.b b.c a.b a.e a.h), (dotF b.a b.b b.c a.c a.f a.i), (dotF b.d b.e b.f a.a a.d a.g), (dotF b.d b.e b.f a.b a.e a.h), (dotF b.d b.e b.f a.c a.f a.i), (dotF b.g b.h b.i a.a a.d a.g), (dotF b.g b.h b.i a.b a.e a.h), (dotF b.g b.h b.i a.c a.f a.i), a.n * b.n⟩
def g1 (a b : Mat) : Nat := Int.gcd (a.n * b.n) (prM a b).a
def g2 (a b : Mat) : Nat := Int.gcd (g1 a b : Nat) (prM a b).b
def g3 (a b : Mat) : Nat := Int.gcd (g2 a b : Nat) (prM a b).c
def g4 (a b : Mat) : Nat := Int.gcd (g3 a b : Nat) (prM a b).d
def g5 (a b : Mat) : Nat := Int.gcd (g4 a b : Nat) (prM a b).e
def g6 (a b : Mat) : Nat := Int.gcd (g5 a b : Nat) (prM a b).f
def g7 (a b : Mat) : Nat := Int.gcd (g6 a b : Nat) (prM a b).g
def g8 (a b : Mat) : Nat := Int.gcd (g7 a b : Nat) (prM a b).h
def g9 (a b : Mat) : Nat := Int.gcd (g8 a b : Nat) (prM a b).i
/-- The composed matrix in lowest terms. -/
def cmM (a b : Mat) : Mat := ⟨(prM a b).a.tdiv (g9 a b : Nat), (prM a b).b.tdiv (g9 a b : Nat), (prM a b).c.tdiv (g9 a b : Nat), (prM a b).d.tdiv (g9 a b : Nat), (prM a b).e.tdiv (g9 a b : Nat), (prM a b).f.tdiv (g9 a b : Nat), (prM a b).g.tdiv (g9 a b : Nat), (prM a b).h.tdiv (g9 a b : Nat), (prM a b).i.tdiv (g9 a b : Nat), (prM a b).n / (g9 a b : Nat)⟩
def cmE (a b : Mat) : Int := firstL [matE a, matE b]
def zM : Mat := ⟨0, 0, 0, 0, 0, 0, 0, 0, 0, 0⟩
def cmR (a b : Mat) : Mat × Int := if cmE a b = 0 then (if matE (cmM a b) = 0 then (cmM a b, 0) else (zM, 4)) else (zM, cmE a b)
theorem cmE_ok {a b : Mat} (h : cmE a b = 0) : MatOk a ∧ MatOk b := by
  unfold cmE at h
  rw [firstL_zero] at h
  simp only [List.mem_cons, List.mem_nil_iff, or_false, forall_eq_or_imp, forall_eq, mat_ok] at h
  exact h
theorem cmR_1 {a b : Mat} (h : ¬ cmE a b = 0) : cmR a b = (zM, cmE a b) := if_neg h
theorem cmR_2 {a b : Mat} (h : cmE a b = 0) (h2 : ¬ matE (cmM a b) = 0) : cmR a b = (zM, 4) := by rw [cmR, if_pos h, if_neg h2]
theorem cmR_3 {a b : Mat} (h : cmE a b = 0) (h2 : matE (cmM a b) = 0) : cmR a b = (cmM a b, 0) := by rw [cmR, if_pos h, if_pos h2]
def vM (m : Mat) : Value := .agg #[.int .i64 m.a, .int .i64 m.b, .int .i64 m.c, .int .i64 m.d, .int .i64 m.e, .int .i64 m.f, .int .i64 m.g, .int .i64 m.h, .int .i64 m.i, .int .i64 m.n]
theorem rM {q p : Mat × Int} (h : q = p) : Ending.returned (.tuple #[vM p.1, .int .i64 p.2]) = Ending.returned (.tuple #[vM q.1, .int .i64 q.2]) := by rw [h]
theorem gcd_bd {x y : Int} {m : Int} (h : 1 ≤ x ∧ x ≤ m) : 1 ≤ ((Int.gcd x y : Nat) : Int) ∧ ((Int.gcd x y : Nat) : Int) ≤ m := by
  have h1 : 0 < Int.gcd x y := Int.gcd_pos_of_ne_zero_left y (by omega)
  have h2 := Nat.le_of_dvd (by omega) (Int.gcd_dvd_natAbs_left x y)
  omega
theorem pr_bd {a b : Mat} (ha : MatOk a) (hb : MatOk b) : (-824633720832 ≤ (prM a b).a ∧ (prM a b).a ≤ 824633720832) ∧ (-824633720832 ≤ (prM a b).b ∧ (prM a b).b ≤ 824633720832) ∧ (-824633720832 ≤ (prM a b).c ∧ (prM a b).c ≤ 824633720832) ∧ (-824633720832 ≤ (prM a b).d ∧ (prM a b).d ≤ 824633720832) ∧ (-824633720832 ≤ (prM a b).e ∧ (prM a b).e ≤ 824633720832) ∧ (-824633720832 ≤ (prM a b).f ∧ (prM a b).f ≤ 824633720832) ∧ (-824633720832 ≤ (prM a b).g ∧ (prM a b).g ≤ 824633720832) ∧ (-824633720832 ≤ (prM a b).h ∧ (prM a b).h ≤ 824633720832) ∧ (-824633720832 ≤ (prM a b).i ∧ (prM a b).i ≤ 824633720832) := by
  refine ⟨?_, ?_, ?_, ?_, ?_, ?_, ?_, ?_, ?_⟩
  · exact dot_bd (m := a) hb.a hb.b hb.c (by have := ha.a; omega) (by have := ha.d; omega) (by have := ha.g; omega)
  · exact dot_bd (m := a) hb.a hb.b hb.c (by have := ha.b; omega) (by have := ha.e; omega) (by have := ha.h; omega)
  · exact dot_bd (m := a) hb.a hb.b hb.c (by have := ha.c; omega) (by have := ha.f; omega) (by have := ha.i; omega)
  · exact dot_bd (m := a) hb.d hb.e hb.f (by have := ha.a; omega) (by have := ha.d; omega) (by have := ha.g; omega)
  · exact dot_bd (m := a) hb.d hb.e hb.f (by have := ha.b; omega) (by have := ha.e; omega) (by have := ha.h; omega)
  · exact dot_bd (m := a) hb.d hb.e hb.f (by have := ha.c; omega) (by have := ha.f; omega) (by have := ha.i; omega)
  · exact dot_bd (m := a) hb.g hb.h hb.i (by have := ha.a; omega) (by have := ha.d; omega) (by have := ha.g; omega)
  · exact dot_bd (m := a) hb.g hb.h hb.i (by have := ha.b; omega) (by have := ha.e; omega) (by have := ha.h; omega)
  · exact dot_bd (m := a) hb.g hb.h hb.i (by have := ha.c; omega) (by have := ha.f; omega) (by have := ha.i; omega)

-- Composed

end Go.Proofs.Ytedlaominconaaa
