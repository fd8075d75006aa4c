/- Matrices: composed ones: the program. -/
import Derived.Test.YtedlaominconaaaColour9
namespace Go.Proofs.Ytedlaominconaaa
open Go.E Go.RowKit Go.Fl
attribute [local irreducible] G C S D Calls
set_option maxRecDepth 100000
set_option linter.unusedSimpArgs false
set_option linter.unusedVariables false

/-- The product before it is brought to lowest terms, its entries' greatest common divisor with the denominator. -/
def prM (a b : Mat) : Mat := ⟨(dotF b.a b.b b.c a.a a.d a.g), (dotF b.a b.b b.c a.b a.e a.h), (dotF b.a b.b b.c a.c a.f a.i), (dotF b.d b.e b.f a.a a.d a.g), (dotF b.d b.e b.f a.b a.e a.h), (dotF b.d b.e b.f a.c a.f a.i), (dotF b.g b.h b.i a.a a.d a.g), (dotF b.g b.h b.i a.b a.e a.h), (dotF b.g b.h b.i a.c a.f a.i), a.n * b.n⟩
def g1 (a b : Mat) : Nat := Int.gcd (a.n * b.n) (prM a b).a
def g2 (a b : Mat) : Nat := Int.gcd (g1 a b : Nat) (prM a b).b
def g3 (a b : Mat) : Nat := Int.gcd (g2 a b : Nat) (prM a b).c
def g4 (a b : Mat) : Nat := Int.gcd (g3 a b : Nat) (prM a b).d
def g5 (a b : Mat) : Nat := Int.gcd (g4 a b : Nat) (prM a b).e
def g6 (a b : Mat) : Nat := Int.gcd (g5 a b : Nat) (prM a b).f
def g7 (a b : Mat) : Nat := Int.gcd (g6 a b : Nat) (prM a b).g
def g8 (a b : Mat) : Nat := Int.gcd (g7 a b : Nat) (prM a b).h
def vM (m : Mat) : Value := .agg #[.int .i64 m.a, .int .i64 m.b, .int .i64 m.c, .int .i64 m.d, .int .i64 m.e, .int .i64 m.f, .int .i64 m.g, .int .i64 m.h, .int .i64 m.i, .int .i64 m.n]
-- Composed

end Go.Proofs.Ytedlaominconaaa
