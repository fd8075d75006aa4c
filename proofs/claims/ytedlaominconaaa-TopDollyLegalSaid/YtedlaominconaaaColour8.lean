/- Matrices: conversions, determinants, inverses: the program. -/
import Derived.Test.YtedlaominconaaaColour7
import Derived.Test.YtedlaominconaaaEngZ
namespace Go.Proofs.Ytedlaominconaaa
open Go.E Go.RowKit Go.Fl
attribute [local irreducible] G C S D DY DS V VT Yl QV QT Calls
set_option maxRecDepth 100000
set_option linter.unusedSimpArgs false
set_option linter.unusedVariables false

theorem rAI {a b c e a' b' c' e' : Int} (h1 : a = a') (h2 : b = b') (h3 : c = c') (h4 : e = e') : Ending.returned (.tuple #[.agg #[.int .i64 a, .int .i64 b, .int .i64 c], .int .i64 e]) = Ending.returned (.tuple #[.agg #[.int .i64 a', .int .i64 b', .int .i64 c'], .int .i64 e']) := by rw [h1, h2, h3, h4]
def cvE (m : Mat) (c : Col) : Int := firstL [matE m, colE c]
theorem cvE_ok {m : Mat} {c : Col} (h : cvE m c = 0) : MatOk m ∧ ColOk c := by
  unfold cvE at h
  rw [firstL_zero] at h
  simp only [List.mem_cons, List.mem_nil_iff, or_false, forall_eq_or_imp, forall_eq, mat_ok, col_ok] at h
  exact h
/-- The colour that Converted returns, and its error. -/
def cvR (m : Mat) (c : Col) : Col × Int := if cvE m c = 0 then (if colE (convF m c) = 0 then (convF m c, 0) else ((0, 0, 0), 4)) else ((0, 0, 0), cvE m c)
theorem cvR_1 {m : Mat} {c : Col} (h : ¬ cvE m c = 0) : cvR m c = ((0, 0, 0), cvE m c) := if_neg h
theorem cvR_2 {m : Mat} {c : Col} (h : cvE m c = 0) (h2 : ¬ colE (convF m c) = 0) : cvR m c = ((0, 0, 0), 4) := by rw [cvR, if_pos h, if_neg h2]
theorem cvR_3 {m : Mat} {c : Col} (h : cvE m c = 0) (h2 : colE (convF m c) = 0) : cvR m c = (convF m c, 0) := by rw [cvR, if_pos h, if_pos h2]
theorem rCv {q p : Col × Int} (h : q = p) : Ending.returned (.tuple #[.agg #[.int .i64 p.1.1, .int .i64 p.1.2.1, .int .i64 p.1.2.2], .int .i64 p.2]) = Ending.returned (.tuple #[.agg #[.int .i64 q.1.1, .int .i64 q.1.2.1, .int .i64 q.1.2.2], .int .i64 q.2]) := by rw [h]
def Mat.at (m : Mat) : Nat → Nat → Int
  | 0, 0 => m.a
  | 0, 1 => m.b
  | 0, _ => m.c
  | 1, 0 => m.d
  | 1, 1 => m.e
  | 1, _ => m.f
  | _, 0 => m.g
  | _, 1 => m.h
  | _, _ => m.i
theorem at_bd {m : Mat} (hm : MatOk m) (i j : Nat) : -4096 ≤ m.at i j ∧ m.at i j ≤ 4096 := by
  unfold Mat.at
  split
  · exact hm.a
  · exact hm.b
  · exact hm.c
  · exact hm.d
  · exact hm.e
  · exact hm.f
  · exact hm.g
  · exact hm.h
  · exact hm.i
/-- The cofactor of an entry. -/
def cofF (m : Mat) (r k : Nat) : Int := m.at ((r + 1) % 3) ((k + 1) % 3) * m.at ((r + 2) % 3) ((k + 2) % 3) - m.at ((r + 1) % 3) ((k + 2) % 3) * m.at ((r + 2) % 3) ((k + 1) % 3)
theorem cof_bd {m : Mat} (hm : MatOk m) (r k : Nat) : -33554432 ≤ cofF m r k ∧ cofF m r k ≤ 33554432 := by
  have h1 := mul_ab (at_bd hm ((r + 1) % 3) ((k + 1) % 3)) (at_bd hm ((r + 2) % 3) ((k + 2) % 3))
  have h2 := mul_ab (at_bd hm ((r + 1) % 3) ((k + 2) % 3)) (at_bd hm ((r + 2) % 3) ((k + 1) % 3))
  unfold cofF
  omega
def detF (m : Mat) : Int := dotF m.a m.b m.c (cofF m 0 0) (cofF m 0 1) (cofF m 0 2)
/-- The table of package colour, as it was laid. -/
def Ot (w : World) : Prop := Rd w (some ⟨0, 0, none⟩) [.int .i64 1, .int .i64 2, .int .i64 2, .int .i64 0, .int .i64 0, .int .i64 1]
abbrev otL : List Value := [.int .i64 1, .int .i64 2, .int .i64 2, .int .i64 0, .int .i64 0, .int .i64 1]
theorem ot0 : ∀ (j : Nat) (u : Value), ([.int .i64 1, .int .i64 2] : List Value)[j]? = some u → otL[Int.toNat 0 * 2 + j]? = some u := by
  intro j u hu; rcases j with _ | _ | j <;> simp at hu <;> subst hu <;> rfl
theorem ot1 : ∀ (j : Nat) (u : Value), ([.int .i64 2, .int .i64 0] : List Value)[j]? = some u → otL[Int.toNat 1 * 2 + j]? = some u := by
  intro j u hu; rcases j with _ | _ | j <;> simp at hu <;> subst hu <;> rfl
theorem ot2 : ∀ (j : Nat) (u : Value), ([.int .i64 0, .int .i64 1] : List Value)[j]? = some u → otL[Int.toNat 2 * 2 + j]? = some u := by
  intro j u hu; rcases j with _ | _ | j <;> simp at hu <;> subst hu <;> rfl
def ratF (x y : Int) : Int × Int := if y < 0 then (x.tdiv (-(Int.gcd x y : Nat)), y.tdiv (-(Int.gcd x y : Nat))) else (x.tdiv (Int.gcd x y : Nat), y.tdiv (Int.gcd x y : Nat))
theorem quo_any (t : TypeId) (x y : Operand) {P : Program} {a b : Int} (hb : b ≠ 0) (ha : -4611686018427387904 ≤ a ∧ a ≤ 4611686018427387904) (w : World) : (do eqGuard .quo t x y (.int .i64 a) (.int .i64 b); binOp .quo t (.int .i64 a) (.int .i64 b) : Sem Value).run P w = .ok (.int .i64 (a.tdiv b)) w := by
  have h1 : (a.tdiv b).natAbs ≤ a.natAbs := by rw [Int.natAbs_tdiv]; exact Nat.div_le_self _ _
  have hr : inR .i64 (a.tdiv b) := by simp only [inR]; omega
  simp [eqGuard_int, binOp, Op.intDiv, inR_wrap hr, hb]
theorem gcd_pos {x y : Int} (h : y ≠ 0) : 0 < (Int.gcd x y : Nat) := Int.gcd_pos_of_ne_zero_right x h
theorem gcd_le {x y : Int} (h : y ≠ 0) : ((Int.gcd x y : Nat) : Int) ≤ y.natAbs := by
  have := Nat.le_of_dvd (by omega) (Int.gcd_dvd_natAbs_right x y)
  omega

-- Converted

-- cof00

-- cof01

-- cof02

-- cof10

-- cof11

-- cof12

-- cof20

-- cof21

-- cof22

end Go.Proofs.Ytedlaominconaaa
