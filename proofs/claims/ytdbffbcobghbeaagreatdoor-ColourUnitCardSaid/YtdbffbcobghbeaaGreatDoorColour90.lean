/- Unit matrices: plain laws and the walk of the law. -/
import Derived.Test.YtdbffbcobghbeaaGreatDoorColour10
import Derived.Test.YtdbffbcobghbeaaGreatDoorColour28
import Derived.Test.YtdbffbcobghbeaaGreatDoorColour32
import Derived.Test.YtdbffbcobghbeaaGreatDoorEngAD
import Derived.Test.YtdbffbcobghbeaaGreatDoorEngAL
import Derived.Test.YtdbffbcobghbeaaGreatDoorEngZ
namespace Go.Proofs.YtdbffbcobghbeaaGreatDoor
open Go.E Go.RowKit Go.Fl
attribute [local irreducible] G C S D Calls
set_option maxRecDepth 100000
set_option linter.unusedSimpArgs false
set_option linter.unusedVariables false

/-- A matrix with small entries. -/
structure SmM (m : Mat) : Prop where
  a : -60 ≤ m.a ∧ m.a ≤ 60
  b : -60 ≤ m.b ∧ m.b ≤ 60
  c : -60 ≤ m.c ∧ m.c ≤ 60
  d : -60 ≤ m.d ∧ m.d ≤ 60
  e : -60 ≤ m.e ∧ m.e ≤ 60
  f : -60 ≤ m.f ∧ m.f ≤ 60
  g : -60 ≤ m.g ∧ m.g ≤ 60
  h : -60 ≤ m.h ∧ m.h ≤ 60
  i : -60 ≤ m.i ∧ m.i ≤ 60
  n : 1 ≤ m.n ∧ m.n ≤ 60
theorem SmM.ok {m : Mat} (h : SmM m) : MatOk m := ⟨by have := h.a; omega, by have := h.b; omega, by have := h.c; omega, by have := h.d; omega, by have := h.e; omega, by have := h.f; omega, by have := h.g; omega, by have := h.h; omega, by have := h.i; omega, by have := h.n; omega⟩
/-- The first two rows exchanged. -/
def tuM (m : Mat) : Mat := ⟨m.d, m.e, m.f, m.a, m.b, m.c, m.g, m.h, m.i, m.n⟩
theorem SmM.tu {m : Mat} (h : SmM m) : SmM (tuM m) := ⟨h.d, h.e, h.f, h.a, h.b, h.c, h.g, h.h, h.i, h.n⟩
theorem det_tu (m : Mat) : detF (tuM m) = -detF m := by
  simp only [detF, dotF, cofF, Mat.at, tuM]
  grind
theorem cof_sm {m : Mat} (h : SmM m) (r k : Nat) : -7200 ≤ cofF m r k ∧ cofF m r k ≤ 7200 := by
  have hb : ∀ i j, -60 ≤ m.at i j ∧ m.at i j ≤ 60 := fun i j => by
    unfold Mat.at
    split
    · exact h.a
    · exact h.b
    · exact h.c
    · exact h.d
    · exact h.e
    · exact h.f
    · exact h.g
    · exact h.h
    · exact h.i
  have h1 := mul_ab (hb ((r + 1) % 3) ((k + 1) % 3)) (hb ((r + 2) % 3) ((k + 2) % 3))
  have h2 := mul_ab (hb ((r + 1) % 3) ((k + 2) % 3)) (hb ((r + 2) % 3) ((k + 1) % 3))
  unfold cofF
  omega
theorem det_sm {m : Mat} (h : SmM m) : -1296000 ≤ detF m ∧ detF m ≤ 1296000 := by
  have h1 := mul_ab h.a (cof_sm h 0 0)
  have h2 := mul_ab h.b (cof_sm h 0 1)
  have h3 := mul_ab h.c (cof_sm h 0 2)
  unfold detF dotF
  omega
theorem nc_sm {m : Mat} (h : SmM m) (r k : Nat) : -432000 ≤ m.n * cofF m r k ∧ m.n * cofF m r k ≤ 432000 := by
  have := mul_ab (a := m.n) (A := 60) (by have := h.n; omega) (cof_sm h r k)
  omega
/-- A ratio in lowest terms. -/
theorem rat_ok {x y : Int} (hy : y ≠ 0) : 1 ≤ (ratF x y).2 ∧ (ratF x y).2 ≤ y.natAbs ∧ y.tmod (ratF x y).2 = 0 ∧ (ratF x y).1.natAbs ≤ x.natAbs ∧ (ratF x y).1 * y.tdiv (ratF x y).2 = x ∧ (y.tdiv (ratF x y).2).natAbs ≤ y.natAbs := by
  have hg := gcd_pos (x := x) hy
  obtain ⟨g, hgd⟩ : ∃ g : Int, g = (Int.gcd x y : Nat) := ⟨_, rfl⟩
  have g0 : 0 < g := by omega
  obtain ⟨p, hp⟩ : g ∣ x := by rw [hgd]; exact Int.gcd_dvd_left x y
  obtain ⟨q, hq⟩ : g ∣ y := by rw [hgd]; exact Int.gcd_dvd_right x y
  have e1 : x.tdiv g = p := by rw [hp, Int.mul_tdiv_cancel_left _ (by omega)]
  have e2 : y.tdiv g = q := by rw [hq, Int.mul_tdiv_cancel_left _ (by omega)]
  have hq0 : q ≠ 0 := fun h => hy (by rw [hq, h, Int.mul_zero])
  have n1 : x.natAbs = g.natAbs * p.natAbs := by rw [hp, Int.natAbs_mul]
  have n2 : y.natAbs = g.natAbs * q.natAbs := by rw [hq, Int.natAbs_mul]
  have hn : 1 ≤ g.natAbs := by omega
  have n3 : p.natAbs ≤ x.natAbs := by rw [n1]; exact Nat.le_mul_of_pos_left _ (by omega)
  have n4 : q.natAbs ≤ y.natAbs := by rw [n2]; exact Nat.le_mul_of_pos_left _ (by omega)
  have n5 : g.natAbs ≤ y.natAbs := by rw [n2]; exact Nat.le_mul_of_pos_right _ (by omega)
  by_cases hs : y < 0
  · have hqn : q < 0 := by
      have : ¬ 0 ≤ q := fun h => by
        have := Int.mul_nonneg (show 0 ≤ g by omega) h
        omega
      omega
    have er : ratF x y = (-p, -q) := by
      unfold ratF
      rw [if_pos hs, ← hgd, Int.tdiv_neg, Int.tdiv_neg, e1, e2]
    have e3 : y.tdiv (-q) = -g := by rw [Int.tdiv_neg, hq, Int.mul_tdiv_cancel _ hq0]
    rw [er]
    refine ⟨by show 1 ≤ -q; omega, by show -q ≤ _; omega, ?_, by show (-p).natAbs ≤ _; omega, ?_, ?_⟩
    · show y.tmod (-q) = 0
      rw [Int.tmod_neg, hq, Int.mul_tmod_left]
    · show -p * y.tdiv (-q) = x
      rw [e3, hp, Int.neg_mul_neg, Int.mul_comm]
    · show (y.tdiv (-q)).natAbs ≤ _
      rw [e3]
      omega
  · have hqp : 0 < q := by
      have : ¬ q < 0 := fun h => by
        have := Int.mul_neg_of_pos_of_neg g0 h
        omega
      omega
    have er : ratF x y = (p, q) := by
      unfold ratF
      rw [if_neg hs, ← hgd, e1, e2]
    have e3 : y.tdiv q = g := by rw [hq, Int.mul_tdiv_cancel _ hq0]
    rw [er]
    refine ⟨by show 1 ≤ q; omega, by show q ≤ _; omega, ?_, by show p.natAbs ≤ _; omega, ?_, ?_⟩
    · show y.tmod q = 0
      rw [hq, Int.mul_tmod_left]
    · show p * y.tdiv q = x
      rw [e3, hp, Int.mul_comm]
    · show (y.tdiv q).natAbs ≤ _
      rw [e3]
      omega
/-- What a row gives with the cofactors of a row. -/
theorem row_00 (m : Mat) : m.a * (m.n * cofF m 0 0) + m.b * (m.n * cofF m 0 1) + m.c * (m.n * cofF m 0 2) = m.n * detF m := by
  simp only [detF, dotF, cofF, Mat.at]
  grind
theorem row_01 (m : Mat) : m.a * (m.n * cofF m 1 0) + m.b * (m.n * cofF m 1 1) + m.c * (m.n * cofF m 1 2) = 0 := by
  simp only [detF, dotF, cofF, Mat.at]
  grind
theorem row_02 (m : Mat) : m.a * (m.n * cofF m 2 0) + m.b * (m.n * cofF m 2 1) + m.c * (m.n * cofF m 2 2) = 0 := by
  simp only [detF, dotF, cofF, Mat.at]
  grind
theorem row_10 (m : Mat) : m.d * (m.n * cofF m 0 0) + m.e * (m.n * cofF m 0 1) + m.f * (m.n * cofF m 0 2) = 0 := by
  simp only [detF, dotF, cofF, Mat.at]
  grind
theorem row_11 (m : Mat) : m.d * (m.n * cofF m 1 0) + m.e * (m.n * cofF m 1 1) + m.f * (m.n * cofF m 1 2) = m.n * detF m := by
  simp only [detF, dotF, cofF, Mat.at]
  grind
theorem row_12 (m : Mat) : m.d * (m.n * cofF m 2 0) + m.e * (m.n * cofF m 2 1) + m.f * (m.n * cofF m 2 2) = 0 := by
  simp only [detF, dotF, cofF, Mat.at]
  grind
theorem row_20 (m : Mat) : m.g * (m.n * cofF m 0 0) + m.h * (m.n * cofF m 0 1) + m.i * (m.n * cofF m 0 2) = 0 := by
  simp only [detF, dotF, cofF, Mat.at]
  grind
theorem row_21 (m : Mat) : m.g * (m.n * cofF m 1 0) + m.h * (m.n * cofF m 1 1) + m.i * (m.n * cofF m 1 2) = 0 := by
  simp only [detF, dotF, cofF, Mat.at]
  grind
theorem row_22 (m : Mat) : m.g * (m.n * cofF m 2 0) + m.h * (m.n * cofF m 2 1) + m.i * (m.n * cofF m 2 2) = m.n * detF m := by
  simp only [detF, dotF, cofF, Mat.at]
  grind
/-- An entry of the inverse, times the determinant. -/
theorem iv_ok {m : Mat} (h : SmM m) (hd : detF m ≠ 0) (j k : Nat) : (1 ≤ (ivF m j k).2 ∧ (ivF m j k).2 ≤ 1296000) ∧ (detF m).tmod (ivF m j k).2 = 0 ∧ (-432000 ≤ (ivF m j k).1 ∧ (ivF m j k).1 ≤ 432000) ∧ (ivF m j k).1 * (detF m).tdiv (ivF m j k).2 = m.n * cofF m k j ∧ (-1296000 ≤ (detF m).tdiv (ivF m j k).2 ∧ (detF m).tdiv (ivF m j k).2 ≤ 1296000) := by
  have := rat_ok (x := m.n * cofF m k j) hd
  have h1 := det_sm h
  have h2 := nc_sm h k j
  unfold ivF
  refine ⟨⟨this.1, by omega⟩, this.2.2.1, ⟨by omega, by omega⟩, this.2.2.2.2.1, ⟨by omega, by omega⟩⟩
/-- An entry of what Inverted returns, and its error. -/
def ivG (m : Mat) (i k : Nat) : Int × Int := if detF m = 0 then (0, 0) else ivF m i k
def eG (m : Mat) : Int := if detF m = 0 then 17 else 0
theorem eG_1 (m : Mat) : ((eG m == 0) != (detF m != 0)) = false := by
  unfold eG
  by_cases h : detF m = 0 <;> simp [h]
theorem eG_2 (m : Mat) : ((eG m != 0) && (eG m != 17)) = false := by
  unfold eG
  by_cases h : detF m = 0 <;> simp [h]
theorem ivR_G {m : Mat} (h : matE m = 0) : ivR m = ([ivG m 0 0, ivG m 0 1, ivG m 0 2, ivG m 1 0, ivG m 1 1, ivG m 1 2, ivG m 2 0, ivG m 2 1, ivG m 2 2], eG m) := by
  by_cases h0 : detF m = 0
  · rw [ivR_2 h h0]
    simp [ivG, eG, h0, z9]
  · rw [ivR_3 h h0]
    simp [ivG, eG, h0, iv9]
theorem ivg_ok {m : Mat} (h : SmM m) (hd : detF m ≠ 0) (j k : Nat) : (1 ≤ (ivG m j k).2 ∧ (ivG m j k).2 ≤ 1296000) ∧ (detF m).tmod (ivG m j k).2 = 0 ∧ (-432000 ≤ (ivG m j k).1 ∧ (ivG m j k).1 ≤ 432000) ∧ (ivG m j k).1 * (detF m).tdiv (ivG m j k).2 = m.n * cofF m k j ∧ (-1296000 ≤ (detF m).tdiv (ivG m j k).2 ∧ (detF m).tdiv (ivG m j k).2 ≤ 1296000) := by
  rw [show ivG m j k = ivF m j k from if_neg hd]
  exact iv_ok h hd j k
/-- The greatest common divisor divides what was divided. -/
theorem g9_dvd (a b : Mat) : ((g9 a b : Nat) : Int) ∣ a.n * b.n ∧ ((g9 a b : Nat) : Int) ∣ (prM a b).a ∧ ((g9 a b : Nat) : Int) ∣ (prM a b).b ∧ ((g9 a b : Nat) : Int) ∣ (prM a b).c ∧ ((g9 a b : Nat) : Int) ∣ (prM a b).d ∧ ((g9 a b : Nat) : Int) ∣ (prM a b).e ∧ ((g9 a b : Nat) : Int) ∣ (prM a b).f ∧ ((g9 a b : Nat) : Int) ∣ (prM a b).g ∧ ((g9 a b : Nat) : Int) ∣ (prM a b).h ∧ ((g9 a b : Nat) : Int) ∣ (prM a b).i := by
  have l1 : ((g1 a b : Nat) : Int) ∣ a.n * b.n := Int.gcd_dvd_left _ _
  have l2 : ((g2 a b : Nat) : Int) ∣ ((g1 a b : Nat) : Int) := Int.gcd_dvd_left _ _
  have l3 : ((g3 a b : Nat) : Int) ∣ ((g2 a b : Nat) : Int) := Int.gcd_dvd_left _ _
  have l4 : ((g4 a b : Nat) : Int) ∣ ((g3 a b : Nat) : Int) := Int.gcd_dvd_left _ _
  have l5 : ((g5 a b : Nat) : Int) ∣ ((g4 a b : Nat) : Int) := Int.gcd_dvd_left _ _
  have l6 : ((g6 a b : Nat) : Int) ∣ ((g5 a b : Nat) : Int) := Int.gcd_dvd_left _ _
  have l7 : ((g7 a b : Nat) : Int) ∣ ((g6 a b : Nat) : Int) := Int.gcd_dvd_left _ _
  have l8 : ((g8 a b : Nat) : Int) ∣ ((g7 a b : Nat) : Int) := Int.gcd_dvd_left _ _
  have l9 : ((g9 a b : Nat) : Int) ∣ ((g8 a b : Nat) : Int) := Int.gcd_dvd_left _ _
  have r1 : ((g1 a b : Nat) : Int) ∣ (prM a b).a := Int.gcd_dvd_right _ _
  have r2 : ((g2 a b : Nat) : Int) ∣ (prM a b).b := Int.gcd_dvd_right _ _
  have r3 : ((g3 a b : Nat) : Int) ∣ (prM a b).c := Int.gcd_dvd_right _ _
  have r4 : ((g4 a b : Nat) : Int) ∣ (prM a b).d := Int.gcd_dvd_right _ _
  have r5 : ((g5 a b : Nat) : Int) ∣ (prM a b).e := Int.gcd_dvd_right _ _
  have r6 : ((g6 a b : Nat) : Int) ∣ (prM a b).f := Int.gcd_dvd_right _ _
  have r7 : ((g7 a b : Nat) : Int) ∣ (prM a b).g := Int.gcd_dvd_right _ _
  have r8 : ((g8 a b : Nat) : Int) ∣ (prM a b).h := Int.gcd_dvd_right _ _
  have r9 : ((g9 a b : Nat) : Int) ∣ (prM a b).i := Int.gcd_dvd_right _ _
  have t9 : ((g9 a b : Nat) : Int) ∣ ((g9 a b : Nat) : Int) := Int.dvd_refl _
  have t8 : ((g9 a b : Nat) : Int) ∣ ((g8 a b : Nat) : Int) := Int.dvd_trans t9 l9
  have t7 : ((g9 a b : Nat) : Int) ∣ ((g7 a b : Nat) : Int) := Int.dvd_trans t8 l8
  have t6 : ((g9 a b : Nat) : Int) ∣ ((g6 a b : Nat) : Int) := Int.dvd_trans t7 l7
  have t5 : ((g9 a b : Nat) : Int) ∣ ((g5 a b : Nat) : Int) := Int.dvd_trans t6 l6
  have t4 : ((g9 a b : Nat) : Int) ∣ ((g4 a b : Nat) : Int) := Int.dvd_trans t5 l5
  have t3 : ((g9 a b : Nat) : Int) ∣ ((g3 a b : Nat) : Int) := Int.dvd_trans t4 l4
  have t2 : ((g9 a b : Nat) : Int) ∣ ((g2 a b : Nat) : Int) := Int.dvd_trans t3 l3
  have t1 : ((g9 a b : Nat) : Int) ∣ ((g1 a b : Nat) : Int) := Int.dvd_trans t2 l2
  exact ⟨Int.dvd_trans t1 l1, Int.dvd_trans t1 r1, Int.dvd_trans t2 r2, Int.dvd_trans t3 r3, Int.dvd_trans t4 r4, Int.dvd_trans t5 r5, Int.dvd_trans t6 r6, Int.dvd_trans t7 r7, Int.dvd_trans t8 r8, Int.dvd_trans t9 r9⟩
theorem cm_mul (a b : Mat) : ((g9 a b : Nat) : Int) * (cmM a b).n = a.n * b.n ∧ ((g9 a b : Nat) : Int) * (cmM a b).a = (prM a b).a ∧ ((g9 a b : Nat) : Int) * (cmM a b).b = (prM a b).b ∧ ((g9 a b : Nat) : Int) * (cmM a b).c = (prM a b).c ∧ ((g9 a b : Nat) : Int) * (cmM a b).d = (prM a b).d ∧ ((g9 a b : Nat) : Int) * (cmM a b).e = (prM a b).e ∧ ((g9 a b : Nat) : Int) * (cmM a b).f = (prM a b).f ∧ ((g9 a b : Nat) : Int) * (cmM a b).g = (prM a b).g ∧ ((g9 a b : Nat) : Int) * (cmM a b).h = (prM a b).h ∧ ((g9 a b : Nat) : Int) * (cmM a b).i = (prM a b).i := by
  obtain ⟨h0, h1, h2, h3, h4, h5, h6, h7, h8, h9⟩ := g9_dvd a b
  exact ⟨Int.mul_ediv_cancel' h0, Int.mul_tdiv_cancel' h1, Int.mul_tdiv_cancel' h2, Int.mul_tdiv_cancel' h3, Int.mul_tdiv_cancel' h4, Int.mul_tdiv_cancel' h5, Int.mul_tdiv_cancel' h6, Int.mul_tdiv_cancel' h7, Int.mul_tdiv_cancel' h8, Int.mul_tdiv_cancel' h9⟩
theorem cm_ring {G n p q r c1 c2 c3 A B C an bn : Int} (hn : G * n = an * bn) (h1 : G * p = A) (h2 : G * q = B) (h3 : G * r = C) : (0 + p * c1 + q * c2 + r * c3) * an * bn = (A * c1 + B * c2 + C * c3) * n := by
  rw [Int.mul_assoc _ an bn, ← hn, ← h1, ← h2, ← h3]
  grind
/-- The composed matrix converts as both do, one after the other. -/
theorem cm_row0 (a b : Mat) (c : Col) : (0 + (cmM a b).a * c.1 + (cmM a b).b * c.2.1 + (cmM a b).c * c.2.2) * a.n * b.n = (0 + b.a * a.a * c.1 + b.b * a.d * c.1 + b.c * a.g * c.1 + b.a * a.b * c.2.1 + b.b * a.e * c.2.1 + b.c * a.h * c.2.1 + b.a * a.c * c.2.2 + b.b * a.f * c.2.2 + b.c * a.i * c.2.2) * (cmM a b).n := by
  obtain ⟨h0, h1, h2, h3, h4, h5, h6, h7, h8, h9⟩ := cm_mul a b
  rw [cm_ring h0 h1 h2 h3]
  refine congrArg (· * (cmM a b).n) ?_
  simp only [prM, dotF]
  grind
theorem cm_row1 (a b : Mat) (c : Col) : (0 + (cmM a b).d * c.1 + (cmM a b).e * c.2.1 + (cmM a b).f * c.2.2) * a.n * b.n = (0 + b.d * a.a * c.1 + b.e * a.d * c.1 + b.f * a.g * c.1 + b.d * a.b * c.2.1 + b.e * a.e * c.2.1 + b.f * a.h * c.2.1 + b.d * a.c * c.2.2 + b.e * a.f * c.2.2 + b.f * a.i * c.2.2) * (cmM a b).n := by
  obtain ⟨h0, h1, h2, h3, h4, h5, h6, h7, h8, h9⟩ := cm_mul a b
  rw [cm_ring h0 h4 h5 h6]
  refine congrArg (· * (cmM a b).n) ?_
  simp only [prM, dotF]
  grind
theorem cm_row2 (a b : Mat) (c : Col) : (0 + (cmM a b).g * c.1 + (cmM a b).h * c.2.1 + (cmM a b).i * c.2.2) * a.n * b.n = (0 + b.g * a.a * c.1 + b.h * a.d * c.1 + b.i * a.g * c.1 + b.g * a.b * c.2.1 + b.h * a.e * c.2.1 + b.i * a.h * c.2.1 + b.g * a.c * c.2.2 + b.h * a.f * c.2.2 + b.i * a.i * c.2.2) * (cmM a b).n := by
  obtain ⟨h0, h1, h2, h3, h4, h5, h6, h7, h8, h9⟩ := cm_mul a b
  rw [cm_ring h0 h7 h8 h9]
  refine congrArg (· * (cmM a b).n) ?_
  simp only [prM, dotF]
  grind

end Go.Proofs.YtdbffbcobghbeaaGreatDoor
namespace Go.Proofs.YtdbffbcobghbeaaGreatDoor
open Go.E Go.RowKit Go.Fl
attribute [local irreducible] G C S D DY DS V VT Yl QV QT Calls
set_option maxRecDepth 100000
set_option linter.unusedSimpArgs false
set_option linter.unusedVariables false

theorem neqU {P : Program} {t : TypeId} {a b : Bool} (ht : P.underlying t = some .bool) (x y : Operand) (w : World) : (do eqGuard .neq t x y (.bool a) (.bool b); binOp .neq t (.bool a) (.bool b) : Sem Value).run P w = .ok (.bool (a != b)) w := by
  have hg : (eqGuard .neq t x y (.bool a) (.bool b)).run P w = .ok () w := by unfold eqGuard; simp
  simp only [Sem.run_bind, hg, Result.andThen_ok]
  have he : (Op.equalIn Op.maxDepth t (.bool a) (.bool b)).run P w = .ok (a == b) w := Go.run_equalIn_bool' (w := w) (P := P) 9999 t a b ht
  simp only [binOp, Op.equal]
  simp [Sem.run_bind, he, bne]
theorem rem_as (t : TypeId) (x y : Operand) {P : Program} {a b r : Int} (hb : b ≠ 0) (h : a.tmod b = r) (h0 : r = 0) (w : World) : (do eqGuard .rem t x y (.int .i64 a) (.int .i64 b); binOp .rem t (.int .i64 a) (.int .i64 b) : Sem Value).run P w = .ok (.int .i64 r) w := by
  have hr : inR .i64 (a.tmod b) := by rw [h, h0]; simp only [inR]; omega
  subst h
  simp [eqGuard_int, binOp, Op.intDiv, inR_wrap hr, hb]
theorem mul_as (t : TypeId) (x y : Operand) {P : Program} {a b v : Int} (h : a * b = v ∧ -4611686018427387904 ≤ v ∧ v ≤ 4611686018427387904) (w : World) : (do eqGuard .mul t x y (.int .i64 a) (.int .i64 b); binOp .mul t (.int .i64 a) (.int .i64 b) : Sem Value).run P w = .ok (.int .i64 v) w := by
  obtain ⟨h1, h2⟩ := h
  subst h1
  have hr : inR .i64 (a * b) := by simp only [inR]; omega
  simp [eqGuard_int, binOp, Op.intArith, inR_wrap hr]
section
variable {m ma mb : Mat} {c : Col} {w : World}
theorem udet_as {d e : Int} (h : detR m = (d, e)) (hO : Ot w) : Calls Tryz.prog 39 #[.agg #[.int .i64 m.a, .int .i64 m.b, .int .i64 m.c, .int .i64 m.d, .int .i64 m.e, .int .i64 m.f, .int .i64 m.g, .int .i64 m.h, .int .i64 m.i, .int .i64 m.n]] w fun r w' => r = .returned (.tuple #[.int .i64 d, .int .i64 e]) ∧ Below w.heap.size w w' := by
  have := Determinant_c m w hO
  rw [h] at this
  exact this
theorem uinv_as (h : matE m = 0) (hO : Ot w) : Calls Tryz.prog 40 #[.agg #[.int .i64 m.a, .int .i64 m.b, .int .i64 m.c, .int .i64 m.d, .int .i64 m.e, .int .i64 m.f, .int .i64 m.g, .int .i64 m.h, .int .i64 m.i, .int .i64 m.n]] w fun r w' => r = .returned (.tuple #[.agg #[.int .i64 (ivG m 0 0).1, .int .i64 (ivG m 0 0).2, .int .i64 (ivG m 0 1).1, .int .i64 (ivG m 0 1).2, .int .i64 (ivG m 0 2).1, .int .i64 (ivG m 0 2).2, .int .i64 (ivG m 1 0).1, .int .i64 (ivG m 1 0).2, .int .i64 (ivG m 1 1).1, .int .i64 (ivG m 1 1).2, .int .i64 (ivG m 1 2).1, .int .i64 (ivG m 1 2).2, .int .i64 (ivG m 2 0).1, .int .i64 (ivG m 2 0).2, .int .i64 (ivG m 2 1).1, .int .i64 (ivG m 2 1).2, .int .i64 (ivG m 2 2).1, .int .i64 (ivG m 2 2).2], .int .i64 (eG m)]) ∧ Below w.heap.size w w' := by
  have := Inverted_c m w hO
  rw [ivR_G h] at this
  exact this
theorem ucomp_as {q : Mat} {e : Int} (h : cmR ma mb = (q, e)) : Calls Tryz.prog 47 #[.agg #[.int .i64 ma.a, .int .i64 ma.b, .int .i64 ma.c, .int .i64 ma.d, .int .i64 ma.e, .int .i64 ma.f, .int .i64 ma.g, .int .i64 ma.h, .int .i64 ma.i, .int .i64 ma.n], .agg #[.int .i64 mb.a, .int .i64 mb.b, .int .i64 mb.c, .int .i64 mb.d, .int .i64 mb.e, .int .i64 mb.f, .int .i64 mb.g, .int .i64 mb.h, .int .i64 mb.i, .int .i64 mb.n]] w fun r w' => r = .returned (.tuple #[.agg #[.int .i64 q.a, .int .i64 q.b, .int .i64 q.c, .int .i64 q.d, .int .i64 q.e, .int .i64 q.f, .int .i64 q.g, .int .i64 q.h, .int .i64 q.i, .int .i64 q.n], .int .i64 e]) ∧ Below w.heap.size w w' := by
  have := Composed_c ma mb w
  rw [h] at this
  exact this
theorem urmat_as {e : Int} (h : matE m = e) : Calls Tryz.prog 41 #[.agg #[.int .i64 m.a, .int .i64 m.b, .int .i64 m.c, .int .i64 m.d, .int .i64 m.e, .int .i64 m.f, .int .i64 m.g, .int .i64 m.h, .int .i64 m.i, .int .i64 m.n]] w fun r w' => r = .returned (.int .i64 e) ∧ Below w.heap.size w w' := by
  subst h
  exact rCheckMatrix_c m w
end

set_option maxHeartbeats 8000000 in
/-- genlocklaw02.ColourUnit -/
theorem lUnit_c (ma mb : Mat) (c : Col) (w : World) (hO : Ot w) (hP : Pw w) : Calls Tryz.prog 6 #[.agg #[.int .i64 ma.a, .int .i64 ma.b, .int .i64 ma.c, .int .i64 ma.d, .int .i64 ma.e, .int .i64 ma.f, .int .i64 ma.g, .int .i64 ma.h, .int .i64 ma.i, .int .i64 ma.n], .agg #[.int .i64 mb.a, .int .i64 mb.b, .int .i64 mb.c, .int .i64 mb.d, .int .i64 mb.e, .int .i64 mb.f, .int .i64 mb.g, .int .i64 mb.h, .int .i64 mb.i, .int .i64 mb.n], .agg #[.int .i64 c.1, .int .i64 c.2.1, .int .i64 c.2.2]] w fun r w' => r = .returned (.bool true) ∧ Below w.heap.size w w' := by
  refine calls_of (args := [.agg #[.int .i64 ma.a, .int .i64 ma.b, .int .i64 ma.c, .int .i64 ma.d, .int .i64 ma.e, .int .i64 ma.f, .int .i64 ma.g, .int .i64 ma.h, .int .i64 ma.i, .int .i64 ma.n], .agg #[.int .i64 mb.a, .int .i64 mb.b, .int .i64 mb.c, .int .i64 mb.d, .int .i64 mb.e, .int .i64 mb.f, .int .i64 mb.g, .int .i64 mb.h, .int .i64 mb.i, .int .i64 mb.n], .agg #[.int .i64 c.1, .int .i64 c.2.1, .int .i64 c.2.2]]) T_ok Tryz.func6 rfl Tryz.ntmps6 (Nat.le_of_ble_eq_true rfl) rfl ?_
  repeat' (first
 | (refine C_id ?_; first
 | refine C_seq ?_
 | refine C_regionNe 1 rfl rfl ?_
 )
 | (refine S_id ?_; first
 | refine S_nil ?_
 | refine S_run rfl rfl obQ obQ ?_
 | refine S_box (fun b => ⟨_, _, rfl, obQ, ?_⟩)
 )
 | (refine G_id ?_; first
 | refine G_then ?_
 )
 )
  obtain ⟨b5, rfl⟩ : ∃ z, z = b := ⟨b, rfl⟩
  obtain ⟨b4, rfl⟩ : ∃ z, z = b := ⟨b, rfl⟩
  obtain ⟨b3, rfl⟩ : ∃ z, z = b := ⟨b, rfl⟩
  repeat' (first
 | (refine C_id ?_; first
 | refine C_rounds 3 ?_
 | refine C_seq ?_
 | refine C_regionNe 19 rfl rfl ?_
 | refine C_block ?_
 | refine C_skip ?_
 | refine C_exit ?_
 | refine C_ret0 ?_
 | refine C_condT rfl obQ ?_
 | refine C_condF rfl obQ ?_
 | (refine C_cond rfl obQ (fun h => ?_) (fun h => ?_) <;> (try simp only [Bool.or_eq_true, Bool.and_eq_true, Bool.or_eq_false_iff, Bool.and_eq_false_iff, decide_eq_true_eq, decide_eq_false_iff_not, beq_iff_eq, bne_iff_ne, beq_eq_false_iff_ne, bne_eq_false_iff_eq, ne_eq, Decidable.not_not, List.cons.injEq, and_true, Bool.not_eq_true', Bool.not_eq_false', Int.not_lt, Int.not_le] at h))
 )
 | (refine S_id ?_; first
 | refine S_nil ?_
 | refine S_run rfl rfl obQ obQ ?_
 | refine S_box (fun bx => ⟨_, _, rfl, obQ, ?_⟩)
 | refine S_call (f := 20) rfl obQ (by kernel_rfl) (fun w hw => awake_c w (hw.rdm hO.toS memQ) (Pw_at hP hw memQ)) ?_
 | refine S_call (f := 41) rfl obQ (by kernel_rfl) (fun w hw => rCheckMatrix_c ma w) ?_
 | refine S_call (f := 41) rfl obQ (by kernel_rfl) (fun w hw => rCheckMatrix_c mb w) ?_
 | refine S_call (f := 42) rfl obQ (by kernel_rfl) (fun w hw => rCheckColour_c c w) ?_
 )
 | (refine G_id ?_; first
 | refine G_rounds (C_trim [3, 4, 5, 35, 36, 49, 50, 53, 54] 3 rfl rfl ?_)
 | refine G_then ?_
 | refine G_block ?_
 | refine G_blockX ?_
 | refine G_blockR ?_
 | refine G_thenR ?_
 | refine G_thenX ?_
 | refine G_ret rfl obQ (fun w hw => ⟨rfl, hw.below⟩)
 )
 )
  have hsa : SmM ma := ⟨by omega, by omega, by omega, by omega, by omega, by omega, by omega, by omega, by omega, by have := mat_ok.1 (show matE ma = 0 by omega); have := this.n; omega⟩
  have hsb : SmM mb := ⟨by omega, by omega, by omega, by omega, by omega, by omega, by omega, by omega, by omega, by have := mat_ok.1 (show matE mb = 0 by omega); have := this.n; omega⟩
  have hcc : ColOk c := col_ok.1 (by assumption)
  obtain ⟨hc1, hc2, hc3⟩ := hcc
  have hEa := mat_ok.2 hsa.ok
  have hEb := mat_ok.2 hsb.ok
  have hE2 : cmE ma mb = 0 := by
    unfold cmE
    rw [firstL_zero]
    simp only [List.mem_cons, List.mem_nil_iff, or_false, forall_eq_or_imp, forall_eq]
    exact ⟨hEa, hEb⟩
  have hds := det_sm hsa
  have hna := hsa.n
  have hnb := hsb.n
  have hnd := mul_ab (show -60 ≤ ma.n ∧ ma.n ≤ 60 by omega) hds
  have hD1 : detR ma = (detF ma, 0) := if_pos hEa
  have hD2 : detR (tuM ma) = (-detF ma, 0) := by rw [← det_tu]; exact if_pos (mat_ok.2 hsa.tu.ok)
  have hG2 : ¬(¬eG ma = 0 ∧ ¬eG ma = 17) := by
    unfold eG
    split <;> omega
  repeat' (first
 | (refine C_id ?_; first
 | refine C_seq ?_
 | refine C_region rfl ?_
 )
 | (refine S_id ?_; first
 | ((with_reducible (first | refine S_falseN ?_ ?_ | refine S_falseB ?_ ?_ | refine S_falseL ?_ ?_ | refine S_falseD ?_ ?_ | refine S_falseE ?_ ?_)); · (first | rfl | exact bne_self_eq_false _ | assumption | omega | exact decide_eq_false (by omega) | (simp only [bne_eq_false_iff_eq]; first | assumption | omega) | (rw [beq_eq_false_iff_ne]; first | assumption | omega)))
 | refine S_nil ?_
 | refine S_runN rfl rfl obQ obQ ?_
 | refine S_box (fun b => ⟨_, _, rfl, obQ, ?_⟩)
 | refine S_call (f := 39) rfl obQ (by kernel_rfl) (fun w hw => udet_as hD1 (hw.rdm hO.toS memQ)) ?_
 )
 | (refine G_id ?_; first
 | refine G_then ?_
 )
 )
  obtain ⟨b15, rfl⟩ : ∃ z, z = b := ⟨b, rfl⟩
  refine C_drawS (id := 21) 11 8 [80, 81, 82, 83, 85, 86] [⟨b3, 53, [.v (.int .i64 ma.a), .v (.int .i64 ma.b), .v (.int .i64 ma.c), .v (.int .i64 ma.d), .v (.int .i64 ma.e), .v (.int .i64 ma.f), .v (.int .i64 ma.g), .v (.int .i64 ma.h), .v (.int .i64 ma.i), .v (.int .i64 ma.n)]⟩, ⟨b4, 53, [.v (.int .i64 mb.a), .v (.int .i64 mb.b), .v (.int .i64 mb.c), .v (.int .i64 mb.d), .v (.int .i64 mb.e), .v (.int .i64 mb.f), .v (.int .i64 mb.g), .v (.int .i64 mb.h), .v (.int .i64 mb.i), .v (.int .i64 mb.n)]⟩, ⟨b5, 50, [.v (.int .i64 c.1), .v (.int .i64 c.2.1), .v (.int .i64 c.2.2)]⟩, ⟨b15, 53, [.v (.int .i64 ma.d), .v (.int .i64 ma.e), .v (.int .i64 ma.f), .v (.int .i64 ma.d), .v (.int .i64 ma.e), .v (.int .i64 ma.f), .v (.int .i64 ma.g), .v (.int .i64 ma.h), .v (.int .i64 ma.i), .v (.int .i64 ma.n)]⟩] rfl mixed (by kernel_rfl) rfl rfl rfl rfl rfl rfl (by kernel_rfl) ?_
  repeat' (first
 | (refine C_id ?_; first
 | refine C_seq ?_
 | refine C_regionNe 26 rfl rfl ?_
 | refine C_skip ?_
 | (refine C_cond rfl obQ (fun h => ?_) (fun h => ?_) <;> (try simp only [Bool.or_eq_true, Bool.and_eq_true, Bool.or_eq_false_iff, Bool.and_eq_false_iff, decide_eq_true_eq, decide_eq_false_iff_not, beq_iff_eq, bne_iff_ne, beq_eq_false_iff_ne, bne_eq_false_iff_eq, ne_eq, Decidable.not_not, List.cons.injEq, and_true, Bool.not_eq_true', Bool.not_eq_false', Int.not_lt, Int.not_le] at h) <;> (try (exfalso; omega)) <;> (try (exfalso; simp at h; done)) <;> (try (exfalso; simp only [not_true_eq_false, false_or, or_false] at h; omega)) <;> (try contradiction) <;> (try (exfalso; simp only [Bool.false_eq_true, false_or] at h; exact hG2 h)))
   )
 | (refine S_id ?_; first
 | ((with_reducible (first | refine S_falseN ?_ ?_ | refine S_falseB ?_ ?_ | refine S_falseL ?_ ?_ | refine S_falseD ?_ ?_ | refine S_falseE ?_ ?_)); · (first | rfl | exact bne_self_eq_false _ | assumption | omega | exact decide_eq_false (by omega) | (simp only [bne_eq_false_iff_eq]; first | assumption | omega) | (rw [beq_eq_false_iff_ne]; first | assumption | omega)))
 | ((with_reducible refine S_falseO ?_ ?_ ?_); (· rfl); (· first | rfl | (first | rfl | exact bne_self_eq_false _ | assumption | omega | exact decide_eq_false (by omega) | (simp only [bne_eq_false_iff_eq]; first | assumption | omega) | (rw [beq_eq_false_iff_ne]; first | assumption | omega))))
 | refine S_unG rfl rfl rfl rfl ?_
 | ((with_reducible refine S_falseB ?_ ?_); · exact eG_1 ma)
 | refine S_pure (binX_pure rfl obQ (fun w => neqU (by kernel_rfl) _ _ w)) ?_
 | refine S_nil ?_
 | refine S_runN rfl rfl obQ obQ ?_
 | refine S_box (fun b18 => ⟨_, _, rfl, obQ, ?_⟩)
 | refine S_call (f := 39) rfl obQ (by kernel_rfl) (fun w hw => udet_as (m := tuM ma) hD2 (hw.rdm hO.toS memQ)) ?_
 | refine S_call (f := 40) rfl obQ (by kernel_rfl) (fun w hw => uinv_as hEa (hw.rdm hO.toS memQ)) ?_
   )
 | (refine DS_id ?_; first
 | refine DS_nil ?_
 | refine DS_store rfl rfl rfl obQ ?_
 | refine DS_one rfl rfl obQ obQ ?_
   )
 | (refine G_id ?_; first
 | refine G_then ?_
   )
   )
  refine C_region rfl ?_
  refine S_run rfl rfl obQ obQ ?_
  refine S_nil ?_
  refine G_then ?_
  try refine C_seq ?_
  refine C_cut (fun _ : Unit => ([(w, fun b => b < w.heap.size)], (⟨[(3, .s (.p b3 0 0)), (4, .s (.p b4 1 0)), (5, .s (.p b5 2 0))], [⟨b3, 53, [.v (.int .i64 ma.a), .v (.int .i64 ma.b), .v (.int .i64 ma.c), .v (.int .i64 ma.d), .v (.int .i64 ma.e), .v (.int .i64 ma.f), .v (.int .i64 ma.g), .v (.int .i64 ma.h), .v (.int .i64 ma.i), .v (.int .i64 ma.n)]⟩, ⟨b4, 53, [.v (.int .i64 mb.a), .v (.int .i64 mb.b), .v (.int .i64 mb.c), .v (.int .i64 mb.d), .v (.int .i64 mb.e), .v (.int .i64 mb.f), .v (.int .i64 mb.g), .v (.int .i64 mb.h), .v (.int .i64 mb.i), .v (.int .i64 mb.n)]⟩, ⟨b5, 50, [.v (.int .i64 c.1), .v (.int .i64 c.2.1), .v (.int .i64 c.2.2)]⟩, ⟨b15, 53, [.v (.int .i64 ma.d), .v (.int .i64 ma.e), .v (.int .i64 ma.f), .v (.int .i64 ma.a), .v (.int .i64 ma.b), .v (.int .i64 ma.c), .v (.int .i64 ma.g), .v (.int .i64 ma.h), .v (.int .i64 ma.i), .v (.int .i64 ma.n)]⟩, ⟨b18, 61, [.v (.int .i64 (ivG ma 0 0).1), .v (.int .i64 (ivG ma 0 0).2), .v (.int .i64 (ivG ma 0 1).1), .v (.int .i64 (ivG ma 0 1).2), .v (.int .i64 (ivG ma 0 2).1), .v (.int .i64 (ivG ma 0 2).2), .v (.int .i64 (ivG ma 1 0).1), .v (.int .i64 (ivG ma 1 0).2), .v (.int .i64 (ivG ma 1 1).1), .v (.int .i64 (ivG ma 1 1).2), .v (.int .i64 (ivG ma 1 2).1), .v (.int .i64 (ivG ma 1 2).2), .v (.int .i64 (ivG ma 2 0).1), .v (.int .i64 (ivG ma 2 0).2), .v (.int .i64 (ivG ma 2 1).1), .v (.int .i64 (ivG ma 2 1).2), .v (.int .i64 (ivG ma 2 2).1), .v (.int .i64 (ivG ma 2 2).2)]⟩], []⟩ : St))) ?_ (fun _ => ?_)
  · by_cases hd : detF ma = 0
    · refine C_block ?_
      refine C_loopS (fun i : Nat => ⟨[(3, .s (.p b3 0 0)), (4, .s (.p b4 1 0)), (5, .s (.p b5 2 0)), (13, .s (.v (.int .i64 (detF ma)))), (18, .s (.p b18 4 0)), (122, .s (.v (.int .i64 i)))], [⟨b3, 53, [.v (.int .i64 ma.a), .v (.int .i64 ma.b), .v (.int .i64 ma.c), .v (.int .i64 ma.d), .v (.int .i64 ma.e), .v (.int .i64 ma.f), .v (.int .i64 ma.g), .v (.int .i64 ma.h), .v (.int .i64 ma.i), .v (.int .i64 ma.n)]⟩, ⟨b4, 53, [.v (.int .i64 mb.a), .v (.int .i64 mb.b), .v (.int .i64 mb.c), .v (.int .i64 mb.d), .v (.int .i64 mb.e), .v (.int .i64 mb.f), .v (.int .i64 mb.g), .v (.int .i64 mb.h), .v (.int .i64 mb.i), .v (.int .i64 mb.n)]⟩, ⟨b5, 50, [.v (.int .i64 c.1), .v (.int .i64 c.2.1), .v (.int .i64 c.2.2)]⟩, ⟨b15, 53, [.v (.int .i64 ma.d), .v (.int .i64 ma.e), .v (.int .i64 ma.f), .v (.int .i64 ma.a), .v (.int .i64 ma.b), .v (.int .i64 ma.c), .v (.int .i64 ma.g), .v (.int .i64 ma.h), .v (.int .i64 ma.i), .v (.int .i64 ma.n)]⟩, ⟨b18, 61, [.v (.int .i64 (ivG ma 0 0).1), .v (.int .i64 (ivG ma 0 0).2), .v (.int .i64 (ivG ma 0 1).1), .v (.int .i64 (ivG ma 0 1).2), .v (.int .i64 (ivG ma 0 2).1), .v (.int .i64 (ivG ma 0 2).2), .v (.int .i64 (ivG ma 1 0).1), .v (.int .i64 (ivG ma 1 0).2), .v (.int .i64 (ivG ma 1 1).1), .v (.int .i64 (ivG ma 1 1).2), .v (.int .i64 (ivG ma 1 2).1), .v (.int .i64 (ivG ma 1 2).2), .v (.int .i64 (ivG ma 2 0).1), .v (.int .i64 (ivG ma 2 0).2), .v (.int .i64 (ivG ma 2 1).1), .v (.int .i64 (ivG ma 2 1).2), .v (.int .i64 (ivG ma 2 2).1), .v (.int .i64 (ivG ma 2 2).2)]⟩], []⟩) (fun i => i ≤ 3) (fun i => 3 - i) 0 (Nat.zero_le _) ?_ (fun i hi => ?_)
      · exact ⟨⟨_, rfl, obQ⟩, ⟨_, rfl⟩, rfl, psQ⟩
      have hi3 : i ≤ 3 := hi
      rcases (show i = 0 ∨ i = 1 ∨ i = 2 ∨ i = 3 by omega) with rfl | rfl | rfl | rfl
      · repeat' (first
 | (refine C_id ?_; first
 | refine C_condT rfl obQ ?_
 | refine C_seq ?_
 | refine C_region rfl ?_
 | refine C_block ?_
 | refine C_skip ?_
         )
 | (refine S_id ?_; first
 | ((with_reducible (first | refine S_trueE ?_ ?_ | refine S_trueB ?_ ?_ | refine S_trueL ?_ ?_ | refine S_trueD ?_ ?_ | refine S_trueN ?_ ?_)); · (first | exact beq_self_eq_true _ | rfl | omega | exact decide_eq_true (by omega) | (simp only [bne_iff_ne, ne_eq]; assumption) | (rw [beq_iff_eq]; assumption)))
 | refine S_nil ?_
 | refine S_runN rfl rfl obQ obQ ?_
         )
 | (refine G_id ?_; first
 | refine G_then ?_
         )
         )
        refine C_loopS (fun k : Nat => ⟨[(3, .s (.p b3 0 0)), (4, .s (.p b4 1 0)), (5, .s (.p b5 2 0)), (13, .s (.v (.int .i64 (detF ma)))), (18, .s (.p b18 4 0)), (20, .s (.v (.int .i64 ((0 : Nat) : Int)))), (122, .s (.v (.int .i64 ((0 : Nat) : Int)))), (125, .s (.v (.int .i64 k)))], [⟨b3, 53, [.v (.int .i64 ma.a), .v (.int .i64 ma.b), .v (.int .i64 ma.c), .v (.int .i64 ma.d), .v (.int .i64 ma.e), .v (.int .i64 ma.f), .v (.int .i64 ma.g), .v (.int .i64 ma.h), .v (.int .i64 ma.i), .v (.int .i64 ma.n)]⟩, ⟨b4, 53, [.v (.int .i64 mb.a), .v (.int .i64 mb.b), .v (.int .i64 mb.c), .v (.int .i64 mb.d), .v (.int .i64 mb.e), .v (.int .i64 mb.f), .v (.int .i64 mb.g), .v (.int .i64 mb.h), .v (.int .i64 mb.i), .v (.int .i64 mb.n)]⟩, ⟨b5, 50, [.v (.int .i64 c.1), .v (.int .i64 c.2.1), .v (.int .i64 c.2.2)]⟩, ⟨b15, 53, [.v (.int .i64 ma.d), .v (.int .i64 ma.e), .v (.int .i64 ma.f), .v (.int .i64 ma.a), .v (.int .i64 ma.b), .v (.int .i64 ma.c), .v (.int .i64 ma.g), .v (.int .i64 ma.h), .v (.int .i64 ma.i), .v (.int .i64 ma.n)]⟩, ⟨b18, 61, [.v (.int .i64 (ivG ma 0 0).1), .v (.int .i64 (ivG ma 0 0).2), .v (.int .i64 (ivG ma 0 1).1), .v (.int .i64 (ivG ma 0 1).2), .v (.int .i64 (ivG ma 0 2).1), .v (.int .i64 (ivG ma 0 2).2), .v (.int .i64 (ivG ma 1 0).1), .v (.int .i64 (ivG ma 1 0).2), .v (.int .i64 (ivG ma 1 1).1), .v (.int .i64 (ivG ma 1 1).2), .v (.int .i64 (ivG ma 1 2).1), .v (.int .i64 (ivG ma 1 2).2), .v (.int .i64 (ivG ma 2 0).1), .v (.int .i64 (ivG ma 2 0).2), .v (.int .i64 (ivG ma 2 1).1), .v (.int .i64 (ivG ma 2 1).2), .v (.int .i64 (ivG ma 2 2).1), .v (.int .i64 (ivG ma 2 2).2)]⟩], []⟩) (fun i => i ≤ 3) (fun i => 3 - i) 0 (Nat.zero_le _) ?_ (fun k hk => ?_)
        · exact ⟨⟨_, rfl, obQ⟩, ⟨_, rfl⟩, rfl, psQ⟩
        have hk3 : k ≤ 3 := hk
        rcases (show k = 0 ∨ k = 1 ∨ k = 2 ∨ k = 3 by omega) with rfl | rfl | rfl | rfl
        · repeat' (first
 | (refine C_id ?_; first
 | refine C_seq ?_
 | refine C_region rfl ?_
 | refine C_block ?_
 | refine C_skip ?_
 | refine C_exit ?_
 | refine C_condT rfl obQ ?_
           )
 | (refine S_id ?_; first
 | ((with_reducible (first | refine S_trueE ?_ ?_ | refine S_trueB ?_ ?_ | refine S_trueL ?_ ?_ | refine S_trueD ?_ ?_ | refine S_trueN ?_ ?_)); · (first | exact beq_self_eq_true _ | rfl | omega | exact decide_eq_true (by omega) | (simp only [bne_iff_ne, ne_eq]; assumption) | (rw [beq_iff_eq]; assumption)))
 | refine S_nil ?_
 | refine S_runN rfl rfl obQ obQ ?_
           )
 | (refine G_id ?_; first
 | refine G_loop 1 (by show 1 ≤ 3; omega) (by show 3 - 1 < 3 - 0; omega) ⟨⟨_, rfl, obQ⟩, ⟨_, rfl⟩, rfl, psQ⟩
 | refine G_then ?_
 | refine G_blockX ?_
 | refine G_thenX ?_
           )
           )
        · repeat' (first
 | (refine C_id ?_; first
 | refine C_seq ?_
 | refine C_region rfl ?_
 | refine C_block ?_
 | refine C_skip ?_
 | refine C_exit ?_
 | refine C_condT rfl obQ ?_
           )
 | (refine S_id ?_; first
 | ((with_reducible (first | refine S_trueE ?_ ?_ | refine S_trueB ?_ ?_ | refine S_trueL ?_ ?_ | refine S_trueD ?_ ?_ | refine S_trueN ?_ ?_)); · (first | exact beq_self_eq_true _ | rfl | omega | exact decide_eq_true (by omega) | (simp only [bne_iff_ne, ne_eq]; assumption) | (rw [beq_iff_eq]; assumption)))
 | refine S_nil ?_
 | refine S_runN rfl rfl obQ obQ ?_
           )
 | (refine G_id ?_; first
 | refine G_loop 2 (by show 2 ≤ 3; omega) (by show 3 - 2 < 3 - 1; omega) ⟨⟨_, rfl, obQ⟩, ⟨_, rfl⟩, rfl, psQ⟩
 | refine G_then ?_
 | refine G_blockX ?_
 | refine G_thenX ?_
           )
           )
        · repeat' (first
 | (refine C_id ?_; first
 | refine C_seq ?_
 | refine C_region rfl ?_
 | refine C_block ?_
 | refine C_skip ?_
 | refine C_exit ?_
 | refine C_condT rfl obQ ?_
           )
 | (refine S_id ?_; first
 | ((with_reducible (first | refine S_trueE ?_ ?_ | refine S_trueB ?_ ?_ | refine S_trueL ?_ ?_ | refine S_trueD ?_ ?_ | refine S_trueN ?_ ?_)); · (first | exact beq_self_eq_true _ | rfl | omega | exact decide_eq_true (by omega) | (simp only [bne_iff_ne, ne_eq]; assumption) | (rw [beq_iff_eq]; assumption)))
 | refine S_nil ?_
 | refine S_runN rfl rfl obQ obQ ?_
           )
 | (refine G_id ?_; first
 | refine G_loop 3 (by show 3 ≤ 3; omega) (by show 3 - 3 < 3 - 2; omega) ⟨⟨_, rfl, obQ⟩, ⟨_, rfl⟩, rfl, psQ⟩
 | refine G_then ?_
 | refine G_blockX ?_
 | refine G_thenX ?_
           )
           )
        · repeat' (first
 | (refine C_id ?_; first
 | refine C_seq ?_
 | refine C_region rfl ?_
 | refine C_exit ?_
 | refine C_condF rfl obQ ?_
           )
 | (refine S_id ?_; first
 | ((with_reducible (first | refine S_falseN ?_ ?_ | refine S_falseB ?_ ?_ | refine S_falseL ?_ ?_ | refine S_falseD ?_ ?_ | refine S_falseE ?_ ?_)); · (first | rfl | exact bne_self_eq_false _ | assumption | omega | exact decide_eq_false (by omega) | (simp only [bne_eq_false_iff_eq]; first | assumption | omega) | (rw [beq_eq_false_iff_ne]; first | assumption | omega)))
 | refine S_nil ?_
 | refine S_runN rfl rfl obQ obQ ?_
           )
 | (refine G_id ?_; first
 | refine G_loop 1 (by show 1 ≤ 3; omega) (by show 3 - 1 < 3 - 0; omega) ⟨⟨_, rfl, obQ⟩, ⟨_, rfl⟩, rfl, psQ⟩
 | refine G_then ?_
 | refine G_block ?_
 | refine G_blockX ?_
 | refine G_thenX ?_
           )
           )
      · repeat' (first
 | (refine C_id ?_; first
 | refine C_condT rfl obQ ?_
 | refine C_seq ?_
 | refine C_region rfl ?_
 | refine C_block ?_
 | refine C_skip ?_
         )
 | (refine S_id ?_; first
 | ((with_reducible (first | refine S_trueE ?_ ?_ | refine S_trueB ?_ ?_ | refine S_trueL ?_ ?_ | refine S_trueD ?_ ?_ | refine S_trueN ?_ ?_)); · (first | exact beq_self_eq_true _ | rfl | omega | exact decide_eq_true (by omega) | (simp only [bne_iff_ne, ne_eq]; assumption) | (rw [beq_iff_eq]; assumption)))
 | refine S_nil ?_
 | refine S_runN rfl rfl obQ obQ ?_
         )
 | (refine G_id ?_; first
 | refine G_then ?_
         )
         )
        refine C_loopS (fun k : Nat => ⟨[(3, .s (.p b3 0 0)), (4, .s (.p b4 1 0)), (5, .s (.p b5 2 0)), (13, .s (.v (.int .i64 (detF ma)))), (18, .s (.p b18 4 0)), (20, .s (.v (.int .i64 ((1 : Nat) : Int)))), (122, .s (.v (.int .i64 ((1 : Nat) : Int)))), (125, .s (.v (.int .i64 k)))], [⟨b3, 53, [.v (.int .i64 ma.a), .v (.int .i64 ma.b), .v (.int .i64 ma.c), .v (.int .i64 ma.d), .v (.int .i64 ma.e), .v (.int .i64 ma.f), .v (.int .i64 ma.g), .v (.int .i64 ma.h), .v (.int .i64 ma.i), .v (.int .i64 ma.n)]⟩, ⟨b4, 53, [.v (.int .i64 mb.a), .v (.int .i64 mb.b), .v (.int .i64 mb.c), .v (.int .i64 mb.d), .v (.int .i64 mb.e), .v (.int .i64 mb.f), .v (.int .i64 mb.g), .v (.int .i64 mb.h), .v (.int .i64 mb.i), .v (.int .i64 mb.n)]⟩, ⟨b5, 50, [.v (.int .i64 c.1), .v (.int .i64 c.2.1), .v (.int .i64 c.2.2)]⟩, ⟨b15, 53, [.v (.int .i64 ma.d), .v (.int .i64 ma.e), .v (.int .i64 ma.f), .v (.int .i64 ma.a), .v (.int .i64 ma.b), .v (.int .i64 ma.c), .v (.int .i64 ma.g), .v (.int .i64 ma.h), .v (.int .i64 ma.i), .v (.int .i64 ma.n)]⟩, ⟨b18, 61, [.v (.int .i64 (ivG ma 0 0).1), .v (.int .i64 (ivG ma 0 0).2), .v (.int .i64 (ivG ma 0 1).1), .v (.int .i64 (ivG ma 0 1).2), .v (.int .i64 (ivG ma 0 2).1), .v (.int .i64 (ivG ma 0 2).2), .v (.int .i64 (ivG ma 1 0).1), .v (.int .i64 (ivG ma 1 0).2), .v (.int .i64 (ivG ma 1 1).1), .v (.int .i64 (ivG ma 1 1).2), .v (.int .i64 (ivG ma 1 2).1), .v (.int .i64 (ivG ma 1 2).2), .v (.int .i64 (ivG ma 2 0).1), .v (.int .i64 (ivG ma 2 0).2), .v (.int .i64 (ivG ma 2 1).1), .v (.int .i64 (ivG ma 2 1).2), .v (.int .i64 (ivG ma 2 2).1), .v (.int .i64 (ivG ma 2 2).2)]⟩], []⟩) (fun i => i ≤ 3) (fun i => 3 - i) 0 (Nat.zero_le _) ?_ (fun k hk => ?_)
        · exact ⟨⟨_, rfl, obQ⟩, ⟨_, rfl⟩, rfl, psQ⟩
        have hk3 : k ≤ 3 := hk
        rcases (show k = 0 ∨ k = 1 ∨ k = 2 ∨ k = 3 by omega) with rfl | rfl | rfl | rfl
        · repeat' (first
 | (refine C_id ?_; first
 | refine C_seq ?_
 | refine C_region rfl ?_
 | refine C_block ?_
 | refine C_skip ?_
 | refine C_exit ?_
 | refine C_condT rfl obQ ?_
           )
 | (refine S_id ?_; first
 | ((with_reducible (first | refine S_trueE ?_ ?_ | refine S_trueB ?_ ?_ | refine S_trueL ?_ ?_ | refine S_trueD ?_ ?_ | refine S_trueN ?_ ?_)); · (first | exact beq_self_eq_true _ | rfl | omega | exact decide_eq_true (by omega) | (simp only [bne_iff_ne, ne_eq]; assumption) | (rw [beq_iff_eq]; assumption)))
 | refine S_nil ?_
 | refine S_runN rfl rfl obQ obQ ?_
           )
 | (refine G_id ?_; first
 | refine G_loop 1 (by show 1 ≤ 3; omega) (by show 3 - 1 < 3 - 0; omega) ⟨⟨_, rfl, obQ⟩, ⟨_, rfl⟩, rfl, psQ⟩
 | refine G_then ?_
 | refine G_blockX ?_
 | refine G_thenX ?_
           )
           )
        · repeat' (first
 | (refine C_id ?_; first
 | refine C_seq ?_
 | refine C_region rfl ?_
 | refine C_block ?_
 | refine C_skip ?_
 | refine C_exit ?_
 | refine C_condT rfl obQ ?_
           )
 | (refine S_id ?_; first
 | ((with_reducible (first | refine S_trueE ?_ ?_ | refine S_trueB ?_ ?_ | refine S_trueL ?_ ?_ | refine S_trueD ?_ ?_ | refine S_trueN ?_ ?_)); · (first | exact beq_self_eq_true _ | rfl | omega | exact decide_eq_true (by omega) | (simp only [bne_iff_ne, ne_eq]; assumption) | (rw [beq_iff_eq]; assumption)))
 | refine S_nil ?_
 | refine S_runN rfl rfl obQ obQ ?_
           )
 | (refine G_id ?_; first
 | refine G_loop 2 (by show 2 ≤ 3; omega) (by show 3 - 2 < 3 - 1; omega) ⟨⟨_, rfl, obQ⟩, ⟨_, rfl⟩, rfl, psQ⟩
 | refine G_then ?_
 | refine G_blockX ?_
 | refine G_thenX ?_
           )
           )
        · repeat' (first
 | (refine C_id ?_; first
 | refine C_seq ?_
 | refine C_region rfl ?_
 | refine C_block ?_
 | refine C_skip ?_
 | refine C_exit ?_
 | refine C_condT rfl obQ ?_
           )
 | (refine S_id ?_; first
 | ((with_reducible (first | refine S_trueE ?_ ?_ | refine S_trueB ?_ ?_ | refine S_trueL ?_ ?_ | refine S_trueD ?_ ?_ | refine S_trueN ?_ ?_)); · (first | exact beq_self_eq_true _ | rfl | omega | exact decide_eq_true (by omega) | (simp only [bne_iff_ne, ne_eq]; assumption) | (rw [beq_iff_eq]; assumption)))
 | refine S_nil ?_
 | refine S_runN rfl rfl obQ obQ ?_
           )
 | (refine G_id ?_; first
 | refine G_loop 3 (by show 3 ≤ 3; omega) (by show 3 - 3 < 3 - 2; omega) ⟨⟨_, rfl, obQ⟩, ⟨_, rfl⟩, rfl, psQ⟩
 | refine G_then ?_
 | refine G_blockX ?_
 | refine G_thenX ?_
           )
           )
        · repeat' (first
 | (refine C_id ?_; first
 | refine C_seq ?_
 | refine C_region rfl ?_
 | refine C_exit ?_
 | refine C_condF rfl obQ ?_
           )
 | (refine S_id ?_; first
 | ((with_reducible (first | refine S_falseN ?_ ?_ | refine S_falseB ?_ ?_ | refine S_falseL ?_ ?_ | refine S_falseD ?_ ?_ | refine S_falseE ?_ ?_)); · (first | rfl | exact bne_self_eq_false _ | assumption | omega | exact decide_eq_false (by omega) | (simp only [bne_eq_false_iff_eq]; first | assumption | omega) | (rw [beq_eq_false_iff_ne]; first | assumption | omega)))
 | refine S_nil ?_
 | refine S_runN rfl rfl obQ obQ ?_
           )
 | (refine G_id ?_; first
 | refine G_loop 2 (by show 2 ≤ 3; omega) (by show 3 - 2 < 3 - 1; omega) ⟨⟨_, rfl, obQ⟩, ⟨_, rfl⟩, rfl, psQ⟩
 | refine G_then ?_
 | refine G_block ?_
 | refine G_blockX ?_
 | refine G_thenX ?_
           )
           )
      · repeat' (first
 | (refine C_id ?_; first
 | refine C_condT rfl obQ ?_
 | refine C_seq ?_
 | refine C_region rfl ?_
 | refine C_block ?_
 | refine C_skip ?_
         )
 | (refine S_id ?_; first
 | ((with_reducible (first | refine S_trueE ?_ ?_ | refine S_trueB ?_ ?_ | refine S_trueL ?_ ?_ | refine S_trueD ?_ ?_ | refine S_trueN ?_ ?_)); · (first | exact beq_self_eq_true _ | rfl | omega | exact decide_eq_true (by omega) | (simp only [bne_iff_ne, ne_eq]; assumption) | (rw [beq_iff_eq]; assumption)))
 | refine S_nil ?_
 | refine S_runN rfl rfl obQ obQ ?_
         )
 | (refine G_id ?_; first
 | refine G_then ?_
         )
         )
        refine C_loopS (fun k : Nat => ⟨[(3, .s (.p b3 0 0)), (4, .s (.p b4 1 0)), (5, .s (.p b5 2 0)), (13, .s (.v (.int .i64 (detF ma)))), (18, .s (.p b18 4 0)), (20, .s (.v (.int .i64 ((2 : Nat) : Int)))), (122, .s (.v (.int .i64 ((2 : Nat) : Int)))), (125, .s (.v (.int .i64 k)))], [⟨b3, 53, [.v (.int .i64 ma.a), .v (.int .i64 ma.b), .v (.int .i64 ma.c), .v (.int .i64 ma.d), .v (.int .i64 ma.e), .v (.int .i64 ma.f), .v (.int .i64 ma.g), .v (.int .i64 ma.h), .v (.int .i64 ma.i), .v (.int .i64 ma.n)]⟩, ⟨b4, 53, [.v (.int .i64 mb.a), .v (.int .i64 mb.b), .v (.int .i64 mb.c), .v (.int .i64 mb.d), .v (.int .i64 mb.e), .v (.int .i64 mb.f), .v (.int .i64 mb.g), .v (.int .i64 mb.h), .v (.int .i64 mb.i), .v (.int .i64 mb.n)]⟩, ⟨b5, 50, [.v (.int .i64 c.1), .v (.int .i64 c.2.1), .v (.int .i64 c.2.2)]⟩, ⟨b15, 53, [.v (.int .i64 ma.d), .v (.int .i64 ma.e), .v (.int .i64 ma.f), .v (.int .i64 ma.a), .v (.int .i64 ma.b), .v (.int .i64 ma.c), .v (.int .i64 ma.g), .v (.int .i64 ma.h), .v (.int .i64 ma.i), .v (.int .i64 ma.n)]⟩, ⟨b18, 61, [.v (.int .i64 (ivG ma 0 0).1), .v (.int .i64 (ivG ma 0 0).2), .v (.int .i64 (ivG ma 0 1).1), .v (.int .i64 (ivG ma 0 1).2), .v (.int .i64 (ivG ma 0 2).1), .v (.int .i64 (ivG ma 0 2).2), .v (.int .i64 (ivG ma 1 0).1), .v (.int .i64 (ivG ma 1 0).2), .v (.int .i64 (ivG ma 1 1).1), .v (.int .i64 (ivG ma 1 1).2), .v (.int .i64 (ivG ma 1 2).1), .v (.int .i64 (ivG ma 1 2).2), .v (.int .i64 (ivG ma 2 0).1), .v (.int .i64 (ivG ma 2 0).2), .v (.int .i64 (ivG ma 2 1).1), .v (.int .i64 (ivG ma 2 1).2), .v (.int .i64 (ivG ma 2 2).1), .v (.int .i64 (ivG ma 2 2).2)]⟩], []⟩) (fun i => i ≤ 3) (fun i => 3 - i) 0 (Nat.zero_le _) ?_ (fun k hk => ?_)
        · exact ⟨⟨_, rfl, obQ⟩, ⟨_, rfl⟩, rfl, psQ⟩
        have hk3 : k ≤ 3 := hk
        rcases (show k = 0 ∨ k = 1 ∨ k = 2 ∨ k = 3 by omega) with rfl | rfl | rfl | rfl
        · repeat' (first
 | (refine C_id ?_; first
 | refine C_seq ?_
 | refine C_region rfl ?_
 | refine C_block ?_
 | refine C_skip ?_
 | refine C_exit ?_
 | refine C_condT rfl obQ ?_
           )
 | (refine S_id ?_; first
 | ((with_reducible (first | refine S_trueE ?_ ?_ | refine S_trueB ?_ ?_ | refine S_trueL ?_ ?_ | refine S_trueD ?_ ?_ | refine S_trueN ?_ ?_)); · (first | exact beq_self_eq_true _ | rfl | omega | exact decide_eq_true (by omega) | (simp only [bne_iff_ne, ne_eq]; assumption) | (rw [beq_iff_eq]; assumption)))
 | refine S_nil ?_
 | refine S_runN rfl rfl obQ obQ ?_
           )
 | (refine G_id ?_; first
 | refine G_loop 1 (by show 1 ≤ 3; omega) (by show 3 - 1 < 3 - 0; omega) ⟨⟨_, rfl, obQ⟩, ⟨_, rfl⟩, rfl, psQ⟩
 | refine G_then ?_
 | refine G_blockX ?_
 | refine G_thenX ?_
           )
           )
        · repeat' (first
 | (refine C_id ?_; first
 | refine C_seq ?_
 | refine C_region rfl ?_
 | refine C_block ?_
 | refine C_skip ?_
 | refine C_exit ?_
 | refine C_condT rfl obQ ?_
           )
 | (refine S_id ?_; first
 | ((with_reducible (first | refine S_trueE ?_ ?_ | refine S_trueB ?_ ?_ | refine S_trueL ?_ ?_ | refine S_trueD ?_ ?_ | refine S_trueN ?_ ?_)); · (first | exact beq_self_eq_true _ | rfl | omega | exact decide_eq_true (by omega) | (simp only [bne_iff_ne, ne_eq]; assumption) | (rw [beq_iff_eq]; assumption)))
 | refine S_nil ?_
 | refine S_runN rfl rfl obQ obQ ?_
           )
 | (refine G_id ?_; first
 | refine G_loop 2 (by show 2 ≤ 3; omega) (by show 3 - 2 < 3 - 1; omega) ⟨⟨_, rfl, obQ⟩, ⟨_, rfl⟩, rfl, psQ⟩
 | refine G_then ?_
 | refine G_blockX ?_
 | refine G_thenX ?_
           )
           )
        · repeat' (first
 | (refine C_id ?_; first
 | refine C_seq ?_
 | refine C_region rfl ?_
 | refine C_block ?_
 | refine C_skip ?_
 | refine C_exit ?_
 | refine C_condT rfl obQ ?_
           )
 | (refine S_id ?_; first
 | ((with_reducible (first | refine S_trueE ?_ ?_ | refine S_trueB ?_ ?_ | refine S_trueL ?_ ?_ | refine S_trueD ?_ ?_ | refine S_trueN ?_ ?_)); · (first | exact beq_self_eq_true _ | rfl | omega | exact decide_eq_true (by omega) | (simp only [bne_iff_ne, ne_eq]; assumption) | (rw [beq_iff_eq]; assumption)))
 | refine S_nil ?_
 | refine S_runN rfl rfl obQ obQ ?_
           )
 | (refine G_id ?_; first
 | refine G_loop 3 (by show 3 ≤ 3; omega) (by show 3 - 3 < 3 - 2; omega) ⟨⟨_, rfl, obQ⟩, ⟨_, rfl⟩, rfl, psQ⟩
 | refine G_then ?_
 | refine G_blockX ?_
 | refine G_thenX ?_
           )
           )
        · repeat' (first
 | (refine C_id ?_; first
 | refine C_seq ?_
 | refine C_region rfl ?_
 | refine C_exit ?_
 | refine C_condF rfl obQ ?_
           )
 | (refine S_id ?_; first
 | ((with_reducible (first | refine S_falseN ?_ ?_ | refine S_falseB ?_ ?_ | refine S_falseL ?_ ?_ | refine S_falseD ?_ ?_ | refine S_falseE ?_ ?_)); · (first | rfl | exact bne_self_eq_false _ | assumption | omega | exact decide_eq_false (by omega) | (simp only [bne_eq_false_iff_eq]; first | assumption | omega) | (rw [beq_eq_false_iff_ne]; first | assumption | omega)))
 | refine S_nil ?_
 | refine S_runN rfl rfl obQ obQ ?_
           )
 | (refine G_id ?_; first
 | refine G_loop 3 (by show 3 ≤ 3; omega) (by show 3 - 3 < 3 - 2; omega) ⟨⟨_, rfl, obQ⟩, ⟨_, rfl⟩, rfl, psQ⟩
 | refine G_then ?_
 | refine G_block ?_
 | refine G_blockX ?_
 | refine G_thenX ?_
           )
           )
      · repeat' (first
 | (refine C_id ?_; first
 | refine C_condF rfl obQ ?_
 | refine C_seq ?_
 | refine C_region rfl ?_
 | refine C_exit ?_
         )
 | (refine S_id ?_; first
 | ((with_reducible (first | refine S_falseN ?_ ?_ | refine S_falseB ?_ ?_ | refine S_falseL ?_ ?_ | refine S_falseD ?_ ?_ | refine S_falseE ?_ ?_)); · (first | rfl | exact bne_self_eq_false _ | assumption | omega | exact decide_eq_false (by omega) | (simp only [bne_eq_false_iff_eq]; first | assumption | omega) | (rw [beq_eq_false_iff_ne]; first | assumption | omega)))
 | refine S_nil ?_
 | refine S_runN rfl rfl obQ obQ ?_
         )
 | (refine G_id ?_; first
 | refine G_cutN () ⟨⟨_, rfl, obQ⟩, ⟨_, rfl⟩, rfl, psQ⟩
 | refine G_then ?_
 | refine G_blockX ?_
 | refine G_thenX ?_
         )
         )
    · refine C_block ?_
      refine C_loopS (fun i : Nat => ⟨[(3, .s (.p b3 0 0)), (4, .s (.p b4 1 0)), (5, .s (.p b5 2 0)), (13, .s (.v (.int .i64 (detF ma)))), (18, .s (.p b18 4 0)), (122, .s (.v (.int .i64 i)))], [⟨b3, 53, [.v (.int .i64 ma.a), .v (.int .i64 ma.b), .v (.int .i64 ma.c), .v (.int .i64 ma.d), .v (.int .i64 ma.e), .v (.int .i64 ma.f), .v (.int .i64 ma.g), .v (.int .i64 ma.h), .v (.int .i64 ma.i), .v (.int .i64 ma.n)]⟩, ⟨b4, 53, [.v (.int .i64 mb.a), .v (.int .i64 mb.b), .v (.int .i64 mb.c), .v (.int .i64 mb.d), .v (.int .i64 mb.e), .v (.int .i64 mb.f), .v (.int .i64 mb.g), .v (.int .i64 mb.h), .v (.int .i64 mb.i), .v (.int .i64 mb.n)]⟩, ⟨b5, 50, [.v (.int .i64 c.1), .v (.int .i64 c.2.1), .v (.int .i64 c.2.2)]⟩, ⟨b15, 53, [.v (.int .i64 ma.d), .v (.int .i64 ma.e), .v (.int .i64 ma.f), .v (.int .i64 ma.a), .v (.int .i64 ma.b), .v (.int .i64 ma.c), .v (.int .i64 ma.g), .v (.int .i64 ma.h), .v (.int .i64 ma.i), .v (.int .i64 ma.n)]⟩, ⟨b18, 61, [.v (.int .i64 (ivG ma 0 0).1), .v (.int .i64 (ivG ma 0 0).2), .v (.int .i64 (ivG ma 0 1).1), .v (.int .i64 (ivG ma 0 1).2), .v (.int .i64 (ivG ma 0 2).1), .v (.int .i64 (ivG ma 0 2).2), .v (.int .i64 (ivG ma 1 0).1), .v (.int .i64 (ivG ma 1 0).2), .v (.int .i64 (ivG ma 1 1).1), .v (.int .i64 (ivG ma 1 1).2), .v (.int .i64 (ivG ma 1 2).1), .v (.int .i64 (ivG ma 1 2).2), .v (.int .i64 (ivG ma 2 0).1), .v (.int .i64 (ivG ma 2 0).2), .v (.int .i64 (ivG ma 2 1).1), .v (.int .i64 (ivG ma 2 1).2), .v (.int .i64 (ivG ma 2 2).1), .v (.int .i64 (ivG ma 2 2).2)]⟩], []⟩) (fun i => i ≤ 3) (fun i => 3 - i) 0 (Nat.zero_le _) ?_ (fun i hi => ?_)
      · exact ⟨⟨_, rfl, obQ⟩, ⟨_, rfl⟩, rfl, psQ⟩
      have hi3 : i ≤ 3 := hi
      rcases (show i = 0 ∨ i = 1 ∨ i = 2 ∨ i = 3 by omega) with rfl | rfl | rfl | rfl
      · repeat' (first
 | (refine C_id ?_; first
 | refine C_condT rfl obQ ?_
 | refine C_seq ?_
 | refine C_region rfl ?_
 | refine C_block ?_
 | refine C_skip ?_
         )
 | (refine S_id ?_; first
 | ((with_reducible (first | refine S_trueE ?_ ?_ | refine S_trueB ?_ ?_ | refine S_trueL ?_ ?_ | refine S_trueD ?_ ?_ | refine S_trueN ?_ ?_)); · (first | exact beq_self_eq_true _ | rfl | omega | exact decide_eq_true (by omega) | (simp only [bne_iff_ne, ne_eq]; assumption) | (rw [beq_iff_eq]; assumption)))
 | refine S_nil ?_
 | refine S_runN rfl rfl obQ obQ ?_
         )
 | (refine G_id ?_; first
 | refine G_then ?_
         )
         )
        refine C_loopS (fun k : Nat => ⟨[(3, .s (.p b3 0 0)), (4, .s (.p b4 1 0)), (5, .s (.p b5 2 0)), (13, .s (.v (.int .i64 (detF ma)))), (18, .s (.p b18 4 0)), (20, .s (.v (.int .i64 ((0 : Nat) : Int)))), (122, .s (.v (.int .i64 ((0 : Nat) : Int)))), (125, .s (.v (.int .i64 k)))], [⟨b3, 53, [.v (.int .i64 ma.a), .v (.int .i64 ma.b), .v (.int .i64 ma.c), .v (.int .i64 ma.d), .v (.int .i64 ma.e), .v (.int .i64 ma.f), .v (.int .i64 ma.g), .v (.int .i64 ma.h), .v (.int .i64 ma.i), .v (.int .i64 ma.n)]⟩, ⟨b4, 53, [.v (.int .i64 mb.a), .v (.int .i64 mb.b), .v (.int .i64 mb.c), .v (.int .i64 mb.d), .v (.int .i64 mb.e), .v (.int .i64 mb.f), .v (.int .i64 mb.g), .v (.int .i64 mb.h), .v (.int .i64 mb.i), .v (.int .i64 mb.n)]⟩, ⟨b5, 50, [.v (.int .i64 c.1), .v (.int .i64 c.2.1), .v (.int .i64 c.2.2)]⟩, ⟨b15, 53, [.v (.int .i64 ma.d), .v (.int .i64 ma.e), .v (.int .i64 ma.f), .v (.int .i64 ma.a), .v (.int .i64 ma.b), .v (.int .i64 ma.c), .v (.int .i64 ma.g), .v (.int .i64 ma.h), .v (.int .i64 ma.i), .v (.int .i64 ma.n)]⟩, ⟨b18, 61, [.v (.int .i64 (ivG ma 0 0).1), .v (.int .i64 (ivG ma 0 0).2), .v (.int .i64 (ivG ma 0 1).1), .v (.int .i64 (ivG ma 0 1).2), .v (.int .i64 (ivG ma 0 2).1), .v (.int .i64 (ivG ma 0 2).2), .v (.int .i64 (ivG ma 1 0).1), .v (.int .i64 (ivG ma 1 0).2), .v (.int .i64 (ivG ma 1 1).1), .v (.int .i64 (ivG ma 1 1).2), .v (.int .i64 (ivG ma 1 2).1), .v (.int .i64 (ivG ma 1 2).2), .v (.int .i64 (ivG ma 2 0).1), .v (.int .i64 (ivG ma 2 0).2), .v (.int .i64 (ivG ma 2 1).1), .v (.int .i64 (ivG ma 2 1).2), .v (.int .i64 (ivG ma 2 2).1), .v (.int .i64 (ivG ma 2 2).2)]⟩], []⟩) (fun i => i ≤ 3) (fun i => 3 - i) 0 (Nat.zero_le _) ?_ (fun k hk => ?_)
        · exact ⟨⟨_, rfl, obQ⟩, ⟨_, rfl⟩, rfl, psQ⟩
        have hk3 : k ≤ 3 := hk
        rcases (show k = 0 ∨ k = 1 ∨ k = 2 ∨ k = 3 by omega) with rfl | rfl | rfl | rfl
        · obtain ⟨⟨p0, q0⟩, r0, ⟨s0, t0⟩, u0, ⟨v0, w0⟩⟩ := ivg_ok hsa hd 0 0
          have y0 := mul_ab hsa.a (show -432000 ≤ (ivG ma 0 0).1 ∧ (ivG ma 0 0).1 ≤ 432000 from ⟨s0, t0⟩)
          have z0 := mul_ab hsa.a (nc_sm hsa 0 0)
          have e0 : ma.a * (ivG ma 0 0).1 * (detF ma).tdiv (ivG ma 0 0).2 = ma.a * (ma.n * cofF ma 0 0) ∧ -4611686018427387904 ≤ ma.a * (ma.n * cofF ma 0 0) ∧ ma.a * (ma.n * cofF ma 0 0) ≤ 4611686018427387904 := ⟨by rw [Int.mul_assoc, u0], by omega, by omega⟩
          obtain ⟨⟨p1, q1⟩, r1, ⟨s1, t1⟩, u1, ⟨v1, w1⟩⟩ := ivg_ok hsa hd 1 0
          have y1 := mul_ab hsa.b (show -432000 ≤ (ivG ma 1 0).1 ∧ (ivG ma 1 0).1 ≤ 432000 from ⟨s1, t1⟩)
          have z1 := mul_ab hsa.b (nc_sm hsa 0 1)
          have e1 : ma.b * (ivG ma 1 0).1 * (detF ma).tdiv (ivG ma 1 0).2 = ma.b * (ma.n * cofF ma 0 1) ∧ -4611686018427387904 ≤ ma.b * (ma.n * cofF ma 0 1) ∧ ma.b * (ma.n * cofF ma 0 1) ≤ 4611686018427387904 := ⟨by rw [Int.mul_assoc, u1], by omega, by omega⟩
          obtain ⟨⟨p2, q2⟩, r2, ⟨s2, t2⟩, u2, ⟨v2, w2⟩⟩ := ivg_ok hsa hd 2 0
          have y2 := mul_ab hsa.c (show -432000 ≤ (ivG ma 2 0).1 ∧ (ivG ma 2 0).1 ≤ 432000 from ⟨s2, t2⟩)
          have z2 := mul_ab hsa.c (nc_sm hsa 0 2)
          have e2 : ma.c * (ivG ma 2 0).1 * (detF ma).tdiv (ivG ma 2 0).2 = ma.c * (ma.n * cofF ma 0 2) ∧ -4611686018427387904 ≤ ma.c * (ma.n * cofF ma 0 2) ∧ ma.c * (ma.n * cofF ma 0 2) ≤ 4611686018427387904 := ⟨by rw [Int.mul_assoc, u2], by omega, by omega⟩
          have hrow := row_00 ma
          clear u0 u1 u2
          repeat' (first
 | (refine C_id ?_; first
 | refine C_rounds 3 ?_
 | refine C_seq ?_
 | refine C_region rfl ?_
 | refine C_block ?_
 | refine C_skip ?_
 | refine C_exit ?_
 | refine C_draw (id := 40) rfl mixed (by kernel_rfl) ?_
 | refine C_condT rfl obQ ?_
 | refine C_condF rfl obQ ?_
           )
 | (refine S_id ?_; first
 | ((with_reducible (first | refine S_falseN ?_ ?_ | refine S_falseB ?_ ?_ | refine S_falseL ?_ ?_ | refine S_falseD ?_ ?_ | refine S_falseE ?_ ?_)); · (first | rfl | exact bne_self_eq_false _ | assumption | omega | exact decide_eq_false (by omega) | (simp only [bne_eq_false_iff_eq]; first | assumption | omega) | (rw [beq_eq_false_iff_ne]; first | assumption | omega)))
 | ((with_reducible refine S_falseO ?_ ?_ ?_); (· rfl); (· first | rfl | (first | rfl | exact bne_self_eq_false _ | assumption | omega | exact decide_eq_false (by omega) | (simp only [bne_eq_false_iff_eq]; first | assumption | omega) | (rw [beq_eq_false_iff_ne]; first | assumption | omega))))
 | ((with_reducible (first | refine S_trueE ?_ ?_ | refine S_trueB ?_ ?_ | refine S_trueL ?_ ?_ | refine S_trueD ?_ ?_ | refine S_trueN ?_ ?_)); · (first | exact beq_self_eq_true _ | rfl | omega | exact decide_eq_true (by omega) | (simp only [bne_iff_ne, ne_eq]; assumption) | (rw [beq_iff_eq]; assumption)))
 | refine S_unG rfl rfl rfl rfl ?_
 | refine S_pure (binX_pure rfl obQ (fun w => rem_as _ _ _ (by omega) (by assumption) rfl w)) ?_
 | refine S_nil ?_
 | refine S_runN rfl rfl obQ obQ ?_
 | refine S_box (fun b24 => ⟨_, _, rfl, obQ, ?_⟩)
           )
 | (refine D_id ?_; first
 | refine D_pure (binX_pure rfl obQ (fun w => mul_as _ _ _ (by assumption) w)) ?_
 | refine D_pure (binX_pure rfl obQ (fun w => quo_any _ _ _ (by omega) (by omega) w)) ?_
 | refine D_nil ?_
 | refine D_run rfl rfl obQ obQ ?_
 | refine D_one rfl obQ ?_
           )
 | (refine G_id ?_; first
 | refine G_loop 1 (by show 1 ≤ 3; omega) (by show 3 - 1 < 3 - 0; omega) ⟨⟨_, rfl, obQ⟩, ⟨_, rfl⟩, rfl, psQ⟩
 | refine G_rounds (C_trim [3, 4, 5, 13, 18, 20, 21, 22, 122, 125, 130] 5 rfl rfl ?_)
 | refine G_then ?_
 | refine G_block ?_
 | refine G_blockX ?_
 | refine G_thenX ?_
           )
           )
        · obtain ⟨⟨p0, q0⟩, r0, ⟨s0, t0⟩, u0, ⟨v0, w0⟩⟩ := ivg_ok hsa hd 0 1
          have y0 := mul_ab hsa.a (show -432000 ≤ (ivG ma 0 1).1 ∧ (ivG ma 0 1).1 ≤ 432000 from ⟨s0, t0⟩)
          have z0 := mul_ab hsa.a (nc_sm hsa 1 0)
          have e0 : ma.a * (ivG ma 0 1).1 * (detF ma).tdiv (ivG ma 0 1).2 = ma.a * (ma.n * cofF ma 1 0) ∧ -4611686018427387904 ≤ ma.a * (ma.n * cofF ma 1 0) ∧ ma.a * (ma.n * cofF ma 1 0) ≤ 4611686018427387904 := ⟨by rw [Int.mul_assoc, u0], by omega, by omega⟩
          obtain ⟨⟨p1, q1⟩, r1, ⟨s1, t1⟩, u1, ⟨v1, w1⟩⟩ := ivg_ok hsa hd 1 1
          have y1 := mul_ab hsa.b (show -432000 ≤ (ivG ma 1 1).1 ∧ (ivG ma 1 1).1 ≤ 432000 from ⟨s1, t1⟩)
          have z1 := mul_ab hsa.b (nc_sm hsa 1 1)
          have e1 : ma.b * (ivG ma 1 1).1 * (detF ma).tdiv (ivG ma 1 1).2 = ma.b * (ma.n * cofF ma 1 1) ∧ -4611686018427387904 ≤ ma.b * (ma.n * cofF ma 1 1) ∧ ma.b * (ma.n * cofF ma 1 1) ≤ 4611686018427387904 := ⟨by rw [Int.mul_assoc, u1], by omega, by omega⟩
          obtain ⟨⟨p2, q2⟩, r2, ⟨s2, t2⟩, u2, ⟨v2, w2⟩⟩ := ivg_ok hsa hd 2 1
          have y2 := mul_ab hsa.c (show -432000 ≤ (ivG ma 2 1).1 ∧ (ivG ma 2 1).1 ≤ 432000 from ⟨s2, t2⟩)
          have z2 := mul_ab hsa.c (nc_sm hsa 1 2)
          have e2 : ma.c * (ivG ma 2 1).1 * (detF ma).tdiv (ivG ma 2 1).2 = ma.c * (ma.n * cofF ma 1 2) ∧ -4611686018427387904 ≤ ma.c * (ma.n * cofF ma 1 2) ∧ ma.c * (ma.n * cofF ma 1 2) ≤ 4611686018427387904 := ⟨by rw [Int.mul_assoc, u2], by omega, by omega⟩
          have hrow := row_01 ma
          clear u0 u1 u2
          repeat' (first
 | (refine C_id ?_; first
 | refine C_rounds 3 ?_
 | refine C_seq ?_
 | refine C_region rfl ?_
 | refine C_block ?_
 | refine C_skip ?_
 | refine C_exit ?_
 | refine C_draw (id := 40) rfl mixed (by kernel_rfl) ?_
 | refine C_condT rfl obQ ?_
 | refine C_condF rfl obQ ?_
           )
 | (refine S_id ?_; first
 | ((with_reducible (first | refine S_falseN ?_ ?_ | refine S_falseB ?_ ?_ | refine S_falseL ?_ ?_ | refine S_falseD ?_ ?_ | refine S_falseE ?_ ?_)); · (first | rfl | exact bne_self_eq_false _ | assumption | omega | exact decide_eq_false (by omega) | (simp only [bne_eq_false_iff_eq]; first | assumption | omega) | (rw [beq_eq_false_iff_ne]; first | assumption | omega)))
 | ((with_reducible refine S_falseO ?_ ?_ ?_); (· rfl); (· first | rfl | (first | rfl | exact bne_self_eq_false _ | assumption | omega | exact decide_eq_false (by omega) | (simp only [bne_eq_false_iff_eq]; first | assumption | omega) | (rw [beq_eq_false_iff_ne]; first | assumption | omega))))
 | ((with_reducible (first | refine S_trueE ?_ ?_ | refine S_trueB ?_ ?_ | refine S_trueL ?_ ?_ | refine S_trueD ?_ ?_ | refine S_trueN ?_ ?_)); · (first | exact beq_self_eq_true _ | rfl | omega | exact decide_eq_true (by omega) | (simp only [bne_iff_ne, ne_eq]; assumption) | (rw [beq_iff_eq]; assumption)))
 | refine S_unG rfl rfl rfl rfl ?_
 | refine S_pure (binX_pure rfl obQ (fun w => rem_as _ _ _ (by omega) (by assumption) rfl w)) ?_
 | refine S_nil ?_
 | refine S_runN rfl rfl obQ obQ ?_
 | refine S_box (fun b24 => ⟨_, _, rfl, obQ, ?_⟩)
           )
 | (refine D_id ?_; first
 | refine D_pure (binX_pure rfl obQ (fun w => mul_as _ _ _ (by assumption) w)) ?_
 | refine D_pure (binX_pure rfl obQ (fun w => quo_any _ _ _ (by omega) (by omega) w)) ?_
 | refine D_nil ?_
 | refine D_run rfl rfl obQ obQ ?_
 | refine D_one rfl obQ ?_
           )
 | (refine G_id ?_; first
 | refine G_loop 2 (by show 2 ≤ 3; omega) (by show 3 - 2 < 3 - 1; omega) ⟨⟨_, rfl, obQ⟩, ⟨_, rfl⟩, rfl, psQ⟩
 | refine G_rounds (C_trim [3, 4, 5, 13, 18, 20, 21, 22, 122, 125, 130] 5 rfl rfl ?_)
 | refine G_then ?_
 | refine G_block ?_
 | refine G_blockX ?_
 | refine G_thenX ?_
           )
           )
        · obtain ⟨⟨p0, q0⟩, r0, ⟨s0, t0⟩, u0, ⟨v0, w0⟩⟩ := ivg_ok hsa hd 0 2
          have y0 := mul_ab hsa.a (show -432000 ≤ (ivG ma 0 2).1 ∧ (ivG ma 0 2).1 ≤ 432000 from ⟨s0, t0⟩)
          have z0 := mul_ab hsa.a (nc_sm hsa 2 0)
          have e0 : ma.a * (ivG ma 0 2).1 * (detF ma).tdiv (ivG ma 0 2).2 = ma.a * (ma.n * cofF ma 2 0) ∧ -4611686018427387904 ≤ ma.a * (ma.n * cofF ma 2 0) ∧ ma.a * (ma.n * cofF ma 2 0) ≤ 4611686018427387904 := ⟨by rw [Int.mul_assoc, u0], by omega, by omega⟩
          obtain ⟨⟨p1, q1⟩, r1, ⟨s1, t1⟩, u1, ⟨v1, w1⟩⟩ := ivg_ok hsa hd 1 2
          have y1 := mul_ab hsa.b (show -432000 ≤ (ivG ma 1 2).1 ∧ (ivG ma 1 2).1 ≤ 432000 from ⟨s1, t1⟩)
          have z1 := mul_ab hsa.b (nc_sm hsa 2 1)
          have e1 : ma.b * (ivG ma 1 2).1 * (detF ma).tdiv (ivG ma 1 2).2 = ma.b * (ma.n * cofF ma 2 1) ∧ -4611686018427387904 ≤ ma.b * (ma.n * cofF ma 2 1) ∧ ma.b * (ma.n * cofF ma 2 1) ≤ 4611686018427387904 := ⟨by rw [Int.mul_assoc, u1], by omega, by omega⟩
          obtain ⟨⟨p2, q2⟩, r2, ⟨s2, t2⟩, u2, ⟨v2, w2⟩⟩ := ivg_ok hsa hd 2 2
          have y2 := mul_ab hsa.c (show -432000 ≤ (ivG ma 2 2).1 ∧ (ivG ma 2 2).1 ≤ 432000 from ⟨s2, t2⟩)
          have z2 := mul_ab hsa.c (nc_sm hsa 2 2)
          have e2 : ma.c * (ivG ma 2 2).1 * (detF ma).tdiv (ivG ma 2 2).2 = ma.c * (ma.n * cofF ma 2 2) ∧ -4611686018427387904 ≤ ma.c * (ma.n * cofF ma 2 2) ∧ ma.c * (ma.n * cofF ma 2 2) ≤ 4611686018427387904 := ⟨by rw [Int.mul_assoc, u2], by omega, by omega⟩
          have hrow := row_02 ma
          clear u0 u1 u2
          repeat' (first
 | (refine C_id ?_; first
 | refine C_rounds 3 ?_
 | refine C_seq ?_
 | refine C_region rfl ?_
 | refine C_block ?_
 | refine C_skip ?_
 | refine C_exit ?_
 | refine C_draw (id := 40) rfl mixed (by kernel_rfl) ?_
 | refine C_condT rfl obQ ?_
 | refine C_condF rfl obQ ?_
           )
 | (refine S_id ?_; first
 | ((with_reducible (first | refine S_falseN ?_ ?_ | refine S_falseB ?_ ?_ | refine S_falseL ?_ ?_ | refine S_falseD ?_ ?_ | refine S_falseE ?_ ?_)); · (first | rfl | exact bne_self_eq_false _ | assumption | omega | exact decide_eq_false (by omega) | (simp only [bne_eq_false_iff_eq]; first | assumption | omega) | (rw [beq_eq_false_iff_ne]; first | assumption | omega)))
 | ((with_reducible refine S_falseO ?_ ?_ ?_); (· rfl); (· first | rfl | (first | rfl | exact bne_self_eq_false _ | assumption | omega | exact decide_eq_false (by omega) | (simp only [bne_eq_false_iff_eq]; first | assumption | omega) | (rw [beq_eq_false_iff_ne]; first | assumption | omega))))
 | ((with_reducible (first | refine S_trueE ?_ ?_ | refine S_trueB ?_ ?_ | refine S_trueL ?_ ?_ | refine S_trueD ?_ ?_ | refine S_trueN ?_ ?_)); · (first | exact beq_self_eq_true _ | rfl | omega | exact decide_eq_true (by omega) | (simp only [bne_iff_ne, ne_eq]; assumption) | (rw [beq_iff_eq]; assumption)))
 | refine S_unG rfl rfl rfl rfl ?_
 | refine S_pure (binX_pure rfl obQ (fun w => rem_as _ _ _ (by omega) (by assumption) rfl w)) ?_
 | refine S_nil ?_
 | refine S_runN rfl rfl obQ obQ ?_
 | refine S_box (fun b24 => ⟨_, _, rfl, obQ, ?_⟩)
           )
 | (refine D_id ?_; first
 | refine D_pure (binX_pure rfl obQ (fun w => mul_as _ _ _ (by assumption) w)) ?_
 | refine D_pure (binX_pure rfl obQ (fun w => quo_any _ _ _ (by omega) (by omega) w)) ?_
 | refine D_nil ?_
 | refine D_run rfl rfl obQ obQ ?_
 | refine D_one rfl obQ ?_
           )
 | (refine G_id ?_; first
 | refine G_loop 3 (by show 3 ≤ 3; omega) (by show 3 - 3 < 3 - 2; omega) ⟨⟨_, rfl, obQ⟩, ⟨_, rfl⟩, rfl, psQ⟩
 | refine G_rounds (C_trim [3, 4, 5, 13, 18, 20, 21, 22, 122, 125, 130] 5 rfl rfl ?_)
 | refine G_then ?_
 | refine G_block ?_
 | refine G_blockX ?_
 | refine G_thenX ?_
           )
           )
        · repeat' (first
 | (refine C_id ?_; first
 | refine C_seq ?_
 | refine C_region rfl ?_
 | refine C_exit ?_
 | refine C_condF rfl obQ ?_
           )
 | (refine S_id ?_; first
 | ((with_reducible (first | refine S_falseN ?_ ?_ | refine S_falseB ?_ ?_ | refine S_falseL ?_ ?_ | refine S_falseD ?_ ?_ | refine S_falseE ?_ ?_)); · (first | rfl | exact bne_self_eq_false _ | assumption | omega | exact decide_eq_false (by omega) | (simp only [bne_eq_false_iff_eq]; first | assumption | omega) | (rw [beq_eq_false_iff_ne]; first | assumption | omega)))
 | refine S_nil ?_
 | refine S_runN rfl rfl obQ obQ ?_
           )
 | (refine G_id ?_; first
 | refine G_loop 1 (by show 1 ≤ 3; omega) (by show 3 - 1 < 3 - 0; omega) ⟨⟨_, rfl, obQ⟩, ⟨_, rfl⟩, rfl, psQ⟩
 | refine G_then ?_
 | refine G_block ?_
 | refine G_blockX ?_
 | refine G_thenX ?_
           )
           )
      · repeat' (first
 | (refine C_id ?_; first
 | refine C_condT rfl obQ ?_
 | refine C_seq ?_
 | refine C_region rfl ?_
 | refine C_block ?_
 | refine C_skip ?_
         )
 | (refine S_id ?_; first
 | ((with_reducible (first | refine S_trueE ?_ ?_ | refine S_trueB ?_ ?_ | refine S_trueL ?_ ?_ | refine S_trueD ?_ ?_ | refine S_trueN ?_ ?_)); · (first | exact beq_self_eq_true _ | rfl | omega | exact decide_eq_true (by omega) | (simp only [bne_iff_ne, ne_eq]; assumption) | (rw [beq_iff_eq]; assumption)))
 | refine S_nil ?_
 | refine S_runN rfl rfl obQ obQ ?_
         )
 | (refine G_id ?_; first
 | refine G_then ?_
         )
         )
        refine C_loopS (fun k : Nat => ⟨[(3, .s (.p b3 0 0)), (4, .s (.p b4 1 0)), (5, .s (.p b5 2 0)), (13, .s (.v (.int .i64 (detF ma)))), (18, .s (.p b18 4 0)), (20, .s (.v (.int .i64 ((1 : Nat) : Int)))), (122, .s (.v (.int .i64 ((1 : Nat) : Int)))), (125, .s (.v (.int .i64 k)))], [⟨b3, 53, [.v (.int .i64 ma.a), .v (.int .i64 ma.b), .v (.int .i64 ma.c), .v (.int .i64 ma.d), .v (.int .i64 ma.e), .v (.int .i64 ma.f), .v (.int .i64 ma.g), .v (.int .i64 ma.h), .v (.int .i64 ma.i), .v (.int .i64 ma.n)]⟩, ⟨b4, 53, [.v (.int .i64 mb.a), .v (.int .i64 mb.b), .v (.int .i64 mb.c), .v (.int .i64 mb.d), .v (.int .i64 mb.e), .v (.int .i64 mb.f), .v (.int .i64 mb.g), .v (.int .i64 mb.h), .v (.int .i64 mb.i), .v (.int .i64 mb.n)]⟩, ⟨b5, 50, [.v (.int .i64 c.1), .v (.int .i64 c.2.1), .v (.int .i64 c.2.2)]⟩, ⟨b15, 53, [.v (.int .i64 ma.d), .v (.int .i64 ma.e), .v (.int .i64 ma.f), .v (.int .i64 ma.a), .v (.int .i64 ma.b), .v (.int .i64 ma.c), .v (.int .i64 ma.g), .v (.int .i64 ma.h), .v (.int .i64 ma.i), .v (.int .i64 ma.n)]⟩, ⟨b18, 61, [.v (.int .i64 (ivG ma 0 0).1), .v (.int .i64 (ivG ma 0 0).2), .v (.int .i64 (ivG ma 0 1).1), .v (.int .i64 (ivG ma 0 1).2), .v (.int .i64 (ivG ma 0 2).1), .v (.int .i64 (ivG ma 0 2).2), .v (.int .i64 (ivG ma 1 0).1), .v (.int .i64 (ivG ma 1 0).2), .v (.int .i64 (ivG ma 1 1).1), .v (.int .i64 (ivG ma 1 1).2), .v (.int .i64 (ivG ma 1 2).1), .v (.int .i64 (ivG ma 1 2).2), .v (.int .i64 (ivG ma 2 0).1), .v (.int .i64 (ivG ma 2 0).2), .v (.int .i64 (ivG ma 2 1).1), .v (.int .i64 (ivG ma 2 1).2), .v (.int .i64 (ivG ma 2 2).1), .v (.int .i64 (ivG ma 2 2).2)]⟩], []⟩) (fun i => i ≤ 3) (fun i => 3 - i) 0 (Nat.zero_le _) ?_ (fun k hk => ?_)
        · exact ⟨⟨_, rfl, obQ⟩, ⟨_, rfl⟩, rfl, psQ⟩
        have hk3 : k ≤ 3 := hk
        rcases (show k = 0 ∨ k = 1 ∨ k = 2 ∨ k = 3 by omega) with rfl | rfl | rfl | rfl
        · obtain ⟨⟨p0, q0⟩, r0, ⟨s0, t0⟩, u0, ⟨v0, w0⟩⟩ := ivg_ok hsa hd 0 0
          have y0 := mul_ab hsa.d (show -432000 ≤ (ivG ma 0 0).1 ∧ (ivG ma 0 0).1 ≤ 432000 from ⟨s0, t0⟩)
          have z0 := mul_ab hsa.d (nc_sm hsa 0 0)
          have e0 : ma.d * (ivG ma 0 0).1 * (detF ma).tdiv (ivG ma 0 0).2 = ma.d * (ma.n * cofF ma 0 0) ∧ -4611686018427387904 ≤ ma.d * (ma.n * cofF ma 0 0) ∧ ma.d * (ma.n * cofF ma 0 0) ≤ 4611686018427387904 := ⟨by rw [Int.mul_assoc, u0], by omega, by omega⟩
          obtain ⟨⟨p1, q1⟩, r1, ⟨s1, t1⟩, u1, ⟨v1, w1⟩⟩ := ivg_ok hsa hd 1 0
          have y1 := mul_ab hsa.e (show -432000 ≤ (ivG ma 1 0).1 ∧ (ivG ma 1 0).1 ≤ 432000 from ⟨s1, t1⟩)
          have z1 := mul_ab hsa.e (nc_sm hsa 0 1)
          have e1 : ma.e * (ivG ma 1 0).1 * (detF ma).tdiv (ivG ma 1 0).2 = ma.e * (ma.n * cofF ma 0 1) ∧ -4611686018427387904 ≤ ma.e * (ma.n * cofF ma 0 1) ∧ ma.e * (ma.n * cofF ma 0 1) ≤ 4611686018427387904 := ⟨by rw [Int.mul_assoc, u1], by omega, by omega⟩
          obtain ⟨⟨p2, q2⟩, r2, ⟨s2, t2⟩, u2, ⟨v2, w2⟩⟩ := ivg_ok hsa hd 2 0
          have y2 := mul_ab hsa.f (show -432000 ≤ (ivG ma 2 0).1 ∧ (ivG ma 2 0).1 ≤ 432000 from ⟨s2, t2⟩)
          have z2 := mul_ab hsa.f (nc_sm hsa 0 2)
          have e2 : ma.f * (ivG ma 2 0).1 * (detF ma).tdiv (ivG ma 2 0).2 = ma.f * (ma.n * cofF ma 0 2) ∧ -4611686018427387904 ≤ ma.f * (ma.n * cofF ma 0 2) ∧ ma.f * (ma.n * cofF ma 0 2) ≤ 4611686018427387904 := ⟨by rw [Int.mul_assoc, u2], by omega, by omega⟩
          have hrow := row_10 ma
          clear u0 u1 u2
          repeat' (first
 | (refine C_id ?_; first
 | refine C_rounds 3 ?_
 | refine C_seq ?_
 | refine C_region rfl ?_
 | refine C_block ?_
 | refine C_skip ?_
 | refine C_exit ?_
 | refine C_draw (id := 40) rfl mixed (by kernel_rfl) ?_
 | refine C_condT rfl obQ ?_
 | refine C_condF rfl obQ ?_
           )
 | (refine S_id ?_; first
 | ((with_reducible (first | refine S_falseN ?_ ?_ | refine S_falseB ?_ ?_ | refine S_falseL ?_ ?_ | refine S_falseD ?_ ?_ | refine S_falseE ?_ ?_)); · (first | rfl | exact bne_self_eq_false _ | assumption | omega | exact decide_eq_false (by omega) | (simp only [bne_eq_false_iff_eq]; first | assumption | omega) | (rw [beq_eq_false_iff_ne]; first | assumption | omega)))
 | ((with_reducible refine S_falseO ?_ ?_ ?_); (· rfl); (· first | rfl | (first | rfl | exact bne_self_eq_false _ | assumption | omega | exact decide_eq_false (by omega) | (simp only [bne_eq_false_iff_eq]; first | assumption | omega) | (rw [beq_eq_false_iff_ne]; first | assumption | omega))))
 | ((with_reducible (first | refine S_trueE ?_ ?_ | refine S_trueB ?_ ?_ | refine S_trueL ?_ ?_ | refine S_trueD ?_ ?_ | refine S_trueN ?_ ?_)); · (first | exact beq_self_eq_true _ | rfl | omega | exact decide_eq_true (by omega) | (simp only [bne_iff_ne, ne_eq]; assumption) | (rw [beq_iff_eq]; assumption)))
 | refine S_unG rfl rfl rfl rfl ?_
 | refine S_pure (binX_pure rfl obQ (fun w => rem_as _ _ _ (by omega) (by assumption) rfl w)) ?_
 | refine S_nil ?_
 | refine S_runN rfl rfl obQ obQ ?_
 | refine S_box (fun b24 => ⟨_, _, rfl, obQ, ?_⟩)
           )
 | (refine D_id ?_; first
 | refine D_pure (binX_pure rfl obQ (fun w => mul_as _ _ _ (by assumption) w)) ?_
 | refine D_pure (binX_pure rfl obQ (fun w => quo_any _ _ _ (by omega) (by omega) w)) ?_
 | refine D_nil ?_
 | refine D_run rfl rfl obQ obQ ?_
 | refine D_one rfl obQ ?_
           )
 | (refine G_id ?_; first
 | refine G_loop 1 (by show 1 ≤ 3; omega) (by show 3 - 1 < 3 - 0; omega) ⟨⟨_, rfl, obQ⟩, ⟨_, rfl⟩, rfl, psQ⟩
 | refine G_rounds (C_trim [3, 4, 5, 13, 18, 20, 21, 22, 122, 125, 130] 5 rfl rfl ?_)
 | refine G_then ?_
 | refine G_block ?_
 | refine G_blockX ?_
 | refine G_thenX ?_
           )
           )
        · obtain ⟨⟨p0, q0⟩, r0, ⟨s0, t0⟩, u0, ⟨v0, w0⟩⟩ := ivg_ok hsa hd 0 1
          have y0 := mul_ab hsa.d (show -432000 ≤ (ivG ma 0 1).1 ∧ (ivG ma 0 1).1 ≤ 432000 from ⟨s0, t0⟩)
          have z0 := mul_ab hsa.d (nc_sm hsa 1 0)
          have e0 : ma.d * (ivG ma 0 1).1 * (detF ma).tdiv (ivG ma 0 1).2 = ma.d * (ma.n * cofF ma 1 0) ∧ -4611686018427387904 ≤ ma.d * (ma.n * cofF ma 1 0) ∧ ma.d * (ma.n * cofF ma 1 0) ≤ 4611686018427387904 := ⟨by rw [Int.mul_assoc, u0], by omega, by omega⟩
          obtain ⟨⟨p1, q1⟩, r1, ⟨s1, t1⟩, u1, ⟨v1, w1⟩⟩ := ivg_ok hsa hd 1 1
          have y1 := mul_ab hsa.e (show -432000 ≤ (ivG ma 1 1).1 ∧ (ivG ma 1 1).1 ≤ 432000 from ⟨s1, t1⟩)
          have z1 := mul_ab hsa.e (nc_sm hsa 1 1)
          have e1 : ma.e * (ivG ma 1 1).1 * (detF ma).tdiv (ivG ma 1 1).2 = ma.e * (ma.n * cofF ma 1 1) ∧ -4611686018427387904 ≤ ma.e * (ma.n * cofF ma 1 1) ∧ ma.e * (ma.n * cofF ma 1 1) ≤ 4611686018427387904 := ⟨by rw [Int.mul_assoc, u1], by omega, by omega⟩
          obtain ⟨⟨p2, q2⟩, r2, ⟨s2, t2⟩, u2, ⟨v2, w2⟩⟩ := ivg_ok hsa hd 2 1
          have y2 := mul_ab hsa.f (show -432000 ≤ (ivG ma 2 1).1 ∧ (ivG ma 2 1).1 ≤ 432000 from ⟨s2, t2⟩)
          have z2 := mul_ab hsa.f (nc_sm hsa 1 2)
          have e2 : ma.f * (ivG ma 2 1).1 * (detF ma).tdiv (ivG ma 2 1).2 = ma.f * (ma.n * cofF ma 1 2) ∧ -4611686018427387904 ≤ ma.f * (ma.n * cofF ma 1 2) ∧ ma.f * (ma.n * cofF ma 1 2) ≤ 4611686018427387904 := ⟨by rw [Int.mul_assoc, u2], by omega, by omega⟩
          have hrow := row_11 ma
          clear u0 u1 u2
          repeat' (first
 | (refine C_id ?_; first
 | refine C_rounds 3 ?_
 | refine C_seq ?_
 | refine C_region rfl ?_
 | refine C_block ?_
 | refine C_skip ?_
 | refine C_exit ?_
 | refine C_draw (id := 40) rfl mixed (by kernel_rfl) ?_
 | refine C_condT rfl obQ ?_
 | refine C_condF rfl obQ ?_
           )
 | (refine S_id ?_; first
 | ((with_reducible (first | refine S_falseN ?_ ?_ | refine S_falseB ?_ ?_ | refine S_falseL ?_ ?_ | refine S_falseD ?_ ?_ | refine S_falseE ?_ ?_)); · (first | rfl | exact bne_self_eq_false _ | assumption | omega | exact decide_eq_false (by omega) | (simp only [bne_eq_false_iff_eq]; first | assumption | omega) | (rw [beq_eq_false_iff_ne]; first | assumption | omega)))
 | ((with_reducible refine S_falseO ?_ ?_ ?_); (· rfl); (· first | rfl | (first | rfl | exact bne_self_eq_false _ | assumption | omega | exact decide_eq_false (by omega) | (simp only [bne_eq_false_iff_eq]; first | assumption | omega) | (rw [beq_eq_false_iff_ne]; first | assumption | omega))))
 | ((with_reducible (first | refine S_trueE ?_ ?_ | refine S_trueB ?_ ?_ | refine S_trueL ?_ ?_ | refine S_trueD ?_ ?_ | refine S_trueN ?_ ?_)); · (first | exact beq_self_eq_true _ | rfl | omega | exact decide_eq_true (by omega) | (simp only [bne_iff_ne, ne_eq]; assumption) | (rw [beq_iff_eq]; assumption)))
 | refine S_unG rfl rfl rfl rfl ?_
 | refine S_pure (binX_pure rfl obQ (fun w => rem_as _ _ _ (by omega) (by assumption) rfl w)) ?_
 | refine S_nil ?_
 | refine S_runN rfl rfl obQ obQ ?_
 | refine S_box (fun b24 => ⟨_, _, rfl, obQ, ?_⟩)
           )
 | (refine D_id ?_; first
 | refine D_pure (binX_pure rfl obQ (fun w => mul_as _ _ _ (by assumption) w)) ?_
 | refine D_pure (binX_pure rfl obQ (fun w => quo_any _ _ _ (by omega) (by omega) w)) ?_
 | refine D_nil ?_
 | refine D_run rfl rfl obQ obQ ?_
 | refine D_one rfl obQ ?_
           )
 | (refine G_id ?_; first
 | refine G_loop 2 (by show 2 ≤ 3; omega) (by show 3 - 2 < 3 - 1; omega) ⟨⟨_, rfl, obQ⟩, ⟨_, rfl⟩, rfl, psQ⟩
 | refine G_rounds (C_trim [3, 4, 5, 13, 18, 20, 21, 22, 122, 125, 130] 5 rfl rfl ?_)
 | refine G_then ?_
 | refine G_block ?_
 | refine G_blockX ?_
 | refine G_thenX ?_
           )
           )
        · obtain ⟨⟨p0, q0⟩, r0, ⟨s0, t0⟩, u0, ⟨v0, w0⟩⟩ := ivg_ok hsa hd 0 2
          have y0 := mul_ab hsa.d (show -432000 ≤ (ivG ma 0 2).1 ∧ (ivG ma 0 2).1 ≤ 432000 from ⟨s0, t0⟩)
          have z0 := mul_ab hsa.d (nc_sm hsa 2 0)
          have e0 : ma.d * (ivG ma 0 2).1 * (detF ma).tdiv (ivG ma 0 2).2 = ma.d * (ma.n * cofF ma 2 0) ∧ -4611686018427387904 ≤ ma.d * (ma.n * cofF ma 2 0) ∧ ma.d * (ma.n * cofF ma 2 0) ≤ 4611686018427387904 := ⟨by rw [Int.mul_assoc, u0], by omega, by omega⟩
          obtain ⟨⟨p1, q1⟩, r1, ⟨s1, t1⟩, u1, ⟨v1, w1⟩⟩ := ivg_ok hsa hd 1 2
          have y1 := mul_ab hsa.e (show -432000 ≤ (ivG ma 1 2).1 ∧ (ivG ma 1 2).1 ≤ 432000 from ⟨s1, t1⟩)
          have z1 := mul_ab hsa.e (nc_sm hsa 2 1)
          have e1 : ma.e * (ivG ma 1 2).1 * (detF ma).tdiv (ivG ma 1 2).2 = ma.e * (ma.n * cofF ma 2 1) ∧ -4611686018427387904 ≤ ma.e * (ma.n * cofF ma 2 1) ∧ ma.e * (ma.n * cofF ma 2 1) ≤ 4611686018427387904 := ⟨by rw [Int.mul_assoc, u1], by omega, by omega⟩
          obtain ⟨⟨p2, q2⟩, r2, ⟨s2, t2⟩, u2, ⟨v2, w2⟩⟩ := ivg_ok hsa hd 2 2
          have y2 := mul_ab hsa.f (show -432000 ≤ (ivG ma 2 2).1 ∧ (ivG ma 2 2).1 ≤ 432000 from ⟨s2, t2⟩)
          have z2 := mul_ab hsa.f (nc_sm hsa 2 2)
          have e2 : ma.f * (ivG ma 2 2).1 * (detF ma).tdiv (ivG ma 2 2).2 = ma.f * (ma.n * cofF ma 2 2) ∧ -4611686018427387904 ≤ ma.f * (ma.n * cofF ma 2 2) ∧ ma.f * (ma.n * cofF ma 2 2) ≤ 4611686018427387904 := ⟨by rw [Int.mul_assoc, u2], by omega, by omega⟩
          have hrow := row_12 ma
          clear u0 u1 u2
          repeat' (first
 | (refine C_id ?_; first
 | refine C_rounds 3 ?_
 | refine C_seq ?_
 | refine C_region rfl ?_
 | refine C_block ?_
 | refine C_skip ?_
 | refine C_exit ?_
 | refine C_draw (id := 40) rfl mixed (by kernel_rfl) ?_
 | refine C_condT rfl obQ ?_
 | refine C_condF rfl obQ ?_
           )
 | (refine S_id ?_; first
 | ((with_reducible (first | refine S_falseN ?_ ?_ | refine S_falseB ?_ ?_ | refine S_falseL ?_ ?_ | refine S_falseD ?_ ?_ | refine S_falseE ?_ ?_)); · (first | rfl | exact bne_self_eq_false _ | assumption | omega | exact decide_eq_false (by omega) | (simp only [bne_eq_false_iff_eq]; first | assumption | omega) | (rw [beq_eq_false_iff_ne]; first | assumption | omega)))
 | ((with_reducible refine S_falseO ?_ ?_ ?_); (· rfl); (· first | rfl | (first | rfl | exact bne_self_eq_false _ | assumption | omega | exact decide_eq_false (by omega) | (simp only [bne_eq_false_iff_eq]; first | assumption | omega) | (rw [beq_eq_false_iff_ne]; first | assumption | omega))))
 | ((with_reducible (first | refine S_trueE ?_ ?_ | refine S_trueB ?_ ?_ | refine S_trueL ?_ ?_ | refine S_trueD ?_ ?_ | refine S_trueN ?_ ?_)); · (first | exact beq_self_eq_true _ | rfl | omega | exact decide_eq_true (by omega) | (simp only [bne_iff_ne, ne_eq]; assumption) | (rw [beq_iff_eq]; assumption)))
 | refine S_unG rfl rfl rfl rfl ?_
 | refine S_pure (binX_pure rfl obQ (fun w => rem_as _ _ _ (by omega) (by assumption) rfl w)) ?_
 | refine S_nil ?_
 | refine S_runN rfl rfl obQ obQ ?_
 | refine S_box (fun b24 => ⟨_, _, rfl, obQ, ?_⟩)
           )
 | (refine D_id ?_; first
 | refine D_pure (binX_pure rfl obQ (fun w => mul_as _ _ _ (by assumption) w)) ?_
 | refine D_pure (binX_pure rfl obQ (fun w => quo_any _ _ _ (by omega) (by omega) w)) ?_
 | refine D_nil ?_
 | refine D_run rfl rfl obQ obQ ?_
 | refine D_one rfl obQ ?_
           )
 | (refine G_id ?_; first
 | refine G_loop 3 (by show 3 ≤ 3; omega) (by show 3 - 3 < 3 - 2; omega) ⟨⟨_, rfl, obQ⟩, ⟨_, rfl⟩, rfl, psQ⟩
 | refine G_rounds (C_trim [3, 4, 5, 13, 18, 20, 21, 22, 122, 125, 130] 5 rfl rfl ?_)
 | refine G_then ?_
 | refine G_block ?_
 | refine G_blockX ?_
 | refine G_thenX ?_
           )
           )
        · repeat' (first
 | (refine C_id ?_; first
 | refine C_seq ?_
 | refine C_region rfl ?_
 | refine C_exit ?_
 | refine C_condF rfl obQ ?_
           )
 | (refine S_id ?_; first
 | ((with_reducible (first | refine S_falseN ?_ ?_ | refine S_falseB ?_ ?_ | refine S_falseL ?_ ?_ | refine S_falseD ?_ ?_ | refine S_falseE ?_ ?_)); · (first | rfl | exact bne_self_eq_false _ | assumption | omega | exact decide_eq_false (by omega) | (simp only [bne_eq_false_iff_eq]; first | assumption | omega) | (rw [beq_eq_false_iff_ne]; first | assumption | omega)))
 | refine S_nil ?_
 | refine S_runN rfl rfl obQ obQ ?_
           )
 | (refine G_id ?_; first
 | refine G_loop 2 (by show 2 ≤ 3; omega) (by show 3 - 2 < 3 - 1; omega) ⟨⟨_, rfl, obQ⟩, ⟨_, rfl⟩, rfl, psQ⟩
 | refine G_then ?_
 | refine G_block ?_
 | refine G_blockX ?_
 | refine G_thenX ?_
           )
           )
      · repeat' (first
 | (refine C_id ?_; first
 | refine C_condT rfl obQ ?_
 | refine C_seq ?_
 | refine C_region rfl ?_
 | refine C_block ?_
 | refine C_skip ?_
         )
 | (refine S_id ?_; first
 | ((with_reducible (first | refine S_trueE ?_ ?_ | refine S_trueB ?_ ?_ | refine S_trueL ?_ ?_ | refine S_trueD ?_ ?_ | refine S_trueN ?_ ?_)); · (first | exact beq_self_eq_true _ | rfl | omega | exact decide_eq_true (by omega) | (simp only [bne_iff_ne, ne_eq]; assumption) | (rw [beq_iff_eq]; assumption)))
 | refine S_nil ?_
 | refine S_runN rfl rfl obQ obQ ?_
         )
 | (refine G_id ?_; first
 | refine G_then ?_
         )
         )
        refine C_loopS (fun k : Nat => ⟨[(3, .s (.p b3 0 0)), (4, .s (.p b4 1 0)), (5, .s (.p b5 2 0)), (13, .s (.v (.int .i64 (detF ma)))), (18, .s (.p b18 4 0)), (20, .s (.v (.int .i64 ((2 : Nat) : Int)))), (122, .s (.v (.int .i64 ((2 : Nat) : Int)))), (125, .s (.v (.int .i64 k)))], [⟨b3, 53, [.v (.int .i64 ma.a), .v (.int .i64 ma.b), .v (.int .i64 ma.c), .v (.int .i64 ma.d), .v (.int .i64 ma.e), .v (.int .i64 ma.f), .v (.int .i64 ma.g), .v (.int .i64 ma.h), .v (.int .i64 ma.i), .v (.int .i64 ma.n)]⟩, ⟨b4, 53, [.v (.int .i64 mb.a), .v (.int .i64 mb.b), .v (.int .i64 mb.c), .v (.int .i64 mb.d), .v (.int .i64 mb.e), .v (.int .i64 mb.f), .v (.int .i64 mb.g), .v (.int .i64 mb.h), .v (.int .i64 mb.i), .v (.int .i64 mb.n)]⟩, ⟨b5, 50, [.v (.int .i64 c.1), .v (.int .i64 c.2.1), .v (.int .i64 c.2.2)]⟩, ⟨b15, 53, [.v (.int .i64 ma.d), .v (.int .i64 ma.e), .v (.int .i64 ma.f), .v (.int .i64 ma.a), .v (.int .i64 ma.b), .v (.int .i64 ma.c), .v (.int .i64 ma.g), .v (.int .i64 ma.h), .v (.int .i64 ma.i), .v (.int .i64 ma.n)]⟩, ⟨b18, 61, [.v (.int .i64 (ivG ma 0 0).1), .v (.int .i64 (ivG ma 0 0).2), .v (.int .i64 (ivG ma 0 1).1), .v (.int .i64 (ivG ma 0 1).2), .v (.int .i64 (ivG ma 0 2).1), .v (.int .i64 (ivG ma 0 2).2), .v (.int .i64 (ivG ma 1 0).1), .v (.int .i64 (ivG ma 1 0).2), .v (.int .i64 (ivG ma 1 1).1), .v (.int .i64 (ivG ma 1 1).2), .v (.int .i64 (ivG ma 1 2).1), .v (.int .i64 (ivG ma 1 2).2), .v (.int .i64 (ivG ma 2 0).1), .v (.int .i64 (ivG ma 2 0).2), .v (.int .i64 (ivG ma 2 1).1), .v (.int .i64 (ivG ma 2 1).2), .v (.int .i64 (ivG ma 2 2).1), .v (.int .i64 (ivG ma 2 2).2)]⟩], []⟩) (fun i => i ≤ 3) (fun i => 3 - i) 0 (Nat.zero_le _) ?_ (fun k hk => ?_)
        · exact ⟨⟨_, rfl, obQ⟩, ⟨_, rfl⟩, rfl, psQ⟩
        have hk3 : k ≤ 3 := hk
        rcases (show k = 0 ∨ k = 1 ∨ k = 2 ∨ k = 3 by omega) with rfl | rfl | rfl | rfl
        · obtain ⟨⟨p0, q0⟩, r0, ⟨s0, t0⟩, u0, ⟨v0, w0⟩⟩ := ivg_ok hsa hd 0 0
          have y0 := mul_ab hsa.g (show -432000 ≤ (ivG ma 0 0).1 ∧ (ivG ma 0 0).1 ≤ 432000 from ⟨s0, t0⟩)
          have z0 := mul_ab hsa.g (nc_sm hsa 0 0)
          have e0 : ma.g * (ivG ma 0 0).1 * (detF ma).tdiv (ivG ma 0 0).2 = ma.g * (ma.n * cofF ma 0 0) ∧ -4611686018427387904 ≤ ma.g * (ma.n * cofF ma 0 0) ∧ ma.g * (ma.n * cofF ma 0 0) ≤ 4611686018427387904 := ⟨by rw [Int.mul_assoc, u0], by omega, by omega⟩
          obtain ⟨⟨p1, q1⟩, r1, ⟨s1, t1⟩, u1, ⟨v1, w1⟩⟩ := ivg_ok hsa hd 1 0
          have y1 := mul_ab hsa.h (show -432000 ≤ (ivG ma 1 0).1 ∧ (ivG ma 1 0).1 ≤ 432000 from ⟨s1, t1⟩)
          have z1 := mul_ab hsa.h (nc_sm hsa 0 1)
          have e1 : ma.h * (ivG ma 1 0).1 * (detF ma).tdiv (ivG ma 1 0).2 = ma.h * (ma.n * cofF ma 0 1) ∧ -4611686018427387904 ≤ ma.h * (ma.n * cofF ma 0 1) ∧ ma.h * (ma.n * cofF ma 0 1) ≤ 4611686018427387904 := ⟨by rw [Int.mul_assoc, u1], by omega, by omega⟩
          obtain ⟨⟨p2, q2⟩, r2, ⟨s2, t2⟩, u2, ⟨v2, w2⟩⟩ := ivg_ok hsa hd 2 0
          have y2 := mul_ab hsa.i (show -432000 ≤ (ivG ma 2 0).1 ∧ (ivG ma 2 0).1 ≤ 432000 from ⟨s2, t2⟩)
          have z2 := mul_ab hsa.i (nc_sm hsa 0 2)
          have e2 : ma.i * (ivG ma 2 0).1 * (detF ma).tdiv (ivG ma 2 0).2 = ma.i * (ma.n * cofF ma 0 2) ∧ -4611686018427387904 ≤ ma.i * (ma.n * cofF ma 0 2) ∧ ma.i * (ma.n * cofF ma 0 2) ≤ 4611686018427387904 := ⟨by rw [Int.mul_assoc, u2], by omega, by omega⟩
          have hrow := row_20 ma
          clear u0 u1 u2
          repeat' (first
 | (refine C_id ?_; first
 | refine C_rounds 3 ?_
 | refine C_seq ?_
 | refine C_region rfl ?_
 | refine C_block ?_
 | refine C_skip ?_
 | refine C_exit ?_
 | refine C_draw (id := 40) rfl mixed (by kernel_rfl) ?_
 | refine C_condT rfl obQ ?_
 | refine C_condF rfl obQ ?_
           )
 | (refine S_id ?_; first
 | ((with_reducible (first | refine S_falseN ?_ ?_ | refine S_falseB ?_ ?_ | refine S_falseL ?_ ?_ | refine S_falseD ?_ ?_ | refine S_falseE ?_ ?_)); · (first | rfl | exact bne_self_eq_false _ | assumption | omega | exact decide_eq_false (by omega) | (simp only [bne_eq_false_iff_eq]; first | assumption | omega) | (rw [beq_eq_false_iff_ne]; first | assumption | omega)))
 | ((with_reducible refine S_falseO ?_ ?_ ?_); (· rfl); (· first | rfl | (first | rfl | exact bne_self_eq_false _ | assumption | omega | exact decide_eq_false (by omega) | (simp only [bne_eq_false_iff_eq]; first | assumption | omega) | (rw [beq_eq_false_iff_ne]; first | assumption | omega))))
 | ((with_reducible (first | refine S_trueE ?_ ?_ | refine S_trueB ?_ ?_ | refine S_trueL ?_ ?_ | refine S_trueD ?_ ?_ | refine S_trueN ?_ ?_)); · (first | exact beq_self_eq_true _ | rfl | omega | exact decide_eq_true (by omega) | (simp only [bne_iff_ne, ne_eq]; assumption) | (rw [beq_iff_eq]; assumption)))
 | refine S_unG rfl rfl rfl rfl ?_
 | refine S_pure (binX_pure rfl obQ (fun w => rem_as _ _ _ (by omega) (by assumption) rfl w)) ?_
 | refine S_nil ?_
 | refine S_runN rfl rfl obQ obQ ?_
 | refine S_box (fun b24 => ⟨_, _, rfl, obQ, ?_⟩)
           )
 | (refine D_id ?_; first
 | refine D_pure (binX_pure rfl obQ (fun w => mul_as _ _ _ (by assumption) w)) ?_
 | refine D_pure (binX_pure rfl obQ (fun w => quo_any _ _ _ (by omega) (by omega) w)) ?_
 | refine D_nil ?_
 | refine D_run rfl rfl obQ obQ ?_
 | refine D_one rfl obQ ?_
           )
 | (refine G_id ?_; first
 | refine G_loop 1 (by show 1 ≤ 3; omega) (by show 3 - 1 < 3 - 0; omega) ⟨⟨_, rfl, obQ⟩, ⟨_, rfl⟩, rfl, psQ⟩
 | refine G_rounds (C_trim [3, 4, 5, 13, 18, 20, 21, 22, 122, 125, 130] 5 rfl rfl ?_)
 | refine G_then ?_
 | refine G_block ?_
 | refine G_blockX ?_
 | refine G_thenX ?_
           )
           )
        · obtain ⟨⟨p0, q0⟩, r0, ⟨s0, t0⟩, u0, ⟨v0, w0⟩⟩ := ivg_ok hsa hd 0 1
          have y0 := mul_ab hsa.g (show -432000 ≤ (ivG ma 0 1).1 ∧ (ivG ma 0 1).1 ≤ 432000 from ⟨s0, t0⟩)
          have z0 := mul_ab hsa.g (nc_sm hsa 1 0)
          have e0 : ma.g * (ivG ma 0 1).1 * (detF ma).tdiv (ivG ma 0 1).2 = ma.g * (ma.n * cofF ma 1 0) ∧ -4611686018427387904 ≤ ma.g * (ma.n * cofF ma 1 0) ∧ ma.g * (ma.n * cofF ma 1 0) ≤ 4611686018427387904 := ⟨by rw [Int.mul_assoc, u0], by omega, by omega⟩
          obtain ⟨⟨p1, q1⟩, r1, ⟨s1, t1⟩, u1, ⟨v1, w1⟩⟩ := ivg_ok hsa hd 1 1
          have y1 := mul_ab hsa.h (show -432000 ≤ (ivG ma 1 1).1 ∧ (ivG ma 1 1).1 ≤ 432000 from ⟨s1, t1⟩)
          have z1 := mul_ab hsa.h (nc_sm hsa 1 1)
          have e1 : ma.h * (ivG ma 1 1).1 * (detF ma).tdiv (ivG ma 1 1).2 = ma.h * (ma.n * cofF ma 1 1) ∧ -4611686018427387904 ≤ ma.h * (ma.n * cofF ma 1 1) ∧ ma.h * (ma.n * cofF ma 1 1) ≤ 4611686018427387904 := ⟨by rw [Int.mul_assoc, u1], by omega, by omega⟩
          obtain ⟨⟨p2, q2⟩, r2, ⟨s2, t2⟩, u2, ⟨v2, w2⟩⟩ := ivg_ok hsa hd 2 1
          have y2 := mul_ab hsa.i (show -432000 ≤ (ivG ma 2 1).1 ∧ (ivG ma 2 1).1 ≤ 432000 from ⟨s2, t2⟩)
          have z2 := mul_ab hsa.i (nc_sm hsa 1 2)
          have e2 : ma.i * (ivG ma 2 1).1 * (detF ma).tdiv (ivG ma 2 1).2 = ma.i * (ma.n * cofF ma 1 2) ∧ -4611686018427387904 ≤ ma.i * (ma.n * cofF ma 1 2) ∧ ma.i * (ma.n * cofF ma 1 2) ≤ 4611686018427387904 := ⟨by rw [Int.mul_assoc, u2], by omega, by omega⟩
          have hrow := row_21 ma
          clear u0 u1 u2
          repeat' (first
 | (refine C_id ?_; first
 | refine C_rounds 3 ?_
 | refine C_seq ?_
 | refine C_region rfl ?_
 | refine C_block ?_
 | refine C_skip ?_
 | refine C_exit ?_
 | refine C_draw (id := 40) rfl mixed (by kernel_rfl) ?_
 | refine C_condT rfl obQ ?_
 | refine C_condF rfl obQ ?_
           )
 | (refine S_id ?_; first
 | ((with_reducible (first | refine S_falseN ?_ ?_ | refine S_falseB ?_ ?_ | refine S_falseL ?_ ?_ | refine S_falseD ?_ ?_ | refine S_falseE ?_ ?_)); · (first | rfl | exact bne_self_eq_false _ | assumption | omega | exact decide_eq_false (by omega) | (simp only [bne_eq_false_iff_eq]; first | assumption | omega) | (rw [beq_eq_false_iff_ne]; first | assumption | omega)))
 | ((with_reducible refine S_falseO ?_ ?_ ?_); (· rfl); (· first | rfl | (first | rfl | exact bne_self_eq_false _ | assumption | omega | exact decide_eq_false (by omega) | (simp only [bne_eq_false_iff_eq]; first | assumption | omega) | (rw [beq_eq_false_iff_ne]; first | assumption | omega))))
 | ((with_reducible (first | refine S_trueE ?_ ?_ | refine S_trueB ?_ ?_ | refine S_trueL ?_ ?_ | refine S_trueD ?_ ?_ | refine S_trueN ?_ ?_)); · (first | exact beq_self_eq_true _ | rfl | omega | exact decide_eq_true (by omega) | (simp only [bne_iff_ne, ne_eq]; assumption) | (rw [beq_iff_eq]; assumption)))
 | refine S_unG rfl rfl rfl rfl ?_
 | refine S_pure (binX_pure rfl obQ (fun w => rem_as _ _ _ (by omega) (by assumption) rfl w)) ?_
 | refine S_nil ?_
 | refine S_runN rfl rfl obQ obQ ?_
 | refine S_box (fun b24 => ⟨_, _, rfl, obQ, ?_⟩)
           )
 | (refine D_id ?_; first
 | refine D_pure (binX_pure rfl obQ (fun w => mul_as _ _ _ (by assumption) w)) ?_
 | refine D_pure (binX_pure rfl obQ (fun w => quo_any _ _ _ (by omega) (by omega) w)) ?_
 | refine D_nil ?_
 | refine D_run rfl rfl obQ obQ ?_
 | refine D_one rfl obQ ?_
           )
 | (refine G_id ?_; first
 | refine G_loop 2 (by show 2 ≤ 3; omega) (by show 3 - 2 < 3 - 1; omega) ⟨⟨_, rfl, obQ⟩, ⟨_, rfl⟩, rfl, psQ⟩
 | refine G_rounds (C_trim [3, 4, 5, 13, 18, 20, 21, 22, 122, 125, 130] 5 rfl rfl ?_)
 | refine G_then ?_
 | refine G_block ?_
 | refine G_blockX ?_
 | refine G_thenX ?_
           )
           )
        · obtain ⟨⟨p0, q0⟩, r0, ⟨s0, t0⟩, u0, ⟨v0, w0⟩⟩ := ivg_ok hsa hd 0 2
          have y0 := mul_ab hsa.g (show -432000 ≤ (ivG ma 0 2).1 ∧ (ivG ma 0 2).1 ≤ 432000 from ⟨s0, t0⟩)
          have z0 := mul_ab hsa.g (nc_sm hsa 2 0)
          have e0 : ma.g * (ivG ma 0 2).1 * (detF ma).tdiv (ivG ma 0 2).2 = ma.g * (ma.n * cofF ma 2 0) ∧ -4611686018427387904 ≤ ma.g * (ma.n * cofF ma 2 0) ∧ ma.g * (ma.n * cofF ma 2 0) ≤ 4611686018427387904 := ⟨by rw [Int.mul_assoc, u0], by omega, by omega⟩
          obtain ⟨⟨p1, q1⟩, r1, ⟨s1, t1⟩, u1, ⟨v1, w1⟩⟩ := ivg_ok hsa hd 1 2
          have y1 := mul_ab hsa.h (show -432000 ≤ (ivG ma 1 2).1 ∧ (ivG ma 1 2).1 ≤ 432000 from ⟨s1, t1⟩)
          have z1 := mul_ab hsa.h (nc_sm hsa 2 1)
          have e1 : ma.h * (ivG ma 1 2).1 * (detF ma).tdiv (ivG ma 1 2).2 = ma.h * (ma.n * cofF ma 2 1) ∧ -4611686018427387904 ≤ ma.h * (ma.n * cofF ma 2 1) ∧ ma.h * (ma.n * cofF ma 2 1) ≤ 4611686018427387904 := ⟨by rw [Int.mul_assoc, u1], by omega, by omega⟩
          obtain ⟨⟨p2, q2⟩, r2, ⟨s2, t2⟩, u2, ⟨v2, w2⟩⟩ := ivg_ok hsa hd 2 2
          have y2 := mul_ab hsa.i (show -432000 ≤ (ivG ma 2 2).1 ∧ (ivG ma 2 2).1 ≤ 432000 from ⟨s2, t2⟩)
          have z2 := mul_ab hsa.i (nc_sm hsa 2 2)
          have e2 : ma.i * (ivG ma 2 2).1 * (detF ma).tdiv (ivG ma 2 2).2 = ma.i * (ma.n * cofF ma 2 2) ∧ -4611686018427387904 ≤ ma.i * (ma.n * cofF ma 2 2) ∧ ma.i * (ma.n * cofF ma 2 2) ≤ 4611686018427387904 := ⟨by rw [Int.mul_assoc, u2], by omega, by omega⟩
          have hrow := row_22 ma
          clear u0 u1 u2
          repeat' (first
 | (refine C_id ?_; first
 | refine C_rounds 3 ?_
 | refine C_seq ?_
 | refine C_region rfl ?_
 | refine C_block ?_
 | refine C_skip ?_
 | refine C_exit ?_
 | refine C_draw (id := 40) rfl mixed (by kernel_rfl) ?_
 | refine C_condT rfl obQ ?_
 | refine C_condF rfl obQ ?_
           )
 | (refine S_id ?_; first
 | ((with_reducible (first | refine S_falseN ?_ ?_ | refine S_falseB ?_ ?_ | refine S_falseL ?_ ?_ | refine S_falseD ?_ ?_ | refine S_falseE ?_ ?_)); · (first | rfl | exact bne_self_eq_false _ | assumption | omega | exact decide_eq_false (by omega) | (simp only [bne_eq_false_iff_eq]; first | assumption | omega) | (rw [beq_eq_false_iff_ne]; first | assumption | omega)))
 | ((with_reducible refine S_falseO ?_ ?_ ?_); (· rfl); (· first | rfl | (first | rfl | exact bne_self_eq_false _ | assumption | omega | exact decide_eq_false (by omega) | (simp only [bne_eq_false_iff_eq]; first | assumption | omega) | (rw [beq_eq_false_iff_ne]; first | assumption | omega))))
 | ((with_reducible (first | refine S_trueE ?_ ?_ | refine S_trueB ?_ ?_ | refine S_trueL ?_ ?_ | refine S_trueD ?_ ?_ | refine S_trueN ?_ ?_)); · (first | exact beq_self_eq_true _ | rfl | omega | exact decide_eq_true (by omega) | (simp only [bne_iff_ne, ne_eq]; assumption) | (rw [beq_iff_eq]; assumption)))
 | refine S_unG rfl rfl rfl rfl ?_
 | refine S_pure (binX_pure rfl obQ (fun w => rem_as _ _ _ (by omega) (by assumption) rfl w)) ?_
 | refine S_nil ?_
 | refine S_runN rfl rfl obQ obQ ?_
 | refine S_box (fun b24 => ⟨_, _, rfl, obQ, ?_⟩)
           )
 | (refine D_id ?_; first
 | refine D_pure (binX_pure rfl obQ (fun w => mul_as _ _ _ (by assumption) w)) ?_
 | refine D_pure (binX_pure rfl obQ (fun w => quo_any _ _ _ (by omega) (by omega) w)) ?_
 | refine D_nil ?_
 | refine D_run rfl rfl obQ obQ ?_
 | refine D_one rfl obQ ?_
           )
 | (refine G_id ?_; first
 | refine G_loop 3 (by show 3 ≤ 3; omega) (by show 3 - 3 < 3 - 2; omega) ⟨⟨_, rfl, obQ⟩, ⟨_, rfl⟩, rfl, psQ⟩
 | refine G_rounds (C_trim [3, 4, 5, 13, 18, 20, 21, 22, 122, 125, 130] 5 rfl rfl ?_)
 | refine G_then ?_
 | refine G_block ?_
 | refine G_blockX ?_
 | refine G_thenX ?_
           )
           )
        · repeat' (first
 | (refine C_id ?_; first
 | refine C_seq ?_
 | refine C_region rfl ?_
 | refine C_exit ?_
 | refine C_condF rfl obQ ?_
           )
 | (refine S_id ?_; first
 | ((with_reducible (first | refine S_falseN ?_ ?_ | refine S_falseB ?_ ?_ | refine S_falseL ?_ ?_ | refine S_falseD ?_ ?_ | refine S_falseE ?_ ?_)); · (first | rfl | exact bne_self_eq_false _ | assumption | omega | exact decide_eq_false (by omega) | (simp only [bne_eq_false_iff_eq]; first | assumption | omega) | (rw [beq_eq_false_iff_ne]; first | assumption | omega)))
 | refine S_nil ?_
 | refine S_runN rfl rfl obQ obQ ?_
           )
 | (refine G_id ?_; first
 | refine G_loop 3 (by show 3 ≤ 3; omega) (by show 3 - 3 < 3 - 2; omega) ⟨⟨_, rfl, obQ⟩, ⟨_, rfl⟩, rfl, psQ⟩
 | refine G_then ?_
 | refine G_block ?_
 | refine G_blockX ?_
 | refine G_thenX ?_
           )
           )
      · repeat' (first
 | (refine C_id ?_; first
 | refine C_condF rfl obQ ?_
 | refine C_seq ?_
 | refine C_region rfl ?_
 | refine C_exit ?_
         )
 | (refine S_id ?_; first
 | ((with_reducible (first | refine S_falseN ?_ ?_ | refine S_falseB ?_ ?_ | refine S_falseL ?_ ?_ | refine S_falseD ?_ ?_ | refine S_falseE ?_ ?_)); · (first | rfl | exact bne_self_eq_false _ | assumption | omega | exact decide_eq_false (by omega) | (simp only [bne_eq_false_iff_eq]; first | assumption | omega) | (rw [beq_eq_false_iff_ne]; first | assumption | omega)))
 | refine S_nil ?_
 | refine S_runN rfl rfl obQ obQ ?_
         )
 | (refine G_id ?_; first
 | refine G_cutN () ⟨⟨_, rfl, obQ⟩, ⟨_, rfl⟩, rfl, psQ⟩
 | refine G_then ?_
 | refine G_blockX ?_
 | refine G_thenX ?_
         )
         )
  dsimp only
  by_cases hcm : matE (cmM ma mb) = 0
  rotate_left
  · have hC : cmR ma mb = (zM, 4) := cmR_2 hE2 hcm
    repeat' (first
 | (refine C_id ?_; first
 | refine C_seq ?_
 | refine C_region rfl ?_
 | refine C_ret0 ?_
 | refine C_condT rfl obQ ?_
     )
 | (refine S_id ?_; first
 | ((with_reducible (first | refine S_trueE ?_ ?_ | refine S_trueB ?_ ?_ | refine S_trueL ?_ ?_ | refine S_trueD ?_ ?_ | refine S_trueN ?_ ?_)); · (first | exact beq_self_eq_true _ | rfl | omega | exact decide_eq_true (by omega) | (simp only [bne_iff_ne, ne_eq]; assumption) | (rw [beq_iff_eq]; assumption)))
 | ((with_reducible refine S_trueA ?_ ?_ ?_); (· rfl); (· first | rfl | (first | exact beq_self_eq_true _ | rfl | omega | exact decide_eq_true (by omega) | (simp only [bne_iff_ne, ne_eq]; assumption) | (rw [beq_iff_eq]; assumption))))
 | refine S_unG rfl rfl rfl rfl ?_
 | refine S_nil ?_
 | refine S_runN rfl rfl obQ obQ ?_
 | refine S_box (fun b26 => ⟨_, _, rfl, obQ, ?_⟩)
 | refine S_call (f := 20) rfl obQ (by kernel_rfl) (fun w hw => awake_c w (hw.rdm hO.toS memQ) (Pw_at hP hw memQ)) ?_
 | refine S_call (f := 47) rfl obQ (by kernel_rfl) (fun w hw => ucomp_as hC) ?_
     )
 | (refine G_id ?_; first
 | refine G_then ?_
 | refine G_thenR ?_
 | refine G_ret rfl obQ (fun w hw => ⟨?_, hw.below⟩)
     )
     )
    all_goals rfl
  have hC : cmR ma mb = (cmM ma mb, 0) := cmR_3 hE2 hcm
  have hok := mat_ok.1 hcm
  have hokn := hok.n
  repeat' (first
 | (refine C_id ?_; first
 | refine C_seq ?_
 | refine C_region rfl ?_
 | refine C_block ?_
 | refine C_skip ?_
 | refine C_condF rfl obQ ?_
   )
 | (refine S_id ?_; first
 | ((with_reducible (first | refine S_falseN ?_ ?_ | refine S_falseB ?_ ?_ | refine S_falseL ?_ ?_ | refine S_falseD ?_ ?_ | refine S_falseE ?_ ?_)); · (first | rfl | exact bne_self_eq_false _ | assumption | omega | exact decide_eq_false (by omega) | (simp only [bne_eq_false_iff_eq]; first | assumption | omega) | (rw [beq_eq_false_iff_ne]; first | assumption | omega)))
 | refine S_nil ?_
 | refine S_runN rfl rfl obQ obQ ?_
 | refine S_box (fun b26 => ⟨_, _, rfl, obQ, ?_⟩)
 | refine S_call (f := 47) rfl obQ (by kernel_rfl) (fun w hw => ucomp_as hC) ?_
 | refine S_call (f := 41) rfl obQ (by kernel_rfl) (fun w hw => urmat_as hcm) ?_
   )
 | (refine G_id ?_; first
 | refine G_then ?_
   )
   )
  obtain ⟨b26, rfl⟩ : ∃ z, z = b26 := ⟨b26, rfl⟩
  refine C_loopS (fun i : Nat => ⟨[(3, .s (.p b3 0 0)), (4, .s (.p b4 1 0)), (5, .s (.p b5 2 0)), (26, .s (.p b26 5 0)), (203, .s (.v (.int .i64 i)))], [⟨b3, 53, [.v (.int .i64 ma.a), .v (.int .i64 ma.b), .v (.int .i64 ma.c), .v (.int .i64 ma.d), .v (.int .i64 ma.e), .v (.int .i64 ma.f), .v (.int .i64 ma.g), .v (.int .i64 ma.h), .v (.int .i64 ma.i), .v (.int .i64 ma.n)]⟩, ⟨b4, 53, [.v (.int .i64 mb.a), .v (.int .i64 mb.b), .v (.int .i64 mb.c), .v (.int .i64 mb.d), .v (.int .i64 mb.e), .v (.int .i64 mb.f), .v (.int .i64 mb.g), .v (.int .i64 mb.h), .v (.int .i64 mb.i), .v (.int .i64 mb.n)]⟩, ⟨b5, 50, [.v (.int .i64 c.1), .v (.int .i64 c.2.1), .v (.int .i64 c.2.2)]⟩, ⟨b15, 53, [.v (.int .i64 ma.d), .v (.int .i64 ma.e), .v (.int .i64 ma.f), .v (.int .i64 ma.a), .v (.int .i64 ma.b), .v (.int .i64 ma.c), .v (.int .i64 ma.g), .v (.int .i64 ma.h), .v (.int .i64 ma.i), .v (.int .i64 ma.n)]⟩, ⟨b18, 61, [.v (.int .i64 (ivG ma 0 0).1), .v (.int .i64 (ivG ma 0 0).2), .v (.int .i64 (ivG ma 0 1).1), .v (.int .i64 (ivG ma 0 1).2), .v (.int .i64 (ivG ma 0 2).1), .v (.int .i64 (ivG ma 0 2).2), .v (.int .i64 (ivG ma 1 0).1), .v (.int .i64 (ivG ma 1 0).2), .v (.int .i64 (ivG ma 1 1).1), .v (.int .i64 (ivG ma 1 1).2), .v (.int .i64 (ivG ma 1 2).1), .v (.int .i64 (ivG ma 1 2).2), .v (.int .i64 (ivG ma 2 0).1), .v (.int .i64 (ivG ma 2 0).2), .v (.int .i64 (ivG ma 2 1).1), .v (.int .i64 (ivG ma 2 1).2), .v (.int .i64 (ivG ma 2 2).1), .v (.int .i64 (ivG ma 2 2).2)]⟩, ⟨b26, 56, [.v (.int .i64 (cmM ma mb).a), .v (.int .i64 (cmM ma mb).b), .v (.int .i64 (cmM ma mb).c), .v (.int .i64 (cmM ma mb).d), .v (.int .i64 (cmM ma mb).e), .v (.int .i64 (cmM ma mb).f), .v (.int .i64 (cmM ma mb).g), .v (.int .i64 (cmM ma mb).h), .v (.int .i64 (cmM ma mb).i), .v (.int .i64 (cmM ma mb).n)]⟩], []⟩) (fun i => i ≤ 3) (fun i => 3 - i) 0 (Nat.zero_le _) ?_ (fun i hi => ?_)
  · exact ⟨⟨_, rfl, obQ⟩, ⟨_, rfl⟩, rfl, psQ⟩
  have hi3 : i ≤ 3 := hi
  rcases (show i = 0 ∨ i = 1 ∨ i = 2 ∨ i = 3 by omega) with rfl | rfl | rfl | rfl
  · have hrow := cm_row0 ma mb c
    have m0 := mul_ab hok.a hc1
    have p00 := mul_ab hsb.a hsa.a
    have q00 := mul_ab (show -3600 ≤ mb.a * ma.a ∧ mb.a * ma.a ≤ 3600 by omega) hc1
    have p10 := mul_ab hsb.b hsa.d
    have q10 := mul_ab (show -3600 ≤ mb.b * ma.d ∧ mb.b * ma.d ≤ 3600 by omega) hc1
    have p20 := mul_ab hsb.c hsa.g
    have q20 := mul_ab (show -3600 ≤ mb.c * ma.g ∧ mb.c * ma.g ≤ 3600 by omega) hc1
    have m1 := mul_ab hok.b hc2
    have p01 := mul_ab hsb.a hsa.b
    have q01 := mul_ab (show -3600 ≤ mb.a * ma.b ∧ mb.a * ma.b ≤ 3600 by omega) hc2
    have p11 := mul_ab hsb.b hsa.e
    have q11 := mul_ab (show -3600 ≤ mb.b * ma.e ∧ mb.b * ma.e ≤ 3600 by omega) hc2
    have p21 := mul_ab hsb.c hsa.h
    have q21 := mul_ab (show -3600 ≤ mb.c * ma.h ∧ mb.c * ma.h ≤ 3600 by omega) hc2
    have m2 := mul_ab hok.c hc3
    have p02 := mul_ab hsb.a hsa.c
    have q02 := mul_ab (show -3600 ≤ mb.a * ma.c ∧ mb.a * ma.c ≤ 3600 by omega) hc3
    have p12 := mul_ab hsb.b hsa.f
    have q12 := mul_ab (show -3600 ≤ mb.b * ma.f ∧ mb.b * ma.f ≤ 3600 by omega) hc3
    have p22 := mul_ab hsb.c hsa.i
    have q22 := mul_ab (show -3600 ≤ mb.c * ma.i ∧ mb.c * ma.i ≤ 3600 by omega) hc3
    have s1 := mul_ab (show -201326592 ≤ (0 + (cmM ma mb).a * c.1 + (cmM ma mb).b * c.2.1 + (cmM ma mb).c * c.2.2) ∧ (0 + (cmM ma mb).a * c.1 + (cmM ma mb).b * c.2.1 + (cmM ma mb).c * c.2.2) ≤ 201326592 by omega) (show -60 ≤ ma.n ∧ ma.n ≤ 60 by omega)
    have s2 := mul_ab (show -12079595520 ≤ (0 + (cmM ma mb).a * c.1 + (cmM ma mb).b * c.2.1 + (cmM ma mb).c * c.2.2) * ma.n ∧ (0 + (cmM ma mb).a * c.1 + (cmM ma mb).b * c.2.1 + (cmM ma mb).c * c.2.2) * ma.n ≤ 12079595520 by omega) (show -60 ≤ mb.n ∧ mb.n ≤ 60 by omega)
    have s3 := mul_ab (show -530841600 ≤ (0 + mb.a * ma.a * c.1 + mb.b * ma.d * c.1 + mb.c * ma.g * c.1 + mb.a * ma.b * c.2.1 + mb.b * ma.e * c.2.1 + mb.c * ma.h * c.2.1 + mb.a * ma.c * c.2.2 + mb.b * ma.f * c.2.2 + mb.c * ma.i * c.2.2) ∧ (0 + mb.a * ma.a * c.1 + mb.b * ma.d * c.1 + mb.c * ma.g * c.1 + mb.a * ma.b * c.2.1 + mb.b * ma.e * c.2.1 + mb.c * ma.h * c.2.1 + mb.a * ma.c * c.2.2 + mb.b * ma.f * c.2.2 + mb.c * ma.i * c.2.2) ≤ 530841600 by omega) (show -4096 ≤ (cmM ma mb).n ∧ (cmM ma mb).n ≤ 4096 by omega)
    repeat' (first
 | (refine C_id ?_; first
 | refine C_rounds 3 ?_
 | refine C_seq ?_
 | refine C_region rfl ?_
 | refine C_block ?_
 | refine C_skip ?_
 | refine C_exit ?_
 | refine C_draw (id := 61) rfl mixed (by kernel_rfl) ?_
 | refine C_draw (id := 65) rfl mixed (by kernel_rfl) ?_
 | refine C_condT rfl obQ ?_
 | refine C_condF rfl obQ ?_
     )
 | (refine S_id ?_; first
 | ((with_reducible (first | refine S_falseN ?_ ?_ | refine S_falseB ?_ ?_ | refine S_falseL ?_ ?_ | refine S_falseD ?_ ?_ | refine S_falseE ?_ ?_)); · (first | rfl | exact bne_self_eq_false _ | assumption | omega | exact decide_eq_false (by omega) | (simp only [bne_eq_false_iff_eq]; first | assumption | omega) | (rw [beq_eq_false_iff_ne]; first | assumption | omega)))
 | ((with_reducible (first | refine S_trueE ?_ ?_ | refine S_trueB ?_ ?_ | refine S_trueL ?_ ?_ | refine S_trueD ?_ ?_ | refine S_trueN ?_ ?_)); · (first | exact beq_self_eq_true _ | rfl | omega | exact decide_eq_true (by omega) | (simp only [bne_iff_ne, ne_eq]; assumption) | (rw [beq_iff_eq]; assumption)))
 | refine S_nil ?_
 | refine S_runN rfl rfl obQ obQ ?_
     )
 | (refine D_id ?_; first
 | refine D_nil ?_
 | refine D_run rfl rfl obQ obQ ?_
     )
 | (refine G_id ?_; first
 | refine G_loop 1 (by show 1 ≤ 3; omega) (by show 3 - 1 < 3 - 0; omega) ⟨⟨_, rfl, obQ⟩, ⟨_, rfl⟩, rfl, psQ⟩
 | refine G_rounds (C_trim [3, 4, 5, 26, 28, 29, 30, 31, 203, 206, 221] 6 rfl rfl ?_)
 | refine G_then ?_
 | refine G_block ?_
 | refine G_blockX ?_
 | refine G_thenX ?_
     )
     )
  · have hrow := cm_row1 ma mb c
    have m0 := mul_ab hok.d hc1
    have p00 := mul_ab hsb.d hsa.a
    have q00 := mul_ab (show -3600 ≤ mb.d * ma.a ∧ mb.d * ma.a ≤ 3600 by omega) hc1
    have p10 := mul_ab hsb.e hsa.d
    have q10 := mul_ab (show -3600 ≤ mb.e * ma.d ∧ mb.e * ma.d ≤ 3600 by omega) hc1
    have p20 := mul_ab hsb.f hsa.g
    have q20 := mul_ab (show -3600 ≤ mb.f * ma.g ∧ mb.f * ma.g ≤ 3600 by omega) hc1
    have m1 := mul_ab hok.e hc2
    have p01 := mul_ab hsb.d hsa.b
    have q01 := mul_ab (show -3600 ≤ mb.d * ma.b ∧ mb.d * ma.b ≤ 3600 by omega) hc2
    have p11 := mul_ab hsb.e hsa.e
    have q11 := mul_ab (show -3600 ≤ mb.e * ma.e ∧ mb.e * ma.e ≤ 3600 by omega) hc2
    have p21 := mul_ab hsb.f hsa.h
    have q21 := mul_ab (show -3600 ≤ mb.f * ma.h ∧ mb.f * ma.h ≤ 3600 by omega) hc2
    have m2 := mul_ab hok.f hc3
    have p02 := mul_ab hsb.d hsa.c
    have q02 := mul_ab (show -3600 ≤ mb.d * ma.c ∧ mb.d * ma.c ≤ 3600 by omega) hc3
    have p12 := mul_ab hsb.e hsa.f
    have q12 := mul_ab (show -3600 ≤ mb.e * ma.f ∧ mb.e * ma.f ≤ 3600 by omega) hc3
    have p22 := mul_ab hsb.f hsa.i
    have q22 := mul_ab (show -3600 ≤ mb.f * ma.i ∧ mb.f * ma.i ≤ 3600 by omega) hc3
    have s1 := mul_ab (show -201326592 ≤ (0 + (cmM ma mb).d * c.1 + (cmM ma mb).e * c.2.1 + (cmM ma mb).f * c.2.2) ∧ (0 + (cmM ma mb).d * c.1 + (cmM ma mb).e * c.2.1 + (cmM ma mb).f * c.2.2) ≤ 201326592 by omega) (show -60 ≤ ma.n ∧ ma.n ≤ 60 by omega)
    have s2 := mul_ab (show -12079595520 ≤ (0 + (cmM ma mb).d * c.1 + (cmM ma mb).e * c.2.1 + (cmM ma mb).f * c.2.2) * ma.n ∧ (0 + (cmM ma mb).d * c.1 + (cmM ma mb).e * c.2.1 + (cmM ma mb).f * c.2.2) * ma.n ≤ 12079595520 by omega) (show -60 ≤ mb.n ∧ mb.n ≤ 60 by omega)
    have s3 := mul_ab (show -530841600 ≤ (0 + mb.d * ma.a * c.1 + mb.e * ma.d * c.1 + mb.f * ma.g * c.1 + mb.d * ma.b * c.2.1 + mb.e * ma.e * c.2.1 + mb.f * ma.h * c.2.1 + mb.d * ma.c * c.2.2 + mb.e * ma.f * c.2.2 + mb.f * ma.i * c.2.2) ∧ (0 + mb.d * ma.a * c.1 + mb.e * ma.d * c.1 + mb.f * ma.g * c.1 + mb.d * ma.b * c.2.1 + mb.e * ma.e * c.2.1 + mb.f * ma.h * c.2.1 + mb.d * ma.c * c.2.2 + mb.e * ma.f * c.2.2 + mb.f * ma.i * c.2.2) ≤ 530841600 by omega) (show -4096 ≤ (cmM ma mb).n ∧ (cmM ma mb).n ≤ 4096 by omega)
    repeat' (first
 | (refine C_id ?_; first
 | refine C_rounds 3 ?_
 | refine C_seq ?_
 | refine C_region rfl ?_
 | refine C_block ?_
 | refine C_skip ?_
 | refine C_exit ?_
 | refine C_draw (id := 61) rfl mixed (by kernel_rfl) ?_
 | refine C_draw (id := 65) rfl mixed (by kernel_rfl) ?_
 | refine C_condT rfl obQ ?_
 | refine C_condF rfl obQ ?_
     )
 | (refine S_id ?_; first
 | ((with_reducible (first | refine S_falseN ?_ ?_ | refine S_falseB ?_ ?_ | refine S_falseL ?_ ?_ | refine S_falseD ?_ ?_ | refine S_falseE ?_ ?_)); · (first | rfl | exact bne_self_eq_false _ | assumption | omega | exact decide_eq_false (by omega) | (simp only [bne_eq_false_iff_eq]; first | assumption | omega) | (rw [beq_eq_false_iff_ne]; first | assumption | omega)))
 | ((with_reducible (first | refine S_trueE ?_ ?_ | refine S_trueB ?_ ?_ | refine S_trueL ?_ ?_ | refine S_trueD ?_ ?_ | refine S_trueN ?_ ?_)); · (first | exact beq_self_eq_true _ | rfl | omega | exact decide_eq_true (by omega) | (simp only [bne_iff_ne, ne_eq]; assumption) | (rw [beq_iff_eq]; assumption)))
 | refine S_nil ?_
 | refine S_runN rfl rfl obQ obQ ?_
     )
 | (refine D_id ?_; first
 | refine D_nil ?_
 | refine D_run rfl rfl obQ obQ ?_
     )
 | (refine G_id ?_; first
 | refine G_loop 2 (by show 2 ≤ 3; omega) (by show 3 - 2 < 3 - 1; omega) ⟨⟨_, rfl, obQ⟩, ⟨_, rfl⟩, rfl, psQ⟩
 | refine G_rounds (C_trim [3, 4, 5, 26, 28, 29, 30, 31, 203, 206, 221] 6 rfl rfl ?_)
 | refine G_then ?_
 | refine G_block ?_
 | refine G_blockX ?_
 | refine G_thenX ?_
     )
     )
  · have hrow := cm_row2 ma mb c
    have m0 := mul_ab hok.g hc1
    have p00 := mul_ab hsb.g hsa.a
    have q00 := mul_ab (show -3600 ≤ mb.g * ma.a ∧ mb.g * ma.a ≤ 3600 by omega) hc1
    have p10 := mul_ab hsb.h hsa.d
    have q10 := mul_ab (show -3600 ≤ mb.h * ma.d ∧ mb.h * ma.d ≤ 3600 by omega) hc1
    have p20 := mul_ab hsb.i hsa.g
    have q20 := mul_ab (show -3600 ≤ mb.i * ma.g ∧ mb.i * ma.g ≤ 3600 by omega) hc1
    have m1 := mul_ab hok.h hc2
    have p01 := mul_ab hsb.g hsa.b
    have q01 := mul_ab (show -3600 ≤ mb.g * ma.b ∧ mb.g * ma.b ≤ 3600 by omega) hc2
    have p11 := mul_ab hsb.h hsa.e
    have q11 := mul_ab (show -3600 ≤ mb.h * ma.e ∧ mb.h * ma.e ≤ 3600 by omega) hc2
    have p21 := mul_ab hsb.i hsa.h
    have q21 := mul_ab (show -3600 ≤ mb.i * ma.h ∧ mb.i * ma.h ≤ 3600 by omega) hc2
    have m2 := mul_ab hok.i hc3
    have p02 := mul_ab hsb.g hsa.c
    have q02 := mul_ab (show -3600 ≤ mb.g * ma.c ∧ mb.g * ma.c ≤ 3600 by omega) hc3
    have p12 := mul_ab hsb.h hsa.f
    have q12 := mul_ab (show -3600 ≤ mb.h * ma.f ∧ mb.h * ma.f ≤ 3600 by omega) hc3
    have p22 := mul_ab hsb.i hsa.i
    have q22 := mul_ab (show -3600 ≤ mb.i * ma.i ∧ mb.i * ma.i ≤ 3600 by omega) hc3
    have s1 := mul_ab (show -201326592 ≤ (0 + (cmM ma mb).g * c.1 + (cmM ma mb).h * c.2.1 + (cmM ma mb).i * c.2.2) ∧ (0 + (cmM ma mb).g * c.1 + (cmM ma mb).h * c.2.1 + (cmM ma mb).i * c.2.2) ≤ 201326592 by omega) (show -60 ≤ ma.n ∧ ma.n ≤ 60 by omega)
    have s2 := mul_ab (show -12079595520 ≤ (0 + (cmM ma mb).g * c.1 + (cmM ma mb).h * c.2.1 + (cmM ma mb).i * c.2.2) * ma.n ∧ (0 + (cmM ma mb).g * c.1 + (cmM ma mb).h * c.2.1 + (cmM ma mb).i * c.2.2) * ma.n ≤ 12079595520 by omega) (show -60 ≤ mb.n ∧ mb.n ≤ 60 by omega)
    have s3 := mul_ab (show -530841600 ≤ (0 + mb.g * ma.a * c.1 + mb.h * ma.d * c.1 + mb.i * ma.g * c.1 + mb.g * ma.b * c.2.1 + mb.h * ma.e * c.2.1 + mb.i * ma.h * c.2.1 + mb.g * ma.c * c.2.2 + mb.h * ma.f * c.2.2 + mb.i * ma.i * c.2.2) ∧ (0 + mb.g * ma.a * c.1 + mb.h * ma.d * c.1 + mb.i * ma.g * c.1 + mb.g * ma.b * c.2.1 + mb.h * ma.e * c.2.1 + mb.i * ma.h * c.2.1 + mb.g * ma.c * c.2.2 + mb.h * ma.f * c.2.2 + mb.i * ma.i * c.2.2) ≤ 530841600 by omega) (show -4096 ≤ (cmM ma mb).n ∧ (cmM ma mb).n ≤ 4096 by omega)
    repeat' (first
 | (refine C_id ?_; first
 | refine C_rounds 3 ?_
 | refine C_seq ?_
 | refine C_region rfl ?_
 | refine C_block ?_
 | refine C_skip ?_
 | refine C_exit ?_
 | refine C_draw (id := 61) rfl mixed (by kernel_rfl) ?_
 | refine C_draw (id := 65) rfl mixed (by kernel_rfl) ?_
 | refine C_condT rfl obQ ?_
 | refine C_condF rfl obQ ?_
     )
 | (refine S_id ?_; first
 | ((with_reducible (first | refine S_falseN ?_ ?_ | refine S_falseB ?_ ?_ | refine S_falseL ?_ ?_ | refine S_falseD ?_ ?_ | refine S_falseE ?_ ?_)); · (first | rfl | exact bne_self_eq_false _ | assumption | omega | exact decide_eq_false (by omega) | (simp only [bne_eq_false_iff_eq]; first | assumption | omega) | (rw [beq_eq_false_iff_ne]; first | assumption | omega)))
 | ((with_reducible (first | refine S_trueE ?_ ?_ | refine S_trueB ?_ ?_ | refine S_trueL ?_ ?_ | refine S_trueD ?_ ?_ | refine S_trueN ?_ ?_)); · (first | exact beq_self_eq_true _ | rfl | omega | exact decide_eq_true (by omega) | (simp only [bne_iff_ne, ne_eq]; assumption) | (rw [beq_iff_eq]; assumption)))
 | refine S_nil ?_
 | refine S_runN rfl rfl obQ obQ ?_
     )
 | (refine D_id ?_; first
 | refine D_nil ?_
 | refine D_run rfl rfl obQ obQ ?_
     )
 | (refine G_id ?_; first
 | refine G_loop 3 (by show 3 ≤ 3; omega) (by show 3 - 3 < 3 - 2; omega) ⟨⟨_, rfl, obQ⟩, ⟨_, rfl⟩, rfl, psQ⟩
 | refine G_rounds (C_trim [3, 4, 5, 26, 28, 29, 30, 31, 203, 206, 221] 6 rfl rfl ?_)
 | refine G_then ?_
 | refine G_block ?_
 | refine G_blockX ?_
 | refine G_thenX ?_
     )
     )
  · repeat' (first
 | (refine C_id ?_; first
 | refine C_seq ?_
 | refine C_region rfl ?_
 | refine C_exit ?_
 | refine C_ret0 ?_
 | refine C_condF rfl obQ ?_
     )
 | (refine S_id ?_; first
 | ((with_reducible (first | refine S_falseN ?_ ?_ | refine S_falseB ?_ ?_ | refine S_falseL ?_ ?_ | refine S_falseD ?_ ?_ | refine S_falseE ?_ ?_)); · (first | rfl | exact bne_self_eq_false _ | assumption | omega | exact decide_eq_false (by omega) | (simp only [bne_eq_false_iff_eq]; first | assumption | omega) | (rw [beq_eq_false_iff_ne]; first | assumption | omega)))
 | refine S_nil ?_
 | refine S_runN rfl rfl obQ obQ ?_
 | refine S_call (f := 20) rfl obQ (by kernel_rfl) (fun w hw => awake_c w (hw.rdm hO.toS memQ) (Pw_at hP hw memQ)) ?_
     )
 | (refine G_id ?_; first
 | refine G_then ?_
 | refine G_blockX ?_
 | refine G_thenX ?_
 | refine G_ret rfl obQ (fun w hw => ⟨?_, hw.below⟩)
     )
     )
    all_goals rfl

end Go.Proofs.YtdbffbcobghbeaaGreatDoor
