/- Small matrices: plain laws of inverses and products. -/
import Derived.Test.YtedlaominconaaaDoorColour10
namespace Go.Proofs.YtedlaominconaaaDoor
open Go.E Go.RowKit Go.Fl
attribute [local irreducible] G C S D Calls
set_option maxRecDepth 100000
set_option linter.unusedSimpArgs false
set_option linter.unusedVariables false

/-- A matrix with small entries. -/
structure SmM (m : Mat) : Prop where
  a : -60 ≤ m.a ∧ m.a ≤ 60
  b : -60 ≤ m.b ∧ m.b ≤ 60
  c : -60 ≤ m.c ∧ m.c ≤ 60
  d : -60 ≤ m.d ∧ m.d ≤ 60
  e : -60 ≤ m.e ∧ m.e ≤ 60
  f : -60 ≤ m.f ∧ m.f ≤ 60
  g : -60 ≤ m.g ∧ m.g ≤ 60
  h : -60 ≤ m.h ∧ m.h ≤ 60
  i : -60 ≤ m.i ∧ m.i ≤ 60
  n : 1 ≤ m.n ∧ m.n ≤ 60
theorem SmM.ok {m : Mat} (h : SmM m) : MatOk m := ⟨by have := h.a; omega, by have := h.b; omega, by have := h.c; omega, by have := h.d; omega, by have := h.e; omega, by have := h.f; omega, by have := h.g; omega, by have := h.h; omega, by have := h.i; omega, by have := h.n; omega⟩
theorem cof_sm {m : Mat} (h : SmM m) (r k : Nat) : -7200 ≤ cofF m r k ∧ cofF m r k ≤ 7200 := by
  have hb : ∀ i j, -60 ≤ m.at i j ∧ m.at i j ≤ 60 := fun i j => by
    unfold Mat.at
    split
    · exact h.a
    · exact h.b
    · exact h.c
    · exact h.d
    · exact h.e
    · exact h.f
    · exact h.g
    · exact h.h
    · exact h.i
  have h1 := mul_ab (hb ((r + 1) % 3) ((k + 1) % 3)) (hb ((r + 2) % 3) ((k + 2) % 3))
  have h2 := mul_ab (hb ((r + 1) % 3) ((k + 2) % 3)) (hb ((r + 2) % 3) ((k + 1) % 3))
  unfold cofF
  omega
theorem det_sm {m : Mat} (h : SmM m) : -1296000 ≤ detF m ∧ detF m ≤ 1296000 := by
  have h1 := mul_ab h.a (cof_sm h 0 0)
  have h2 := mul_ab h.b (cof_sm h 0 1)
  have h3 := mul_ab h.c (cof_sm h 0 2)
  unfold detF dotF
  omega
theorem nc_sm {m : Mat} (h : SmM m) (r k : Nat) : -432000 ≤ m.n * cofF m r k ∧ m.n * cofF m r k ≤ 432000 := by
  have := mul_ab (a := m.n) (A := 60) (by have := h.n; omega) (cof_sm h r k)
  omega
/-- A ratio in lowest terms. -/
theorem rat_ok {x y : Int} (hy : y ≠ 0) : 1 ≤ (ratF x y).2 ∧ (ratF x y).2 ≤ y.natAbs ∧ y.tmod (ratF x y).2 = 0 ∧ (ratF x y).1.natAbs ≤ x.natAbs ∧ (ratF x y).1 * y.tdiv (ratF x y).2 = x ∧ (y.tdiv (ratF x y).2).natAbs ≤ y.natAbs := by
  have hg := gcd_pos (x := x) hy
  obtain ⟨g, hgd⟩ : ∃ g : Int, g = (Int.gcd x y : Nat) := ⟨_, rfl⟩
  have g0 : 0 < g := by omega
  obtain ⟨p, hp⟩ : g ∣ x := by rw [hgd]; exact Int.gcd_dvd_left x y
  obtain ⟨q, hq⟩ : g ∣ y := by rw [hgd]; exact Int.gcd_dvd_right x y
  have e1 : x.tdiv g = p := by rw [hp, Int.mul_tdiv_cancel_left _ (by omega)]
  have e2 : y.tdiv g = q := by rw [hq, Int.mul_tdiv_cancel_left _ (by omega)]
  have hq0 : q ≠ 0 := fun h => hy (by rw [hq, h, Int.mul_zero])
  have n1 : x.natAbs = g.natAbs * p.natAbs := by rw [hp, Int.natAbs_mul]
  have n2 : y.natAbs = g.natAbs * q.natAbs := by rw [hq, Int.natAbs_mul]
  have hn : 1 ≤ g.natAbs := by omega
  have n3 : p.natAbs ≤ x.natAbs := by rw [n1]; exact Nat.le_mul_of_pos_left _ (by omega)
  have n4 : q.natAbs ≤ y.natAbs := by rw [n2]; exact Nat.le_mul_of_pos_left _ (by omega)
  have n5 : g.natAbs ≤ y.natAbs := by rw [n2]; exact Nat.le_mul_of_pos_right _ (by omega)
  by_cases hs : y < 0
  · have hqn : q < 0 := by
      have : ¬ 0 ≤ q := fun h => by
        have := Int.mul_nonneg (show 0 ≤ g by omega) h
        omega
      omega
    have er : ratF x y = (-p, -q) := by
      unfold ratF
      rw [if_pos hs, ← hgd, Int.tdiv_neg, Int.tdiv_neg, e1, e2]
    have e3 : y.tdiv (-q) = -g := by rw [Int.tdiv_neg, hq, Int.mul_tdiv_cancel _ hq0]
    rw [er]
    refine ⟨by show 1 ≤ -q; omega, by show -q ≤ _; omega, ?_, by show (-p).natAbs ≤ _; omega, ?_, ?_⟩
    · show y.tmod (-q) = 0
      rw [Int.tmod_neg, hq, Int.mul_tmod_left]
    · show -p * y.tdiv (-q) = x
      rw [e3, hp, Int.neg_mul_neg, Int.mul_comm]
    · show (y.tdiv (-q)).natAbs ≤ _
      rw [e3]
      omega
  · have hqp : 0 < q := by
      have : ¬ q < 0 := fun h => by
        have := Int.mul_neg_of_pos_of_neg g0 h
        omega
      omega
    have er : ratF x y = (p, q) := by
      unfold ratF
      rw [if_neg hs, ← hgd, e1, e2]
    have e3 : y.tdiv q = g := by rw [hq, Int.mul_tdiv_cancel _ hq0]
    rw [er]
    refine ⟨by show 1 ≤ q; omega, by show q ≤ _; omega, ?_, by show p.natAbs ≤ _; omega, ?_, ?_⟩
    · show y.tmod q = 0
      rw [hq, Int.mul_tmod_left]
    · show p * y.tdiv q = x
      rw [e3, hp, Int.mul_comm]
    · show (y.tdiv q).natAbs ≤ _
      rw [e3]
      omega
/-- An entry of the inverse, times the determinant. -/
theorem iv_ok {m : Mat} (h : SmM m) (hd : detF m ≠ 0) (j k : Nat) : (1 ≤ (ivF m j k).2 ∧ (ivF m j k).2 ≤ 1296000) ∧ (detF m).tmod (ivF m j k).2 = 0 ∧ (-432000 ≤ (ivF m j k).1 ∧ (ivF m j k).1 ≤ 432000) ∧ (ivF m j k).1 * (detF m).tdiv (ivF m j k).2 = m.n * cofF m k j ∧ (-1296000 ≤ (detF m).tdiv (ivF m j k).2 ∧ (detF m).tdiv (ivF m j k).2 ≤ 1296000) := by
  have := rat_ok (x := m.n * cofF m k j) hd
  have h1 := det_sm h
  have h2 := nc_sm h k j
  unfold ivF
  refine ⟨⟨this.1, by omega⟩, this.2.2.1, ⟨by omega, by omega⟩, this.2.2.2.2.1, ⟨by omega, by omega⟩⟩
/-- An entry of what Inverted returns, and its error. -/
def ivG (m : Mat) (i k : Nat) : Int × Int := if detF m = 0 then (0, 0) else ivF m i k
def eG (m : Mat) : Int := if detF m = 0 then 17 else 0
theorem eG_2 (m : Mat) : ((eG m != 0) && (eG m != 17)) = false := by
  unfold eG
  by_cases h : detF m = 0 <;> simp [h]
theorem ivR_G {m : Mat} (h : matE m = 0) : ivR m = ([ivG m 0 0, ivG m 0 1, ivG m 0 2, ivG m 1 0, ivG m 1 1, ivG m 1 2, ivG m 2 0, ivG m 2 1, ivG m 2 2], eG m) := by
  by_cases h0 : detF m = 0
  · rw [ivR_2 h h0]
    simp [ivG, eG, h0, z9]
  · rw [ivR_3 h h0]
    simp [ivG, eG, h0, iv9]
theorem ivg_ok {m : Mat} (h : SmM m) (hd : detF m ≠ 0) (j k : Nat) : (1 ≤ (ivG m j k).2 ∧ (ivG m j k).2 ≤ 1296000) ∧ (detF m).tmod (ivG m j k).2 = 0 ∧ (-432000 ≤ (ivG m j k).1 ∧ (ivG m j k).1 ≤ 432000) ∧ (ivG m j k).1 * (detF m).tdiv (ivG m j k).2 = m.n * cofF m k j ∧ (-1296000 ≤ (detF m).tdiv (ivG m j k).2 ∧ (detF m).tdiv (ivG m j k).2 ≤ 1296000) := by
  rw [show ivG m j k = ivF m j k from if_neg hd]
  exact iv_ok h hd j k
/-- The greatest common divisor divides what was divided. -/
theorem g9_dvd (a b : Mat) : ((g9 a b : Nat) : Int) ∣ a.n * b.n ∧ ((g9 a b : Nat) : Int) ∣ (prM a b).a ∧ ((g9 a b : Nat) : Int) ∣ (prM a b).b ∧ ((g9 a b : Nat) : Int) ∣ (prM a b).c ∧ ((g9 a b : Nat) : Int) ∣ (prM a b).d ∧ ((g9 a b : Nat) : Int) ∣ (prM a b).e ∧ ((g9 a b : Nat) : Int) ∣ (prM a b).f ∧ ((g9 a b : Nat) : Int) ∣ (prM a b).g ∧ ((g9 a b : Nat) : Int) ∣ (prM a b).h ∧ ((g9 a b : Nat) : Int) ∣ (prM a b).i := by
  have l1 : ((g1 a b : Nat) : Int) ∣ a.n * b.n := Int.gcd_dvd_left _ _
  have l2 : ((g2 a b : Nat) : Int) ∣ ((g1 a b : Nat) : Int) := Int.gcd_dvd_left _ _
  have l3 : ((g3 a b : Nat) : Int) ∣ ((g2 a b : Nat) : Int) := Int.gcd_dvd_left _ _
  have l4 : ((g4 a b : Nat) : Int) ∣ ((g3 a b : Nat) : Int) := Int.gcd_dvd_left _ _
  have l5 : ((g5 a b : Nat) : Int) ∣ ((g4 a b : Nat) : Int) := Int.gcd_dvd_left _ _
  have l6 : ((g6 a b : Nat) : Int) ∣ ((g5 a b : Nat) : Int) := Int.gcd_dvd_left _ _
  have l7 : ((g7 a b : Nat) : Int) ∣ ((g6 a b : Nat) : Int) := Int.gcd_dvd_left _ _
  have l8 : ((g8 a b : Nat) : Int) ∣ ((g7 a b : Nat) : Int) := Int.gcd_dvd_left _ _
  have l9 : ((g9 a b : Nat) : Int) ∣ ((g8 a b : Nat) : Int) := Int.gcd_dvd_left _ _
  have r1 : ((g1 a b : Nat) : Int) ∣ (prM a b).a := Int.gcd_dvd_right _ _
  have r2 : ((g2 a b : Nat) : Int) ∣ (prM a b).b := Int.gcd_dvd_right _ _
  have r3 : ((g3 a b : Nat) : Int) ∣ (prM a b).c := Int.gcd_dvd_right _ _
  have r4 : ((g4 a b : Nat) : Int) ∣ (prM a b).d := Int.gcd_dvd_right _ _
  have r5 : ((g5 a b : Nat) : Int) ∣ (prM a b).e := Int.gcd_dvd_right _ _
  have r6 : ((g6 a b : Nat) : Int) ∣ (prM a b).f := Int.gcd_dvd_right _ _
  have r7 : ((g7 a b : Nat) : Int) ∣ (prM a b).g := Int.gcd_dvd_right _ _
  have r8 : ((g8 a b : Nat) : Int) ∣ (prM a b).h := Int.gcd_dvd_right _ _
  have r9 : ((g9 a b : Nat) : Int) ∣ (prM a b).i := Int.gcd_dvd_right _ _
  have t9 : ((g9 a b : Nat) : Int) ∣ ((g9 a b : Nat) : Int) := Int.dvd_refl _
  have t8 : ((g9 a b : Nat) : Int) ∣ ((g8 a b : Nat) : Int) := Int.dvd_trans t9 l9
  have t7 : ((g9 a b : Nat) : Int) ∣ ((g7 a b : Nat) : Int) := Int.dvd_trans t8 l8
  have t6 : ((g9 a b : Nat) : Int) ∣ ((g6 a b : Nat) : Int) := Int.dvd_trans t7 l7
  have t5 : ((g9 a b : Nat) : Int) ∣ ((g5 a b : Nat) : Int) := Int.dvd_trans t6 l6
  have t4 : ((g9 a b : Nat) : Int) ∣ ((g4 a b : Nat) : Int) := Int.dvd_trans t5 l5
  have t3 : ((g9 a b : Nat) : Int) ∣ ((g3 a b : Nat) : Int) := Int.dvd_trans t4 l4
  have t2 : ((g9 a b : Nat) : Int) ∣ ((g2 a b : Nat) : Int) := Int.dvd_trans t3 l3
  have t1 : ((g9 a b : Nat) : Int) ∣ ((g1 a b : Nat) : Int) := Int.dvd_trans t2 l2
  exact ⟨Int.dvd_trans t1 l1, Int.dvd_trans t1 r1, Int.dvd_trans t2 r2, Int.dvd_trans t3 r3, Int.dvd_trans t4 r4, Int.dvd_trans t5 r5, Int.dvd_trans t6 r6, Int.dvd_trans t7 r7, Int.dvd_trans t8 r8, Int.dvd_trans t9 r9⟩
theorem cm_mul (a b : Mat) : ((g9 a b : Nat) : Int) * (cmM a b).n = a.n * b.n ∧ ((g9 a b : Nat) : Int) * (cmM a b).a = (prM a b).a ∧ ((g9 a b : Nat) : Int) * (cmM a b).b = (prM a b).b ∧ ((g9 a b : Nat) : Int) * (cmM a b).c = (prM a b).c ∧ ((g9 a b : Nat) : Int) * (cmM a b).d = (prM a b).d ∧ ((g9 a b : Nat) : Int) * (cmM a b).e = (prM a b).e ∧ ((g9 a b : Nat) : Int) * (cmM a b).f = (prM a b).f ∧ ((g9 a b : Nat) : Int) * (cmM a b).g = (prM a b).g ∧ ((g9 a b : Nat) : Int) * (cmM a b).h = (prM a b).h ∧ ((g9 a b : Nat) : Int) * (cmM a b).i = (prM a b).i := by
  obtain ⟨h0, h1, h2, h3, h4, h5, h6, h7, h8, h9⟩ := g9_dvd a b
  exact ⟨Int.mul_ediv_cancel' h0, Int.mul_tdiv_cancel' h1, Int.mul_tdiv_cancel' h2, Int.mul_tdiv_cancel' h3, Int.mul_tdiv_cancel' h4, Int.mul_tdiv_cancel' h5, Int.mul_tdiv_cancel' h6, Int.mul_tdiv_cancel' h7, Int.mul_tdiv_cancel' h8, Int.mul_tdiv_cancel' h9⟩
end Go.Proofs.YtedlaominconaaaDoor
