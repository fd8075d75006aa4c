/- Composed matrices: the reference. -/
import Derived.Test.YtdbffbcobghbeaaGreatDoorColour10
import Derived.Test.YtdbffbcobghbeaaGreatDoorColour32
namespace Go.Proofs.YtdbffbcobghbeaaGreatDoor
open Go.E Go.RowKit Go.Fl
attribute [local irreducible] G C S D Calls
set_option maxRecDepth 100000
set_option linter.unusedSimpArgs false
set_option linter.unusedVariables false

theorem rDivD {x y c : Int} (hx : x = y) (hy : -1125899906842624 ≤ y ∧ y ≤ 1125899906842624) (hc : -1125899906842624 ≤ c ∧ c ≤ 1125899906842624) (w : World) : Calls Tryz.prog 135 #[.int .i64 x, .int .i64 c] w fun r w' => r = .returned (.int .i64 (Int.gcd c y : Nat)) ∧ Below w.heap.size w w' := by
  subst hx
  rw [Int.gcd_comm]
  exact rDivisor_c x c hy hc w
theorem quoD (t : TypeId) (p q : Operand) {P : Program} {x y b : Int} (hx : x = y) (hb : b ≠ 0) (ha : -4611686018427387904 ≤ y ∧ y ≤ 4611686018427387904) (w : World) : (do eqGuard .quo t p q (.int .i64 x) (.int .i64 b); binOp .quo t (.int .i64 x) (.int .i64 b) : Sem Value).run P w = .ok (.int .i64 (y.tdiv b)) w := by
  subst hx
  exact quo_any t p q hb ha w
/-- What the reference composes two matrices to, and its error. -/
def cm2 (a b : Mat) : Mat × Int := if matE (cmM a b) = 0 then (cmM a b, 0) else (zM, 4)
theorem cmR_eq (a b : Mat) : cmR a b = if cmE a b = 0 then cm2 a b else (zM, cmE a b) := rfl
theorem cm2_1 {a b : Mat} (h : ¬ matE (cmM a b) = 0) : cm2 a b = (zM, 4) := if_neg h
theorem cm2_2 {a b : Mat} (h : matE (cmM a b) = 0) : cm2 a b = (cmM a b, 0) := if_pos h

set_option maxHeartbeats 8000000 in
/-- genlockref02.Composed -/
theorem rComposed_c (ma mb : Mat) (hma : MatOk ma) (hmb : MatOk mb) (w : World) : Calls Tryz.prog 50 #[.agg #[.int .i64 ma.a, .int .i64 ma.b, .int .i64 ma.c, .int .i64 ma.d, .int .i64 ma.e, .int .i64 ma.f, .int .i64 ma.g, .int .i64 ma.h, .int .i64 ma.i, .int .i64 ma.n], .agg #[.int .i64 mb.a, .int .i64 mb.b, .int .i64 mb.c, .int .i64 mb.d, .int .i64 mb.e, .int .i64 mb.f, .int .i64 mb.g, .int .i64 mb.h, .int .i64 mb.i, .int .i64 mb.n]] w fun r w' => r = .returned (.tuple #[vM (cm2 ma mb).1, .int .i64 (cm2 ma mb).2]) ∧ Below w.heap.size w w' := by
  have haa := hma.a
  have hba := hmb.a
  have hab := hma.b
  have hbb := hmb.b
  have hac := hma.c
  have hbc := hmb.c
  have had := hma.d
  have hbd := hmb.d
  have hae := hma.e
  have hbe := hmb.e
  have haf := hma.f
  have hbf := hmb.f
  have hag := hma.g
  have hbg := hmb.g
  have hah := hma.h
  have hbh := hmb.h
  have hai := hma.i
  have hbi := hmb.i
  have han := hma.n
  have hbn := hmb.n
  have hn := mul_ab (a := ma.n) (x := mb.n) (A := 4096) (X := 4096) (by omega) (by omega)
  have hn1 : 1 ≤ ma.n * mb.n := Int.mul_pos (show 0 < ma.n by omega) (show 0 < mb.n by omega)
  obtain ⟨pa, pb, pc, pd, pe, pf, pg, ph, pi⟩ := pr_bd hma hmb
  have q1 : 1 ≤ ((g1 ma mb : Nat) : Int) ∧ ((g1 ma mb : Nat) : Int) ≤ 16777216 := gcd_bd (m := 16777216) (by omega)
  have q2 : 1 ≤ ((g2 ma mb : Nat) : Int) ∧ ((g2 ma mb : Nat) : Int) ≤ 16777216 := gcd_bd q1
  have q3 : 1 ≤ ((g3 ma mb : Nat) : Int) ∧ ((g3 ma mb : Nat) : Int) ≤ 16777216 := gcd_bd q2
  have q4 : 1 ≤ ((g4 ma mb : Nat) : Int) ∧ ((g4 ma mb : Nat) : Int) ≤ 16777216 := gcd_bd q3
  have q5 : 1 ≤ ((g5 ma mb : Nat) : Int) ∧ ((g5 ma mb : Nat) : Int) ≤ 16777216 := gcd_bd q4
  have q6 : 1 ≤ ((g6 ma mb : Nat) : Int) ∧ ((g6 ma mb : Nat) : Int) ≤ 16777216 := gcd_bd q5
  have q7 : 1 ≤ ((g7 ma mb : Nat) : Int) ∧ ((g7 ma mb : Nat) : Int) ≤ 16777216 := gcd_bd q6
  have q8 : 1 ≤ ((g8 ma mb : Nat) : Int) ∧ ((g8 ma mb : Nat) : Int) ≤ 16777216 := gcd_bd q7
  have q9 : 1 ≤ ((g9 ma mb : Nat) : Int) ∧ ((g9 ma mb : Nat) : Int) ≤ 16777216 := gcd_bd q8
  have z9 : 1 ≤ ((Int.gcd (g8 ma mb : Nat) (prM ma mb).i : Nat) : Int) ∧ ((Int.gcd (g8 ma mb : Nat) (prM ma mb).i : Nat) : Int) ≤ 16777216 := gcd_bd q8
  have ea : 0 + mb.a * ma.a + mb.b * ma.d + mb.c * ma.g = (prM ma mb).a := by simp only [prM, dotF]; omega
  have eb : 0 + mb.a * ma.b + mb.b * ma.e + mb.c * ma.h = (prM ma mb).b := by simp only [prM, dotF]; omega
  have ec : 0 + mb.a * ma.c + mb.b * ma.f + mb.c * ma.i = (prM ma mb).c := by simp only [prM, dotF]; omega
  have ed : 0 + mb.d * ma.a + mb.e * ma.d + mb.f * ma.g = (prM ma mb).d := by simp only [prM, dotF]; omega
  have ee : 0 + mb.d * ma.b + mb.e * ma.e + mb.f * ma.h = (prM ma mb).e := by simp only [prM, dotF]; omega
  have ef : 0 + mb.d * ma.c + mb.e * ma.f + mb.f * ma.i = (prM ma mb).f := by simp only [prM, dotF]; omega
  have eg : 0 + mb.g * ma.a + mb.h * ma.d + mb.i * ma.g = (prM ma mb).g := by simp only [prM, dotF]; omega
  have eh : 0 + mb.g * ma.b + mb.h * ma.e + mb.i * ma.h = (prM ma mb).h := by simp only [prM, dotF]; omega
  have ei : 0 + mb.g * ma.c + mb.h * ma.f + mb.i * ma.i = (prM ma mb).i := by simp only [prM, dotF]; omega
  have ma0 := mul_ab hmb.a hma.a
  have ma1 := mul_ab hmb.b hma.d
  have ma2 := mul_ab hmb.c hma.g
  have mb0 := mul_ab hmb.a hma.b
  have mb1 := mul_ab hmb.b hma.e
  have mb2 := mul_ab hmb.c hma.h
  have mc0 := mul_ab hmb.a hma.c
  have mc1 := mul_ab hmb.b hma.f
  have mc2 := mul_ab hmb.c hma.i
  have md0 := mul_ab hmb.d hma.a
  have md1 := mul_ab hmb.e hma.d
  have md2 := mul_ab hmb.f hma.g
  have me0 := mul_ab hmb.d hma.b
  have me1 := mul_ab hmb.e hma.e
  have me2 := mul_ab hmb.f hma.h
  have mf0 := mul_ab hmb.d hma.c
  have mf1 := mul_ab hmb.e hma.f
  have mf2 := mul_ab hmb.f hma.i
  have mg0 := mul_ab hmb.g hma.a
  have mg1 := mul_ab hmb.h hma.d
  have mg2 := mul_ab hmb.i hma.g
  have mh0 := mul_ab hmb.g hma.b
  have mh1 := mul_ab hmb.h hma.e
  have mh2 := mul_ab hmb.i hma.h
  have mi0 := mul_ab hmb.g hma.c
  have mi1 := mul_ab hmb.h hma.f
  have mi2 := mul_ab hmb.i hma.i
  refine calls_of (args := [.agg #[.int .i64 ma.a, .int .i64 ma.b, .int .i64 ma.c, .int .i64 ma.d, .int .i64 ma.e, .int .i64 ma.f, .int .i64 ma.g, .int .i64 ma.h, .int .i64 ma.i, .int .i64 ma.n], .agg #[.int .i64 mb.a, .int .i64 mb.b, .int .i64 mb.c, .int .i64 mb.d, .int .i64 mb.e, .int .i64 mb.f, .int .i64 mb.g, .int .i64 mb.h, .int .i64 mb.i, .int .i64 mb.n]]) T_ok Tryz.func50 rfl Tryz.ntmps50 (Nat.le_of_ble_eq_true rfl) rfl ?_
  repeat' (first
 | (refine C_id ?_; first
 | refine C_rounds 3 ?_
 | refine C_seq ?_
 | refine C_region rfl ?_
 | refine C_block ?_
 | refine C_skip ?_
 | refine C_exit ?_
 | refine C_ret0 ?_
 | refine C_drawV (id := 12) 24 [(0, true), (1, true), (2, true), (3, true), (4, true), (5, true), (6, true), (7, true), (8, true), (9, true), (10, true), (11, true), (12, true), (13, true), (14, true), (15, true), (16, true), (17, true), (18, true), (19, true), (20, true), (21, true), (22, true), (23, true)] rfl mixed (by kernel_rfl) rfl ?_
 | refine C_drawV (id := 20) 12 [(0, true), (1, true), (2, true), (3, true), (4, true), (5, true), (6, true), (7, true), (8, true), (9, true), (10, true), (11, true)] rfl mixed (by kernel_rfl) rfl ?_
 | refine C_condT rfl obQ ?_
 | refine C_condF rfl obQ ?_
 | (refine C_cond rfl obQ (fun h => ?_) (fun h => ?_) <;> (try simp only [Bool.or_eq_true, Bool.and_eq_true, Bool.or_eq_false_iff, Bool.and_eq_false_iff, decide_eq_true_eq, decide_eq_false_iff_not, beq_iff_eq, bne_iff_ne, beq_eq_false_iff_ne, bne_eq_false_iff_eq, ne_eq, Decidable.not_not, List.cons.injEq, and_true, Bool.not_eq_true', Bool.not_eq_false', Int.not_lt, Int.not_le] at h))
 )
 | (refine S_id ?_; first
 | refine S_nil ?_
 | refine S_run rfl rfl obQ obQ ?_
 | refine S_box (fun b0 => ⟨_, _, rfl, obQ, ?_⟩)
 | refine S_call (f := 135) rfl obQ (by kernel_rfl) (fun w hw => rDivD ea (c := ma.n * mb.n) (by omega) (by omega) w) ?_
 | refine S_call (f := 135) rfl obQ (by kernel_rfl) (fun w hw => rDivD eb (c := (g1 ma mb : Nat)) (by omega) (by omega) w) ?_
 | refine S_call (f := 135) rfl obQ (by kernel_rfl) (fun w hw => rDivD ec (c := (g2 ma mb : Nat)) (by omega) (by omega) w) ?_
 | refine S_call (f := 135) rfl obQ (by kernel_rfl) (fun w hw => rDivD ed (c := (g3 ma mb : Nat)) (by omega) (by omega) w) ?_
 | refine S_call (f := 135) rfl obQ (by kernel_rfl) (fun w hw => rDivD ee (c := (g4 ma mb : Nat)) (by omega) (by omega) w) ?_
 | refine S_call (f := 135) rfl obQ (by kernel_rfl) (fun w hw => rDivD ef (c := (g5 ma mb : Nat)) (by omega) (by omega) w) ?_
 | refine S_call (f := 135) rfl obQ (by kernel_rfl) (fun w hw => rDivD eg (c := (g6 ma mb : Nat)) (by omega) (by omega) w) ?_
 | refine S_call (f := 135) rfl obQ (by kernel_rfl) (fun w hw => rDivD eh (c := (g7 ma mb : Nat)) (by omega) (by omega) w) ?_
 | refine S_call (f := 135) rfl obQ (by kernel_rfl) (fun w hw => rDivD ei (c := (g8 ma mb : Nat)) (by omega) (by omega) w) ?_
 | refine S_call (f := 41) rfl obQ (by kernel_rfl) (fun w hw => rCheckMatrix_c (cmM ma mb) w) ?_
 )
 | (refine V_id ?_; first
 | refine V_nil ?_
 | refine V_q rfl (Yl_pure (binX_pure rfl obQ (fun w => quoD _ _ _ ea (by omega) (by omega) w))) ?_
 | refine V_q rfl (Yl_pure (binX_pure rfl obQ (fun w => quoD _ _ _ eb (by omega) (by omega) w))) ?_
 | refine V_q rfl (Yl_pure (binX_pure rfl obQ (fun w => quoD _ _ _ ec (by omega) (by omega) w))) ?_
 | refine V_q rfl (Yl_pure (binX_pure rfl obQ (fun w => quoD _ _ _ ed (by omega) (by omega) w))) ?_
 | refine V_q rfl (Yl_pure (binX_pure rfl obQ (fun w => quoD _ _ _ ee (by omega) (by omega) w))) ?_
 | refine V_q rfl (Yl_pure (binX_pure rfl obQ (fun w => quoD _ _ _ ef (by omega) (by omega) w))) ?_
 | refine V_q rfl (Yl_pure (binX_pure rfl obQ (fun w => quoD _ _ _ eg (by omega) (by omega) w))) ?_
 | refine V_q rfl (Yl_pure (binX_pure rfl obQ (fun w => quoD _ _ _ eh (by omega) (by omega) w))) ?_
 | refine V_q rfl (Yl_pure (binX_pure rfl obQ (fun w => quoD _ _ _ ei (by omega) (by omega) w))) ?_
 | refine V_q rfl (Yl_step rfl obQ) ?_
 )
 | (refine G_id ?_; first
 | refine G_rounds (C_trim [2, 3, 4, 5, 6, 7, 11, 12] 4 rfl rfl ?_)
 | refine G_rounds (C_trim [2, 3, 4, 5, 6, 7, 8, 9, 10] 4 rfl rfl ?_)
 | refine G_then ?_
 | refine G_block ?_
 | refine G_blockX ?_
 | refine G_thenR ?_
 | refine G_thenX ?_
 | refine G_ret rfl obQ (fun w hw => ⟨?_, hw.below⟩)
 )
 )
  · exact rM (cm2_1 h)
  · exact rM (cm2_2 h)

end Go.Proofs.YtdbffbcobghbeaaGreatDoor
