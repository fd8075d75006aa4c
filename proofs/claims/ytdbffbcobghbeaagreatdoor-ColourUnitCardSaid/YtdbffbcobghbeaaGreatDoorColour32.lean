/- Matrices: the reference. -/
import Derived.Test.YtdbffbcobghbeaaGreatDoorColour9
import Derived.Test.YtdbffbcobghbeaaGreatDoorEngAJ
namespace Go.Proofs.YtdbffbcobghbeaaGreatDoor
open Go.E Go.RowKit Go.Fl
attribute [local irreducible] G C S D Calls
set_option maxRecDepth 100000
set_option linter.unusedSimpArgs false
set_option linter.unusedVariables false

theorem rEntry_c (n : Int) (w : World) : Calls Tryz.prog 29 #[.int .i64 n, .int .i64 (-4096), .int .i64 4096] w fun r w' => r = .returned (.int .i64 (enE n)) ∧ Below w.heap.size w w' := rRange_c n (-4096) 4096 w
theorem fl10 {a b c d e f g h i n : Int} : firstL [a, b, c, d, e, f, g, h, i, n] = if a = 0 then (if b = 0 then (if c = 0 then (if d = 0 then (if e = 0 then (if f = 0 then (if g = 0 then (if h = 0 then (if i = 0 then n else i) else h) else g) else f) else e) else d) else c) else b) else a := by
  simp only [firstL]
  by_cases h9 : n = 0 <;> simp [h9]
theorem rRoundD_c {x a b c p q r n : Int} (hx : x = dotF a b c p q r) (hn : 1 ≤ n ∧ n ≤ 1152921504606846976) (hd : -1152921504606846976 ≤ dotF a b c p q r ∧ dotF a b c p q r ≤ 1152921504606846976) (w : World) : Calls Tryz.prog 120 #[.int .i64 x, .int .i64 n] w fun r' w' => r' = .returned (.int .i64 (rnd (dotF a b c p q r) n)) ∧ Below w.heap.size w w' := by
  subst hx
  exact rRound_c _ n hn hd w
/-- What the reference converts a colour to, and its error. -/
def cv2 (m : Mat) (c : Col) : Col × Int := if colE (convF m c) = 0 then (convF m c, 0) else ((0, 0, 0), 4)
theorem cvR_eq (m : Mat) (c : Col) : cvR m c = if cvE m c = 0 then cv2 m c else ((0, 0, 0), cvE m c) := rfl
theorem cv2_1 {m : Mat} {c : Col} (h : ¬ colE (convF m c) = 0) : cv2 m c = ((0, 0, 0), 4) := if_neg h
theorem cv2_2 {m : Mat} {c : Col} (h : colE (convF m c) = 0) : cv2 m c = (convF m c, 0) := if_pos h

set_option maxHeartbeats 400000 in
/-- genlockref02.CheckMatrix -/
theorem rCheckMatrix_c (m : Mat) (w : World) : Calls Tryz.prog 41 #[.agg #[.int .i64 m.a, .int .i64 m.b, .int .i64 m.c, .int .i64 m.d, .int .i64 m.e, .int .i64 m.f, .int .i64 m.g, .int .i64 m.h, .int .i64 m.i, .int .i64 m.n]] w fun r w' => r = .returned (.int .i64 (matE m)) ∧ Below w.heap.size w w' := by
  refine calls_of (args := [.agg #[.int .i64 m.a, .int .i64 m.b, .int .i64 m.c, .int .i64 m.d, .int .i64 m.e, .int .i64 m.f, .int .i64 m.g, .int .i64 m.h, .int .i64 m.i, .int .i64 m.n]]) T_ok Tryz.func41 rfl Tryz.ntmps41 (Nat.le_of_ble_eq_true rfl) rfl ?_
  repeat' (first
 | (refine C_id ?_; first
 | refine C_rounds 3 ?_
 | refine C_seq ?_
 | refine C_region rfl ?_
 | refine C_block ?_
 | refine C_skip ?_
 | refine C_exit ?_
 | refine C_ret0 ?_
 | refine C_condT rfl obQ ?_
 | refine C_condF rfl obQ ?_
 | (refine C_cond rfl obQ (fun h => ?_) (fun h => ?_) <;> (try simp only [Bool.or_eq_true, Bool.and_eq_true, Bool.or_eq_false_iff, Bool.and_eq_false_iff, decide_eq_true_eq, decide_eq_false_iff_not, beq_iff_eq, bne_iff_ne, beq_eq_false_iff_ne, bne_eq_false_iff_eq, ne_eq, Decidable.not_not, List.cons.injEq, and_true, Bool.not_eq_true', Bool.not_eq_false', Int.not_lt, Int.not_le] at h))
 )
 | (refine S_id ?_; first
 | refine S_nil ?_
 | refine S_run rfl rfl obQ obQ ?_
 | refine S_box (fun b => ⟨_, _, rfl, obQ, ?_⟩)
 | refine S_call (f := 29) rfl obQ (by kernel_rfl) (fun w hw => rEntry_c _ w) ?_
 | refine S_call (f := 29) rfl obQ (by kernel_rfl) (fun w hw => rRange_c _ _ _ w) ?_
 )
 | (refine G_id ?_; first
 | refine G_rounds (C_trim [1, 2, 3, 4] 1 rfl rfl ?_)
 | refine G_then ?_
 | refine G_block ?_
 | refine G_blockX ?_
 | refine G_blockR ?_
 | refine G_thenR ?_
 | refine G_thenX ?_
 | refine G_ret rfl obQ (fun w hw => ⟨?_, hw.below⟩)
 )
 )
  all_goals exact rI (by unfold matE; rw [fl10]; simp only [*, if_true, if_false])

set_option maxHeartbeats 400000 in
/-- genlockref02.CheckColour -/
theorem rCheckColour_c (c : Col) (w : World) : Calls Tryz.prog 42 #[.agg #[.int .i64 c.1, .int .i64 c.2.1, .int .i64 c.2.2]] w fun r w' => r = .returned (.int .i64 (colE c)) ∧ Below w.heap.size w w' := by
  refine calls_of (args := [.agg #[.int .i64 c.1, .int .i64 c.2.1, .int .i64 c.2.2]]) T_ok Tryz.func42 rfl Tryz.ntmps42 (Nat.le_of_ble_eq_true rfl) rfl ?_
  repeat' (first
 | (refine C_id ?_; first
 | refine C_seq ?_
 | refine C_region rfl ?_
 | refine C_ret0 ?_
 | refine C_drawV (id := 1) 8 [(0, true), (1, true), (3, true), (4, true), (6, true), (7, true), (2, false), (5, false)] rfl mixed (by kernel_rfl) rfl ?_
 )
 | (refine S_id ?_; first
 | refine S_nil ?_
 | refine S_run rfl rfl obQ obQ ?_
 | refine S_box (fun b => ⟨_, _, rfl, obQ, ?_⟩)
 | refine S_slice (fun b => ⟨_, _, rfl, obQ, ?_⟩)
 | refine S_call (f := 118) rfl obQ (by kernel_rfl) (fun w hw => rlevel_c _ w) ?_
 | refine S_call (f := 117) rfl obQ (by kernel_rfl) (fun w hw => rFirst_c _ _ [lvE c.1, lvE c.2.1, lvE c.2.2] (by simp) w (.inr ⟨_, rfl, hw.src (i := 1) rfl rfl⟩)) ?_
 )
 | (refine V_id ?_; first
 | refine V_nil ?_
 | refine V_q rfl (Yl_step rfl obQ) ?_
 | refine V_n rfl ?_
 )
 | (refine G_id ?_; first
 | refine G_V ⟨⟨_, rfl, trivial⟩, ⟨_, rfl⟩, rfl, pstQ⟩ rfl ?_
 | refine G_then ?_
 | refine G_ret rfl obQ (fun w hw => ⟨?_, hw.below⟩)
 )
 )
  rfl

set_option maxHeartbeats 1000000 in
/-- genlockref02.Converted -/
theorem rConverted_c (m : Mat) (c : Col) (hm : MatOk m) (hc : ColOk c) (w : World) : Calls Tryz.prog 43 #[.agg #[.int .i64 m.a, .int .i64 m.b, .int .i64 m.c, .int .i64 m.d, .int .i64 m.e, .int .i64 m.f, .int .i64 m.g, .int .i64 m.h, .int .i64 m.i, .int .i64 m.n], .agg #[.int .i64 c.1, .int .i64 c.2.1, .int .i64 c.2.2]] w fun r w' => r = .returned (.tuple #[.agg #[.int .i64 (cv2 m c).1.1, .int .i64 (cv2 m c).1.2.1, .int .i64 (cv2 m c).1.2.2], .int .i64 (cv2 m c).2]) ∧ Below w.heap.size w w' := by
  obtain ⟨hc1, hc2, hc3⟩ := hc
  have hn := hm.n
  have hd0 := dot_bd (m := m) hm.a hm.b hm.c (x := c.1) (y := c.2.1) (z := c.2.2) (by omega) (by omega) (by omega)
  have hd1 := dot_bd (m := m) hm.d hm.e hm.f (x := c.1) (y := c.2.1) (z := c.2.2) (by omega) (by omega) (by omega)
  have hd2 := dot_bd (m := m) hm.g hm.h hm.i (x := c.1) (y := c.2.1) (z := c.2.2) (by omega) (by omega) (by omega)
  have p00 := mul_ab hm.a hc1
  have p01 := mul_ab hm.b hc2
  have p02 := mul_ab hm.c hc3
  have p10 := mul_ab hm.d hc1
  have p11 := mul_ab hm.e hc2
  have p12 := mul_ab hm.f hc3
  have p20 := mul_ab hm.g hc1
  have p21 := mul_ab hm.h hc2
  have p22 := mul_ab hm.i hc3
  refine calls_of (args := [.agg #[.int .i64 m.a, .int .i64 m.b, .int .i64 m.c, .int .i64 m.d, .int .i64 m.e, .int .i64 m.f, .int .i64 m.g, .int .i64 m.h, .int .i64 m.i, .int .i64 m.n], .agg #[.int .i64 c.1, .int .i64 c.2.1, .int .i64 c.2.2]]) T_ok Tryz.func43 rfl Tryz.ntmps43 (Nat.le_of_ble_eq_true rfl) rfl ?_
  repeat' (first
 | (refine C_id ?_; first
 | refine C_rounds 3 ?_
 | refine C_seq ?_
 | refine C_region rfl ?_
 | refine C_block ?_
 | refine C_skip ?_
 | refine C_exit ?_
 | refine C_ret0 ?_
 | refine C_draw (id := 9) rfl mixed (by kernel_rfl) ?_
 | refine C_condT rfl obQ ?_
 | refine C_condF rfl obQ ?_
 | (refine C_cond rfl obQ (fun h => ?_) (fun h => ?_) <;> (try simp only [Bool.or_eq_true, Bool.and_eq_true, Bool.or_eq_false_iff, Bool.and_eq_false_iff, decide_eq_true_eq, decide_eq_false_iff_not, beq_iff_eq, bne_iff_ne, beq_eq_false_iff_ne, bne_eq_false_iff_eq, ne_eq, Decidable.not_not, List.cons.injEq, and_true, Bool.not_eq_true', Bool.not_eq_false', Int.not_lt, Int.not_le] at h))
 )
 | (refine S_id ?_; first
 | refine S_nil ?_
 | refine S_run rfl rfl obQ obQ ?_
 | refine S_box (fun b => ⟨_, _, rfl, obQ, ?_⟩)
 | refine S_call (f := 120) rfl obQ (by kernel_rfl) (fun w hw => rRoundD_c (a := m.a) (b := m.b) (c := m.c) (p := c.1) (q := c.2.1) (r := c.2.2) (by unfold dotF; omega) (by omega) (by omega) w) ?_
 | refine S_call (f := 120) rfl obQ (by kernel_rfl) (fun w hw => rRoundD_c (a := m.d) (b := m.e) (c := m.f) (p := c.1) (q := c.2.1) (r := c.2.2) (by unfold dotF; omega) (by omega) (by omega) w) ?_
 | refine S_call (f := 120) rfl obQ (by kernel_rfl) (fun w hw => rRoundD_c (a := m.g) (b := m.h) (c := m.i) (p := c.1) (q := c.2.1) (r := c.2.2) (by unfold dotF; omega) (by omega) (by omega) w) ?_
 | refine S_call (f := 42) rfl obQ (by kernel_rfl) (fun w hw => rCheckColour_c (convF m c) w) ?_
 )
 | (refine D_id ?_; first
 | refine D_nil ?_
 | refine D_run rfl rfl obQ obQ ?_
 )
 | (refine G_id ?_; first
 | refine G_rounds (C_trim [2, 3, 4, 5, 6, 7, 8, 9] 4 rfl rfl ?_)
 | refine G_then ?_
 | refine G_block ?_
 | refine G_blockX ?_
 | refine G_thenR ?_
 | refine G_thenX ?_
 | refine G_ret rfl obQ (fun w hw => ⟨?_, hw.below⟩)
 )
 )
  · exact rCv (cv2_1 h)
  · exact rCv (cv2_2 h)

end Go.Proofs.YtdbffbcobghbeaaGreatDoor
