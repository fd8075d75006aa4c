/- Matrices: the reference. -/
import Derived.Test.YtedlaominconaaaDoorColour9
import Derived.Test.YtedlaominconaaaDoorEng4
namespace Go.Proofs.YtedlaominconaaaDoor
open Go.E Go.RowKit Go.Fl
attribute [local irreducible] G C S D Calls
set_option maxRecDepth 100000
set_option linter.unusedSimpArgs false
set_option linter.unusedVariables false

theorem rEntry_c (n : Int) (w : World) : Calls Tryd.prog 28 #[.int .i64 n, .int .i64 (-4096), .int .i64 4096] w fun r w' => r = .returned (.int .i64 (enE n)) ∧ Below w.heap.size w w' := rRange_c n (-4096) 4096 w
theorem fl10 {a b c d e f g h i n : Int} : firstL [a, b, c, d, e, f, g, h, i, n] = if a = 0 then (if b = 0 then (if c = 0 then (if d = 0 then (if e = 0 then (if f = 0 then (if g = 0 then (if h = 0 then (if i = 0 then n else i) else h) else g) else f) else e) else d) else c) else b) else a := by
  simp only [firstL]
  by_cases h9 : n = 0 <;> simp [h9]
-- rRoundD_c
set_option maxHeartbeats 400000 in
/-- genlockref02.CheckMatrix -/
theorem rCheckMatrix_c (m : Mat) (w : World) : Calls Tryd.prog 8 #[.agg #[.int .i64 m.a, .int .i64 m.b, .int .i64 m.c, .int .i64 m.d, .int .i64 m.e, .int .i64 m.f, .int .i64 m.g, .int .i64 m.h, .int .i64 m.i, .int .i64 m.n]] w fun r w' => r = .returned (.int .i64 (matE m)) ∧ Below w.heap.size w w' := by
  refine calls_of (args := [.agg #[.int .i64 m.a, .int .i64 m.b, .int .i64 m.c, .int .i64 m.d, .int .i64 m.e, .int .i64 m.f, .int .i64 m.g, .int .i64 m.h, .int .i64 m.i, .int .i64 m.n]]) T_ok Tryd.func8 rfl Tryd.ntmps8 (Nat.le_of_ble_eq_true rfl) rfl ?_
  repeat' (first
 | (refine C_id ?_; first
 | refine C_rounds 3 ?_
 | refine C_seq ?_
 | refine C_region rfl ?_
 | refine C_block ?_
 | refine C_skip ?_
 | refine C_exit ?_
 | refine C_ret0 ?_
 | refine C_condT rfl obQ ?_
 | refine C_condF rfl obQ ?_
 | (refine C_cond rfl obQ (fun h => ?_) (fun h => ?_) <;> (try simp only [Bool.or_eq_true, Bool.and_eq_true, Bool.or_eq_false_iff, Bool.and_eq_false_iff, decide_eq_true_eq, decide_eq_false_iff_not, beq_iff_eq, bne_iff_ne, beq_eq_false_iff_ne, bne_eq_false_iff_eq, ne_eq, Decidable.not_not, List.cons.injEq, and_true, Bool.not_eq_true', Bool.not_eq_false', Int.not_lt, Int.not_le] at h))
 )
 | (refine S_id ?_; first
 | refine S_nil ?_
 | refine S_run rfl rfl obQ obQ ?_
 | refine S_box (fun b => ⟨_, _, rfl, obQ, ?_⟩)
 | refine S_call (f := 28) rfl obQ (by kernel_rfl) (fun w hw => rEntry_c _ w) ?_
 | refine S_call (f := 28) rfl obQ (by kernel_rfl) (fun w hw => rRange_c _ _ _ w) ?_
 )
 | (refine G_id ?_; first
 | refine G_rounds (C_trim [1, 2, 3, 4] 1 rfl rfl ?_)
 | refine G_then ?_
 | refine G_block ?_
 | refine G_blockX ?_
 | refine G_blockN rfl ?_
 | refine G_blockR ?_
 | refine G_thenR ?_
 | refine G_thenX ?_
 | refine G_ret rfl obQ (fun w hw => ⟨?_, hw.below⟩)
 )
 )
  all_goals exact rI (by unfold matE; rw [fl10]; simp only [*, if_true, if_false])

set_option maxHeartbeats 400000 in
/-- genlockref02.CheckColour -/
theorem rCheckColour_c (c : Col) (w : World) : Calls Tryd.prog 14 #[.agg #[.int .i64 c.1, .int .i64 c.2.1, .int .i64 c.2.2]] w fun r w' => r = .returned (.int .i64 (colE c)) ∧ Below w.heap.size w w' := by
  refine calls_of (args := [.agg #[.int .i64 c.1, .int .i64 c.2.1, .int .i64 c.2.2]]) T_ok Tryd.func14 rfl Tryd.ntmps14 (Nat.le_of_ble_eq_true rfl) rfl ?_
  repeat' (first
 | (refine C_id ?_; first
 | refine C_seq ?_
 | refine C_region rfl ?_
 | refine C_block ?_
 | refine C_skip ?_
 | refine C_exit ?_
 | refine C_ret0 ?_
 | refine C_drawV (id := 1) 8 [(0, true), (1, true), (3, true), (4, true), (6, true), (7, true), (2, false), (5, false)] rfl mixed (by kernel_rfl) rfl ?_
 | refine C_condT rfl obQ ?_
 | refine C_condF rfl obQ ?_
 | (refine C_cond rfl obQ (fun h => ?_) (fun h => ?_) <;> (try simp only [Bool.or_eq_true, Bool.and_eq_true, Bool.or_eq_false_iff, Bool.and_eq_false_iff, decide_eq_true_eq, decide_eq_false_iff_not, beq_iff_eq, bne_iff_ne, beq_eq_false_iff_ne, bne_eq_false_iff_eq, ne_eq, Decidable.not_not, List.cons.injEq, and_true, Bool.not_eq_true', Bool.not_eq_false', Int.not_lt, Int.not_le] at h))
 )
 | (refine S_id ?_; first
 | refine S_nil ?_
 | refine S_run rfl rfl obQ obQ ?_
 | refine S_box (fun b => ⟨_, _, rfl, obQ, ?_⟩)
 | refine S_slice (fun b => ⟨_, _, rfl, obQ, ?_⟩)
 | refine S_call (f := 42) rfl obQ (by kernel_rfl) (fun w hw => rlevel_c _ w) ?_
 | refine S_call (f := 16) rfl obQ (by kernel_rfl) (fun w hw => rFirst_c _ _ [lvE c.1, lvE c.2.1, lvE c.2.2] (by simp) w (.inr ⟨_, rfl, hw.src (i := 1) rfl rfl⟩)) ?_
 )
 | (refine D_id ?_; first
 | refine D_nil ?_
 | refine D_tail ?_
 | refine D_run rfl rfl obQ obQ ?_
 | refine D_call (f := 42) rfl obQ (by kernel_rfl) (fun w hw => rlevel_c _ w) ?_
 | refine D_call (f := 16) rfl obQ (by kernel_rfl) (fun w hw => rFirst_c _ _ [lvE c.1, lvE c.2.1, lvE c.2.2] (by simp) w (.inr ⟨_, rfl, hw.src (i := 1) rfl rfl⟩)) ?_
 )
 | (refine V_id ?_; first
 | refine V_nil ?_
 | refine V_q rfl (Yl_step rfl obQ) ?_
 | refine V_n rfl ?_
 )
 | (refine G_id ?_; first
 | refine G_V ⟨⟨_, rfl, trivial⟩, ⟨_, rfl⟩, rfl, pstQ⟩ rfl ?_
 | refine G_then ?_
 | refine G_block ?_
 | refine G_blockX ?_
 | refine G_blockN rfl ?_
 | refine G_blockR ?_
 | refine G_thenR ?_
 | refine G_thenX ?_
 | refine G_ret rfl obQ (fun w hw => ⟨?_, hw.below⟩)
 )
 )
  rfl

-- rConverted

end Go.Proofs.YtedlaominconaaaDoor
