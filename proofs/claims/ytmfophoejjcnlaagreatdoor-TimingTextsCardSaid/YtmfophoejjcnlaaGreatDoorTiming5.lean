/- Ticks, rows and phases. -/
import Derived.Test.YtmfophoejjcnlaaGreatDoorTiming4
namespace Go.Proofs.YtmfophoejjcnlaaGreatDoor
open Go.E Go.RowKit
attribute [local irreducible] G C S D Calls
set_option maxRecDepth 100000
set_option linter.unusedSimpArgs false
set_option linter.unusedVariables false

def wh (b : Bool) (e : Int) : Int := if b then e else 0
/-- The tick of a position of a valid format, and the error. -/
def tickE1 (f : Fmt) (p : Pos) : Int := wi p.F 0 (f.F - 1)
def tickE2 (f : Fmt) (p : Pos) : Int := firstL [wi p.L 0 (linesF f p.F - 1), wi p.S 0 (f.S - 1), wh (decide (p.R < 0)) 3, wh (decide (10000000 < p.R)) 4]
def tickN (f : Fmt) (p : Pos) : Int := p.R * (f.S * f.L) + (p.F * linesF f 0 + p.L) * f.S + p.S
def tickR (f : Fmt) (p : Pos) : Int × Int :=
  if p.R = 0 ∧ p.F = 0 ∧ p.L = 0 ∧ p.S = 0 then (0, 0) else
  if ¬ tickE1 f p = 0 then (0, tickE1 f p) else
  if ¬ tickE2 f p = 0 then (0, tickE2 f p) else
  if 10000000 < tickN f p then (0, 4) else (tickN f p, 0)
def TickR (f : Fmt) (p : Pos) : Int × Int := if ¬ checkF f = 0 then (0, checkF f) else tickR f p
theorem tickE2_iff (f : Fmt) (p : Pos) : tickE2 f p = 0 ↔ (0 ≤ p.L ∧ p.L ≤ linesF f p.F - 1) ∧ (0 ≤ p.S ∧ p.S ≤ f.S - 1) ∧ 0 ≤ p.R ∧ p.R ≤ 10000000 := by
  unfold tickE2 wh
  rw [firstL_zero]
  simp only [List.mem_cons, List.mem_nil_iff, or_false, forall_eq_or_imp, forall_eq, wi_eq, decide_eq_true_eq]
  refine and_congr Iff.rfl (and_congr Iff.rfl ?_)
  split <;> split <;> omega

set_option maxHeartbeats 400000 in
/-- (genlock/timing.Format).tick -/
theorem tick_c (f : Fmt) (p : Pos) (hv : Valid f) (w : World) (hE : Ex w) : Calls Tryz.prog 83 #[.agg #[.int .i64 f.S, .int .i64 f.L, .int .i64 f.F, .int .i64 f.B, .int .i64 f.Y, .int .i64 f.V, .int .i64 f.C], .agg #[.int .i64 p.R, .int .i64 p.F, .int .i64 p.L, .int .i64 p.S]] w fun r w' => r = .returned (.tuple #[.int .i64 (tickR f p).1, .int .i64 (tickR f p).2]) ∧ Below w.heap.size w w' := by
  have hS := hv.S
  have hL := hv.L
  have hF := hv.F
  have hl := linesF_bd f 0 ⟨by omega, hL.2⟩
  have hl1 := linesF_bd f p.F ⟨by omega, hL.2⟩
  have hfr := frame_bd f ⟨by omega, hS.2⟩ ⟨by omega, hL.2⟩
  have hm1 : 0 ≤ p.R → p.R ≤ 10000000 → 0 ≤ p.R * (f.S * f.L) ∧ p.R * (f.S * f.L) ≤ 40000000000000 := fun a b => by
    have := Int.mul_nonneg a (show 0 ≤ f.S * f.L by omega)
    have := Int.mul_le_mul b hfr.2 (by omega) (by omega)
    omega
  have hm2 : 0 ≤ p.F → p.F ≤ 1 → 0 ≤ p.L → p.L ≤ 2000 → 0 ≤ p.F * linesF f 0 ∧ p.F * linesF f 0 ≤ 2000 ∧ 0 ≤ (p.F * linesF f 0 + p.L) * f.S ∧ (p.F * linesF f 0 + p.L) * f.S ≤ 8000000 := fun a b c d => by
    have h1 := Int.mul_nonneg a hl.1
    have h2 := Int.mul_le_mul b hl.2 hl.1 (by omega)
    have h3 := Int.mul_nonneg (show 0 ≤ p.F * linesF f 0 + p.L by omega) (show 0 ≤ f.S by omega)
    have h4 := Int.mul_le_mul (show p.F * linesF f 0 + p.L ≤ 4000 by omega) hS.2 (by omega) (by omega)
    omega
  have w1 : tickE1 f p = 0 → 0 ≤ p.F ∧ p.F ≤ f.F - 1 := fun h => (wi_eq _ _ _).1 h
  have w2 : tickE2 f p = 0 → (0 ≤ p.L ∧ p.L ≤ linesF f p.F - 1) ∧ (0 ≤ p.S ∧ p.S ≤ f.S - 1) ∧ 0 ≤ p.R ∧ p.R ≤ 10000000 := (tickE2_iff f p).1
  refine calls_of (args := [.agg #[.int .i64 f.S, .int .i64 f.L, .int .i64 f.F, .int .i64 f.B, .int .i64 f.Y, .int .i64 f.V, .int .i64 f.C], .agg #[.int .i64 p.R, .int .i64 p.F, .int .i64 p.L, .int .i64 p.S]]) T_ok Tryz.func83 rfl Tryz.ntmps83 (Nat.le_of_ble_eq_true rfl) rfl ?_
  repeat' (first
 | (refine C_id ?_; first
 | refine C_seq ?_
 | refine C_region rfl ?_
 | refine C_skip ?_
 | refine C_ret0 ?_
 | refine C_drawT (id := 6) 22 rfl mixed (by kernel_rfl) rfl rfl ?_
 | refine C_draw (id := 9) rfl mixed (by kernel_rfl) ?_
 | (refine C_cond rfl obQ (fun h => ?_) (fun h => ?_) <;> (try simp only [Bool.or_eq_true, Bool.and_eq_true, Bool.or_eq_false_iff, Bool.and_eq_false_iff, decide_eq_true_eq, decide_eq_false_iff_not, beq_iff_eq, bne_iff_ne, beq_eq_false_iff_ne, bne_eq_false_iff_eq, ne_eq, Decidable.not_not, List.cons.injEq, and_true, Bool.not_eq_true', Bool.not_eq_false', Int.not_lt, Int.not_le] at h))
 )
 | (refine S_id ?_; first
 | refine S_pure (binX_pure rfl obQ (fun w => eq_flat (n := 4) (xs := [p.R, p.F, p.L, p.S]) (ys := [0, 0, 0, 0]) (by kernel_rfl) rfl rfl _ _ w)) ?_
 | refine S_nil ?_
 | refine S_run rfl rfl obQ obQ ?_
 | refine S_box (fun b => ⟨_, _, rfl, obQ, ?_⟩)
 | refine S_slice (fun b => ⟨_, _, rfl, obQ, ?_⟩)
 | refine S_call (f := 91) rfl obQ (by kernel_rfl) (fun w hw => within_c _ _ _ w) ?_
 | refine S_call (f := 87) rfl obQ (by kernel_rfl) (fun w hw => first_c _ _ [wi p.L 0 (linesF f p.F - 1), wi p.S 0 (f.S - 1), wh (decide (p.R < 0)) 3, wh (decide (10000000 < p.R)) 4] (by simp) w (.inr ⟨_, rfl, hw.src (i := 2) rfl rfl⟩)) ?_
 )
 | (refine D_id ?_; first
 | refine D_tail ?_
 | refine D_run rfl rfl obQ obQ ?_
 | refine D_call (f := 91) rfl obQ (by kernel_rfl) (fun w hw => within_c _ _ _ w) ?_
 | refine D_call (f := 99) rfl obQ (by kernel_rfl) (fun w hw => when_c _ _ w) ?_
 | refine D_call (f := 98) rfl obQ (by kernel_rfl) (fun w hw => lines_c f p.F ⟨by omega, hL.2⟩ (by have := (wi_eq p.F 0 (f.F - 1)).1 (by assumption); omega) w (hw.rd memQ hE.toS)) ?_
 | refine D_call (f := 97) rfl obQ (by kernel_rfl) (fun w hw => frame_c f ⟨by omega, hS.2⟩ ⟨by omega, hL.2⟩ w) ?_
 )
 | (refine G_id ?_; first
 | refine G_then ?_
 | refine G_thenR ?_
 | refine G_ret rfl obQ (fun w hw => ⟨?_, hw.below⟩)
 )
 )
  · simp [tickR, h]
  · rename_i h0
    have h1 : ¬ tickE1 f p = 0 := h
    simp only [tickR, if_neg h0, if_pos h1]
    rfl
  · rename_i h0 h1
    have h1' : tickE1 f p = 0 := h1
    have h2 : ¬ tickE2 f p = 0 := h
    simp only [tickR, if_neg h0, if_neg (Classical.not_not.2 h1'), if_pos h2]
    rfl
  rename_i h0 h1
  have h1' : tickE1 f p = 0 := h1
  have h2' : tickE2 f p = 0 := h
  have g1 := w1 h1'
  have g2 := w2 h2'
  repeat' (first
 | (refine C_id ?_; first
 | refine C_seq ?_
 | refine C_region rfl ?_
 | refine C_skip ?_
 | refine C_ret0 ?_
 | (refine C_cond rfl obQ (fun h => ?_) (fun h => ?_) <;> (try simp only [Bool.or_eq_true, Bool.and_eq_true, Bool.or_eq_false_iff, Bool.and_eq_false_iff, decide_eq_true_eq, decide_eq_false_iff_not, beq_iff_eq, bne_iff_ne, beq_eq_false_iff_ne, bne_eq_false_iff_eq, ne_eq, Decidable.not_not, List.cons.injEq, and_true, Bool.not_eq_true', Bool.not_eq_false', Int.not_lt, Int.not_le] at h))
 )
 | (refine S_id ?_; first
 | refine S_nil ?_
 | refine S_run rfl rfl obQ obQ ?_
 )
 | (refine D_id ?_; first
 | refine D_nil ?_
 | refine D_run rfl rfl obQ obQ ?_
 | refine D_call (f := 98) rfl obQ (by kernel_rfl) (fun w hw => lines_c f 0 ⟨by omega, hL.2⟩ (.inl rfl) w (hw.rd memQ hE.toS)) ?_
 )
 | (refine G_id ?_; first
 | refine G_then ?_
 | refine G_thenR ?_
 | refine G_ret rfl obQ (fun w hw => ⟨?_, hw.below⟩)
 )
 )
  · simp only [tickR, if_neg h0, if_neg (Classical.not_not.2 h1'), if_neg (Classical.not_not.2 h2')]
    rw [if_pos (show 10000000 < tickN f p from by assumption)]
    all_goals rfl
  · simp only [tickR, if_neg h0, if_neg (Classical.not_not.2 h1'), if_neg (Classical.not_not.2 h2')]
    rw [if_neg (show ¬ 10000000 < tickN f p from by simpa [tickN] using h)]
    all_goals rfl

set_option maxHeartbeats 400000 in
/-- timing.Tick -/
theorem Tick_c (f : Fmt) (p : Pos) (w : World) (hE : Ex w) : Calls Tryz.prog 15 #[.agg #[.int .i64 f.S, .int .i64 f.L, .int .i64 f.F, .int .i64 f.B, .int .i64 f.Y, .int .i64 f.V, .int .i64 f.C], .agg #[.int .i64 p.R, .int .i64 p.F, .int .i64 p.L, .int .i64 p.S]] w fun r w' => r = .returned (.tuple #[.int .i64 (TickR f p).1, .int .i64 (TickR f p).2]) ∧ Below w.heap.size w w' := by
  refine calls_of (args := [.agg #[.int .i64 f.S, .int .i64 f.L, .int .i64 f.F, .int .i64 f.B, .int .i64 f.Y, .int .i64 f.V, .int .i64 f.C], .agg #[.int .i64 p.R, .int .i64 p.F, .int .i64 p.L, .int .i64 p.S]]) T_ok Tryz.func15 rfl Tryz.ntmps15 (Nat.le_of_ble_eq_true rfl) rfl ?_
  repeat' (first
 | (refine C_id ?_; first
 | refine C_seq ?_
 | refine C_region rfl ?_
 | refine C_skip ?_
 | refine C_ret0 ?_
 | (refine C_cond rfl obQ (fun h => ?_) (fun h => ?_) <;> (try simp only [Bool.or_eq_true, Bool.and_eq_true, Bool.or_eq_false_iff, Bool.and_eq_false_iff, decide_eq_true_eq, decide_eq_false_iff_not, beq_iff_eq, bne_iff_ne, beq_eq_false_iff_ne, bne_eq_false_iff_eq, ne_eq, Decidable.not_not, List.cons.injEq, and_true, Bool.not_eq_true', Bool.not_eq_false', Int.not_lt, Int.not_le] at h))
 )
 | (refine S_id ?_; first
 | refine S_nil ?_
 | refine S_run rfl rfl obQ obQ ?_
 | refine S_box (fun b => ⟨_, _, rfl, obQ, ?_⟩)
 | refine S_call (f := 26) rfl obQ (by kernel_rfl) (fun w hw => checkFormat_c f w) ?_
 | refine S_call (f := 83) rfl obQ (by kernel_rfl) (fun w hw => tick_c f p ((valid_iff f).1 h) w (hw.rd memQ hE.toS)) ?_
 )
 | (refine G_id ?_; first
 | refine G_then ?_
 | refine G_thenR ?_
 | refine G_ret rfl obQ (fun w hw => ⟨?_, hw.below⟩)
 )
 )
  all_goals simp [TickR, h]

end Go.Proofs.YtmfophoejjcnlaaGreatDoor
