/- The reference: positions. -/
import Derived.Test.YtmfophoejjcnlaaGreatDoorTiming11
namespace Go.Proofs.YtmfophoejjcnlaaGreatDoor
open Go.E Go.RowKit
attribute [local irreducible] G C S D Calls
set_option maxRecDepth 100000
set_option linter.unusedSimpArgs false
set_option linter.unusedVariables false

theorem retP {a b c d : Int} {q : Pos} (h : q = ⟨a, b, c, d⟩) : Ending.returned (.agg #[.int .i64 a, .int .i64 b, .int .i64 c, .int .i64 d]) = Ending.returned (posV q) := by subst h; rfl
theorem ret1 {a q : Int} (h : q = a) : Ending.returned (.int .i64 a) = Ending.returned (.int .i64 q) := by subst h; rfl
theorem atF_late {f : Fmt} {t l : Int} (e : l = t % (f.S * f.L) / f.S) (h : linesF f 0 ≤ l) : atF f t = ⟨t / (f.S * f.L), 1, l - linesF f 0, t % f.S⟩ := by subst e; simp [atF, h]
theorem atF_early {f : Fmt} {t l : Int} (e : l = t % (f.S * f.L) / f.S) (h : l < linesF f 0) : atF f t = ⟨t / (f.S * f.L), 0, l, t % f.S⟩ := by subst e; simp [atF, Int.not_le.2 h]

set_option maxHeartbeats 400000 in
/-- genlockref04.linesOf -/
theorem rLinesOf_c (f : Fmt) (i : Int) (hL : 2 ≤ f.L ∧ f.L ≤ 2000) (hi : 0 ≤ i ∧ i ≤ f.F - 1) (hF : f.F ≤ 2) (w : World) : Calls Tryz.prog 86 #[.agg #[.int .i64 f.S, .int .i64 f.L, .int .i64 f.F, .int .i64 f.B, .int .i64 f.Y, .int .i64 f.V, .int .i64 f.C], .int .i64 i] w fun r w' => r = .returned (.int .i64 (linesF f i)) ∧ Below w.heap.size w w' := by
  have hl := linesF_bd f 0 ⟨by omega, hL.2⟩
  refine calls_of (args := [.agg #[.int .i64 f.S, .int .i64 f.L, .int .i64 f.F, .int .i64 f.B, .int .i64 f.Y, .int .i64 f.V, .int .i64 f.C], .int .i64 i]) T_ok Tryz.func86 rfl Tryz.ntmps86 (Nat.le_of_ble_eq_true rfl) rfl ?_
  repeat' (first
 | (refine C_id ?_; first
 | refine C_seq ?_
 | refine C_region rfl ?_
 | refine C_block ?_
 | refine C_skip ?_
 | refine C_exit ?_
 | refine C_ret0 ?_
 | refine C_draw (id := 3) rfl mixed (by kernel_rfl) ?_
 | refine C_condT rfl obQ ?_
 | refine C_condF rfl obQ ?_
 | (refine C_cond rfl obQ (fun h => ?_) (fun h => ?_) <;> (try simp only [Bool.or_eq_true, Bool.and_eq_true, Bool.or_eq_false_iff, Bool.and_eq_false_iff, decide_eq_true_eq, decide_eq_false_iff_not, beq_iff_eq, bne_iff_ne, beq_eq_false_iff_ne, bne_eq_false_iff_eq, ne_eq, Decidable.not_not, List.cons.injEq, and_true, Bool.not_eq_true', Bool.not_eq_false', Int.not_lt, Int.not_le] at h))
      )
 | (refine S_id ?_; first
 | refine S_nil ?_
 | refine S_run rfl rfl obQ obQ ?_
 | refine S_box (fun b => ⟨_, _, rfl, obQ, ?_⟩)
 | refine S_call (f := 85) rfl obQ (by kernel_rfl) (fun w hw => rEarly_c f ⟨by omega, hL.2⟩ w) ?_
      )
 | (refine D_id ?_; first
 | refine D_nil ?_
 | refine D_tail ?_
 | refine D_run rfl rfl obQ obQ ?_
 | refine D_call (f := 85) rfl obQ (by kernel_rfl) (fun w hw => rEarly_c f ⟨by omega, hL.2⟩ w) ?_
      )
 | (refine G_id ?_; first
 | refine G_then ?_
 | refine G_block ?_
 | refine G_blockX ?_
 | refine G_blockN rfl ?_
 | refine G_blockR ?_
 | refine G_thenR ?_
 | refine G_thenX ?_
 | refine G_ret rfl obQ (fun w hw => ⟨?_, hw.below⟩)
      )
    )
  · exact ret1 (by rw [h])
  · exact ret1 (lines_of f h hi hF).symm

theorem tick_eq (f : Fmt) (p : Pos) : ((p.R * f.L + p.L) + p.F * linesF f 0) * f.S + p.S = tickN f p := by
  simp only [tickN, Int.add_mul]
  rw [Int.mul_assoc p.R, Int.mul_comm f.L]
  omega

set_option maxHeartbeats 400000 in
/-- genlockref04.Tick -/
theorem rTick_c (f : Fmt) (p : Pos) (hv : Valid f) (hR : 0 ≤ p.R ∧ p.R ≤ 10000010) (hF : 0 ≤ p.F ∧ p.F ≤ f.F - 1) (hLp : 0 ≤ p.L ∧ p.L ≤ 2000) (hSp : 0 ≤ p.S ∧ p.S ≤ 2000) (w : World) : Calls Tryz.prog 24 #[.agg #[.int .i64 f.S, .int .i64 f.L, .int .i64 f.F, .int .i64 f.B, .int .i64 f.Y, .int .i64 f.V, .int .i64 f.C], .agg #[.int .i64 p.R, .int .i64 p.F, .int .i64 p.L, .int .i64 p.S]] w fun r w' => r = .returned (.int .i64 (tickN f p)) ∧ Below w.heap.size w w' := by
  have hS := hv.S
  have hL := hv.L
  have hFf := hv.F
  have hl := linesF_bd f 0 ⟨by omega, hL.2⟩
  have h1 := Int.mul_nonneg hR.1 (show 0 ≤ f.L by omega)
  have h2 := Int.mul_le_mul hR.2 hL.2 (by omega) (by omega)
  have key : ∀ x : Int, 0 ≤ x ∧ x ≤ 20001000000 → 0 ≤ x * f.S ∧ x * f.S ≤ 40002000000000 := fun x hx => by
    have h1 := Int.mul_nonneg hx.1 (show 0 ≤ f.S by omega)
    have h2 := Int.mul_le_mul hx.2 hS.2 (by omega) (by omega)
    omega
  have k1 := key (p.R * f.L + p.L) (by omega)
  have k2 := key (p.R * f.L + p.L + linesF f 0) (by omega)
  have k3 := tick_eq f p
  refine calls_of (args := [.agg #[.int .i64 f.S, .int .i64 f.L, .int .i64 f.F, .int .i64 f.B, .int .i64 f.Y, .int .i64 f.V, .int .i64 f.C], .agg #[.int .i64 p.R, .int .i64 p.F, .int .i64 p.L, .int .i64 p.S]]) T_ok Tryz.func24 rfl Tryz.ntmps24 (Nat.le_of_ble_eq_true rfl) rfl ?_
  repeat' (first
 | (refine C_id ?_; first
 | refine C_seq ?_
 | refine C_region rfl ?_
 | refine C_block ?_
 | refine C_skip ?_
 | refine C_exit ?_
 | refine C_ret0 ?_
 | refine C_condT rfl obQ ?_
 | refine C_condF rfl obQ ?_
 | (refine C_cond rfl obQ (fun h => ?_) (fun h => ?_) <;> (try simp only [Bool.or_eq_true, Bool.and_eq_true, Bool.or_eq_false_iff, Bool.and_eq_false_iff, decide_eq_true_eq, decide_eq_false_iff_not, beq_iff_eq, bne_iff_ne, beq_eq_false_iff_ne, bne_eq_false_iff_eq, ne_eq, Decidable.not_not, List.cons.injEq, and_true, Bool.not_eq_true', Bool.not_eq_false', Int.not_lt, Int.not_le] at h))
      )
 | (refine S_id ?_; first
 | refine S_nil ?_
 | refine S_run rfl rfl obQ obQ ?_
 | refine S_box (fun b => ⟨_, _, rfl, obQ, ?_⟩)
 | refine S_call (f := 85) rfl obQ (by kernel_rfl) (fun w hw => rEarly_c f ⟨by omega, hL.2⟩ w) ?_
      )
 | (refine G_id ?_; first
 | refine G_then ?_
 | refine G_block ?_
 | refine G_blockX ?_
 | refine G_blockN rfl ?_
 | refine G_blockR ?_
 | refine G_thenR ?_
 | refine G_thenX ?_
 | refine G_ret rfl obQ (fun w hw => ⟨?_, hw.below⟩)
      )
    )
  · exact ret1 (by rw [← k3, h, Int.one_mul])
  · exact ret1 (by rw [← k3, show p.F = 0 by omega, Int.zero_mul, Int.add_zero])

def posE (f : Fmt) (p : Pos) : Int := if ¬ tickE1 f p = 0 then tickE1 f p else if ¬ tickE2 f p = 0 then tickE2 f p else wh (decide (10000000 < tickN f p)) 4

set_option maxHeartbeats 400000 in
/-- genlockref04.CheckPosition -/
theorem rCheckPosition_c (f : Fmt) (p : Pos) (hv : Valid f) (w : World) : Calls Tryz.prog 23 #[.agg #[.int .i64 f.S, .int .i64 f.L, .int .i64 f.F, .int .i64 f.B, .int .i64 f.Y, .int .i64 f.V, .int .i64 f.C], .agg #[.int .i64 p.R, .int .i64 p.F, .int .i64 p.L, .int .i64 p.S]] w fun r w' => r = .returned (.int .i64 (posE f p)) ∧ Below w.heap.size w w' := by
  have hS := hv.S
  have hL := hv.L
  have hF := hv.F
  have hl := linesF_bd f 0 ⟨by omega, hL.2⟩
  have hl1 := linesF_bd f p.F ⟨by omega, hL.2⟩
  have w1 : tickE1 f p = 0 → 0 ≤ p.F ∧ p.F ≤ f.F - 1 := fun h => (wi_eq _ _ _).1 h
  have w2 : tickE2 f p = 0 → (0 ≤ p.L ∧ p.L ≤ linesF f p.F - 1) ∧ (0 ≤ p.S ∧ p.S ≤ f.S - 1) ∧ 0 ≤ p.R ∧ p.R ≤ 10000000 := (tickE2_iff f p).1
  refine calls_of (args := [.agg #[.int .i64 f.S, .int .i64 f.L, .int .i64 f.F, .int .i64 f.B, .int .i64 f.Y, .int .i64 f.V, .int .i64 f.C], .agg #[.int .i64 p.R, .int .i64 p.F, .int .i64 p.L, .int .i64 p.S]]) T_ok Tryz.func23 rfl Tryz.ntmps23 (Nat.le_of_ble_eq_true rfl) rfl ?_
  repeat' (first
 | (refine C_id ?_; first
 | refine C_seq ?_
 | refine C_region rfl ?_
 | refine C_block ?_
 | refine C_skip ?_
 | refine C_exit ?_
 | refine C_ret0 ?_
 | refine C_drawT (id := 4) 22 rfl mixed (by kernel_rfl) rfl rfl ?_
 | refine C_condT rfl obQ ?_
 | refine C_condF rfl obQ ?_
 | (refine C_cond rfl obQ (fun h => ?_) (fun h => ?_) <;> (try simp only [Bool.or_eq_true, Bool.and_eq_true, Bool.or_eq_false_iff, Bool.and_eq_false_iff, decide_eq_true_eq, decide_eq_false_iff_not, beq_iff_eq, bne_iff_ne, beq_eq_false_iff_ne, bne_eq_false_iff_eq, ne_eq, Decidable.not_not, List.cons.injEq, and_true, Bool.not_eq_true', Bool.not_eq_false', Int.not_lt, Int.not_le] at h))
      )
 | (refine S_id ?_; first
 | refine S_nil ?_
 | refine S_run rfl rfl obQ obQ ?_
 | refine S_box (fun b => ⟨_, _, rfl, obQ, ?_⟩)
 | refine S_slice (fun b => ⟨_, _, rfl, obQ, ?_⟩)
 | refine S_call (f := 43) rfl obQ (by kernel_rfl) (fun w hw => rRange_c _ _ _ w) ?_
 | refine S_call (f := 56) rfl obQ (by kernel_rfl) (fun w hw => rWhen_c _ _ w) ?_
 | refine S_call (f := 86) rfl obQ (by kernel_rfl) (fun w hw => rLinesOf_c f p.F hL (by have := (wi_eq p.F 0 (f.F - 1)).1 (by assumption); omega) (by omega) w) ?_
 | refine S_call (f := 84) rfl obQ (by kernel_rfl) (fun w hw => rFirst_c _ _ [wi p.L 0 (linesF f p.F - 1), wi p.S 0 (f.S - 1), wh (decide (p.R < 0)) 3, wh (decide (10000000 < p.R)) 4] (by simp) w (.inr ⟨_, rfl, hw.src (i := 2) rfl rfl⟩)) ?_
 | refine S_call (f := 24) rfl obQ (by kernel_rfl) (fun w hw => (have g1 := w1 (by assumption); have g2 := w2 (by assumption); rTick_c f p hv (by omega) g1 (by omega) (by omega) w)) ?_
      )
 | (refine D_id ?_; first
 | refine D_nil ?_
 | refine D_tail ?_
 | refine D_run rfl rfl obQ obQ ?_
 | refine D_call (f := 43) rfl obQ (by kernel_rfl) (fun w hw => rRange_c _ _ _ w) ?_
 | refine D_call (f := 56) rfl obQ (by kernel_rfl) (fun w hw => rWhen_c _ _ w) ?_
 | refine D_call (f := 86) rfl obQ (by kernel_rfl) (fun w hw => rLinesOf_c f p.F hL (by have := (wi_eq p.F 0 (f.F - 1)).1 (by assumption); omega) (by omega) w) ?_
 | refine D_call (f := 84) rfl obQ (by kernel_rfl) (fun w hw => rFirst_c _ _ [wi p.L 0 (linesF f p.F - 1), wi p.S 0 (f.S - 1), wh (decide (p.R < 0)) 3, wh (decide (10000000 < p.R)) 4] (by simp) w (.inr ⟨_, rfl, hw.src (i := 2) rfl rfl⟩)) ?_
 | refine D_call (f := 24) rfl obQ (by kernel_rfl) (fun w hw => (have g1 := w1 (by assumption); have g2 := w2 (by assumption); rTick_c f p hv (by omega) g1 (by omega) (by omega) w)) ?_
      )
 | (refine G_id ?_; first
 | refine G_then ?_
 | refine G_block ?_
 | refine G_blockX ?_
 | refine G_blockN rfl ?_
 | refine G_blockR ?_
 | refine G_thenR ?_
 | refine G_thenX ?_
 | refine G_ret rfl obQ (fun w hw => ⟨?_, hw.below⟩)
      )
    )
  · have h1 : ¬ tickE1 f p = 0 := h
    exact ret1 (if_pos h1)
  · rename_i h0
    have h1 : ¬ ¬ tickE1 f p = 0 := Classical.not_not.2 h0
    have h2 : ¬ tickE2 f p = 0 := h
    exact ret1 (by rw [posE, if_neg h1, if_pos h2]; rfl)
  · rename_i h0
    have h1 : ¬ ¬ tickE1 f p = 0 := Classical.not_not.2 h0
    have h2 : ¬ ¬ tickE2 f p = 0 := Classical.not_not.2 h
    exact ret1 (by rw [posE, if_neg h1, if_neg h2])

set_option maxHeartbeats 400000 in
/-- genlockref04.Row -/
theorem rRow_c (f : Fmt) (p : Pos) (hF : f.F = 1 ∨ f.F = 2) (hp : 0 ≤ p.L ∧ p.L ≤ 2000) (hf : 0 ≤ p.F ∧ p.F ≤ f.F - 1) (w : World) : Calls Tryz.prog 25 #[.agg #[.int .i64 f.S, .int .i64 f.L, .int .i64 f.F, .int .i64 f.B, .int .i64 f.Y, .int .i64 f.V, .int .i64 f.C], .agg #[.int .i64 p.R, .int .i64 p.F, .int .i64 p.L, .int .i64 p.S]] w fun r w' => r = .returned (.int .i64 (p.L * f.F + p.F)) ∧ Below w.heap.size w w' := by
  refine calls_of (args := [.agg #[.int .i64 f.S, .int .i64 f.L, .int .i64 f.F, .int .i64 f.B, .int .i64 f.Y, .int .i64 f.V, .int .i64 f.C], .agg #[.int .i64 p.R, .int .i64 p.F, .int .i64 p.L, .int .i64 p.S]]) T_ok Tryz.func25 rfl Tryz.ntmps25 (Nat.le_of_ble_eq_true rfl) rfl ?_
  repeat' (first
 | (refine C_id ?_; first
 | refine C_seq ?_
 | refine C_region rfl ?_
 | refine C_block ?_
 | refine C_skip ?_
 | refine C_exit ?_
 | refine C_ret0 ?_
 | refine C_condT rfl obQ ?_
 | refine C_condF rfl obQ ?_
 | (refine C_cond rfl obQ (fun h => ?_) (fun h => ?_) <;> (try simp only [Bool.or_eq_true, Bool.and_eq_true, Bool.or_eq_false_iff, Bool.and_eq_false_iff, decide_eq_true_eq, decide_eq_false_iff_not, beq_iff_eq, bne_iff_ne, beq_eq_false_iff_ne, bne_eq_false_iff_eq, ne_eq, Decidable.not_not, List.cons.injEq, and_true, Bool.not_eq_true', Bool.not_eq_false', Int.not_lt, Int.not_le] at h))
      )
 | (refine S_id ?_; first
 | refine S_nil ?_
 | refine S_run rfl rfl obQ obQ ?_
 | refine S_box (fun b => ⟨_, _, rfl, obQ, ?_⟩)
      )
 | (refine G_id ?_; first
 | refine G_then ?_
 | refine G_block ?_
 | refine G_blockX ?_
 | refine G_blockN rfl ?_
 | refine G_blockR ?_
 | refine G_thenR ?_
 | refine G_thenX ?_
 | refine G_ret rfl obQ (fun w hw => ⟨?_, hw.below⟩)
      )
    )
  · exact ret1 (by rw [h]; omega)
  · exact ret1 (by rw [show f.F = 2 by omega]; omega)

end Go.Proofs.YtmfophoejjcnlaaGreatDoor
