/- The reference: positions of ticks. -/
import Derived.Test.YtmfophoejjcnlaaGreatDoorTiming16
import Derived.Test.YtmfophoejjcnlaaGreatDoorEng3
namespace Go.Proofs.YtmfophoejjcnlaaGreatDoor
open Go.E Go.RowKit
attribute [local irreducible] G C S D DY DS Calls
set_option maxRecDepth 100000
set_option linter.unusedSimpArgs false
set_option linter.unusedVariables false

set_option maxHeartbeats 400000 in
/-- genlockref04.At -/
theorem rAt_c (f : Fmt) (t : Int) (hv : Valid f) (ht : 0 ≤ t ∧ t ≤ 20000000) (w : World) : Calls Tryz.prog 21 #[.agg #[.int .i64 f.S, .int .i64 f.L, .int .i64 f.F, .int .i64 f.B, .int .i64 f.Y, .int .i64 f.V, .int .i64 f.C], .int .i64 t] w fun r w' => r = .returned (posV (atF f t)) ∧ Below w.heap.size w w' := by
  have hS := hv.S
  have hL := hv.L
  obtain ⟨e1, e2⟩ := at_eq (show 1 ≤ f.S by omega) (show 1 ≤ f.L by omega) ht.1
  have hl := linesF_bd f 0 ⟨by omega, hL.2⟩
  have hd := Int.ediv_nonneg ht.1 (show 0 ≤ f.S by omega)
  have hd2 := Int.ediv_le_self f.S ht.1
  have hm := Int.emod_nonneg (t / f.S) (show f.L ≠ 0 by omega)
  have hm2 := Int.emod_lt_of_pos (t / f.S) (show 0 < f.L by omega)
  refine calls_of (args := [.agg #[.int .i64 f.S, .int .i64 f.L, .int .i64 f.F, .int .i64 f.B, .int .i64 f.Y, .int .i64 f.V, .int .i64 f.C], .int .i64 t]) T_ok Tryz.func21 rfl Tryz.ntmps21 (Nat.le_of_ble_eq_true rfl) rfl ?_
  repeat' (first
 | (refine C_id ?_; first
 | refine C_seq ?_
 | refine C_region rfl ?_
 | refine C_block ?_
 | refine C_skip ?_
 | refine C_exit ?_
 | refine C_ret0 ?_
 | refine C_drawA (id := 2) 14 13 rfl mixed (by kernel_rfl) rfl rfl rfl rfl rfl rfl rfl rfl rfl rfl (fun b => ?_)
 | refine C_draw (id := 3) rfl mixed (by kernel_rfl) ?_
 | refine C_condT rfl obQ ?_
 | refine C_condF rfl obQ ?_
 | (refine C_cond rfl obQ (fun h => ?_) (fun h => ?_) <;> (try simp only [Bool.or_eq_true, Bool.and_eq_true, Bool.or_eq_false_iff, Bool.and_eq_false_iff, decide_eq_true_eq, decide_eq_false_iff_not, beq_iff_eq, bne_iff_ne, beq_eq_false_iff_ne, bne_eq_false_iff_eq, ne_eq, Decidable.not_not, List.cons.injEq, and_true, Bool.not_eq_true', Bool.not_eq_false', Int.not_lt, Int.not_le] at h))
      )
 | (refine S_id ?_; first
 | refine S_nil ?_
 | refine S_run rfl rfl obQ obQ ?_
 | refine S_box (fun b => ⟨_, _, rfl, obQ, ?_⟩)
 | refine S_call (f := 85) rfl obQ (by kernel_rfl) (fun w hw => rEarly_c f ⟨by omega, hL.2⟩ w) ?_
      )
 | (refine D_id ?_; first
 | refine D_nil ?_
 | refine D_tail ?_
 | refine D_run rfl rfl obQ obQ ?_
 | refine D_call (f := 85) rfl obQ (by kernel_rfl) (fun w hw => rEarly_c f ⟨by omega, hL.2⟩ w) ?_
      )
 | (refine DY_id ?_; first
 | refine DY_nil ?_
 | refine DY_alloc rfl rfl rfl rfl rfl ?_
 | refine DY_run rfl rfl obQ obQ ?_
      )
 | (refine G_id ?_; first
 | refine G_then ?_
 | refine G_block ?_
 | refine G_blockX ?_
 | refine G_blockN rfl ?_
 | refine G_blockR ?_
 | refine G_thenR ?_
 | refine G_thenX ?_
 | refine G_ret rfl obQ (fun w hw => ⟨?_, hw.below⟩)
      )
    )
  · rename_i b2 b4
    refine C_drawS (id := 4) 7 6 [31, 33] [⟨b2, 23, [.v (.int .i64 f.S), .v (.int .i64 f.L), .v (.int .i64 f.F), .v (.int .i64 f.B), .v (.int .i64 f.Y), .v (.int .i64 f.V), .v (.int .i64 f.C)]⟩, ⟨b4, 25, [.v (.int .i64 0), .v (.int .i64 0), .v (.int .i64 0), .v (.int .i64 0)]⟩, ⟨b, 25, [.v (.int .i64 (t / f.S / f.L)), .v (.int .i64 1), .v (.int .i64 (t / f.S % f.L)), .v (.int .i64 (t % f.S))]⟩] rfl mixed (by kernel_rfl) rfl rfl rfl rfl rfl rfl (by kernel_rfl) ?_
    repeat' (first
 | (refine C_id ?_; first
 | refine C_seq ?_
 | refine C_region rfl ?_
 | refine C_block ?_
 | refine C_skip ?_
 | refine C_exit ?_
 | refine C_ret0 ?_
 | refine C_drawA (id := 2) 14 13 rfl mixed (by kernel_rfl) rfl rfl rfl rfl rfl rfl rfl rfl rfl rfl (fun b => ?_)
 | refine C_draw (id := 3) rfl mixed (by kernel_rfl) ?_
 | refine C_condT rfl obQ ?_
 | refine C_condF rfl obQ ?_
 | (refine C_cond rfl obQ (fun h => ?_) (fun h => ?_) <;> (try simp only [Bool.or_eq_true, Bool.and_eq_true, Bool.or_eq_false_iff, Bool.and_eq_false_iff, decide_eq_true_eq, decide_eq_false_iff_not, beq_iff_eq, bne_iff_ne, beq_eq_false_iff_ne, bne_eq_false_iff_eq, ne_eq, Decidable.not_not, List.cons.injEq, and_true, Bool.not_eq_true', Bool.not_eq_false', Int.not_lt, Int.not_le] at h))
          )
 | (refine S_id ?_; first
 | refine S_nil ?_
 | refine S_run rfl rfl obQ obQ ?_
 | refine S_box (fun b => ⟨_, _, rfl, obQ, ?_⟩)
 | refine S_call (f := 85) rfl obQ (by kernel_rfl) (fun w hw => rEarly_c f ⟨by omega, hL.2⟩ w) ?_
          )
 | (refine D_id ?_; first
 | refine D_nil ?_
 | refine D_tail ?_
 | refine D_run rfl rfl obQ obQ ?_
 | refine D_call (f := 85) rfl obQ (by kernel_rfl) (fun w hw => rEarly_c f ⟨by omega, hL.2⟩ w) ?_
          )
 | (refine DS_id ?_; first
 | refine DS_nil ?_
 | refine DS_store rfl rfl rfl obQ ?_
 | refine DS_one rfl rfl obQ obQ ?_
 | refine DS_call (f := 85) rfl obQ (by kernel_rfl) rfl rfl (fun w hw => rEarly_c f ⟨by omega, hL.2⟩ w) ?_
          )
 | (refine DY_id ?_; first
 | refine DY_nil ?_
 | refine DY_alloc rfl rfl rfl rfl rfl ?_
 | refine DY_run rfl rfl obQ obQ ?_
          )
 | (refine G_id ?_; first
 | refine G_then ?_
 | refine G_block ?_
 | refine G_blockX ?_
 | refine G_blockN rfl ?_
 | refine G_blockR ?_
 | refine G_thenR ?_
 | refine G_thenX ?_
 | refine G_ret rfl obQ (fun w hw => ⟨?_, hw.below⟩)
          )
        )
    exact retP (by rw [e1]; exact atF_late e2 h)
  · exact retP (by rw [e1]; exact atF_early e2 h)

set_option maxHeartbeats 400000 in
/-- genlockref04.Phase -/
theorem rPhase_c (f : Fmt) (t : Int) (hv : Valid f) (ht : 0 ≤ t ∧ t ≤ 10000000) (w : World) : Calls Tryz.prog 22 #[.agg #[.int .i64 f.S, .int .i64 f.L, .int .i64 f.F, .int .i64 f.B, .int .i64 f.Y, .int .i64 f.V, .int .i64 f.C], .int .i64 t] w fun r w' => r = .returned (.int .i64 (((atF f t).R * f.F + (atF f t).F) % f.C)) ∧ Below w.heap.size w w' := by
  have hb := atF_bd hv ht.1
  have hm := mul12 (a := (atF f t).R) (b := f.F) (m := 10000000) (by omega) (by have := hv.F; omega)
  have hC := hv.C
  refine calls_of (args := [.agg #[.int .i64 f.S, .int .i64 f.L, .int .i64 f.F, .int .i64 f.B, .int .i64 f.Y, .int .i64 f.V, .int .i64 f.C], .int .i64 t]) T_ok Tryz.func22 rfl Tryz.ntmps22 (Nat.le_of_ble_eq_true rfl) rfl ?_
  repeat' (first
 | (refine C_id ?_; first
 | refine C_seq ?_
 | refine C_region rfl ?_
 | refine C_block ?_
 | refine C_skip ?_
 | refine C_exit ?_
 | refine C_ret0 ?_
 | refine C_condT rfl obQ ?_
 | refine C_condF rfl obQ ?_
 | (refine C_cond rfl obQ (fun h => ?_) (fun h => ?_) <;> (try simp only [Bool.or_eq_true, Bool.and_eq_true, Bool.or_eq_false_iff, Bool.and_eq_false_iff, decide_eq_true_eq, decide_eq_false_iff_not, beq_iff_eq, bne_iff_ne, beq_eq_false_iff_ne, bne_eq_false_iff_eq, ne_eq, Decidable.not_not, List.cons.injEq, and_true, Bool.not_eq_true', Bool.not_eq_false', Int.not_lt, Int.not_le] at h))
      )
 | (refine S_id ?_; first
 | refine S_nil ?_
 | refine S_run rfl rfl obQ obQ ?_
 | refine S_box (fun b => ⟨_, _, rfl, obQ, ?_⟩)
 | refine S_call (f := 21) rfl obQ (by kernel_rfl) (fun w hw => rAt_c f t hv (by omega) w) ?_
      )
 | (refine G_id ?_; first
 | refine G_then ?_
 | refine G_block ?_
 | refine G_blockX ?_
 | refine G_blockN rfl ?_
 | refine G_blockR ?_
 | refine G_thenR ?_
 | refine G_thenX ?_
 | refine G_ret rfl obQ (fun w hw => ⟨?_, hw.below⟩)
      )
    )
  rfl

theorem PhaseR_2 (f : Fmt) (t : Int) : (PhaseR f t).2 = checkT f t := by unfold PhaseR; split <;> simp_all
theorem checkT_no {f : Fmt} {t : Int} (h : ¬ checkF f = 0) : checkT f t = checkF f := by unfold checkT; simp [firstL, h]
theorem tickN_zero (f : Fmt) {p : Pos} (h : p.R = 0 ∧ p.F = 0 ∧ p.L = 0 ∧ p.S = 0) : tickN f p = 0 := by
  obtain ⟨h1, h2, h3, h4⟩ := h
  unfold tickN
  rw [h1, h2, h3, h4]
  simp
theorem posE_zero {f : Fmt} (hv : Valid f) {p : Pos} (h : p.R = 0 ∧ p.F = 0 ∧ p.L = 0 ∧ p.S = 0) : posE f p = 0 := by
  have hn := tickN_zero f h
  obtain ⟨h1, h2, h3, h4⟩ := h
  have hS := hv.S
  have hL := hv.L
  have hF := hv.F
  have e1 : tickE1 f p = 0 := (wi_eq _ _ _).2 (by omega)
  have hl : 1 ≤ linesF f p.F := by unfold linesF exA; split <;> (try split) <;> omega
  have e2 : tickE2 f p = 0 := (tickE2_iff f p).2 (by omega)
  unfold posE
  rw [if_neg (by simp [e1]), if_neg (by simp [e2]), hn]
  rfl
/-- The tick that Tick returns is the reference's, where there is one. -/
theorem TickR_eq {f : Fmt} (hv : Valid f) (p : Pos) : TickR f p = if posE f p = 0 then (tickN f p, 0) else (0, posE f p) := by
  have hf := (valid_iff f).2 hv
  unfold TickR
  rw [if_neg (by simp [hf])]
  unfold tickR
  split
  · rename_i h
    rw [if_pos (posE_zero hv h), tickN_zero f h]
  · unfold posE
    split
    · rename_i h
      simp [h]
    · split
      · rename_i h
        simp [h]
      · unfold wh
        by_cases hn : 10000000 < tickN f p
        · rw [if_pos hn]; simp [hn]
        · rw [if_neg hn]; simp [hn]
theorem posE_ok {f : Fmt} {p : Pos} (hv : Valid f) (h : posE f p = 0) : (0 ≤ p.R ∧ p.R ≤ 10000000) ∧ (0 ≤ p.F ∧ p.F ≤ f.F - 1) ∧ (0 ≤ p.L ∧ p.L ≤ 2000) ∧ (0 ≤ p.S ∧ p.S ≤ 2000) := by
  have hL := hv.L
  have hS := hv.S
  have hl := linesF_bd f p.F ⟨by omega, hL.2⟩
  unfold posE at h
  split at h
  · rename_i h1; exact absurd h h1
  · rename_i h1
    split at h
    · rename_i h2; exact absurd h h2
    · rename_i h2
      have g1 := (wi_eq _ _ _).1 (Classical.not_not.1 h1)
      have g2 := (tickE2_iff f p).1 (Classical.not_not.1 h2)
      omega

end Go.Proofs.YtmfophoejjcnlaaGreatDoor
