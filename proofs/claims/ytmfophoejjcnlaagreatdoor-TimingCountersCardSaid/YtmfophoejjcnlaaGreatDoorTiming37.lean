/- The law of the counters: the walk. -/
import Derived.Test.YtmfophoejjcnlaaGreatDoorTiming36
import Derived.Test.YtmfophoejjcnlaaGreatDoorEng3
namespace Go.Proofs.YtmfophoejjcnlaaGreatDoor
open Go.E Go.RowKit
attribute [local irreducible] G C S D Calls
set_option maxRecDepth 100000
set_option linter.unusedSimpArgs false
set_option linter.unusedVariables false

theorem PhaseR_2 (f : Fmt) (t : Int) : (PhaseR f t).2 = checkT f t := by unfold PhaseR; split <;> simp_all
theorem checkT_no {f : Fmt} {t : Int} (h : ¬ checkF f = 0) : checkT f t = checkF f := by unfold checkT; simp [firstL, h]
theorem tickN_zero (f : Fmt) {p : Pos} (h : p.R = 0 ∧ p.F = 0 ∧ p.L = 0 ∧ p.S = 0) : tickN f p = 0 := by
  obtain ⟨h1, h2, h3, h4⟩ := h
  unfold tickN
  rw [h1, h2, h3, h4]
  simp
theorem posE_zero {f : Fmt} (hv : Valid f) {p : Pos} (h : p.R = 0 ∧ p.F = 0 ∧ p.L = 0 ∧ p.S = 0) : posE f p = 0 := by
  have hn := tickN_zero f h
  obtain ⟨h1, h2, h3, h4⟩ := h
  have hS := hv.S
  have hL := hv.L
  have hF := hv.F
  have e1 : tickE1 f p = 0 := (wi_eq _ _ _).2 (by omega)
  have hl : 1 ≤ linesF f p.F := by unfold linesF exA; split <;> (try split) <;> omega
  have e2 : tickE2 f p = 0 := (tickE2_iff f p).2 (by omega)
  unfold posE
  rw [if_neg (by simp [e1]), if_neg (by simp [e2]), hn]
  rfl
/-- The tick that Tick returns is the reference's, where there is one. -/
theorem TickR_eq {f : Fmt} (hv : Valid f) (p : Pos) : TickR f p = if posE f p = 0 then (tickN f p, 0) else (0, posE f p) := by
  have hf := (valid_iff f).2 hv
  unfold TickR
  rw [if_neg (by simp [hf])]
  unfold tickR
  split
  · rename_i h
    rw [if_pos (posE_zero hv h), tickN_zero f h]
  · unfold posE
    split
    · rename_i h
      simp [h]
    · split
      · rename_i h
        simp [h]
      · unfold wh
        by_cases hn : 10000000 < tickN f p
        · rw [if_pos hn]; simp [hn]
        · rw [if_neg hn]; simp [hn]
theorem posE_ok {f : Fmt} {p : Pos} (hv : Valid f) (h : posE f p = 0) : (0 ≤ p.R ∧ p.R ≤ 10000000) ∧ (0 ≤ p.F ∧ p.F ≤ f.F - 1) ∧ (0 ≤ p.L ∧ p.L ≤ 2000) ∧ (0 ≤ p.S ∧ p.S ≤ 2000) := by
  have hL := hv.L
  have hS := hv.S
  have hl := linesF_bd f p.F ⟨by omega, hL.2⟩
  unfold posE at h
  split at h
  · rename_i h1; exact absurd h h1
  · rename_i h1
    split at h
    · rename_i h2; exact absurd h h2
    · rename_i h2
      have g1 := (wi_eq _ _ _).1 (Classical.not_not.1 h1)
      have g2 := (tickE2_iff f p).1 (Classical.not_not.1 h2)
      omega

set_option maxHeartbeats 2000000 in
/-- genlocklaw04.TimingCounters -/
theorem lCounters_c (f : Fmt) (p : Pos) (t : Int) (w : World) (hE : Ex w) (hP : Pw w) : Calls Tryz.prog 3 #[.agg #[.int .i64 f.S, .int .i64 f.L, .int .i64 f.F, .int .i64 f.B, .int .i64 f.Y, .int .i64 f.V, .int .i64 f.C], .agg #[.int .i64 p.R, .int .i64 p.F, .int .i64 p.L, .int .i64 p.S], .int .i64 t] w fun r w' => r = .returned (.bool true) ∧ Below w.heap.size w w' := by
  refine calls_of (args := [.agg #[.int .i64 f.S, .int .i64 f.L, .int .i64 f.F, .int .i64 f.B, .int .i64 f.Y, .int .i64 f.V, .int .i64 f.C], .agg #[.int .i64 p.R, .int .i64 p.F, .int .i64 p.L, .int .i64 p.S], .int .i64 t]) T_ok Tryz.func3 rfl Tryz.ntmps3 (Nat.le_of_ble_eq_true rfl) rfl ?_
  have hPh2 := PhaseR_2 f t
  by_cases hF0 : checkF f = 0
  · have hv := (valid_iff f).1 hF0
    have hT := TickR_eq hv p
    have hF1 := hv.F
    by_cases hT0 : checkT f t = 0
    · have hT0' : firstL [checkF f, wi t 0 10000000] = 0 := hT0
      have ht := ((checkT_iff f t).1 hT0).2
      have hA : atE f t = atF f t := if_pos hT0
      have hPh : (PhaseR f t).1 = ((atF f t).R * f.F + (atF f t).F) % f.C := by unfold PhaseR; rw [if_neg (by simp [hT0]), hA]
      by_cases hp0 : posE f p = 0
      · obtain ⟨hb1, hb2, hb3, hb4⟩ := posE_ok hv hp0
        have hT1 : TickR f p = (tickN f p, 0) := by rw [hT, if_pos hp0]
        have hR1 : RowR f p = (p.L * f.F + p.F, 0) := by unfold RowR; rw [if_neg (by simp [hT1])]
        repeat' (first
 | (refine C_id ?_; first
 | refine C_seq ?_
 | refine C_region rfl ?_
 | refine C_block ?_
 | refine C_skip ?_
 | refine C_exit ?_
 | refine C_ret0 ?_
 | refine C_drawT (id := 11) 6 rfl mixed (by kernel_rfl) rfl rfl ?_
 | refine C_draw (id := 15) rfl mixed (by kernel_rfl) ?_
 | refine C_condT rfl (by (repeat' (first | exact trivial | apply And.intro | rfl | omega | intro _ | (simp only [obS] at *; omega))); first | done | fail) ?_
 | refine C_condF rfl (by (repeat' (first | exact trivial | apply And.intro | rfl | omega | intro _ | (simp only [obS] at *; omega))); first | done | fail) ?_
 | (refine C_cond rfl (by (repeat' (first | exact trivial | apply And.intro | rfl | omega | intro _ | (simp only [obS] at *; omega))); first | done | fail) (fun h => ?_) (fun h => ?_) <;> (try simp only [Bool.or_eq_true, Bool.and_eq_true, Bool.or_eq_false_iff, Bool.and_eq_false_iff, decide_eq_true_eq, decide_eq_false_iff_not, beq_iff_eq, bne_iff_ne, beq_eq_false_iff_ne, bne_eq_false_iff_eq, ne_eq, Decidable.not_not, List.cons.injEq, and_true, Bool.not_eq_true', Bool.not_eq_false', Int.not_lt, Int.not_le] at h) <;> (try (exfalso; omega)) <;> (try (exfalso; simp at h; done)) <;> (try (exfalso; simp only [not_true_eq_false, false_or, or_false] at h; omega)) <;> (try contradiction))
              )
 | (refine S_id ?_; first
 | ((with_reducible refine S_trueE ?_ ?_); · (first | exact beq_self_eq_true _ | (rw [beq_iff_eq]; first | rfl | assumption | (simp only [hA, hPh, hPh2, hT1, hR1, hp0]; done) | (simp [hA, hPh, hPh2, hT1, hR1, hp0]; done))))
 | ((with_reducible refine S_trueB ?_ ?_); · (first | exact beq_self_eq_true _ | (rw [beq_iff_eq]; first | rfl | assumption | (simp only [hA, hPh, hPh2, hT1, hR1, hp0]; done) | (simp [hA, hPh, hPh2, hT1, hR1, hp0]; done))))
 | ((with_reducible refine S_trueL ?_ ?_); · (first | exact beq_self_eq_true _ | (rw [beq_iff_eq]; first | rfl | assumption | (simp only [hA, hPh, hPh2, hT1, hR1, hp0]; done) | (simp [hA, hPh, hPh2, hT1, hR1, hp0]; done))))
 | ((with_reducible refine S_trueD ?_ ?_); · (first | exact beq_self_eq_true _ | (rw [beq_iff_eq]; first | rfl | assumption | (simp only [hA, hPh, hPh2, hT1, hR1, hp0]; done) | (simp [hA, hPh, hPh2, hT1, hR1, hp0]; done))))
 | ((with_reducible refine S_trueA ?_ ?_ ?_); (· rfl); (· first | rfl | (first | exact beq_self_eq_true _ | (rw [beq_iff_eq]; first | rfl | assumption | (simp only [hA, hPh, hPh2, hT1, hR1, hp0]; done) | (simp [hA, hPh, hPh2, hT1, hR1, hp0]; done)))))
 | refine S_unG rfl rfl rfl rfl ?_
 | refine S_pure (binX_pure rfl (by (repeat' (first | exact trivial | apply And.intro | rfl | omega | intro _ | (simp only [obS] at *; omega))); first | done | fail) (fun w => eq_flat (k := .i64) (n := 4) (xs := [(atE f t).R, (atE f t).F, (atE f t).L, (atE f t).S]) (ys := [(atF f t).R, (atF f t).F, (atF f t).L, (atF f t).S]) (by kernel_rfl) rfl rfl _ _ w)) ?_
 | refine S_nil ?_
 | refine S_runN rfl rfl (by (repeat' (first | exact trivial | apply And.intro | rfl | omega | intro _ | (simp only [obS] at *; omega))); first | done | fail) (by (repeat' (first | exact trivial | apply And.intro | rfl | omega | intro _ | (simp only [obS] at *; omega))); first | done | fail) ?_
 | refine S_box (fun b => ⟨_, _, rfl, (by (repeat' (first | exact trivial | apply And.intro | rfl | omega | intro _ | (simp only [obS] at *; omega))); first | done | fail), ?_⟩)
 | refine S_slice (fun b => ⟨_, _, rfl, (by (repeat' (first | exact trivial | apply And.intro | rfl | omega | intro _ | (simp only [obS] at *; omega))); first | done | fail), ?_⟩)
 | refine S_call (f := 14) rfl (by (repeat' (first | exact trivial | apply And.intro | rfl | omega | intro _ | (simp only [obS] at *; omega))); first | done | fail) (by kernel_rfl) (fun w hw => At_c f t w (hw.rdm hE.toS (by repeat (first | exact List.Mem.head _ | apply List.Mem.tail)))) ?_
 | refine S_call (f := 15) rfl (by (repeat' (first | exact trivial | apply And.intro | rfl | omega | intro _ | (simp only [obS] at *; omega))); first | done | fail) (by kernel_rfl) (fun w hw => Tick_c f p w (hw.rdm hE.toS (by repeat (first | exact List.Mem.head _ | apply List.Mem.tail)))) ?_
 | refine S_call (f := 16) rfl (by (repeat' (first | exact trivial | apply And.intro | rfl | omega | intro _ | (simp only [obS] at *; omega))); first | done | fail) (by kernel_rfl) (fun w hw => Row_c f p w (hw.rdm hE.toS (by repeat (first | exact List.Mem.head _ | apply List.Mem.tail)))) ?_
 | refine S_call (f := 17) rfl (by (repeat' (first | exact trivial | apply And.intro | rfl | omega | intro _ | (simp only [obS] at *; omega))); first | done | fail) (by kernel_rfl) (fun w hw => Phase_c f t w (hw.rdm hE.toS (by repeat (first | exact List.Mem.head _ | apply List.Mem.tail)))) ?_
 | refine S_call (f := 18) rfl (by (repeat' (first | exact trivial | apply And.intro | rfl | omega | intro _ | (simp only [obS] at *; omega))); first | done | fail) (by kernel_rfl) (fun w hw => rCheckFormat_c f w) ?_
 | refine S_call (f := 20) rfl (by (repeat' (first | exact trivial | apply And.intro | rfl | omega | intro _ | (simp only [obS] at *; omega))); first | done | fail) (by kernel_rfl) (fun w hw => rCheckTick_c t w) ?_
 | refine S_call (f := 19) rfl (by (repeat' (first | exact trivial | apply And.intro | rfl | omega | intro _ | (simp only [obS] at *; omega))); first | done | fail) (by kernel_rfl) (fun w hw => lfirst_c _ _ [checkF f, wi t 0 10000000] (by simp) w (.inr ⟨_, rfl, by first | exact hw.src (i := 0) rfl rfl | exact hw.src (i := 1) rfl rfl | exact hw.src (i := 2) rfl rfl | exact hw.src (i := 3) rfl rfl | exact hw.src (i := 4) rfl rfl | exact hw.src (i := 5) rfl rfl | exact hw.src (i := 6) rfl rfl | exact hw.src (i := 7) rfl rfl⟩)) ?_
 | refine S_call (f := 26) rfl (by (repeat' (first | exact trivial | apply And.intro | rfl | omega | intro _ | (simp only [obS] at *; omega))); first | done | fail) (by kernel_rfl) (fun w hw => checkFormat_c f w) ?_
 | refine S_call (f := 27) rfl (by (repeat' (first | exact trivial | apply And.intro | rfl | omega | intro _ | (simp only [obS] at *; omega))); first | done | fail) (by kernel_rfl) (fun w hw => awake_c w (hw.rdm hE.toS (by repeat (first | exact List.Mem.head _ | apply List.Mem.tail))) (Pw_at hP hw (by repeat (first | exact List.Mem.head _ | apply List.Mem.tail)))) ?_
 | refine S_call (f := 21) rfl (by (repeat' (first | exact trivial | apply And.intro | rfl | omega | intro _ | (simp only [obS] at *; omega))); first | done | fail) (by kernel_rfl) (fun w hw => rAt_c f t hv (by omega) w) ?_
 | refine S_call (f := 22) rfl (by (repeat' (first | exact trivial | apply And.intro | rfl | omega | intro _ | (simp only [obS] at *; omega))); first | done | fail) (by kernel_rfl) (fun w hw => rPhase_c f t hv (by omega) w) ?_
 | refine S_call (f := 23) rfl (by (repeat' (first | exact trivial | apply And.intro | rfl | omega | intro _ | (simp only [obS] at *; omega))); first | done | fail) (by kernel_rfl) (fun w hw => rCheckPosition_c f p hv w) ?_
 | refine S_call (f := 24) rfl (by (repeat' (first | exact trivial | apply And.intro | rfl | omega | intro _ | (simp only [obS] at *; omega))); first | done | fail) (by kernel_rfl) (fun w hw => rTick_c f p hv (by omega) (by omega) (by omega) (by omega) w) ?_
 | refine S_call (f := 25) rfl (by (repeat' (first | exact trivial | apply And.intro | rfl | omega | intro _ | (simp only [obS] at *; omega))); first | done | fail) (by kernel_rfl) (fun w hw => rRow_c f p (by have := hv.F; omega) (by omega) (by omega) w) ?_
              )
 | (refine D_id ?_; first
 | refine D_nil ?_
 | refine D_tail ?_
 | refine D_run rfl rfl (by (repeat' (first | exact trivial | apply And.intro | rfl | omega | intro _ | (simp only [obS] at *; omega))); first | done | fail) (by (repeat' (first | exact trivial | apply And.intro | rfl | omega | intro _ | (simp only [obS] at *; omega))); first | done | fail) ?_
 | refine D_call (f := 14) rfl (by (repeat' (first | exact trivial | apply And.intro | rfl | omega | intro _ | (simp only [obS] at *; omega))); first | done | fail) (by kernel_rfl) (fun w hw => At_c f t w (hw.rdm hE.toS (by repeat (first | exact List.Mem.head _ | apply List.Mem.tail)))) ?_
 | refine D_call (f := 15) rfl (by (repeat' (first | exact trivial | apply And.intro | rfl | omega | intro _ | (simp only [obS] at *; omega))); first | done | fail) (by kernel_rfl) (fun w hw => Tick_c f p w (hw.rdm hE.toS (by repeat (first | exact List.Mem.head _ | apply List.Mem.tail)))) ?_
 | refine D_call (f := 16) rfl (by (repeat' (first | exact trivial | apply And.intro | rfl | omega | intro _ | (simp only [obS] at *; omega))); first | done | fail) (by kernel_rfl) (fun w hw => Row_c f p w (hw.rdm hE.toS (by repeat (first | exact List.Mem.head _ | apply List.Mem.tail)))) ?_
 | refine D_call (f := 17) rfl (by (repeat' (first | exact trivial | apply And.intro | rfl | omega | intro _ | (simp only [obS] at *; omega))); first | done | fail) (by kernel_rfl) (fun w hw => Phase_c f t w (hw.rdm hE.toS (by repeat (first | exact List.Mem.head _ | apply List.Mem.tail)))) ?_
 | refine D_call (f := 18) rfl (by (repeat' (first | exact trivial | apply And.intro | rfl | omega | intro _ | (simp only [obS] at *; omega))); first | done | fail) (by kernel_rfl) (fun w hw => rCheckFormat_c f w) ?_
 | refine D_call (f := 20) rfl (by (repeat' (first | exact trivial | apply And.intro | rfl | omega | intro _ | (simp only [obS] at *; omega))); first | done | fail) (by kernel_rfl) (fun w hw => rCheckTick_c t w) ?_
 | refine D_call (f := 19) rfl (by (repeat' (first | exact trivial | apply And.intro | rfl | omega | intro _ | (simp only [obS] at *; omega))); first | done | fail) (by kernel_rfl) (fun w hw => lfirst_c _ _ [checkF f, wi t 0 10000000] (by simp) w (.inr ⟨_, rfl, by first | exact hw.src (i := 0) rfl rfl | exact hw.src (i := 1) rfl rfl | exact hw.src (i := 2) rfl rfl | exact hw.src (i := 3) rfl rfl | exact hw.src (i := 4) rfl rfl | exact hw.src (i := 5) rfl rfl | exact hw.src (i := 6) rfl rfl | exact hw.src (i := 7) rfl rfl⟩)) ?_
 | refine D_call (f := 26) rfl (by (repeat' (first | exact trivial | apply And.intro | rfl | omega | intro _ | (simp only [obS] at *; omega))); first | done | fail) (by kernel_rfl) (fun w hw => checkFormat_c f w) ?_
 | refine D_call (f := 27) rfl (by (repeat' (first | exact trivial | apply And.intro | rfl | omega | intro _ | (simp only [obS] at *; omega))); first | done | fail) (by kernel_rfl) (fun w hw => awake_c w (hw.rdm hE.toS (by repeat (first | exact List.Mem.head _ | apply List.Mem.tail))) (Pw_at hP hw (by repeat (first | exact List.Mem.head _ | apply List.Mem.tail)))) ?_
 | refine D_call (f := 21) rfl (by (repeat' (first | exact trivial | apply And.intro | rfl | omega | intro _ | (simp only [obS] at *; omega))); first | done | fail) (by kernel_rfl) (fun w hw => rAt_c f t hv (by omega) w) ?_
 | refine D_call (f := 22) rfl (by (repeat' (first | exact trivial | apply And.intro | rfl | omega | intro _ | (simp only [obS] at *; omega))); first | done | fail) (by kernel_rfl) (fun w hw => rPhase_c f t hv (by omega) w) ?_
 | refine D_call (f := 23) rfl (by (repeat' (first | exact trivial | apply And.intro | rfl | omega | intro _ | (simp only [obS] at *; omega))); first | done | fail) (by kernel_rfl) (fun w hw => rCheckPosition_c f p hv w) ?_
 | refine D_call (f := 24) rfl (by (repeat' (first | exact trivial | apply And.intro | rfl | omega | intro _ | (simp only [obS] at *; omega))); first | done | fail) (by kernel_rfl) (fun w hw => rTick_c f p hv (by omega) (by omega) (by omega) (by omega) w) ?_
 | refine D_call (f := 25) rfl (by (repeat' (first | exact trivial | apply And.intro | rfl | omega | intro _ | (simp only [obS] at *; omega))); first | done | fail) (by kernel_rfl) (fun w hw => rRow_c f p (by have := hv.F; omega) (by omega) (by omega) w) ?_
              )
 | (refine G_id ?_; first
 | refine G_then ?_
 | refine G_block ?_
 | refine G_blockX ?_
 | refine G_blockN rfl ?_
 | refine G_blockR ?_
 | refine G_thenR ?_
 | refine G_thenX ?_
 | refine G_ret rfl (by (repeat' (first | exact trivial | apply And.intro | rfl | omega | intro _ | (simp only [obS] at *; omega))); first | done | fail) (fun w hw => ⟨?_, hw.below⟩)
              )
            )
        all_goals rfl
      · have hT1 : TickR f p = (0, posE f p) := by rw [hT, if_neg hp0]
        have hR1 : RowR f p = (0, posE f p) := by unfold RowR; rw [if_pos (by simpa [hT1] using hp0), hT1]
        repeat' (first
 | (refine C_id ?_; first
 | refine C_seq ?_
 | refine C_region rfl ?_
 | refine C_block ?_
 | refine C_skip ?_
 | refine C_exit ?_
 | refine C_ret0 ?_
 | refine C_drawT (id := 11) 6 rfl mixed (by kernel_rfl) rfl rfl ?_
 | refine C_draw (id := 15) rfl mixed (by kernel_rfl) ?_
 | refine C_condT rfl (by (repeat' (first | exact trivial | apply And.intro | rfl | omega | intro _ | (simp only [obS] at *; omega))); first | done | fail) ?_
 | refine C_condF rfl (by (repeat' (first | exact trivial | apply And.intro | rfl | omega | intro _ | (simp only [obS] at *; omega))); first | done | fail) ?_
 | (refine C_cond rfl (by (repeat' (first | exact trivial | apply And.intro | rfl | omega | intro _ | (simp only [obS] at *; omega))); first | done | fail) (fun h => ?_) (fun h => ?_) <;> (try simp only [Bool.or_eq_true, Bool.and_eq_true, Bool.or_eq_false_iff, Bool.and_eq_false_iff, decide_eq_true_eq, decide_eq_false_iff_not, beq_iff_eq, bne_iff_ne, beq_eq_false_iff_ne, bne_eq_false_iff_eq, ne_eq, Decidable.not_not, List.cons.injEq, and_true, Bool.not_eq_true', Bool.not_eq_false', Int.not_lt, Int.not_le] at h) <;> (try (exfalso; omega)) <;> (try (exfalso; simp at h; done)) <;> (try (exfalso; simp only [not_true_eq_false, false_or, or_false] at h; omega)) <;> (try contradiction))
              )
 | (refine S_id ?_; first
 | ((with_reducible refine S_trueE ?_ ?_); · (first | exact beq_self_eq_true _ | (rw [beq_iff_eq]; first | rfl | assumption | (simp only [hA, hPh, hPh2, hT1, hR1]; done) | (simp [hA, hPh, hPh2, hT1, hR1]; done))))
 | ((with_reducible refine S_trueB ?_ ?_); · (first | exact beq_self_eq_true _ | (rw [beq_iff_eq]; first | rfl | assumption | (simp only [hA, hPh, hPh2, hT1, hR1]; done) | (simp [hA, hPh, hPh2, hT1, hR1]; done))))
 | ((with_reducible refine S_trueL ?_ ?_); · (first | exact beq_self_eq_true _ | (rw [beq_iff_eq]; first | rfl | assumption | (simp only [hA, hPh, hPh2, hT1, hR1]; done) | (simp [hA, hPh, hPh2, hT1, hR1]; done))))
 | ((with_reducible refine S_trueD ?_ ?_); · (first | exact beq_self_eq_true _ | (rw [beq_iff_eq]; first | rfl | assumption | (simp only [hA, hPh, hPh2, hT1, hR1]; done) | (simp [hA, hPh, hPh2, hT1, hR1]; done))))
 | ((with_reducible refine S_trueA ?_ ?_ ?_); (· rfl); (· first | rfl | (first | exact beq_self_eq_true _ | (rw [beq_iff_eq]; first | rfl | assumption | (simp only [hA, hPh, hPh2, hT1, hR1]; done) | (simp [hA, hPh, hPh2, hT1, hR1]; done)))))
 | refine S_unG rfl rfl rfl rfl ?_
 | refine S_pure (binX_pure rfl (by (repeat' (first | exact trivial | apply And.intro | rfl | omega | intro _ | (simp only [obS] at *; omega))); first | done | fail) (fun w => eq_flat (k := .i64) (n := 4) (xs := [(atE f t).R, (atE f t).F, (atE f t).L, (atE f t).S]) (ys := [(atF f t).R, (atF f t).F, (atF f t).L, (atF f t).S]) (by kernel_rfl) rfl rfl _ _ w)) ?_
 | refine S_nil ?_
 | refine S_runN rfl rfl (by (repeat' (first | exact trivial | apply And.intro | rfl | omega | intro _ | (simp only [obS] at *; omega))); first | done | fail) (by (repeat' (first | exact trivial | apply And.intro | rfl | omega | intro _ | (simp only [obS] at *; omega))); first | done | fail) ?_
 | refine S_box (fun b => ⟨_, _, rfl, (by (repeat' (first | exact trivial | apply And.intro | rfl | omega | intro _ | (simp only [obS] at *; omega))); first | done | fail), ?_⟩)
 | refine S_slice (fun b => ⟨_, _, rfl, (by (repeat' (first | exact trivial | apply And.intro | rfl | omega | intro _ | (simp only [obS] at *; omega))); first | done | fail), ?_⟩)
 | refine S_call (f := 14) rfl (by (repeat' (first | exact trivial | apply And.intro | rfl | omega | intro _ | (simp only [obS] at *; omega))); first | done | fail) (by kernel_rfl) (fun w hw => At_c f t w (hw.rdm hE.toS (by repeat (first | exact List.Mem.head _ | apply List.Mem.tail)))) ?_
 | refine S_call (f := 15) rfl (by (repeat' (first | exact trivial | apply And.intro | rfl | omega | intro _ | (simp only [obS] at *; omega))); first | done | fail) (by kernel_rfl) (fun w hw => Tick_c f p w (hw.rdm hE.toS (by repeat (first | exact List.Mem.head _ | apply List.Mem.tail)))) ?_
 | refine S_call (f := 16) rfl (by (repeat' (first | exact trivial | apply And.intro | rfl | omega | intro _ | (simp only [obS] at *; omega))); first | done | fail) (by kernel_rfl) (fun w hw => Row_c f p w (hw.rdm hE.toS (by repeat (first | exact List.Mem.head _ | apply List.Mem.tail)))) ?_
 | refine S_call (f := 17) rfl (by (repeat' (first | exact trivial | apply And.intro | rfl | omega | intro _ | (simp only [obS] at *; omega))); first | done | fail) (by kernel_rfl) (fun w hw => Phase_c f t w (hw.rdm hE.toS (by repeat (first | exact List.Mem.head _ | apply List.Mem.tail)))) ?_
 | refine S_call (f := 18) rfl (by (repeat' (first | exact trivial | apply And.intro | rfl | omega | intro _ | (simp only [obS] at *; omega))); first | done | fail) (by kernel_rfl) (fun w hw => rCheckFormat_c f w) ?_
 | refine S_call (f := 20) rfl (by (repeat' (first | exact trivial | apply And.intro | rfl | omega | intro _ | (simp only [obS] at *; omega))); first | done | fail) (by kernel_rfl) (fun w hw => rCheckTick_c t w) ?_
 | refine S_call (f := 19) rfl (by (repeat' (first | exact trivial | apply And.intro | rfl | omega | intro _ | (simp only [obS] at *; omega))); first | done | fail) (by kernel_rfl) (fun w hw => lfirst_c _ _ [checkF f, wi t 0 10000000] (by simp) w (.inr ⟨_, rfl, by first | exact hw.src (i := 0) rfl rfl | exact hw.src (i := 1) rfl rfl | exact hw.src (i := 2) rfl rfl | exact hw.src (i := 3) rfl rfl | exact hw.src (i := 4) rfl rfl | exact hw.src (i := 5) rfl rfl | exact hw.src (i := 6) rfl rfl | exact hw.src (i := 7) rfl rfl⟩)) ?_
 | refine S_call (f := 26) rfl (by (repeat' (first | exact trivial | apply And.intro | rfl | omega | intro _ | (simp only [obS] at *; omega))); first | done | fail) (by kernel_rfl) (fun w hw => checkFormat_c f w) ?_
 | refine S_call (f := 27) rfl (by (repeat' (first | exact trivial | apply And.intro | rfl | omega | intro _ | (simp only [obS] at *; omega))); first | done | fail) (by kernel_rfl) (fun w hw => awake_c w (hw.rdm hE.toS (by repeat (first | exact List.Mem.head _ | apply List.Mem.tail))) (Pw_at hP hw (by repeat (first | exact List.Mem.head _ | apply List.Mem.tail)))) ?_
 | refine S_call (f := 21) rfl (by (repeat' (first | exact trivial | apply And.intro | rfl | omega | intro _ | (simp only [obS] at *; omega))); first | done | fail) (by kernel_rfl) (fun w hw => rAt_c f t hv (by omega) w) ?_
 | refine S_call (f := 22) rfl (by (repeat' (first | exact trivial | apply And.intro | rfl | omega | intro _ | (simp only [obS] at *; omega))); first | done | fail) (by kernel_rfl) (fun w hw => rPhase_c f t hv (by omega) w) ?_
 | refine S_call (f := 23) rfl (by (repeat' (first | exact trivial | apply And.intro | rfl | omega | intro _ | (simp only [obS] at *; omega))); first | done | fail) (by kernel_rfl) (fun w hw => rCheckPosition_c f p hv w) ?_
              )
 | (refine D_id ?_; first
 | refine D_nil ?_
 | refine D_tail ?_
 | refine D_run rfl rfl (by (repeat' (first | exact trivial | apply And.intro | rfl | omega | intro _ | (simp only [obS] at *; omega))); first | done | fail) (by (repeat' (first | exact trivial | apply And.intro | rfl | omega | intro _ | (simp only [obS] at *; omega))); first | done | fail) ?_
 | refine D_call (f := 14) rfl (by (repeat' (first | exact trivial | apply And.intro | rfl | omega | intro _ | (simp only [obS] at *; omega))); first | done | fail) (by kernel_rfl) (fun w hw => At_c f t w (hw.rdm hE.toS (by repeat (first | exact List.Mem.head _ | apply List.Mem.tail)))) ?_
 | refine D_call (f := 15) rfl (by (repeat' (first | exact trivial | apply And.intro | rfl | omega | intro _ | (simp only [obS] at *; omega))); first | done | fail) (by kernel_rfl) (fun w hw => Tick_c f p w (hw.rdm hE.toS (by repeat (first | exact List.Mem.head _ | apply List.Mem.tail)))) ?_
 | refine D_call (f := 16) rfl (by (repeat' (first | exact trivial | apply And.intro | rfl | omega | intro _ | (simp only [obS] at *; omega))); first | done | fail) (by kernel_rfl) (fun w hw => Row_c f p w (hw.rdm hE.toS (by repeat (first | exact List.Mem.head _ | apply List.Mem.tail)))) ?_
 | refine D_call (f := 17) rfl (by (repeat' (first | exact trivial | apply And.intro | rfl | omega | intro _ | (simp only [obS] at *; omega))); first | done | fail) (by kernel_rfl) (fun w hw => Phase_c f t w (hw.rdm hE.toS (by repeat (first | exact List.Mem.head _ | apply List.Mem.tail)))) ?_
 | refine D_call (f := 18) rfl (by (repeat' (first | exact trivial | apply And.intro | rfl | omega | intro _ | (simp only [obS] at *; omega))); first | done | fail) (by kernel_rfl) (fun w hw => rCheckFormat_c f w) ?_
 | refine D_call (f := 20) rfl (by (repeat' (first | exact trivial | apply And.intro | rfl | omega | intro _ | (simp only [obS] at *; omega))); first | done | fail) (by kernel_rfl) (fun w hw => rCheckTick_c t w) ?_
 | refine D_call (f := 19) rfl (by (repeat' (first | exact trivial | apply And.intro | rfl | omega | intro _ | (simp only [obS] at *; omega))); first | done | fail) (by kernel_rfl) (fun w hw => lfirst_c _ _ [checkF f, wi t 0 10000000] (by simp) w (.inr ⟨_, rfl, by first | exact hw.src (i := 0) rfl rfl | exact hw.src (i := 1) rfl rfl | exact hw.src (i := 2) rfl rfl | exact hw.src (i := 3) rfl rfl | exact hw.src (i := 4) rfl rfl | exact hw.src (i := 5) rfl rfl | exact hw.src (i := 6) rfl rfl | exact hw.src (i := 7) rfl rfl⟩)) ?_
 | refine D_call (f := 26) rfl (by (repeat' (first | exact trivial | apply And.intro | rfl | omega | intro _ | (simp only [obS] at *; omega))); first | done | fail) (by kernel_rfl) (fun w hw => checkFormat_c f w) ?_
 | refine D_call (f := 27) rfl (by (repeat' (first | exact trivial | apply And.intro | rfl | omega | intro _ | (simp only [obS] at *; omega))); first | done | fail) (by kernel_rfl) (fun w hw => awake_c w (hw.rdm hE.toS (by repeat (first | exact List.Mem.head _ | apply List.Mem.tail))) (Pw_at hP hw (by repeat (first | exact List.Mem.head _ | apply List.Mem.tail)))) ?_
 | refine D_call (f := 21) rfl (by (repeat' (first | exact trivial | apply And.intro | rfl | omega | intro _ | (simp only [obS] at *; omega))); first | done | fail) (by kernel_rfl) (fun w hw => rAt_c f t hv (by omega) w) ?_
 | refine D_call (f := 22) rfl (by (repeat' (first | exact trivial | apply And.intro | rfl | omega | intro _ | (simp only [obS] at *; omega))); first | done | fail) (by kernel_rfl) (fun w hw => rPhase_c f t hv (by omega) w) ?_
 | refine D_call (f := 23) rfl (by (repeat' (first | exact trivial | apply And.intro | rfl | omega | intro _ | (simp only [obS] at *; omega))); first | done | fail) (by kernel_rfl) (fun w hw => rCheckPosition_c f p hv w) ?_
              )
 | (refine G_id ?_; first
 | refine G_then ?_
 | refine G_block ?_
 | refine G_blockX ?_
 | refine G_blockN rfl ?_
 | refine G_blockR ?_
 | refine G_thenR ?_
 | refine G_thenX ?_
 | refine G_ret rfl (by (repeat' (first | exact trivial | apply And.intro | rfl | omega | intro _ | (simp only [obS] at *; omega))); first | done | fail) (fun w hw => ⟨?_, hw.below⟩)
              )
            )
        all_goals rfl
    · have hT0' : ¬ firstL [checkF f, wi t 0 10000000] = 0 := hT0
      have hA : atE f t = ⟨0, 0, 0, 0⟩ := if_neg hT0
      have hPh : (PhaseR f t).1 = 0 := by unfold PhaseR; rw [if_pos hT0]
      by_cases hp0 : posE f p = 0
      · obtain ⟨hb1, hb2, hb3, hb4⟩ := posE_ok hv hp0
        have hT1 : TickR f p = (tickN f p, 0) := by rw [hT, if_pos hp0]
        have hR1 : RowR f p = (p.L * f.F + p.F, 0) := by unfold RowR; rw [if_neg (by simp [hT1])]
        repeat' (first
 | (refine C_id ?_; first
 | refine C_seq ?_
 | refine C_region rfl ?_
 | refine C_block ?_
 | refine C_skip ?_
 | refine C_exit ?_
 | refine C_ret0 ?_
 | refine C_drawT (id := 11) 6 rfl mixed (by kernel_rfl) rfl rfl ?_
 | refine C_draw (id := 15) rfl mixed (by kernel_rfl) ?_
 | refine C_condT rfl (by (repeat' (first | exact trivial | apply And.intro | rfl | omega | intro _ | (simp only [obS] at *; omega))); first | done | fail) ?_
 | refine C_condF rfl (by (repeat' (first | exact trivial | apply And.intro | rfl | omega | intro _ | (simp only [obS] at *; omega))); first | done | fail) ?_
 | (refine C_cond rfl (by (repeat' (first | exact trivial | apply And.intro | rfl | omega | intro _ | (simp only [obS] at *; omega))); first | done | fail) (fun h => ?_) (fun h => ?_) <;> (try simp only [Bool.or_eq_true, Bool.and_eq_true, Bool.or_eq_false_iff, Bool.and_eq_false_iff, decide_eq_true_eq, decide_eq_false_iff_not, beq_iff_eq, bne_iff_ne, beq_eq_false_iff_ne, bne_eq_false_iff_eq, ne_eq, Decidable.not_not, List.cons.injEq, and_true, Bool.not_eq_true', Bool.not_eq_false', Int.not_lt, Int.not_le] at h) <;> (try (exfalso; omega)) <;> (try (exfalso; simp at h; done)) <;> (try (exfalso; simp only [not_true_eq_false, false_or, or_false] at h; omega)) <;> (try contradiction))
              )
 | (refine S_id ?_; first
 | ((with_reducible refine S_trueE ?_ ?_); · (first | exact beq_self_eq_true _ | (rw [beq_iff_eq]; first | rfl | assumption | (simp only [hA, hPh, hPh2, hT1, hR1, hp0]; done) | (simp [hA, hPh, hPh2, hT1, hR1, hp0]; done))))
 | ((with_reducible refine S_trueB ?_ ?_); · (first | exact beq_self_eq_true _ | (rw [beq_iff_eq]; first | rfl | assumption | (simp only [hA, hPh, hPh2, hT1, hR1, hp0]; done) | (simp [hA, hPh, hPh2, hT1, hR1, hp0]; done))))
 | ((with_reducible refine S_trueL ?_ ?_); · (first | exact beq_self_eq_true _ | (rw [beq_iff_eq]; first | rfl | assumption | (simp only [hA, hPh, hPh2, hT1, hR1, hp0]; done) | (simp [hA, hPh, hPh2, hT1, hR1, hp0]; done))))
 | ((with_reducible refine S_trueD ?_ ?_); · (first | exact beq_self_eq_true _ | (rw [beq_iff_eq]; first | rfl | assumption | (simp only [hA, hPh, hPh2, hT1, hR1, hp0]; done) | (simp [hA, hPh, hPh2, hT1, hR1, hp0]; done))))
 | ((with_reducible refine S_trueA ?_ ?_ ?_); (· rfl); (· first | rfl | (first | exact beq_self_eq_true _ | (rw [beq_iff_eq]; first | rfl | assumption | (simp only [hA, hPh, hPh2, hT1, hR1, hp0]; done) | (simp [hA, hPh, hPh2, hT1, hR1, hp0]; done)))))
 | refine S_unG rfl rfl rfl rfl ?_
 | refine S_pure (binX_pure rfl (by (repeat' (first | exact trivial | apply And.intro | rfl | omega | intro _ | (simp only [obS] at *; omega))); first | done | fail) (fun w => eq_flat (k := .i64) (n := 4) (xs := [(atE f t).R, (atE f t).F, (atE f t).L, (atE f t).S]) (ys := [0, 0, 0, 0]) (by kernel_rfl) rfl rfl _ _ w)) ?_
 | refine S_nil ?_
 | refine S_runN rfl rfl (by (repeat' (first | exact trivial | apply And.intro | rfl | omega | intro _ | (simp only [obS] at *; omega))); first | done | fail) (by (repeat' (first | exact trivial | apply And.intro | rfl | omega | intro _ | (simp only [obS] at *; omega))); first | done | fail) ?_
 | refine S_box (fun b => ⟨_, _, rfl, (by (repeat' (first | exact trivial | apply And.intro | rfl | omega | intro _ | (simp only [obS] at *; omega))); first | done | fail), ?_⟩)
 | refine S_slice (fun b => ⟨_, _, rfl, (by (repeat' (first | exact trivial | apply And.intro | rfl | omega | intro _ | (simp only [obS] at *; omega))); first | done | fail), ?_⟩)
 | refine S_call (f := 14) rfl (by (repeat' (first | exact trivial | apply And.intro | rfl | omega | intro _ | (simp only [obS] at *; omega))); first | done | fail) (by kernel_rfl) (fun w hw => At_c f t w (hw.rdm hE.toS (by repeat (first | exact List.Mem.head _ | apply List.Mem.tail)))) ?_
 | refine S_call (f := 15) rfl (by (repeat' (first | exact trivial | apply And.intro | rfl | omega | intro _ | (simp only [obS] at *; omega))); first | done | fail) (by kernel_rfl) (fun w hw => Tick_c f p w (hw.rdm hE.toS (by repeat (first | exact List.Mem.head _ | apply List.Mem.tail)))) ?_
 | refine S_call (f := 16) rfl (by (repeat' (first | exact trivial | apply And.intro | rfl | omega | intro _ | (simp only [obS] at *; omega))); first | done | fail) (by kernel_rfl) (fun w hw => Row_c f p w (hw.rdm hE.toS (by repeat (first | exact List.Mem.head _ | apply List.Mem.tail)))) ?_
 | refine S_call (f := 17) rfl (by (repeat' (first | exact trivial | apply And.intro | rfl | omega | intro _ | (simp only [obS] at *; omega))); first | done | fail) (by kernel_rfl) (fun w hw => Phase_c f t w (hw.rdm hE.toS (by repeat (first | exact List.Mem.head _ | apply List.Mem.tail)))) ?_
 | refine S_call (f := 18) rfl (by (repeat' (first | exact trivial | apply And.intro | rfl | omega | intro _ | (simp only [obS] at *; omega))); first | done | fail) (by kernel_rfl) (fun w hw => rCheckFormat_c f w) ?_
 | refine S_call (f := 20) rfl (by (repeat' (first | exact trivial | apply And.intro | rfl | omega | intro _ | (simp only [obS] at *; omega))); first | done | fail) (by kernel_rfl) (fun w hw => rCheckTick_c t w) ?_
 | refine S_call (f := 19) rfl (by (repeat' (first | exact trivial | apply And.intro | rfl | omega | intro _ | (simp only [obS] at *; omega))); first | done | fail) (by kernel_rfl) (fun w hw => lfirst_c _ _ [checkF f, wi t 0 10000000] (by simp) w (.inr ⟨_, rfl, by first | exact hw.src (i := 0) rfl rfl | exact hw.src (i := 1) rfl rfl | exact hw.src (i := 2) rfl rfl | exact hw.src (i := 3) rfl rfl | exact hw.src (i := 4) rfl rfl | exact hw.src (i := 5) rfl rfl | exact hw.src (i := 6) rfl rfl | exact hw.src (i := 7) rfl rfl⟩)) ?_
 | refine S_call (f := 26) rfl (by (repeat' (first | exact trivial | apply And.intro | rfl | omega | intro _ | (simp only [obS] at *; omega))); first | done | fail) (by kernel_rfl) (fun w hw => checkFormat_c f w) ?_
 | refine S_call (f := 27) rfl (by (repeat' (first | exact trivial | apply And.intro | rfl | omega | intro _ | (simp only [obS] at *; omega))); first | done | fail) (by kernel_rfl) (fun w hw => awake_c w (hw.rdm hE.toS (by repeat (first | exact List.Mem.head _ | apply List.Mem.tail))) (Pw_at hP hw (by repeat (first | exact List.Mem.head _ | apply List.Mem.tail)))) ?_
 | refine S_call (f := 23) rfl (by (repeat' (first | exact trivial | apply And.intro | rfl | omega | intro _ | (simp only [obS] at *; omega))); first | done | fail) (by kernel_rfl) (fun w hw => rCheckPosition_c f p hv w) ?_
 | refine S_call (f := 24) rfl (by (repeat' (first | exact trivial | apply And.intro | rfl | omega | intro _ | (simp only [obS] at *; omega))); first | done | fail) (by kernel_rfl) (fun w hw => rTick_c f p hv (by omega) (by omega) (by omega) (by omega) w) ?_
 | refine S_call (f := 25) rfl (by (repeat' (first | exact trivial | apply And.intro | rfl | omega | intro _ | (simp only [obS] at *; omega))); first | done | fail) (by kernel_rfl) (fun w hw => rRow_c f p (by have := hv.F; omega) (by omega) (by omega) w) ?_
              )
 | (refine D_id ?_; first
 | refine D_nil ?_
 | refine D_tail ?_
 | refine D_run rfl rfl (by (repeat' (first | exact trivial | apply And.intro | rfl | omega | intro _ | (simp only [obS] at *; omega))); first | done | fail) (by (repeat' (first | exact trivial | apply And.intro | rfl | omega | intro _ | (simp only [obS] at *; omega))); first | done | fail) ?_
 | refine D_call (f := 14) rfl (by (repeat' (first | exact trivial | apply And.intro | rfl | omega | intro _ | (simp only [obS] at *; omega))); first | done | fail) (by kernel_rfl) (fun w hw => At_c f t w (hw.rdm hE.toS (by repeat (first | exact List.Mem.head _ | apply List.Mem.tail)))) ?_
 | refine D_call (f := 15) rfl (by (repeat' (first | exact trivial | apply And.intro | rfl | omega | intro _ | (simp only [obS] at *; omega))); first | done | fail) (by kernel_rfl) (fun w hw => Tick_c f p w (hw.rdm hE.toS (by repeat (first | exact List.Mem.head _ | apply List.Mem.tail)))) ?_
 | refine D_call (f := 16) rfl (by (repeat' (first | exact trivial | apply And.intro | rfl | omega | intro _ | (simp only [obS] at *; omega))); first | done | fail) (by kernel_rfl) (fun w hw => Row_c f p w (hw.rdm hE.toS (by repeat (first | exact List.Mem.head _ | apply List.Mem.tail)))) ?_
 | refine D_call (f := 17) rfl (by (repeat' (first | exact trivial | apply And.intro | rfl | omega | intro _ | (simp only [obS] at *; omega))); first | done | fail) (by kernel_rfl) (fun w hw => Phase_c f t w (hw.rdm hE.toS (by repeat (first | exact List.Mem.head _ | apply List.Mem.tail)))) ?_
 | refine D_call (f := 18) rfl (by (repeat' (first | exact trivial | apply And.intro | rfl | omega | intro _ | (simp only [obS] at *; omega))); first | done | fail) (by kernel_rfl) (fun w hw => rCheckFormat_c f w) ?_
 | refine D_call (f := 20) rfl (by (repeat' (first | exact trivial | apply And.intro | rfl | omega | intro _ | (simp only [obS] at *; omega))); first | done | fail) (by kernel_rfl) (fun w hw => rCheckTick_c t w) ?_
 | refine D_call (f := 19) rfl (by (repeat' (first | exact trivial | apply And.intro | rfl | omega | intro _ | (simp only [obS] at *; omega))); first | done | fail) (by kernel_rfl) (fun w hw => lfirst_c _ _ [checkF f, wi t 0 10000000] (by simp) w (.inr ⟨_, rfl, by first | exact hw.src (i := 0) rfl rfl | exact hw.src (i := 1) rfl rfl | exact hw.src (i := 2) rfl rfl | exact hw.src (i := 3) rfl rfl | exact hw.src (i := 4) rfl rfl | exact hw.src (i := 5) rfl rfl | exact hw.src (i := 6) rfl rfl | exact hw.src (i := 7) rfl rfl⟩)) ?_
 | refine D_call (f := 26) rfl (by (repeat' (first | exact trivial | apply And.intro | rfl | omega | intro _ | (simp only [obS] at *; omega))); first | done | fail) (by kernel_rfl) (fun w hw => checkFormat_c f w) ?_
 | refine D_call (f := 27) rfl (by (repeat' (first | exact trivial | apply And.intro | rfl | omega | intro _ | (simp only [obS] at *; omega))); first | done | fail) (by kernel_rfl) (fun w hw => awake_c w (hw.rdm hE.toS (by repeat (first | exact List.Mem.head _ | apply List.Mem.tail))) (Pw_at hP hw (by repeat (first | exact List.Mem.head _ | apply List.Mem.tail)))) ?_
 | refine D_call (f := 23) rfl (by (repeat' (first | exact trivial | apply And.intro | rfl | omega | intro _ | (simp only [obS] at *; omega))); first | done | fail) (by kernel_rfl) (fun w hw => rCheckPosition_c f p hv w) ?_
 | refine D_call (f := 24) rfl (by (repeat' (first | exact trivial | apply And.intro | rfl | omega | intro _ | (simp only [obS] at *; omega))); first | done | fail) (by kernel_rfl) (fun w hw => rTick_c f p hv (by omega) (by omega) (by omega) (by omega) w) ?_
 | refine D_call (f := 25) rfl (by (repeat' (first | exact trivial | apply And.intro | rfl | omega | intro _ | (simp only [obS] at *; omega))); first | done | fail) (by kernel_rfl) (fun w hw => rRow_c f p (by have := hv.F; omega) (by omega) (by omega) w) ?_
              )
 | (refine G_id ?_; first
 | refine G_then ?_
 | refine G_block ?_
 | refine G_blockX ?_
 | refine G_blockN rfl ?_
 | refine G_blockR ?_
 | refine G_thenR ?_
 | refine G_thenX ?_
 | refine G_ret rfl (by (repeat' (first | exact trivial | apply And.intro | rfl | omega | intro _ | (simp only [obS] at *; omega))); first | done | fail) (fun w hw => ⟨?_, hw.below⟩)
              )
            )
        all_goals rfl
      · have hT1 : TickR f p = (0, posE f p) := by rw [hT, if_neg hp0]
        have hR1 : RowR f p = (0, posE f p) := by unfold RowR; rw [if_pos (by simpa [hT1] using hp0), hT1]
        repeat' (first
 | (refine C_id ?_; first
 | refine C_seq ?_
 | refine C_region rfl ?_
 | refine C_block ?_
 | refine C_skip ?_
 | refine C_exit ?_
 | refine C_ret0 ?_
 | refine C_drawT (id := 11) 6 rfl mixed (by kernel_rfl) rfl rfl ?_
 | refine C_draw (id := 15) rfl mixed (by kernel_rfl) ?_
 | refine C_condT rfl (by (repeat' (first | exact trivial | apply And.intro | rfl | omega | intro _ | (simp only [obS] at *; omega))); first | done | fail) ?_
 | refine C_condF rfl (by (repeat' (first | exact trivial | apply And.intro | rfl | omega | intro _ | (simp only [obS] at *; omega))); first | done | fail) ?_
 | (refine C_cond rfl (by (repeat' (first | exact trivial | apply And.intro | rfl | omega | intro _ | (simp only [obS] at *; omega))); first | done | fail) (fun h => ?_) (fun h => ?_) <;> (try simp only [Bool.or_eq_true, Bool.and_eq_true, Bool.or_eq_false_iff, Bool.and_eq_false_iff, decide_eq_true_eq, decide_eq_false_iff_not, beq_iff_eq, bne_iff_ne, beq_eq_false_iff_ne, bne_eq_false_iff_eq, ne_eq, Decidable.not_not, List.cons.injEq, and_true, Bool.not_eq_true', Bool.not_eq_false', Int.not_lt, Int.not_le] at h) <;> (try (exfalso; omega)) <;> (try (exfalso; simp at h; done)) <;> (try (exfalso; simp only [not_true_eq_false, false_or, or_false] at h; omega)) <;> (try contradiction))
              )
 | (refine S_id ?_; first
 | ((with_reducible refine S_trueE ?_ ?_); · (first | exact beq_self_eq_true _ | (rw [beq_iff_eq]; first | rfl | assumption | (simp only [hA, hPh, hPh2, hT1, hR1]; done) | (simp [hA, hPh, hPh2, hT1, hR1]; done))))
 | ((with_reducible refine S_trueB ?_ ?_); · (first | exact beq_self_eq_true _ | (rw [beq_iff_eq]; first | rfl | assumption | (simp only [hA, hPh, hPh2, hT1, hR1]; done) | (simp [hA, hPh, hPh2, hT1, hR1]; done))))
 | ((with_reducible refine S_trueL ?_ ?_); · (first | exact beq_self_eq_true _ | (rw [beq_iff_eq]; first | rfl | assumption | (simp only [hA, hPh, hPh2, hT1, hR1]; done) | (simp [hA, hPh, hPh2, hT1, hR1]; done))))
 | ((with_reducible refine S_trueD ?_ ?_); · (first | exact beq_self_eq_true _ | (rw [beq_iff_eq]; first | rfl | assumption | (simp only [hA, hPh, hPh2, hT1, hR1]; done) | (simp [hA, hPh, hPh2, hT1, hR1]; done))))
 | ((with_reducible refine S_trueA ?_ ?_ ?_); (· rfl); (· first | rfl | (first | exact beq_self_eq_true _ | (rw [beq_iff_eq]; first | rfl | assumption | (simp only [hA, hPh, hPh2, hT1, hR1]; done) | (simp [hA, hPh, hPh2, hT1, hR1]; done)))))
 | refine S_unG rfl rfl rfl rfl ?_
 | refine S_pure (binX_pure rfl (by (repeat' (first | exact trivial | apply And.intro | rfl | omega | intro _ | (simp only [obS] at *; omega))); first | done | fail) (fun w => eq_flat (k := .i64) (n := 4) (xs := [(atE f t).R, (atE f t).F, (atE f t).L, (atE f t).S]) (ys := [0, 0, 0, 0]) (by kernel_rfl) rfl rfl _ _ w)) ?_
 | refine S_nil ?_
 | refine S_runN rfl rfl (by (repeat' (first | exact trivial | apply And.intro | rfl | omega | intro _ | (simp only [obS] at *; omega))); first | done | fail) (by (repeat' (first | exact trivial | apply And.intro | rfl | omega | intro _ | (simp only [obS] at *; omega))); first | done | fail) ?_
 | refine S_box (fun b => ⟨_, _, rfl, (by (repeat' (first | exact trivial | apply And.intro | rfl | omega | intro _ | (simp only [obS] at *; omega))); first | done | fail), ?_⟩)
 | refine S_slice (fun b => ⟨_, _, rfl, (by (repeat' (first | exact trivial | apply And.intro | rfl | omega | intro _ | (simp only [obS] at *; omega))); first | done | fail), ?_⟩)
 | refine S_call (f := 14) rfl (by (repeat' (first | exact trivial | apply And.intro | rfl | omega | intro _ | (simp only [obS] at *; omega))); first | done | fail) (by kernel_rfl) (fun w hw => At_c f t w (hw.rdm hE.toS (by repeat (first | exact List.Mem.head _ | apply List.Mem.tail)))) ?_
 | refine S_call (f := 15) rfl (by (repeat' (first | exact trivial | apply And.intro | rfl | omega | intro _ | (simp only [obS] at *; omega))); first | done | fail) (by kernel_rfl) (fun w hw => Tick_c f p w (hw.rdm hE.toS (by repeat (first | exact List.Mem.head _ | apply List.Mem.tail)))) ?_
 | refine S_call (f := 16) rfl (by (repeat' (first | exact trivial | apply And.intro | rfl | omega | intro _ | (simp only [obS] at *; omega))); first | done | fail) (by kernel_rfl) (fun w hw => Row_c f p w (hw.rdm hE.toS (by repeat (first | exact List.Mem.head _ | apply List.Mem.tail)))) ?_
 | refine S_call (f := 17) rfl (by (repeat' (first | exact trivial | apply And.intro | rfl | omega | intro _ | (simp only [obS] at *; omega))); first | done | fail) (by kernel_rfl) (fun w hw => Phase_c f t w (hw.rdm hE.toS (by repeat (first | exact List.Mem.head _ | apply List.Mem.tail)))) ?_
 | refine S_call (f := 18) rfl (by (repeat' (first | exact trivial | apply And.intro | rfl | omega | intro _ | (simp only [obS] at *; omega))); first | done | fail) (by kernel_rfl) (fun w hw => rCheckFormat_c f w) ?_
 | refine S_call (f := 20) rfl (by (repeat' (first | exact trivial | apply And.intro | rfl | omega | intro _ | (simp only [obS] at *; omega))); first | done | fail) (by kernel_rfl) (fun w hw => rCheckTick_c t w) ?_
 | refine S_call (f := 19) rfl (by (repeat' (first | exact trivial | apply And.intro | rfl | omega | intro _ | (simp only [obS] at *; omega))); first | done | fail) (by kernel_rfl) (fun w hw => lfirst_c _ _ [checkF f, wi t 0 10000000] (by simp) w (.inr ⟨_, rfl, by first | exact hw.src (i := 0) rfl rfl | exact hw.src (i := 1) rfl rfl | exact hw.src (i := 2) rfl rfl | exact hw.src (i := 3) rfl rfl | exact hw.src (i := 4) rfl rfl | exact hw.src (i := 5) rfl rfl | exact hw.src (i := 6) rfl rfl | exact hw.src (i := 7) rfl rfl⟩)) ?_
 | refine S_call (f := 26) rfl (by (repeat' (first | exact trivial | apply And.intro | rfl | omega | intro _ | (simp only [obS] at *; omega))); first | done | fail) (by kernel_rfl) (fun w hw => checkFormat_c f w) ?_
 | refine S_call (f := 27) rfl (by (repeat' (first | exact trivial | apply And.intro | rfl | omega | intro _ | (simp only [obS] at *; omega))); first | done | fail) (by kernel_rfl) (fun w hw => awake_c w (hw.rdm hE.toS (by repeat (first | exact List.Mem.head _ | apply List.Mem.tail))) (Pw_at hP hw (by repeat (first | exact List.Mem.head _ | apply List.Mem.tail)))) ?_
 | refine S_call (f := 23) rfl (by (repeat' (first | exact trivial | apply And.intro | rfl | omega | intro _ | (simp only [obS] at *; omega))); first | done | fail) (by kernel_rfl) (fun w hw => rCheckPosition_c f p hv w) ?_
              )
 | (refine D_id ?_; first
 | refine D_nil ?_
 | refine D_tail ?_
 | refine D_run rfl rfl (by (repeat' (first | exact trivial | apply And.intro | rfl | omega | intro _ | (simp only [obS] at *; omega))); first | done | fail) (by (repeat' (first | exact trivial | apply And.intro | rfl | omega | intro _ | (simp only [obS] at *; omega))); first | done | fail) ?_
 | refine D_call (f := 14) rfl (by (repeat' (first | exact trivial | apply And.intro | rfl | omega | intro _ | (simp only [obS] at *; omega))); first | done | fail) (by kernel_rfl) (fun w hw => At_c f t w (hw.rdm hE.toS (by repeat (first | exact List.Mem.head _ | apply List.Mem.tail)))) ?_
 | refine D_call (f := 15) rfl (by (repeat' (first | exact trivial | apply And.intro | rfl | omega | intro _ | (simp only [obS] at *; omega))); first | done | fail) (by kernel_rfl) (fun w hw => Tick_c f p w (hw.rdm hE.toS (by repeat (first | exact List.Mem.head _ | apply List.Mem.tail)))) ?_
 | refine D_call (f := 16) rfl (by (repeat' (first | exact trivial | apply And.intro | rfl | omega | intro _ | (simp only [obS] at *; omega))); first | done | fail) (by kernel_rfl) (fun w hw => Row_c f p w (hw.rdm hE.toS (by repeat (first | exact List.Mem.head _ | apply List.Mem.tail)))) ?_
 | refine D_call (f := 17) rfl (by (repeat' (first | exact trivial | apply And.intro | rfl | omega | intro _ | (simp only [obS] at *; omega))); first | done | fail) (by kernel_rfl) (fun w hw => Phase_c f t w (hw.rdm hE.toS (by repeat (first | exact List.Mem.head _ | apply List.Mem.tail)))) ?_
 | refine D_call (f := 18) rfl (by (repeat' (first | exact trivial | apply And.intro | rfl | omega | intro _ | (simp only [obS] at *; omega))); first | done | fail) (by kernel_rfl) (fun w hw => rCheckFormat_c f w) ?_
 | refine D_call (f := 20) rfl (by (repeat' (first | exact trivial | apply And.intro | rfl | omega | intro _ | (simp only [obS] at *; omega))); first | done | fail) (by kernel_rfl) (fun w hw => rCheckTick_c t w) ?_
 | refine D_call (f := 19) rfl (by (repeat' (first | exact trivial | apply And.intro | rfl | omega | intro _ | (simp only [obS] at *; omega))); first | done | fail) (by kernel_rfl) (fun w hw => lfirst_c _ _ [checkF f, wi t 0 10000000] (by simp) w (.inr ⟨_, rfl, by first | exact hw.src (i := 0) rfl rfl | exact hw.src (i := 1) rfl rfl | exact hw.src (i := 2) rfl rfl | exact hw.src (i := 3) rfl rfl | exact hw.src (i := 4) rfl rfl | exact hw.src (i := 5) rfl rfl | exact hw.src (i := 6) rfl rfl | exact hw.src (i := 7) rfl rfl⟩)) ?_
 | refine D_call (f := 26) rfl (by (repeat' (first | exact trivial | apply And.intro | rfl | omega | intro _ | (simp only [obS] at *; omega))); first | done | fail) (by kernel_rfl) (fun w hw => checkFormat_c f w) ?_
 | refine D_call (f := 27) rfl (by (repeat' (first | exact trivial | apply And.intro | rfl | omega | intro _ | (simp only [obS] at *; omega))); first | done | fail) (by kernel_rfl) (fun w hw => awake_c w (hw.rdm hE.toS (by repeat (first | exact List.Mem.head _ | apply List.Mem.tail))) (Pw_at hP hw (by repeat (first | exact List.Mem.head _ | apply List.Mem.tail)))) ?_
 | refine D_call (f := 23) rfl (by (repeat' (first | exact trivial | apply And.intro | rfl | omega | intro _ | (simp only [obS] at *; omega))); first | done | fail) (by kernel_rfl) (fun w hw => rCheckPosition_c f p hv w) ?_
              )
 | (refine G_id ?_; first
 | refine G_then ?_
 | refine G_block ?_
 | refine G_blockX ?_
 | refine G_blockN rfl ?_
 | refine G_blockR ?_
 | refine G_thenR ?_
 | refine G_thenX ?_
 | refine G_ret rfl (by (repeat' (first | exact trivial | apply And.intro | rfl | omega | intro _ | (simp only [obS] at *; omega))); first | done | fail) (fun w hw => ⟨?_, hw.below⟩)
              )
            )
        all_goals rfl
  · have hTc : checkT f t = checkF f := checkT_no hF0
    have hT0 : ¬ checkT f t = 0 := by rw [hTc]; exact hF0
    have hT0' : ¬ firstL [checkF f, wi t 0 10000000] = 0 := hT0
    have hA : atE f t = ⟨0, 0, 0, 0⟩ := if_neg hT0
    have hPh : (PhaseR f t).1 = 0 := by unfold PhaseR; rw [if_pos hT0]
    have hT1 : TickR f p = (0, checkF f) := by unfold TickR; rw [if_pos hF0]
    have hR1 : RowR f p = (0, checkF f) := by unfold RowR; rw [if_pos (by simpa [hT1] using hF0), hT1]
    repeat' (first
 | (refine C_id ?_; first
 | refine C_seq ?_
 | refine C_region rfl ?_
 | refine C_block ?_
 | refine C_skip ?_
 | refine C_exit ?_
 | refine C_ret0 ?_
 | refine C_drawT (id := 11) 6 rfl mixed (by kernel_rfl) rfl rfl ?_
 | refine C_draw (id := 15) rfl mixed (by kernel_rfl) ?_
 | refine C_condT rfl (by (repeat' (first | exact trivial | apply And.intro | rfl | omega | intro _ | (simp only [obS] at *; omega))); first | done | fail) ?_
 | refine C_condF rfl (by (repeat' (first | exact trivial | apply And.intro | rfl | omega | intro _ | (simp only [obS] at *; omega))); first | done | fail) ?_
 | (refine C_cond rfl (by (repeat' (first | exact trivial | apply And.intro | rfl | omega | intro _ | (simp only [obS] at *; omega))); first | done | fail) (fun h => ?_) (fun h => ?_) <;> (try simp only [Bool.or_eq_true, Bool.and_eq_true, Bool.or_eq_false_iff, Bool.and_eq_false_iff, decide_eq_true_eq, decide_eq_false_iff_not, beq_iff_eq, bne_iff_ne, beq_eq_false_iff_ne, bne_eq_false_iff_eq, ne_eq, Decidable.not_not, List.cons.injEq, and_true, Bool.not_eq_true', Bool.not_eq_false', Int.not_lt, Int.not_le] at h) <;> (try (exfalso; omega)) <;> (try (exfalso; simp at h; done)) <;> (try (exfalso; simp only [not_true_eq_false, false_or, or_false] at h; omega)) <;> (try contradiction))
          )
 | (refine S_id ?_; first
 | ((with_reducible refine S_trueE ?_ ?_); · (first | exact beq_self_eq_true _ | (rw [beq_iff_eq]; first | rfl | assumption | (simp only [hA, hPh, hPh2, hT1, hR1, hTc]; done) | (simp [hA, hPh, hPh2, hT1, hR1, hTc]; done))))
 | ((with_reducible refine S_trueB ?_ ?_); · (first | exact beq_self_eq_true _ | (rw [beq_iff_eq]; first | rfl | assumption | (simp only [hA, hPh, hPh2, hT1, hR1, hTc]; done) | (simp [hA, hPh, hPh2, hT1, hR1, hTc]; done))))
 | ((with_reducible refine S_trueL ?_ ?_); · (first | exact beq_self_eq_true _ | (rw [beq_iff_eq]; first | rfl | assumption | (simp only [hA, hPh, hPh2, hT1, hR1, hTc]; done) | (simp [hA, hPh, hPh2, hT1, hR1, hTc]; done))))
 | ((with_reducible refine S_trueD ?_ ?_); · (first | exact beq_self_eq_true _ | (rw [beq_iff_eq]; first | rfl | assumption | (simp only [hA, hPh, hPh2, hT1, hR1, hTc]; done) | (simp [hA, hPh, hPh2, hT1, hR1, hTc]; done))))
 | ((with_reducible refine S_trueA ?_ ?_ ?_); (· rfl); (· first | rfl | (first | exact beq_self_eq_true _ | (rw [beq_iff_eq]; first | rfl | assumption | (simp only [hA, hPh, hPh2, hT1, hR1, hTc]; done) | (simp [hA, hPh, hPh2, hT1, hR1, hTc]; done)))))
 | refine S_unG rfl rfl rfl rfl ?_
 | refine S_pure (binX_pure rfl (by (repeat' (first | exact trivial | apply And.intro | rfl | omega | intro _ | (simp only [obS] at *; omega))); first | done | fail) (fun w => eq_flat (k := .i64) (n := 4) (xs := [(atE f t).R, (atE f t).F, (atE f t).L, (atE f t).S]) (ys := [0, 0, 0, 0]) (by kernel_rfl) rfl rfl _ _ w)) ?_
 | refine S_nil ?_
 | refine S_runN rfl rfl (by (repeat' (first | exact trivial | apply And.intro | rfl | omega | intro _ | (simp only [obS] at *; omega))); first | done | fail) (by (repeat' (first | exact trivial | apply And.intro | rfl | omega | intro _ | (simp only [obS] at *; omega))); first | done | fail) ?_
 | refine S_box (fun b => ⟨_, _, rfl, (by (repeat' (first | exact trivial | apply And.intro | rfl | omega | intro _ | (simp only [obS] at *; omega))); first | done | fail), ?_⟩)
 | refine S_slice (fun b => ⟨_, _, rfl, (by (repeat' (first | exact trivial | apply And.intro | rfl | omega | intro _ | (simp only [obS] at *; omega))); first | done | fail), ?_⟩)
 | refine S_call (f := 14) rfl (by (repeat' (first | exact trivial | apply And.intro | rfl | omega | intro _ | (simp only [obS] at *; omega))); first | done | fail) (by kernel_rfl) (fun w hw => At_c f t w (hw.rdm hE.toS (by repeat (first | exact List.Mem.head _ | apply List.Mem.tail)))) ?_
 | refine S_call (f := 15) rfl (by (repeat' (first | exact trivial | apply And.intro | rfl | omega | intro _ | (simp only [obS] at *; omega))); first | done | fail) (by kernel_rfl) (fun w hw => Tick_c f p w (hw.rdm hE.toS (by repeat (first | exact List.Mem.head _ | apply List.Mem.tail)))) ?_
 | refine S_call (f := 16) rfl (by (repeat' (first | exact trivial | apply And.intro | rfl | omega | intro _ | (simp only [obS] at *; omega))); first | done | fail) (by kernel_rfl) (fun w hw => Row_c f p w (hw.rdm hE.toS (by repeat (first | exact List.Mem.head _ | apply List.Mem.tail)))) ?_
 | refine S_call (f := 17) rfl (by (repeat' (first | exact trivial | apply And.intro | rfl | omega | intro _ | (simp only [obS] at *; omega))); first | done | fail) (by kernel_rfl) (fun w hw => Phase_c f t w (hw.rdm hE.toS (by repeat (first | exact List.Mem.head _ | apply List.Mem.tail)))) ?_
 | refine S_call (f := 18) rfl (by (repeat' (first | exact trivial | apply And.intro | rfl | omega | intro _ | (simp only [obS] at *; omega))); first | done | fail) (by kernel_rfl) (fun w hw => rCheckFormat_c f w) ?_
 | refine S_call (f := 20) rfl (by (repeat' (first | exact trivial | apply And.intro | rfl | omega | intro _ | (simp only [obS] at *; omega))); first | done | fail) (by kernel_rfl) (fun w hw => rCheckTick_c t w) ?_
 | refine S_call (f := 19) rfl (by (repeat' (first | exact trivial | apply And.intro | rfl | omega | intro _ | (simp only [obS] at *; omega))); first | done | fail) (by kernel_rfl) (fun w hw => lfirst_c _ _ [checkF f, wi t 0 10000000] (by simp) w (.inr ⟨_, rfl, by first | exact hw.src (i := 0) rfl rfl | exact hw.src (i := 1) rfl rfl | exact hw.src (i := 2) rfl rfl | exact hw.src (i := 3) rfl rfl | exact hw.src (i := 4) rfl rfl | exact hw.src (i := 5) rfl rfl | exact hw.src (i := 6) rfl rfl | exact hw.src (i := 7) rfl rfl⟩)) ?_
 | refine S_call (f := 26) rfl (by (repeat' (first | exact trivial | apply And.intro | rfl | omega | intro _ | (simp only [obS] at *; omega))); first | done | fail) (by kernel_rfl) (fun w hw => checkFormat_c f w) ?_
 | refine S_call (f := 27) rfl (by (repeat' (first | exact trivial | apply And.intro | rfl | omega | intro _ | (simp only [obS] at *; omega))); first | done | fail) (by kernel_rfl) (fun w hw => awake_c w (hw.rdm hE.toS (by repeat (first | exact List.Mem.head _ | apply List.Mem.tail))) (Pw_at hP hw (by repeat (first | exact List.Mem.head _ | apply List.Mem.tail)))) ?_
          )
 | (refine D_id ?_; first
 | refine D_nil ?_
 | refine D_tail ?_
 | refine D_run rfl rfl (by (repeat' (first | exact trivial | apply And.intro | rfl | omega | intro _ | (simp only [obS] at *; omega))); first | done | fail) (by (repeat' (first | exact trivial | apply And.intro | rfl | omega | intro _ | (simp only [obS] at *; omega))); first | done | fail) ?_
 | refine D_call (f := 14) rfl (by (repeat' (first | exact trivial | apply And.intro | rfl | omega | intro _ | (simp only [obS] at *; omega))); first | done | fail) (by kernel_rfl) (fun w hw => At_c f t w (hw.rdm hE.toS (by repeat (first | exact List.Mem.head _ | apply List.Mem.tail)))) ?_
 | refine D_call (f := 15) rfl (by (repeat' (first | exact trivial | apply And.intro | rfl | omega | intro _ | (simp only [obS] at *; omega))); first | done | fail) (by kernel_rfl) (fun w hw => Tick_c f p w (hw.rdm hE.toS (by repeat (first | exact List.Mem.head _ | apply List.Mem.tail)))) ?_
 | refine D_call (f := 16) rfl (by (repeat' (first | exact trivial | apply And.intro | rfl | omega | intro _ | (simp only [obS] at *; omega))); first | done | fail) (by kernel_rfl) (fun w hw => Row_c f p w (hw.rdm hE.toS (by repeat (first | exact List.Mem.head _ | apply List.Mem.tail)))) ?_
 | refine D_call (f := 17) rfl (by (repeat' (first | exact trivial | apply And.intro | rfl | omega | intro _ | (simp only [obS] at *; omega))); first | done | fail) (by kernel_rfl) (fun w hw => Phase_c f t w (hw.rdm hE.toS (by repeat (first | exact List.Mem.head _ | apply List.Mem.tail)))) ?_
 | refine D_call (f := 18) rfl (by (repeat' (first | exact trivial | apply And.intro | rfl | omega | intro _ | (simp only [obS] at *; omega))); first | done | fail) (by kernel_rfl) (fun w hw => rCheckFormat_c f w) ?_
 | refine D_call (f := 20) rfl (by (repeat' (first | exact trivial | apply And.intro | rfl | omega | intro _ | (simp only [obS] at *; omega))); first | done | fail) (by kernel_rfl) (fun w hw => rCheckTick_c t w) ?_
 | refine D_call (f := 19) rfl (by (repeat' (first | exact trivial | apply And.intro | rfl | omega | intro _ | (simp only [obS] at *; omega))); first | done | fail) (by kernel_rfl) (fun w hw => lfirst_c _ _ [checkF f, wi t 0 10000000] (by simp) w (.inr ⟨_, rfl, by first | exact hw.src (i := 0) rfl rfl | exact hw.src (i := 1) rfl rfl | exact hw.src (i := 2) rfl rfl | exact hw.src (i := 3) rfl rfl | exact hw.src (i := 4) rfl rfl | exact hw.src (i := 5) rfl rfl | exact hw.src (i := 6) rfl rfl | exact hw.src (i := 7) rfl rfl⟩)) ?_
 | refine D_call (f := 26) rfl (by (repeat' (first | exact trivial | apply And.intro | rfl | omega | intro _ | (simp only [obS] at *; omega))); first | done | fail) (by kernel_rfl) (fun w hw => checkFormat_c f w) ?_
 | refine D_call (f := 27) rfl (by (repeat' (first | exact trivial | apply And.intro | rfl | omega | intro _ | (simp only [obS] at *; omega))); first | done | fail) (by kernel_rfl) (fun w hw => awake_c w (hw.rdm hE.toS (by repeat (first | exact List.Mem.head _ | apply List.Mem.tail))) (Pw_at hP hw (by repeat (first | exact List.Mem.head _ | apply List.Mem.tail)))) ?_
          )
 | (refine G_id ?_; first
 | refine G_then ?_
 | refine G_block ?_
 | refine G_blockX ?_
 | refine G_blockN rfl ?_
 | refine G_blockR ?_
 | refine G_thenR ?_
 | refine G_thenX ?_
 | refine G_ret rfl (by (repeat' (first | exact trivial | apply And.intro | rfl | omega | intro _ | (simp only [obS] at *; omega))); first | done | fail) (fun w hw => ⟨?_, hw.below⟩)
          )
        )
    all_goals rfl

end Go.Proofs.YtmfophoejjcnlaaGreatDoor
