/- Composite signals: carriers, sums, samples. -/
import Derived.Test.YtedlaominconaaaTops2
namespace Go.Proofs.Ytedlaominconaaa
open Go.E Go.RowKit Go.Fl
attribute [local irreducible] G C S D Calls
set_option maxRecDepth 100000
set_option linter.unusedSimpArgs false
set_option linter.unusedVariables false


theorem dsignK_c {z s : Int} (h : sgL z = s) (hz : z = 0 ∨ z = 1) (w : World) : Calls Try.prog 105 #[.int .i64 z] w fun r w' => r = .returned (.int .i64 s) ∧ Below w.heap.size w w' := by
  subst h
  exact dsign_c z hz w

set_option maxHeartbeats 1000000 in
/-- composite.carrier -/
theorem dcarrier_c (A B : Option Addr) (c c2 : Nat) (us vs : List Int) (hl : us.length ≤ 1000) (hlv : us.length = vs.length) (z : Int) (hz : z = 0 ∨ z = 1) (hu : ∀ x ∈ us, -100000 ≤ x ∧ x ≤ 100000) (hv : ∀ x ∈ vs, -100000 ≤ x ∧ x ≤ 100000) (w : World) (hr : Rd w A (us.map (.int .i64))) (hr2 : Rd w B (vs.map (.int .i64))) : Calls Try.prog 71 #[.slice A us.length c, .slice B us.length c2, .int .i64 z] w fun r w' => ∃ v, r = .returned v ∧ Below w.heap.size w w' ∧ Sl w w' v (4 * us.length) ((carL (sgL z) us vs us.length).map (.int .i64)) := by
  refine calls_of (args := [.slice A us.length c, .slice B us.length c2, .int .i64 z]) T_ok Try.func71 rfl Try.ntmps71 (Nat.le_of_ble_eq_true rfl) rfl ?_
  obtain ⟨s, hs⟩ : ∃ s, sgL z = s := ⟨_, rfl⟩
  have hs2 : s = 1 ∨ s = -1 := by
    rw [← hs]
    rcases hz with rfl | rfl
    · exact .inl rfl
    · exact .inr rfl
  rw [hs]
  repeat' (first
   | (refine C_id ?_; first
   | refine C_seq ?_
   | refine C_regionNe 3 rfl rfl ?_
   )
   | (refine S_id ?_; first
   | refine S_nil ?_
   | refine S_run rfl rfl obQ obQ ?_
   | refine S_call (f := 105) rfl obQ (by kernel_rfl) (fun w hw => dsignK_c hs hz w) ?_
   )
   | (refine G_id ?_; first
   | refine G_then ?_
   )
   )
  refine C_row0 7 3 1 rfl ?_
  repeat' (first
   | (refine C_id ?_; first
   | refine C_region rfl ?_
   | refine C_block ?_
   )
   | (refine S_id ?_; first
   | refine S_nil ?_
   | refine S_run rfl rfl obQ obQ ?_
   )
   | (refine G_id ?_; first
   | refine G_then ?_
   )
   )
  refine C_loopS (fun i : Nat × Option Addr × Nat => ⟨[(0, .s (.v (.slice A us.length c))), (1, .s (.v (.slice B us.length c2))), (7, .s (.r i.2.1 (4 * i.1) i.2.2 0)), (8, .s (.v (.int .i64 s))), (13, .s (.v (.int .i64 us.length))), (14, .s (.v (.int .i64 i.1)))], [], [⟨3, 1, 4 * i.1, (carL s us vs i.1).map (.int .i64), .slice i.2.1 (4 * i.1) i.2.2⟩]⟩) (fun i => i.1 ≤ us.length) (fun i => us.length - i.1) (0, none, 0) (Nat.zero_le _) ?_ (fun i hi => ?_)
  · exact ⟨⟨_, rfl, obQ⟩, ⟨_, rfl⟩, rfl, pstQ⟩
  obtain ⟨k, A', c'⟩ := i
  have hk : k ≤ us.length := hi
  dsimp only
  by_cases hlt : k < us.length
  · have hltv : k < vs.length := by omega
    obtain ⟨ad, rfl⟩ := hr.some (by simp; omega)
    obtain ⟨ad2, rfl⟩ := hr2.some (by simp; omega)
    have hbu := hu _ (gI_mem hlt)
    have hbv := hv _ (gI_mem hltv)
    have m1 : -100000 ≤ s * gI us k ∧ s * gI us k ≤ 100000 := by rcases hs2 with rfl | rfl <;> omega
    have m2 : -100000 ≤ s * gI vs k ∧ s * gI vs k ≤ 100000 := by rcases hs2 with rfl | rfl <;> omega
    have m3 : -100000 ≤ (0 - s) * gI us k ∧ (0 - s) * gI us k ≤ 100000 := by rcases hs2 with rfl | rfl <;> omega
    have m4 : -100000 ≤ (0 - s) * gI vs k ∧ (0 - s) * gI vs k ≤ 100000 := by rcases hs2 with rfl | rfl <;> omega
    repeat' (first
     | (refine C_id ?_; first
     | refine C_seq ?_
     | refine C_region rfl ?_
     | refine C_block ?_
     | refine C_skip ?_
     | refine C_drawV (id := 6) 28 [(0, true), (1, true), (2, true), (3, true), (4, true), (5, true), (6, true), (7, true), (8, true), (9, true), (10, true), (11, true), (12, true), (13, true), (14, true), (15, true), (16, true), (17, true), (18, true), (19, true), (20, true), (21, true), (22, true), (23, true), (24, true), (25, true), (26, true), (27, false)] rfl mixed (by kernel_rfl) rfl ?_
     | (refine C_cond rfl obQ (fun h => ?_) (fun h => ?_) <;> (try simp only [Bool.or_eq_true, Bool.and_eq_true, Bool.or_eq_false_iff, Bool.and_eq_false_iff, decide_eq_true_eq, decide_eq_false_iff_not, beq_iff_eq, bne_iff_ne, beq_eq_false_iff_ne, bne_eq_false_iff_eq, ne_eq, Decidable.not_not, List.cons.injEq, and_true, Bool.not_eq_true', Bool.not_eq_false', Int.not_lt, Int.not_le] at h) <;> (try (exfalso; omega)))
     )
     | (refine S_id ?_; first
     | refine S_append rfl obQ rfl rfl rfl ⟨by decide, rfl⟩ rfl ⟨rfl, rfl, rfl, rfl⟩ [.int .i64 (s * gI us k), .int .i64 (s * gI vs k), .int .i64 ((0 - s) * gI us k), .int .i64 ((0 - s) * gI vs k)] ⟨by decide, rfl⟩ (by simp [Value.oneCell']) (fun w hw => by first | exact hw.src (i := 0) rfl rfl | exact hw.src (i := 1) rfl rfl | exact hw.src (i := 2) rfl rfl | exact hw.src (i := 3) rfl rfl | exact hw.src (i := 4) rfl rfl | exact hw.src (i := 5) rfl rfl | exact hw.src (i := 6) rfl rfl | exact hw.src (i := 7) rfl rfl | exact hw.src (i := 8) rfl rfl) (by unfold maxLen; dsimp only; omega) (fun gb cap' => ⟨_, rfl, ?_⟩)
     | refine S_nil ?_
     | refine S_run rfl rfl obQ obQ ?_
     | refine S_slice (fun b => ⟨_, _, rfl, obQ, ?_⟩)
     )
     | (refine V_id ?_; first
     | refine V_nil ?_
     | refine V_q rfl (Yl_load rfl obQ rfl [.int .i64 (gI us k)] (.past (w, fun b => b < w.heap.size) memQ _ _ hr.toS _ _ rfl rfl (gI_idxZ rfl hlt)) rfl (.inr ⟨rfl, rfl⟩)) ?_
     | refine V_q rfl (Yl_load rfl obQ rfl [.int .i64 (gI vs k)] (.past (w, fun b => b < w.heap.size) memQ _ _ hr2.toS _ _ rfl rfl (gI_idxZ rfl hltv)) rfl (.inr ⟨rfl, rfl⟩)) ?_
     | refine V_q rfl (Yl_step rfl obQ) ?_
     | refine V_n rfl ?_
     )
     | (refine G_id ?_; first
     | refine G_V ⟨⟨_, rfl, trivial⟩, ⟨_, rfl⟩, rfl, pstQ⟩ rfl ?_
     | refine G_loop (k + 1, some ⟨gb, 0, none⟩, cap') (by show k + 1 ≤ us.length; omega) (by show us.length - (k + 1) < us.length - k; omega) ⟨⟨_, rfl, obQ⟩, ⟨_, rfl⟩, (by dsimp only; rw [carL_s, List.map_append]; rfl), pstQ⟩
     | refine G_then ?_
     | refine G_block ?_
     )
     )
  · have hke : k = us.length := by omega
    subst hke
    repeat' (first
     | (refine C_id ?_; first
     | refine C_seq ?_
     | refine C_region rfl ?_
     | refine C_exit ?_
     | refine C_ret0 ?_
     | (refine C_cond rfl obQ (fun h => ?_) (fun h => ?_) <;> (try simp only [Bool.or_eq_true, Bool.and_eq_true, Bool.or_eq_false_iff, Bool.and_eq_false_iff, decide_eq_true_eq, decide_eq_false_iff_not, beq_iff_eq, bne_iff_ne, beq_eq_false_iff_ne, bne_eq_false_iff_eq, ne_eq, Decidable.not_not, List.cons.injEq, and_true, Bool.not_eq_true', Bool.not_eq_false', Int.not_lt, Int.not_le] at h) <;> (try (exfalso; omega)))
     )
     | (refine S_id ?_; first
     | refine S_nil ?_
     | refine S_run rfl rfl obQ obQ ?_
     )
     | (refine G_id ?_; first
     | refine G_then ?_
     | refine G_blockX ?_
     | refine G_thenX ?_
     | refine G_ret rfl obQ (fun w2 hw => ⟨_, rfl, hw.below, HW.rowSl (i := 0) hw rfl rfl rfl rfl⟩)
     )
     )

end Go.Proofs.Ytedlaominconaaa
