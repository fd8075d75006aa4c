/- The law of the clocks: the walk. -/
import Derived.Test.YtmfophoejjcnlaaGreatDoorTiming36
import Derived.Test.YtmfophoejjcnlaaGreatDoorEng3
namespace Go.Proofs.YtmfophoejjcnlaaGreatDoor
open Go.E Go.RowKit
attribute [local irreducible] G C S D Calls
set_option maxRecDepth 100000
set_option linter.unusedSimpArgs false
set_option linter.unusedVariables false

theorem lockF_len (p s : Int) : ∀ (n : Nat) (x : Int) (l : List Int), (lockF p s n x l).1.length ≤ l.length + n
  | 0, x, l => by unfold lockF; split <;> simp
  | n + 1, x, l => by
    unfold lockF
    split
    · have := lockF_len p s n (lockStep p s x) (l ++ [lockStep p s x])
      simp only [List.length_append, List.length_cons, List.length_nil] at this
      omega
    · simp
theorem lockR_len (p x s : Int) : (lockR p x s).1.length ≤ 1000000 := by
  unfold lockR
  split
  · have := lockF_len p s 255 x [x]
    simp only [List.length_cons, List.length_nil] at this
    omega
  · simp

set_option maxHeartbeats 2000000 in
/-- genlocklaw04.TimingClocks -/
theorem lClocks_c (x0 x1 x2 n d k1 k2 : Int) (w : World) (hE : Ex w) (hP : Pw w) : Calls Tryz.prog 5 #[.agg #[.int .i64 x0, .int .i64 x1, .int .i64 x2], .agg #[.int .i64 n, .int .i64 d], .agg #[.int .i64 k1, .int .i64 k2]] w fun r w' => r = .returned (.bool true) ∧ Below w.heap.size w w' := by
  refine calls_of (args := [.agg #[.int .i64 x0, .int .i64 x1, .int .i64 x2], .agg #[.int .i64 n, .int .i64 d], .agg #[.int .i64 k1, .int .i64 k2]]) T_ok Tryz.func5 rfl Tryz.ntmps5 (Nat.le_of_ble_eq_true rfl) rfl ?_
  by_cases hL : lockE x0 x1 x2 = 0
  · have hF1 : True := trivial
    have hF2 : True := trivial
    by_cases hC : firstL [clockE n d, wi k1 0 10000000] = 0
    · obtain ⟨hck, hk1⟩ := count_ok hC
      obtain ⟨⟨hb1, hb2', _⟩, _⟩ := clock_ok hck
      have hb2 : 1 ≤ d := hb2'
      have hC1 : (countR n d k1).1 = k1 * n / d := by unfold countR; rw [if_neg (show ¬ ¬ countE n d k1 = 0 from Classical.not_not.2 hC)]
      have hC2 : (countR n d k1).2 = firstL [clockE n d, wi k1 0 10000000] := by unfold countR; split <;> first | rfl | (rename_i h; exact (Classical.not_not.1 h).symm)
      by_cases hS : firstL [clockE n d, wi k2 1 1000] = 0
      · have hS1 : True := trivial
        have hS2 : True := trivial
        repeat' (first
 | (refine C_id ?_; first
 | refine C_seq ?_
 | refine C_region rfl ?_
 | refine C_block ?_
 | refine C_skip ?_
 | refine C_exit ?_
 | refine C_ret0 ?_
 | refine C_drawV (id := 4) 18 [(0, true), (1, true), (2, true), (3, true), (4, true), (5, true), (7, true), (9, true), (10, true), (14, true), (16, true), (17, true), (6, false), (8, false), (11, false), (12, false), (13, false), (15, false)] rfl mixed (by kernel_rfl) rfl ?_
 | refine C_condT rfl (by (repeat' (first | exact trivial | apply And.intro | rfl | omega | intro _ | (simp only [obS] at *; omega))); first | done | fail) ?_
 | refine C_condF rfl (by (repeat' (first | exact trivial | apply And.intro | rfl | omega | intro _ | (simp only [obS] at *; omega))); first | done | fail) ?_
 | (refine C_cond rfl (by (repeat' (first | exact trivial | apply And.intro | rfl | omega | intro _ | (simp only [obS] at *; omega))); first | done | fail) (fun h => ?_) (fun h => ?_) <;> (try simp only [Bool.or_eq_true, Bool.and_eq_true, Bool.or_eq_false_iff, Bool.and_eq_false_iff, decide_eq_true_eq, decide_eq_false_iff_not, beq_iff_eq, bne_iff_ne, beq_eq_false_iff_ne, bne_eq_false_iff_eq, ne_eq, Decidable.not_not, List.cons.injEq, and_true, Bool.not_eq_true', Bool.not_eq_false', Int.not_lt, Int.not_le] at h) <;> (try (exfalso; omega)) <;> (try (exfalso; simp at h; done)) <;> (try (exfalso; simp only [not_true_eq_false, false_or, or_false] at h; omega)) <;> (try contradiction))
              )
 | (refine S_id ?_; first
 | ((with_reducible refine S_trueE ?_ ?_); · (first | exact beq_self_eq_true _ | (rw [beq_iff_eq]; first | rfl | assumption | (simp only [hF1, hF2, hC1, hC2, hS1, hS2]; done) | (simp [hF1, hF2, hC1, hC2, hS1, hS2]; done)) | assumption | (simp only [hF1, hF2, hC1, hC2, hS1, hS2]; done)))
 | ((with_reducible refine S_trueB ?_ ?_); · (first | exact beq_self_eq_true _ | (rw [beq_iff_eq]; first | rfl | assumption | (simp only [hF1, hF2, hC1, hC2, hS1, hS2]; done) | (simp [hF1, hF2, hC1, hC2, hS1, hS2]; done)) | assumption | (simp only [hF1, hF2, hC1, hC2, hS1, hS2]; done)))
 | ((with_reducible refine S_trueL ?_ ?_); · (first | exact beq_self_eq_true _ | (rw [beq_iff_eq]; first | rfl | assumption | (simp only [hF1, hF2, hC1, hC2, hS1, hS2]; done) | (simp [hF1, hF2, hC1, hC2, hS1, hS2]; done)) | assumption | (simp only [hF1, hF2, hC1, hC2, hS1, hS2]; done)))
 | ((with_reducible refine S_trueD ?_ ?_); · (first | exact beq_self_eq_true _ | (rw [beq_iff_eq]; first | rfl | assumption | (simp only [hF1, hF2, hC1, hC2, hS1, hS2]; done) | (simp [hF1, hF2, hC1, hC2, hS1, hS2]; done)) | assumption | (simp only [hF1, hF2, hC1, hC2, hS1, hS2]; done)))
 | ((with_reducible refine S_trueA ?_ ?_ ?_); (· rfl); (· first | rfl | (first | exact beq_self_eq_true _ | (rw [beq_iff_eq]; first | rfl | assumption | (simp only [hF1, hF2, hC1, hC2, hS1, hS2]; done) | (simp [hF1, hF2, hC1, hC2, hS1, hS2]; done)) | assumption | (simp only [hF1, hF2, hC1, hC2, hS1, hS2]; done))))
 | refine S_unG rfl rfl rfl rfl ?_
 | refine S_nil ?_
 | refine S_runN rfl rfl (by (repeat' (first | exact trivial | apply And.intro | rfl | omega | intro _ | (simp only [obS] at *; omega))); first | done | fail) (by (repeat' (first | exact trivial | apply And.intro | rfl | omega | intro _ | (simp only [obS] at *; omega))); first | done | fail) ?_
 | refine S_box (fun b => ⟨_, _, rfl, (by (repeat' (first | exact trivial | apply And.intro | rfl | omega | intro _ | (simp only [obS] at *; omega))); first | done | fail), ?_⟩)
 | refine S_slice (fun b => ⟨_, _, rfl, (by (repeat' (first | exact trivial | apply And.intro | rfl | omega | intro _ | (simp only [obS] at *; omega))); first | done | fail), ?_⟩)
 | refine S_call (f := 39) rfl (by (repeat' (first | exact trivial | apply And.intro | rfl | omega | intro _ | (simp only [obS] at *; omega))); first | done | fail) (by kernel_rfl) (fun w hw => Counted_c n d k1 w) ?_
 | refine S_call (f := 40) rfl (by (repeat' (first | exact trivial | apply And.intro | rfl | omega | intro _ | (simp only [obS] at *; omega))); first | done | fail) (by kernel_rfl) (fun w hw => Slip_c n d k2 w) ?_
 | refine S_call (f := 41) rfl (by (repeat' (first | exact trivial | apply And.intro | rfl | omega | intro _ | (simp only [obS] at *; omega))); first | done | fail) (by kernel_rfl) (fun w hw => rCheckLock_c x0 x1 x2 w) ?_
 | refine S_call (f := 42) rfl (by (repeat' (first | exact trivial | apply And.intro | rfl | omega | intro _ | (simp only [obS] at *; omega))); first | done | fail) (by kernel_rfl) (fun w hw => rCheckClock_c n d w) ?_
 | refine S_call (f := 20) rfl (by (repeat' (first | exact trivial | apply And.intro | rfl | omega | intro _ | (simp only [obS] at *; omega))); first | done | fail) (by kernel_rfl) (fun w hw => rCheckTick_c k1 w) ?_
 | refine S_call (f := 43) rfl (by (repeat' (first | exact trivial | apply And.intro | rfl | omega | intro _ | (simp only [obS] at *; omega))); first | done | fail) (by kernel_rfl) (fun w hw => rRange_c k2 1 1000 w) ?_
 | refine S_call (f := 19) rfl (by (repeat' (first | exact trivial | apply And.intro | rfl | omega | intro _ | (simp only [obS] at *; omega))); first | done | fail) (by kernel_rfl) (fun w hw => lfirst_c _ _ [clockE n d, wi k1 0 10000000] (by simp) w (by first | exact .inr ⟨_, rfl, hw.src (i := 3) rfl rfl⟩ | exact .inr ⟨_, rfl, hw.src (i := 4) rfl rfl⟩ | exact .inr ⟨_, rfl, hw.src (i := 5) rfl rfl⟩)) ?_
 | refine S_call (f := 19) rfl (by (repeat' (first | exact trivial | apply And.intro | rfl | omega | intro _ | (simp only [obS] at *; omega))); first | done | fail) (by kernel_rfl) (fun w hw => lfirst_c _ _ [clockE n d, wi k2 1 1000] (by simp) w (by first | exact .inr ⟨_, rfl, hw.src (i := 3) rfl rfl⟩ | exact .inr ⟨_, rfl, hw.src (i := 4) rfl rfl⟩ | exact .inr ⟨_, rfl, hw.src (i := 5) rfl rfl⟩)) ?_
 | refine S_call (f := 27) rfl (by (repeat' (first | exact trivial | apply And.intro | rfl | omega | intro _ | (simp only [obS] at *; omega))); first | done | fail) (by kernel_rfl) (fun w hw => awake_c w (hw.rdm hE.toS (by repeat (first | exact List.Mem.head _ | apply List.Mem.tail))) (Pw_at hP hw (by repeat (first | exact List.Mem.head _ | apply List.Mem.tail)))) ?_
 | refine S_call (f := 45) rfl (by (repeat' (first | exact trivial | apply And.intro | rfl | omega | intro _ | (simp only [obS] at *; omega))); first | done | fail) (by kernel_rfl) (fun w hw => rCounted_c n d k1 hb1 hb2 (by omega) w) ?_
 | refine S_call (f := 46) rfl (by (repeat' (first | exact trivial | apply And.intro | rfl | omega | intro _ | (simp only [obS] at *; omega))); first | done | fail) (by kernel_rfl) (fun w hw => rSlip_c n d k2 hS w) ?_
 | refine S_call (f := 47) rfl (by (repeat' (first | exact trivial | apply And.intro | rfl | omega | intro _ | (simp only [obS] at *; omega))); first | done | fail) (by kernel_rfl) (fun w hw => sameIntsT_c _ _ _ _ (lockR x0 x1 x2).1 _ rfl (lockR_len x0 x1 x2) w (hw.rdm hSL (by repeat (first | exact List.Mem.head _ | apply List.Mem.tail))) (hw.rdm hSK (by repeat (first | exact List.Mem.head _ | apply List.Mem.tail)))) ?_
 | (refine S_callM (f := 38) rfl (by (repeat' (first | exact trivial | apply And.intro | rfl | omega | intro _ | (simp only [obS] at *; omega))); first | done | fail) (by kernel_rfl) (fun w hw => Lock_c x0 x1 x2 w) (fun w1L w2L vL hw1L hbL hRL => ?_); obtain ⟨AL, cL, rfl, hSL⟩ := hRL)
 | (refine S_callM (f := 44) rfl (by (repeat' (first | exact trivial | apply And.intro | rfl | omega | intro _ | (simp only [obS] at *; omega))); first | done | fail) (by kernel_rfl) (fun w hw => rLock_c x0 x1 x2 hL w) (fun w1K w2K vK hw1K hbK hRK => ?_); obtain ⟨AK, cK, rfl, hSK⟩ := hRK)
              )
 | (refine D_id ?_; first
 | refine D_nil ?_
 | refine D_tail ?_
 | refine D_run rfl rfl (by (repeat' (first | exact trivial | apply And.intro | rfl | omega | intro _ | (simp only [obS] at *; omega))); first | done | fail) (by (repeat' (first | exact trivial | apply And.intro | rfl | omega | intro _ | (simp only [obS] at *; omega))); first | done | fail) ?_
 | refine D_call (f := 39) rfl (by (repeat' (first | exact trivial | apply And.intro | rfl | omega | intro _ | (simp only [obS] at *; omega))); first | done | fail) (by kernel_rfl) (fun w hw => Counted_c n d k1 w) ?_
 | refine D_call (f := 40) rfl (by (repeat' (first | exact trivial | apply And.intro | rfl | omega | intro _ | (simp only [obS] at *; omega))); first | done | fail) (by kernel_rfl) (fun w hw => Slip_c n d k2 w) ?_
 | refine D_call (f := 41) rfl (by (repeat' (first | exact trivial | apply And.intro | rfl | omega | intro _ | (simp only [obS] at *; omega))); first | done | fail) (by kernel_rfl) (fun w hw => rCheckLock_c x0 x1 x2 w) ?_
 | refine D_call (f := 42) rfl (by (repeat' (first | exact trivial | apply And.intro | rfl | omega | intro _ | (simp only [obS] at *; omega))); first | done | fail) (by kernel_rfl) (fun w hw => rCheckClock_c n d w) ?_
 | refine D_call (f := 20) rfl (by (repeat' (first | exact trivial | apply And.intro | rfl | omega | intro _ | (simp only [obS] at *; omega))); first | done | fail) (by kernel_rfl) (fun w hw => rCheckTick_c k1 w) ?_
 | refine D_call (f := 43) rfl (by (repeat' (first | exact trivial | apply And.intro | rfl | omega | intro _ | (simp only [obS] at *; omega))); first | done | fail) (by kernel_rfl) (fun w hw => rRange_c k2 1 1000 w) ?_
 | refine D_call (f := 19) rfl (by (repeat' (first | exact trivial | apply And.intro | rfl | omega | intro _ | (simp only [obS] at *; omega))); first | done | fail) (by kernel_rfl) (fun w hw => lfirst_c _ _ [clockE n d, wi k1 0 10000000] (by simp) w (by first | exact .inr ⟨_, rfl, hw.src (i := 3) rfl rfl⟩ | exact .inr ⟨_, rfl, hw.src (i := 4) rfl rfl⟩ | exact .inr ⟨_, rfl, hw.src (i := 5) rfl rfl⟩)) ?_
 | refine D_call (f := 19) rfl (by (repeat' (first | exact trivial | apply And.intro | rfl | omega | intro _ | (simp only [obS] at *; omega))); first | done | fail) (by kernel_rfl) (fun w hw => lfirst_c _ _ [clockE n d, wi k2 1 1000] (by simp) w (by first | exact .inr ⟨_, rfl, hw.src (i := 3) rfl rfl⟩ | exact .inr ⟨_, rfl, hw.src (i := 4) rfl rfl⟩ | exact .inr ⟨_, rfl, hw.src (i := 5) rfl rfl⟩)) ?_
 | refine D_call (f := 27) rfl (by (repeat' (first | exact trivial | apply And.intro | rfl | omega | intro _ | (simp only [obS] at *; omega))); first | done | fail) (by kernel_rfl) (fun w hw => awake_c w (hw.rdm hE.toS (by repeat (first | exact List.Mem.head _ | apply List.Mem.tail))) (Pw_at hP hw (by repeat (first | exact List.Mem.head _ | apply List.Mem.tail)))) ?_
 | refine D_call (f := 45) rfl (by (repeat' (first | exact trivial | apply And.intro | rfl | omega | intro _ | (simp only [obS] at *; omega))); first | done | fail) (by kernel_rfl) (fun w hw => rCounted_c n d k1 hb1 hb2 (by omega) w) ?_
 | refine D_call (f := 46) rfl (by (repeat' (first | exact trivial | apply And.intro | rfl | omega | intro _ | (simp only [obS] at *; omega))); first | done | fail) (by kernel_rfl) (fun w hw => rSlip_c n d k2 hS w) ?_
 | refine D_call (f := 47) rfl (by (repeat' (first | exact trivial | apply And.intro | rfl | omega | intro _ | (simp only [obS] at *; omega))); first | done | fail) (by kernel_rfl) (fun w hw => sameIntsT_c _ _ _ _ (lockR x0 x1 x2).1 _ rfl (lockR_len x0 x1 x2) w (hw.rdm hSL (by repeat (first | exact List.Mem.head _ | apply List.Mem.tail))) (hw.rdm hSK (by repeat (first | exact List.Mem.head _ | apply List.Mem.tail)))) ?_
              )
 | (refine V_id ?_; first
 | refine V_nil ?_
 | refine V_q rfl (Yl_step rfl (by (repeat' (first | exact trivial | apply And.intro | rfl | omega | intro _ | (simp only [obS] at *; omega))); first | done | fail)) ?_
 | refine V_n rfl ?_
              )
 | (refine G_id ?_; first
 | refine G_V ⟨⟨_, rfl, trivial⟩, ⟨_, rfl⟩, rfl, (by intro p hp; repeat (first | exact hp | apply List.mem_cons_of_mem))⟩ rfl ?_
 | refine G_then ?_
 | refine G_block ?_
 | refine G_blockX ?_
 | refine G_blockN rfl ?_
 | refine G_blockR ?_
 | refine G_thenR ?_
 | refine G_thenX ?_
 | refine G_ret rfl (by (repeat' (first | exact trivial | apply And.intro | rfl | omega | intro _ | (simp only [obS] at *; omega))); first | done | fail) (fun w2 hw => ⟨?_, hw.below⟩)
              )
            )
        all_goals rfl
      · have hS1 : (slipR n d k2).1 = 0 := by unfold slipR; rw [if_pos (show ¬ slipE n d k2 = 0 from hS)]
        have hS2 : (slipR n d k2).2 = firstL [clockE n d, wi k2 1 1000] := by unfold slipR; rw [if_pos (show ¬ slipE n d k2 = 0 from hS)]; rfl
        repeat' (first
 | (refine C_id ?_; first
 | refine C_seq ?_
 | refine C_region rfl ?_
 | refine C_block ?_
 | refine C_skip ?_
 | refine C_exit ?_
 | refine C_ret0 ?_
 | refine C_drawV (id := 4) 18 [(0, true), (1, true), (2, true), (3, true), (4, true), (5, true), (7, true), (9, true), (10, true), (14, true), (16, true), (17, true), (6, false), (8, false), (11, false), (12, false), (13, false), (15, false)] rfl mixed (by kernel_rfl) rfl ?_
 | refine C_condT rfl (by (repeat' (first | exact trivial | apply And.intro | rfl | omega | intro _ | (simp only [obS] at *; omega))); first | done | fail) ?_
 | refine C_condF rfl (by (repeat' (first | exact trivial | apply And.intro | rfl | omega | intro _ | (simp only [obS] at *; omega))); first | done | fail) ?_
 | (refine C_cond rfl (by (repeat' (first | exact trivial | apply And.intro | rfl | omega | intro _ | (simp only [obS] at *; omega))); first | done | fail) (fun h => ?_) (fun h => ?_) <;> (try simp only [Bool.or_eq_true, Bool.and_eq_true, Bool.or_eq_false_iff, Bool.and_eq_false_iff, decide_eq_true_eq, decide_eq_false_iff_not, beq_iff_eq, bne_iff_ne, beq_eq_false_iff_ne, bne_eq_false_iff_eq, ne_eq, Decidable.not_not, List.cons.injEq, and_true, Bool.not_eq_true', Bool.not_eq_false', Int.not_lt, Int.not_le] at h) <;> (try (exfalso; omega)) <;> (try (exfalso; simp at h; done)) <;> (try (exfalso; simp only [not_true_eq_false, false_or, or_false] at h; omega)) <;> (try contradiction))
              )
 | (refine S_id ?_; first
 | ((with_reducible refine S_trueE ?_ ?_); · (first | exact beq_self_eq_true _ | (rw [beq_iff_eq]; first | rfl | assumption | (simp only [hF1, hF2, hC1, hC2, hS1, hS2]; done) | (simp [hF1, hF2, hC1, hC2, hS1, hS2]; done)) | assumption | (simp only [hF1, hF2, hC1, hC2, hS1, hS2]; done)))
 | ((with_reducible refine S_trueB ?_ ?_); · (first | exact beq_self_eq_true _ | (rw [beq_iff_eq]; first | rfl | assumption | (simp only [hF1, hF2, hC1, hC2, hS1, hS2]; done) | (simp [hF1, hF2, hC1, hC2, hS1, hS2]; done)) | assumption | (simp only [hF1, hF2, hC1, hC2, hS1, hS2]; done)))
 | ((with_reducible refine S_trueL ?_ ?_); · (first | exact beq_self_eq_true _ | (rw [beq_iff_eq]; first | rfl | assumption | (simp only [hF1, hF2, hC1, hC2, hS1, hS2]; done) | (simp [hF1, hF2, hC1, hC2, hS1, hS2]; done)) | assumption | (simp only [hF1, hF2, hC1, hC2, hS1, hS2]; done)))
 | ((with_reducible refine S_trueD ?_ ?_); · (first | exact beq_self_eq_true _ | (rw [beq_iff_eq]; first | rfl | assumption | (simp only [hF1, hF2, hC1, hC2, hS1, hS2]; done) | (simp [hF1, hF2, hC1, hC2, hS1, hS2]; done)) | assumption | (simp only [hF1, hF2, hC1, hC2, hS1, hS2]; done)))
 | ((with_reducible refine S_trueA ?_ ?_ ?_); (· rfl); (· first | rfl | (first | exact beq_self_eq_true _ | (rw [beq_iff_eq]; first | rfl | assumption | (simp only [hF1, hF2, hC1, hC2, hS1, hS2]; done) | (simp [hF1, hF2, hC1, hC2, hS1, hS2]; done)) | assumption | (simp only [hF1, hF2, hC1, hC2, hS1, hS2]; done))))
 | refine S_unG rfl rfl rfl rfl ?_
 | refine S_nil ?_
 | refine S_runN rfl rfl (by (repeat' (first | exact trivial | apply And.intro | rfl | omega | intro _ | (simp only [obS] at *; omega))); first | done | fail) (by (repeat' (first | exact trivial | apply And.intro | rfl | omega | intro _ | (simp only [obS] at *; omega))); first | done | fail) ?_
 | refine S_box (fun b => ⟨_, _, rfl, (by (repeat' (first | exact trivial | apply And.intro | rfl | omega | intro _ | (simp only [obS] at *; omega))); first | done | fail), ?_⟩)
 | refine S_slice (fun b => ⟨_, _, rfl, (by (repeat' (first | exact trivial | apply And.intro | rfl | omega | intro _ | (simp only [obS] at *; omega))); first | done | fail), ?_⟩)
 | refine S_call (f := 39) rfl (by (repeat' (first | exact trivial | apply And.intro | rfl | omega | intro _ | (simp only [obS] at *; omega))); first | done | fail) (by kernel_rfl) (fun w hw => Counted_c n d k1 w) ?_
 | refine S_call (f := 40) rfl (by (repeat' (first | exact trivial | apply And.intro | rfl | omega | intro _ | (simp only [obS] at *; omega))); first | done | fail) (by kernel_rfl) (fun w hw => Slip_c n d k2 w) ?_
 | refine S_call (f := 41) rfl (by (repeat' (first | exact trivial | apply And.intro | rfl | omega | intro _ | (simp only [obS] at *; omega))); first | done | fail) (by kernel_rfl) (fun w hw => rCheckLock_c x0 x1 x2 w) ?_
 | refine S_call (f := 42) rfl (by (repeat' (first | exact trivial | apply And.intro | rfl | omega | intro _ | (simp only [obS] at *; omega))); first | done | fail) (by kernel_rfl) (fun w hw => rCheckClock_c n d w) ?_
 | refine S_call (f := 20) rfl (by (repeat' (first | exact trivial | apply And.intro | rfl | omega | intro _ | (simp only [obS] at *; omega))); first | done | fail) (by kernel_rfl) (fun w hw => rCheckTick_c k1 w) ?_
 | refine S_call (f := 43) rfl (by (repeat' (first | exact trivial | apply And.intro | rfl | omega | intro _ | (simp only [obS] at *; omega))); first | done | fail) (by kernel_rfl) (fun w hw => rRange_c k2 1 1000 w) ?_
 | refine S_call (f := 19) rfl (by (repeat' (first | exact trivial | apply And.intro | rfl | omega | intro _ | (simp only [obS] at *; omega))); first | done | fail) (by kernel_rfl) (fun w hw => lfirst_c _ _ [clockE n d, wi k1 0 10000000] (by simp) w (by first | exact .inr ⟨_, rfl, hw.src (i := 3) rfl rfl⟩ | exact .inr ⟨_, rfl, hw.src (i := 4) rfl rfl⟩ | exact .inr ⟨_, rfl, hw.src (i := 5) rfl rfl⟩)) ?_
 | refine S_call (f := 19) rfl (by (repeat' (first | exact trivial | apply And.intro | rfl | omega | intro _ | (simp only [obS] at *; omega))); first | done | fail) (by kernel_rfl) (fun w hw => lfirst_c _ _ [clockE n d, wi k2 1 1000] (by simp) w (by first | exact .inr ⟨_, rfl, hw.src (i := 3) rfl rfl⟩ | exact .inr ⟨_, rfl, hw.src (i := 4) rfl rfl⟩ | exact .inr ⟨_, rfl, hw.src (i := 5) rfl rfl⟩)) ?_
 | refine S_call (f := 27) rfl (by (repeat' (first | exact trivial | apply And.intro | rfl | omega | intro _ | (simp only [obS] at *; omega))); first | done | fail) (by kernel_rfl) (fun w hw => awake_c w (hw.rdm hE.toS (by repeat (first | exact List.Mem.head _ | apply List.Mem.tail))) (Pw_at hP hw (by repeat (first | exact List.Mem.head _ | apply List.Mem.tail)))) ?_
 | refine S_call (f := 45) rfl (by (repeat' (first | exact trivial | apply And.intro | rfl | omega | intro _ | (simp only [obS] at *; omega))); first | done | fail) (by kernel_rfl) (fun w hw => rCounted_c n d k1 hb1 hb2 (by omega) w) ?_
 | refine S_call (f := 47) rfl (by (repeat' (first | exact trivial | apply And.intro | rfl | omega | intro _ | (simp only [obS] at *; omega))); first | done | fail) (by kernel_rfl) (fun w hw => sameIntsT_c _ _ _ _ (lockR x0 x1 x2).1 _ rfl (lockR_len x0 x1 x2) w (hw.rdm hSL (by repeat (first | exact List.Mem.head _ | apply List.Mem.tail))) (hw.rdm hSK (by repeat (first | exact List.Mem.head _ | apply List.Mem.tail)))) ?_
 | (refine S_callM (f := 38) rfl (by (repeat' (first | exact trivial | apply And.intro | rfl | omega | intro _ | (simp only [obS] at *; omega))); first | done | fail) (by kernel_rfl) (fun w hw => Lock_c x0 x1 x2 w) (fun w1L w2L vL hw1L hbL hRL => ?_); obtain ⟨AL, cL, rfl, hSL⟩ := hRL)
 | (refine S_callM (f := 44) rfl (by (repeat' (first | exact trivial | apply And.intro | rfl | omega | intro _ | (simp only [obS] at *; omega))); first | done | fail) (by kernel_rfl) (fun w hw => rLock_c x0 x1 x2 hL w) (fun w1K w2K vK hw1K hbK hRK => ?_); obtain ⟨AK, cK, rfl, hSK⟩ := hRK)
              )
 | (refine D_id ?_; first
 | refine D_nil ?_
 | refine D_tail ?_
 | refine D_run rfl rfl (by (repeat' (first | exact trivial | apply And.intro | rfl | omega | intro _ | (simp only [obS] at *; omega))); first | done | fail) (by (repeat' (first | exact trivial | apply And.intro | rfl | omega | intro _ | (simp only [obS] at *; omega))); first | done | fail) ?_
 | refine D_call (f := 39) rfl (by (repeat' (first | exact trivial | apply And.intro | rfl | omega | intro _ | (simp only [obS] at *; omega))); first | done | fail) (by kernel_rfl) (fun w hw => Counted_c n d k1 w) ?_
 | refine D_call (f := 40) rfl (by (repeat' (first | exact trivial | apply And.intro | rfl | omega | intro _ | (simp only [obS] at *; omega))); first | done | fail) (by kernel_rfl) (fun w hw => Slip_c n d k2 w) ?_
 | refine D_call (f := 41) rfl (by (repeat' (first | exact trivial | apply And.intro | rfl | omega | intro _ | (simp only [obS] at *; omega))); first | done | fail) (by kernel_rfl) (fun w hw => rCheckLock_c x0 x1 x2 w) ?_
 | refine D_call (f := 42) rfl (by (repeat' (first | exact trivial | apply And.intro | rfl | omega | intro _ | (simp only [obS] at *; omega))); first | done | fail) (by kernel_rfl) (fun w hw => rCheckClock_c n d w) ?_
 | refine D_call (f := 20) rfl (by (repeat' (first | exact trivial | apply And.intro | rfl | omega | intro _ | (simp only [obS] at *; omega))); first | done | fail) (by kernel_rfl) (fun w hw => rCheckTick_c k1 w) ?_
 | refine D_call (f := 43) rfl (by (repeat' (first | exact trivial | apply And.intro | rfl | omega | intro _ | (simp only [obS] at *; omega))); first | done | fail) (by kernel_rfl) (fun w hw => rRange_c k2 1 1000 w) ?_
 | refine D_call (f := 19) rfl (by (repeat' (first | exact trivial | apply And.intro | rfl | omega | intro _ | (simp only [obS] at *; omega))); first | done | fail) (by kernel_rfl) (fun w hw => lfirst_c _ _ [clockE n d, wi k1 0 10000000] (by simp) w (by first | exact .inr ⟨_, rfl, hw.src (i := 3) rfl rfl⟩ | exact .inr ⟨_, rfl, hw.src (i := 4) rfl rfl⟩ | exact .inr ⟨_, rfl, hw.src (i := 5) rfl rfl⟩)) ?_
 | refine D_call (f := 19) rfl (by (repeat' (first | exact trivial | apply And.intro | rfl | omega | intro _ | (simp only [obS] at *; omega))); first | done | fail) (by kernel_rfl) (fun w hw => lfirst_c _ _ [clockE n d, wi k2 1 1000] (by simp) w (by first | exact .inr ⟨_, rfl, hw.src (i := 3) rfl rfl⟩ | exact .inr ⟨_, rfl, hw.src (i := 4) rfl rfl⟩ | exact .inr ⟨_, rfl, hw.src (i := 5) rfl rfl⟩)) ?_
 | refine D_call (f := 27) rfl (by (repeat' (first | exact trivial | apply And.intro | rfl | omega | intro _ | (simp only [obS] at *; omega))); first | done | fail) (by kernel_rfl) (fun w hw => awake_c w (hw.rdm hE.toS (by repeat (first | exact List.Mem.head _ | apply List.Mem.tail))) (Pw_at hP hw (by repeat (first | exact List.Mem.head _ | apply List.Mem.tail)))) ?_
 | refine D_call (f := 45) rfl (by (repeat' (first | exact trivial | apply And.intro | rfl | omega | intro _ | (simp only [obS] at *; omega))); first | done | fail) (by kernel_rfl) (fun w hw => rCounted_c n d k1 hb1 hb2 (by omega) w) ?_
 | refine D_call (f := 47) rfl (by (repeat' (first | exact trivial | apply And.intro | rfl | omega | intro _ | (simp only [obS] at *; omega))); first | done | fail) (by kernel_rfl) (fun w hw => sameIntsT_c _ _ _ _ (lockR x0 x1 x2).1 _ rfl (lockR_len x0 x1 x2) w (hw.rdm hSL (by repeat (first | exact List.Mem.head _ | apply List.Mem.tail))) (hw.rdm hSK (by repeat (first | exact List.Mem.head _ | apply List.Mem.tail)))) ?_
              )
 | (refine V_id ?_; first
 | refine V_nil ?_
 | refine V_q rfl (Yl_step rfl (by (repeat' (first | exact trivial | apply And.intro | rfl | omega | intro _ | (simp only [obS] at *; omega))); first | done | fail)) ?_
 | refine V_n rfl ?_
              )
 | (refine G_id ?_; first
 | refine G_V ⟨⟨_, rfl, trivial⟩, ⟨_, rfl⟩, rfl, (by intro p hp; repeat (first | exact hp | apply List.mem_cons_of_mem))⟩ rfl ?_
 | refine G_then ?_
 | refine G_block ?_
 | refine G_blockX ?_
 | refine G_blockN rfl ?_
 | refine G_blockR ?_
 | refine G_thenR ?_
 | refine G_thenX ?_
 | refine G_ret rfl (by (repeat' (first | exact trivial | apply And.intro | rfl | omega | intro _ | (simp only [obS] at *; omega))); first | done | fail) (fun w2 hw => ⟨?_, hw.below⟩)
              )
            )
        all_goals rfl
    · have hC1 : (countR n d k1).1 = 0 := by unfold countR; rw [if_pos (show ¬ countE n d k1 = 0 from hC)]
      have hC2 : (countR n d k1).2 = firstL [clockE n d, wi k1 0 10000000] := by unfold countR; split <;> first | rfl | (rename_i h; exact (Classical.not_not.1 h).symm)
      by_cases hS : firstL [clockE n d, wi k2 1 1000] = 0
      · have hS1 : True := trivial
        have hS2 : True := trivial
        repeat' (first
 | (refine C_id ?_; first
 | refine C_seq ?_
 | refine C_region rfl ?_
 | refine C_block ?_
 | refine C_skip ?_
 | refine C_exit ?_
 | refine C_ret0 ?_
 | refine C_drawV (id := 4) 18 [(0, true), (1, true), (2, true), (3, true), (4, true), (5, true), (7, true), (9, true), (10, true), (14, true), (16, true), (17, true), (6, false), (8, false), (11, false), (12, false), (13, false), (15, false)] rfl mixed (by kernel_rfl) rfl ?_
 | refine C_condT rfl (by (repeat' (first | exact trivial | apply And.intro | rfl | omega | intro _ | (simp only [obS] at *; omega))); first | done | fail) ?_
 | refine C_condF rfl (by (repeat' (first | exact trivial | apply And.intro | rfl | omega | intro _ | (simp only [obS] at *; omega))); first | done | fail) ?_
 | (refine C_cond rfl (by (repeat' (first | exact trivial | apply And.intro | rfl | omega | intro _ | (simp only [obS] at *; omega))); first | done | fail) (fun h => ?_) (fun h => ?_) <;> (try simp only [Bool.or_eq_true, Bool.and_eq_true, Bool.or_eq_false_iff, Bool.and_eq_false_iff, decide_eq_true_eq, decide_eq_false_iff_not, beq_iff_eq, bne_iff_ne, beq_eq_false_iff_ne, bne_eq_false_iff_eq, ne_eq, Decidable.not_not, List.cons.injEq, and_true, Bool.not_eq_true', Bool.not_eq_false', Int.not_lt, Int.not_le] at h) <;> (try (exfalso; omega)) <;> (try (exfalso; simp at h; done)) <;> (try (exfalso; simp only [not_true_eq_false, false_or, or_false] at h; omega)) <;> (try contradiction))
              )
 | (refine S_id ?_; first
 | ((with_reducible refine S_trueE ?_ ?_); · (first | exact beq_self_eq_true _ | (rw [beq_iff_eq]; first | rfl | assumption | (simp only [hF1, hF2, hC1, hC2, hS1, hS2]; done) | (simp [hF1, hF2, hC1, hC2, hS1, hS2]; done)) | assumption | (simp only [hF1, hF2, hC1, hC2, hS1, hS2]; done)))
 | ((with_reducible refine S_trueB ?_ ?_); · (first | exact beq_self_eq_true _ | (rw [beq_iff_eq]; first | rfl | assumption | (simp only [hF1, hF2, hC1, hC2, hS1, hS2]; done) | (simp [hF1, hF2, hC1, hC2, hS1, hS2]; done)) | assumption | (simp only [hF1, hF2, hC1, hC2, hS1, hS2]; done)))
 | ((with_reducible refine S_trueL ?_ ?_); · (first | exact beq_self_eq_true _ | (rw [beq_iff_eq]; first | rfl | assumption | (simp only [hF1, hF2, hC1, hC2, hS1, hS2]; done) | (simp [hF1, hF2, hC1, hC2, hS1, hS2]; done)) | assumption | (simp only [hF1, hF2, hC1, hC2, hS1, hS2]; done)))
 | ((with_reducible refine S_trueD ?_ ?_); · (first | exact beq_self_eq_true _ | (rw [beq_iff_eq]; first | rfl | assumption | (simp only [hF1, hF2, hC1, hC2, hS1, hS2]; done) | (simp [hF1, hF2, hC1, hC2, hS1, hS2]; done)) | assumption | (simp only [hF1, hF2, hC1, hC2, hS1, hS2]; done)))
 | ((with_reducible refine S_trueA ?_ ?_ ?_); (· rfl); (· first | rfl | (first | exact beq_self_eq_true _ | (rw [beq_iff_eq]; first | rfl | assumption | (simp only [hF1, hF2, hC1, hC2, hS1, hS2]; done) | (simp [hF1, hF2, hC1, hC2, hS1, hS2]; done)) | assumption | (simp only [hF1, hF2, hC1, hC2, hS1, hS2]; done))))
 | refine S_unG rfl rfl rfl rfl ?_
 | refine S_nil ?_
 | refine S_runN rfl rfl (by (repeat' (first | exact trivial | apply And.intro | rfl | omega | intro _ | (simp only [obS] at *; omega))); first | done | fail) (by (repeat' (first | exact trivial | apply And.intro | rfl | omega | intro _ | (simp only [obS] at *; omega))); first | done | fail) ?_
 | refine S_box (fun b => ⟨_, _, rfl, (by (repeat' (first | exact trivial | apply And.intro | rfl | omega | intro _ | (simp only [obS] at *; omega))); first | done | fail), ?_⟩)
 | refine S_slice (fun b => ⟨_, _, rfl, (by (repeat' (first | exact trivial | apply And.intro | rfl | omega | intro _ | (simp only [obS] at *; omega))); first | done | fail), ?_⟩)
 | refine S_call (f := 39) rfl (by (repeat' (first | exact trivial | apply And.intro | rfl | omega | intro _ | (simp only [obS] at *; omega))); first | done | fail) (by kernel_rfl) (fun w hw => Counted_c n d k1 w) ?_
 | refine S_call (f := 40) rfl (by (repeat' (first | exact trivial | apply And.intro | rfl | omega | intro _ | (simp only [obS] at *; omega))); first | done | fail) (by kernel_rfl) (fun w hw => Slip_c n d k2 w) ?_
 | refine S_call (f := 41) rfl (by (repeat' (first | exact trivial | apply And.intro | rfl | omega | intro _ | (simp only [obS] at *; omega))); first | done | fail) (by kernel_rfl) (fun w hw => rCheckLock_c x0 x1 x2 w) ?_
 | refine S_call (f := 42) rfl (by (repeat' (first | exact trivial | apply And.intro | rfl | omega | intro _ | (simp only [obS] at *; omega))); first | done | fail) (by kernel_rfl) (fun w hw => rCheckClock_c n d w) ?_
 | refine S_call (f := 20) rfl (by (repeat' (first | exact trivial | apply And.intro | rfl | omega | intro _ | (simp only [obS] at *; omega))); first | done | fail) (by kernel_rfl) (fun w hw => rCheckTick_c k1 w) ?_
 | refine S_call (f := 43) rfl (by (repeat' (first | exact trivial | apply And.intro | rfl | omega | intro _ | (simp only [obS] at *; omega))); first | done | fail) (by kernel_rfl) (fun w hw => rRange_c k2 1 1000 w) ?_
 | refine S_call (f := 19) rfl (by (repeat' (first | exact trivial | apply And.intro | rfl | omega | intro _ | (simp only [obS] at *; omega))); first | done | fail) (by kernel_rfl) (fun w hw => lfirst_c _ _ [clockE n d, wi k1 0 10000000] (by simp) w (by first | exact .inr ⟨_, rfl, hw.src (i := 3) rfl rfl⟩ | exact .inr ⟨_, rfl, hw.src (i := 4) rfl rfl⟩ | exact .inr ⟨_, rfl, hw.src (i := 5) rfl rfl⟩)) ?_
 | refine S_call (f := 19) rfl (by (repeat' (first | exact trivial | apply And.intro | rfl | omega | intro _ | (simp only [obS] at *; omega))); first | done | fail) (by kernel_rfl) (fun w hw => lfirst_c _ _ [clockE n d, wi k2 1 1000] (by simp) w (by first | exact .inr ⟨_, rfl, hw.src (i := 3) rfl rfl⟩ | exact .inr ⟨_, rfl, hw.src (i := 4) rfl rfl⟩ | exact .inr ⟨_, rfl, hw.src (i := 5) rfl rfl⟩)) ?_
 | refine S_call (f := 27) rfl (by (repeat' (first | exact trivial | apply And.intro | rfl | omega | intro _ | (simp only [obS] at *; omega))); first | done | fail) (by kernel_rfl) (fun w hw => awake_c w (hw.rdm hE.toS (by repeat (first | exact List.Mem.head _ | apply List.Mem.tail))) (Pw_at hP hw (by repeat (first | exact List.Mem.head _ | apply List.Mem.tail)))) ?_
 | refine S_call (f := 46) rfl (by (repeat' (first | exact trivial | apply And.intro | rfl | omega | intro _ | (simp only [obS] at *; omega))); first | done | fail) (by kernel_rfl) (fun w hw => rSlip_c n d k2 hS w) ?_
 | refine S_call (f := 47) rfl (by (repeat' (first | exact trivial | apply And.intro | rfl | omega | intro _ | (simp only [obS] at *; omega))); first | done | fail) (by kernel_rfl) (fun w hw => sameIntsT_c _ _ _ _ (lockR x0 x1 x2).1 _ rfl (lockR_len x0 x1 x2) w (hw.rdm hSL (by repeat (first | exact List.Mem.head _ | apply List.Mem.tail))) (hw.rdm hSK (by repeat (first | exact List.Mem.head _ | apply List.Mem.tail)))) ?_
 | (refine S_callM (f := 38) rfl (by (repeat' (first | exact trivial | apply And.intro | rfl | omega | intro _ | (simp only [obS] at *; omega))); first | done | fail) (by kernel_rfl) (fun w hw => Lock_c x0 x1 x2 w) (fun w1L w2L vL hw1L hbL hRL => ?_); obtain ⟨AL, cL, rfl, hSL⟩ := hRL)
 | (refine S_callM (f := 44) rfl (by (repeat' (first | exact trivial | apply And.intro | rfl | omega | intro _ | (simp only [obS] at *; omega))); first | done | fail) (by kernel_rfl) (fun w hw => rLock_c x0 x1 x2 hL w) (fun w1K w2K vK hw1K hbK hRK => ?_); obtain ⟨AK, cK, rfl, hSK⟩ := hRK)
              )
 | (refine D_id ?_; first
 | refine D_nil ?_
 | refine D_tail ?_
 | refine D_run rfl rfl (by (repeat' (first | exact trivial | apply And.intro | rfl | omega | intro _ | (simp only [obS] at *; omega))); first | done | fail) (by (repeat' (first | exact trivial | apply And.intro | rfl | omega | intro _ | (simp only [obS] at *; omega))); first | done | fail) ?_
 | refine D_call (f := 39) rfl (by (repeat' (first | exact trivial | apply And.intro | rfl | omega | intro _ | (simp only [obS] at *; omega))); first | done | fail) (by kernel_rfl) (fun w hw => Counted_c n d k1 w) ?_
 | refine D_call (f := 40) rfl (by (repeat' (first | exact trivial | apply And.intro | rfl | omega | intro _ | (simp only [obS] at *; omega))); first | done | fail) (by kernel_rfl) (fun w hw => Slip_c n d k2 w) ?_
 | refine D_call (f := 41) rfl (by (repeat' (first | exact trivial | apply And.intro | rfl | omega | intro _ | (simp only [obS] at *; omega))); first | done | fail) (by kernel_rfl) (fun w hw => rCheckLock_c x0 x1 x2 w) ?_
 | refine D_call (f := 42) rfl (by (repeat' (first | exact trivial | apply And.intro | rfl | omega | intro _ | (simp only [obS] at *; omega))); first | done | fail) (by kernel_rfl) (fun w hw => rCheckClock_c n d w) ?_
 | refine D_call (f := 20) rfl (by (repeat' (first | exact trivial | apply And.intro | rfl | omega | intro _ | (simp only [obS] at *; omega))); first | done | fail) (by kernel_rfl) (fun w hw => rCheckTick_c k1 w) ?_
 | refine D_call (f := 43) rfl (by (repeat' (first | exact trivial | apply And.intro | rfl | omega | intro _ | (simp only [obS] at *; omega))); first | done | fail) (by kernel_rfl) (fun w hw => rRange_c k2 1 1000 w) ?_
 | refine D_call (f := 19) rfl (by (repeat' (first | exact trivial | apply And.intro | rfl | omega | intro _ | (simp only [obS] at *; omega))); first | done | fail) (by kernel_rfl) (fun w hw => lfirst_c _ _ [clockE n d, wi k1 0 10000000] (by simp) w (by first | exact .inr ⟨_, rfl, hw.src (i := 3) rfl rfl⟩ | exact .inr ⟨_, rfl, hw.src (i := 4) rfl rfl⟩ | exact .inr ⟨_, rfl, hw.src (i := 5) rfl rfl⟩)) ?_
 | refine D_call (f := 19) rfl (by (repeat' (first | exact trivial | apply And.intro | rfl | omega | intro _ | (simp only [obS] at *; omega))); first | done | fail) (by kernel_rfl) (fun w hw => lfirst_c _ _ [clockE n d, wi k2 1 1000] (by simp) w (by first | exact .inr ⟨_, rfl, hw.src (i := 3) rfl rfl⟩ | exact .inr ⟨_, rfl, hw.src (i := 4) rfl rfl⟩ | exact .inr ⟨_, rfl, hw.src (i := 5) rfl rfl⟩)) ?_
 | refine D_call (f := 27) rfl (by (repeat' (first | exact trivial | apply And.intro | rfl | omega | intro _ | (simp only [obS] at *; omega))); first | done | fail) (by kernel_rfl) (fun w hw => awake_c w (hw.rdm hE.toS (by repeat (first | exact List.Mem.head _ | apply List.Mem.tail))) (Pw_at hP hw (by repeat (first | exact List.Mem.head _ | apply List.Mem.tail)))) ?_
 | refine D_call (f := 46) rfl (by (repeat' (first | exact trivial | apply And.intro | rfl | omega | intro _ | (simp only [obS] at *; omega))); first | done | fail) (by kernel_rfl) (fun w hw => rSlip_c n d k2 hS w) ?_
 | refine D_call (f := 47) rfl (by (repeat' (first | exact trivial | apply And.intro | rfl | omega | intro _ | (simp only [obS] at *; omega))); first | done | fail) (by kernel_rfl) (fun w hw => sameIntsT_c _ _ _ _ (lockR x0 x1 x2).1 _ rfl (lockR_len x0 x1 x2) w (hw.rdm hSL (by repeat (first | exact List.Mem.head _ | apply List.Mem.tail))) (hw.rdm hSK (by repeat (first | exact List.Mem.head _ | apply List.Mem.tail)))) ?_
              )
 | (refine V_id ?_; first
 | refine V_nil ?_
 | refine V_q rfl (Yl_step rfl (by (repeat' (first | exact trivial | apply And.intro | rfl | omega | intro _ | (simp only [obS] at *; omega))); first | done | fail)) ?_
 | refine V_n rfl ?_
              )
 | (refine G_id ?_; first
 | refine G_V ⟨⟨_, rfl, trivial⟩, ⟨_, rfl⟩, rfl, (by intro p hp; repeat (first | exact hp | apply List.mem_cons_of_mem))⟩ rfl ?_
 | refine G_then ?_
 | refine G_block ?_
 | refine G_blockX ?_
 | refine G_blockN rfl ?_
 | refine G_blockR ?_
 | refine G_thenR ?_
 | refine G_thenX ?_
 | refine G_ret rfl (by (repeat' (first | exact trivial | apply And.intro | rfl | omega | intro _ | (simp only [obS] at *; omega))); first | done | fail) (fun w2 hw => ⟨?_, hw.below⟩)
              )
            )
        all_goals rfl
      · have hS1 : (slipR n d k2).1 = 0 := by unfold slipR; rw [if_pos (show ¬ slipE n d k2 = 0 from hS)]
        have hS2 : (slipR n d k2).2 = firstL [clockE n d, wi k2 1 1000] := by unfold slipR; rw [if_pos (show ¬ slipE n d k2 = 0 from hS)]; rfl
        repeat' (first
 | (refine C_id ?_; first
 | refine C_seq ?_
 | refine C_region rfl ?_
 | refine C_block ?_
 | refine C_skip ?_
 | refine C_exit ?_
 | refine C_ret0 ?_
 | refine C_drawV (id := 4) 18 [(0, true), (1, true), (2, true), (3, true), (4, true), (5, true), (7, true), (9, true), (10, true), (14, true), (16, true), (17, true), (6, false), (8, false), (11, false), (12, false), (13, false), (15, false)] rfl mixed (by kernel_rfl) rfl ?_
 | refine C_condT rfl (by (repeat' (first | exact trivial | apply And.intro | rfl | omega | intro _ | (simp only [obS] at *; omega))); first | done | fail) ?_
 | refine C_condF rfl (by (repeat' (first | exact trivial | apply And.intro | rfl | omega | intro _ | (simp only [obS] at *; omega))); first | done | fail) ?_
 | (refine C_cond rfl (by (repeat' (first | exact trivial | apply And.intro | rfl | omega | intro _ | (simp only [obS] at *; omega))); first | done | fail) (fun h => ?_) (fun h => ?_) <;> (try simp only [Bool.or_eq_true, Bool.and_eq_true, Bool.or_eq_false_iff, Bool.and_eq_false_iff, decide_eq_true_eq, decide_eq_false_iff_not, beq_iff_eq, bne_iff_ne, beq_eq_false_iff_ne, bne_eq_false_iff_eq, ne_eq, Decidable.not_not, List.cons.injEq, and_true, Bool.not_eq_true', Bool.not_eq_false', Int.not_lt, Int.not_le] at h) <;> (try (exfalso; omega)) <;> (try (exfalso; simp at h; done)) <;> (try (exfalso; simp only [not_true_eq_false, false_or, or_false] at h; omega)) <;> (try contradiction))
              )
 | (refine S_id ?_; first
 | ((with_reducible refine S_trueE ?_ ?_); · (first | exact beq_self_eq_true _ | (rw [beq_iff_eq]; first | rfl | assumption | (simp only [hF1, hF2, hC1, hC2, hS1, hS2]; done) | (simp [hF1, hF2, hC1, hC2, hS1, hS2]; done)) | assumption | (simp only [hF1, hF2, hC1, hC2, hS1, hS2]; done)))
 | ((with_reducible refine S_trueB ?_ ?_); · (first | exact beq_self_eq_true _ | (rw [beq_iff_eq]; first | rfl | assumption | (simp only [hF1, hF2, hC1, hC2, hS1, hS2]; done) | (simp [hF1, hF2, hC1, hC2, hS1, hS2]; done)) | assumption | (simp only [hF1, hF2, hC1, hC2, hS1, hS2]; done)))
 | ((with_reducible refine S_trueL ?_ ?_); · (first | exact beq_self_eq_true _ | (rw [beq_iff_eq]; first | rfl | assumption | (simp only [hF1, hF2, hC1, hC2, hS1, hS2]; done) | (simp [hF1, hF2, hC1, hC2, hS1, hS2]; done)) | assumption | (simp only [hF1, hF2, hC1, hC2, hS1, hS2]; done)))
 | ((with_reducible refine S_trueD ?_ ?_); · (first | exact beq_self_eq_true _ | (rw [beq_iff_eq]; first | rfl | assumption | (simp only [hF1, hF2, hC1, hC2, hS1, hS2]; done) | (simp [hF1, hF2, hC1, hC2, hS1, hS2]; done)) | assumption | (simp only [hF1, hF2, hC1, hC2, hS1, hS2]; done)))
 | ((with_reducible refine S_trueA ?_ ?_ ?_); (· rfl); (· first | rfl | (first | exact beq_self_eq_true _ | (rw [beq_iff_eq]; first | rfl | assumption | (simp only [hF1, hF2, hC1, hC2, hS1, hS2]; done) | (simp [hF1, hF2, hC1, hC2, hS1, hS2]; done)) | assumption | (simp only [hF1, hF2, hC1, hC2, hS1, hS2]; done))))
 | refine S_unG rfl rfl rfl rfl ?_
 | refine S_nil ?_
 | refine S_runN rfl rfl (by (repeat' (first | exact trivial | apply And.intro | rfl | omega | intro _ | (simp only [obS] at *; omega))); first | done | fail) (by (repeat' (first | exact trivial | apply And.intro | rfl | omega | intro _ | (simp only [obS] at *; omega))); first | done | fail) ?_
 | refine S_box (fun b => ⟨_, _, rfl, (by (repeat' (first | exact trivial | apply And.intro | rfl | omega | intro _ | (simp only [obS] at *; omega))); first | done | fail), ?_⟩)
 | refine S_slice (fun b => ⟨_, _, rfl, (by (repeat' (first | exact trivial | apply And.intro | rfl | omega | intro _ | (simp only [obS] at *; omega))); first | done | fail), ?_⟩)
 | refine S_call (f := 39) rfl (by (repeat' (first | exact trivial | apply And.intro | rfl | omega | intro _ | (simp only [obS] at *; omega))); first | done | fail) (by kernel_rfl) (fun w hw => Counted_c n d k1 w) ?_
 | refine S_call (f := 40) rfl (by (repeat' (first | exact trivial | apply And.intro | rfl | omega | intro _ | (simp only [obS] at *; omega))); first | done | fail) (by kernel_rfl) (fun w hw => Slip_c n d k2 w) ?_
 | refine S_call (f := 41) rfl (by (repeat' (first | exact trivial | apply And.intro | rfl | omega | intro _ | (simp only [obS] at *; omega))); first | done | fail) (by kernel_rfl) (fun w hw => rCheckLock_c x0 x1 x2 w) ?_
 | refine S_call (f := 42) rfl (by (repeat' (first | exact trivial | apply And.intro | rfl | omega | intro _ | (simp only [obS] at *; omega))); first | done | fail) (by kernel_rfl) (fun w hw => rCheckClock_c n d w) ?_
 | refine S_call (f := 20) rfl (by (repeat' (first | exact trivial | apply And.intro | rfl | omega | intro _ | (simp only [obS] at *; omega))); first | done | fail) (by kernel_rfl) (fun w hw => rCheckTick_c k1 w) ?_
 | refine S_call (f := 43) rfl (by (repeat' (first | exact trivial | apply And.intro | rfl | omega | intro _ | (simp only [obS] at *; omega))); first | done | fail) (by kernel_rfl) (fun w hw => rRange_c k2 1 1000 w) ?_
 | refine S_call (f := 19) rfl (by (repeat' (first | exact trivial | apply And.intro | rfl | omega | intro _ | (simp only [obS] at *; omega))); first | done | fail) (by kernel_rfl) (fun w hw => lfirst_c _ _ [clockE n d, wi k1 0 10000000] (by simp) w (by first | exact .inr ⟨_, rfl, hw.src (i := 3) rfl rfl⟩ | exact .inr ⟨_, rfl, hw.src (i := 4) rfl rfl⟩ | exact .inr ⟨_, rfl, hw.src (i := 5) rfl rfl⟩)) ?_
 | refine S_call (f := 19) rfl (by (repeat' (first | exact trivial | apply And.intro | rfl | omega | intro _ | (simp only [obS] at *; omega))); first | done | fail) (by kernel_rfl) (fun w hw => lfirst_c _ _ [clockE n d, wi k2 1 1000] (by simp) w (by first | exact .inr ⟨_, rfl, hw.src (i := 3) rfl rfl⟩ | exact .inr ⟨_, rfl, hw.src (i := 4) rfl rfl⟩ | exact .inr ⟨_, rfl, hw.src (i := 5) rfl rfl⟩)) ?_
 | refine S_call (f := 27) rfl (by (repeat' (first | exact trivial | apply And.intro | rfl | omega | intro _ | (simp only [obS] at *; omega))); first | done | fail) (by kernel_rfl) (fun w hw => awake_c w (hw.rdm hE.toS (by repeat (first | exact List.Mem.head _ | apply List.Mem.tail))) (Pw_at hP hw (by repeat (first | exact List.Mem.head _ | apply List.Mem.tail)))) ?_
 | refine S_call (f := 47) rfl (by (repeat' (first | exact trivial | apply And.intro | rfl | omega | intro _ | (simp only [obS] at *; omega))); first | done | fail) (by kernel_rfl) (fun w hw => sameIntsT_c _ _ _ _ (lockR x0 x1 x2).1 _ rfl (lockR_len x0 x1 x2) w (hw.rdm hSL (by repeat (first | exact List.Mem.head _ | apply List.Mem.tail))) (hw.rdm hSK (by repeat (first | exact List.Mem.head _ | apply List.Mem.tail)))) ?_
 | (refine S_callM (f := 38) rfl (by (repeat' (first | exact trivial | apply And.intro | rfl | omega | intro _ | (simp only [obS] at *; omega))); first | done | fail) (by kernel_rfl) (fun w hw => Lock_c x0 x1 x2 w) (fun w1L w2L vL hw1L hbL hRL => ?_); obtain ⟨AL, cL, rfl, hSL⟩ := hRL)
 | (refine S_callM (f := 44) rfl (by (repeat' (first | exact trivial | apply And.intro | rfl | omega | intro _ | (simp only [obS] at *; omega))); first | done | fail) (by kernel_rfl) (fun w hw => rLock_c x0 x1 x2 hL w) (fun w1K w2K vK hw1K hbK hRK => ?_); obtain ⟨AK, cK, rfl, hSK⟩ := hRK)
              )
 | (refine D_id ?_; first
 | refine D_nil ?_
 | refine D_tail ?_
 | refine D_run rfl rfl (by (repeat' (first | exact trivial | apply And.intro | rfl | omega | intro _ | (simp only [obS] at *; omega))); first | done | fail) (by (repeat' (first | exact trivial | apply And.intro | rfl | omega | intro _ | (simp only [obS] at *; omega))); first | done | fail) ?_
 | refine D_call (f := 39) rfl (by (repeat' (first | exact trivial | apply And.intro | rfl | omega | intro _ | (simp only [obS] at *; omega))); first | done | fail) (by kernel_rfl) (fun w hw => Counted_c n d k1 w) ?_
 | refine D_call (f := 40) rfl (by (repeat' (first | exact trivial | apply And.intro | rfl | omega | intro _ | (simp only [obS] at *; omega))); first | done | fail) (by kernel_rfl) (fun w hw => Slip_c n d k2 w) ?_
 | refine D_call (f := 41) rfl (by (repeat' (first | exact trivial | apply And.intro | rfl | omega | intro _ | (simp only [obS] at *; omega))); first | done | fail) (by kernel_rfl) (fun w hw => rCheckLock_c x0 x1 x2 w) ?_
 | refine D_call (f := 42) rfl (by (repeat' (first | exact trivial | apply And.intro | rfl | omega | intro _ | (simp only [obS] at *; omega))); first | done | fail) (by kernel_rfl) (fun w hw => rCheckClock_c n d w) ?_
 | refine D_call (f := 20) rfl (by (repeat' (first | exact trivial | apply And.intro | rfl | omega | intro _ | (simp only [obS] at *; omega))); first | done | fail) (by kernel_rfl) (fun w hw => rCheckTick_c k1 w) ?_
 | refine D_call (f := 43) rfl (by (repeat' (first | exact trivial | apply And.intro | rfl | omega | intro _ | (simp only [obS] at *; omega))); first | done | fail) (by kernel_rfl) (fun w hw => rRange_c k2 1 1000 w) ?_
 | refine D_call (f := 19) rfl (by (repeat' (first | exact trivial | apply And.intro | rfl | omega | intro _ | (simp only [obS] at *; omega))); first | done | fail) (by kernel_rfl) (fun w hw => lfirst_c _ _ [clockE n d, wi k1 0 10000000] (by simp) w (by first | exact .inr ⟨_, rfl, hw.src (i := 3) rfl rfl⟩ | exact .inr ⟨_, rfl, hw.src (i := 4) rfl rfl⟩ | exact .inr ⟨_, rfl, hw.src (i := 5) rfl rfl⟩)) ?_
 | refine D_call (f := 19) rfl (by (repeat' (first | exact trivial | apply And.intro | rfl | omega | intro _ | (simp only [obS] at *; omega))); first | done | fail) (by kernel_rfl) (fun w hw => lfirst_c _ _ [clockE n d, wi k2 1 1000] (by simp) w (by first | exact .inr ⟨_, rfl, hw.src (i := 3) rfl rfl⟩ | exact .inr ⟨_, rfl, hw.src (i := 4) rfl rfl⟩ | exact .inr ⟨_, rfl, hw.src (i := 5) rfl rfl⟩)) ?_
 | refine D_call (f := 27) rfl (by (repeat' (first | exact trivial | apply And.intro | rfl | omega | intro _ | (simp only [obS] at *; omega))); first | done | fail) (by kernel_rfl) (fun w hw => awake_c w (hw.rdm hE.toS (by repeat (first | exact List.Mem.head _ | apply List.Mem.tail))) (Pw_at hP hw (by repeat (first | exact List.Mem.head _ | apply List.Mem.tail)))) ?_
 | refine D_call (f := 47) rfl (by (repeat' (first | exact trivial | apply And.intro | rfl | omega | intro _ | (simp only [obS] at *; omega))); first | done | fail) (by kernel_rfl) (fun w hw => sameIntsT_c _ _ _ _ (lockR x0 x1 x2).1 _ rfl (lockR_len x0 x1 x2) w (hw.rdm hSL (by repeat (first | exact List.Mem.head _ | apply List.Mem.tail))) (hw.rdm hSK (by repeat (first | exact List.Mem.head _ | apply List.Mem.tail)))) ?_
              )
 | (refine V_id ?_; first
 | refine V_nil ?_
 | refine V_q rfl (Yl_step rfl (by (repeat' (first | exact trivial | apply And.intro | rfl | omega | intro _ | (simp only [obS] at *; omega))); first | done | fail)) ?_
 | refine V_n rfl ?_
              )
 | (refine G_id ?_; first
 | refine G_V ⟨⟨_, rfl, trivial⟩, ⟨_, rfl⟩, rfl, (by intro p hp; repeat (first | exact hp | apply List.mem_cons_of_mem))⟩ rfl ?_
 | refine G_then ?_
 | refine G_block ?_
 | refine G_blockX ?_
 | refine G_blockN rfl ?_
 | refine G_blockR ?_
 | refine G_thenR ?_
 | refine G_thenX ?_
 | refine G_ret rfl (by (repeat' (first | exact trivial | apply And.intro | rfl | omega | intro _ | (simp only [obS] at *; omega))); first | done | fail) (fun w2 hw => ⟨?_, hw.below⟩)
              )
            )
        all_goals rfl
  · have hLr : lockR x0 x1 x2 = ([], lockE x0 x1 x2) := by unfold lockR; rw [if_neg hL]
    have hF1 : (lockR x0 x1 x2).1 = [] := by rw [hLr]
    have hF2 : (lockR x0 x1 x2).2 = lockE x0 x1 x2 := by rw [hLr]
    by_cases hC : firstL [clockE n d, wi k1 0 10000000] = 0
    · obtain ⟨hck, hk1⟩ := count_ok hC
      obtain ⟨⟨hb1, hb2', _⟩, _⟩ := clock_ok hck
      have hb2 : 1 ≤ d := hb2'
      have hC1 : (countR n d k1).1 = k1 * n / d := by unfold countR; rw [if_neg (show ¬ ¬ countE n d k1 = 0 from Classical.not_not.2 hC)]
      have hC2 : (countR n d k1).2 = firstL [clockE n d, wi k1 0 10000000] := by unfold countR; split <;> first | rfl | (rename_i h; exact (Classical.not_not.1 h).symm)
      by_cases hS : firstL [clockE n d, wi k2 1 1000] = 0
      · have hS1 : True := trivial
        have hS2 : True := trivial
        repeat' (first
 | (refine C_id ?_; first
 | refine C_seq ?_
 | refine C_region rfl ?_
 | refine C_block ?_
 | refine C_skip ?_
 | refine C_exit ?_
 | refine C_ret0 ?_
 | refine C_drawV (id := 4) 18 [(0, true), (1, true), (2, true), (3, true), (4, true), (5, true), (7, true), (9, true), (10, true), (14, true), (16, true), (17, true), (6, false), (8, false), (11, false), (12, false), (13, false), (15, false)] rfl mixed (by kernel_rfl) rfl ?_
 | refine C_condT rfl (by (repeat' (first | exact trivial | apply And.intro | rfl | omega | intro _ | (simp only [obS] at *; omega))); first | done | fail) ?_
 | refine C_condF rfl (by (repeat' (first | exact trivial | apply And.intro | rfl | omega | intro _ | (simp only [obS] at *; omega))); first | done | fail) ?_
 | (refine C_cond rfl (by (repeat' (first | exact trivial | apply And.intro | rfl | omega | intro _ | (simp only [obS] at *; omega))); first | done | fail) (fun h => ?_) (fun h => ?_) <;> (try simp only [Bool.or_eq_true, Bool.and_eq_true, Bool.or_eq_false_iff, Bool.and_eq_false_iff, decide_eq_true_eq, decide_eq_false_iff_not, beq_iff_eq, bne_iff_ne, beq_eq_false_iff_ne, bne_eq_false_iff_eq, ne_eq, Decidable.not_not, List.cons.injEq, and_true, Bool.not_eq_true', Bool.not_eq_false', Int.not_lt, Int.not_le] at h) <;> (try (exfalso; omega)) <;> (try (exfalso; simp at h; done)) <;> (try (exfalso; simp only [not_true_eq_false, false_or, or_false] at h; omega)) <;> (try contradiction))
              )
 | (refine S_id ?_; first
 | ((with_reducible refine S_trueE ?_ ?_); · (first | exact beq_self_eq_true _ | (rw [beq_iff_eq]; first | rfl | assumption | (simp only [hF1, hF2, hC1, hC2, hS1, hS2]; done) | (simp [hF1, hF2, hC1, hC2, hS1, hS2]; done)) | assumption | (simp only [hF1, hF2, hC1, hC2, hS1, hS2]; done)))
 | ((with_reducible refine S_trueB ?_ ?_); · (first | exact beq_self_eq_true _ | (rw [beq_iff_eq]; first | rfl | assumption | (simp only [hF1, hF2, hC1, hC2, hS1, hS2]; done) | (simp [hF1, hF2, hC1, hC2, hS1, hS2]; done)) | assumption | (simp only [hF1, hF2, hC1, hC2, hS1, hS2]; done)))
 | ((with_reducible refine S_trueL ?_ ?_); · (first | exact beq_self_eq_true _ | (rw [beq_iff_eq]; first | rfl | assumption | (simp only [hF1, hF2, hC1, hC2, hS1, hS2]; done) | (simp [hF1, hF2, hC1, hC2, hS1, hS2]; done)) | assumption | (simp only [hF1, hF2, hC1, hC2, hS1, hS2]; done)))
 | ((with_reducible refine S_trueD ?_ ?_); · (first | exact beq_self_eq_true _ | (rw [beq_iff_eq]; first | rfl | assumption | (simp only [hF1, hF2, hC1, hC2, hS1, hS2]; done) | (simp [hF1, hF2, hC1, hC2, hS1, hS2]; done)) | assumption | (simp only [hF1, hF2, hC1, hC2, hS1, hS2]; done)))
 | ((with_reducible refine S_trueA ?_ ?_ ?_); (· rfl); (· first | rfl | (first | exact beq_self_eq_true _ | (rw [beq_iff_eq]; first | rfl | assumption | (simp only [hF1, hF2, hC1, hC2, hS1, hS2]; done) | (simp [hF1, hF2, hC1, hC2, hS1, hS2]; done)) | assumption | (simp only [hF1, hF2, hC1, hC2, hS1, hS2]; done))))
 | refine S_unG rfl rfl rfl rfl ?_
 | refine S_nil ?_
 | refine S_runN rfl rfl (by (repeat' (first | exact trivial | apply And.intro | rfl | omega | intro _ | (simp only [obS] at *; omega))); first | done | fail) (by (repeat' (first | exact trivial | apply And.intro | rfl | omega | intro _ | (simp only [obS] at *; omega))); first | done | fail) ?_
 | refine S_box (fun b => ⟨_, _, rfl, (by (repeat' (first | exact trivial | apply And.intro | rfl | omega | intro _ | (simp only [obS] at *; omega))); first | done | fail), ?_⟩)
 | refine S_slice (fun b => ⟨_, _, rfl, (by (repeat' (first | exact trivial | apply And.intro | rfl | omega | intro _ | (simp only [obS] at *; omega))); first | done | fail), ?_⟩)
 | refine S_call (f := 39) rfl (by (repeat' (first | exact trivial | apply And.intro | rfl | omega | intro _ | (simp only [obS] at *; omega))); first | done | fail) (by kernel_rfl) (fun w hw => Counted_c n d k1 w) ?_
 | refine S_call (f := 40) rfl (by (repeat' (first | exact trivial | apply And.intro | rfl | omega | intro _ | (simp only [obS] at *; omega))); first | done | fail) (by kernel_rfl) (fun w hw => Slip_c n d k2 w) ?_
 | refine S_call (f := 41) rfl (by (repeat' (first | exact trivial | apply And.intro | rfl | omega | intro _ | (simp only [obS] at *; omega))); first | done | fail) (by kernel_rfl) (fun w hw => rCheckLock_c x0 x1 x2 w) ?_
 | refine S_call (f := 42) rfl (by (repeat' (first | exact trivial | apply And.intro | rfl | omega | intro _ | (simp only [obS] at *; omega))); first | done | fail) (by kernel_rfl) (fun w hw => rCheckClock_c n d w) ?_
 | refine S_call (f := 20) rfl (by (repeat' (first | exact trivial | apply And.intro | rfl | omega | intro _ | (simp only [obS] at *; omega))); first | done | fail) (by kernel_rfl) (fun w hw => rCheckTick_c k1 w) ?_
 | refine S_call (f := 43) rfl (by (repeat' (first | exact trivial | apply And.intro | rfl | omega | intro _ | (simp only [obS] at *; omega))); first | done | fail) (by kernel_rfl) (fun w hw => rRange_c k2 1 1000 w) ?_
 | refine S_call (f := 19) rfl (by (repeat' (first | exact trivial | apply And.intro | rfl | omega | intro _ | (simp only [obS] at *; omega))); first | done | fail) (by kernel_rfl) (fun w hw => lfirst_c _ _ [clockE n d, wi k1 0 10000000] (by simp) w (by first | exact .inr ⟨_, rfl, hw.src (i := 3) rfl rfl⟩ | exact .inr ⟨_, rfl, hw.src (i := 4) rfl rfl⟩ | exact .inr ⟨_, rfl, hw.src (i := 5) rfl rfl⟩)) ?_
 | refine S_call (f := 19) rfl (by (repeat' (first | exact trivial | apply And.intro | rfl | omega | intro _ | (simp only [obS] at *; omega))); first | done | fail) (by kernel_rfl) (fun w hw => lfirst_c _ _ [clockE n d, wi k2 1 1000] (by simp) w (by first | exact .inr ⟨_, rfl, hw.src (i := 3) rfl rfl⟩ | exact .inr ⟨_, rfl, hw.src (i := 4) rfl rfl⟩ | exact .inr ⟨_, rfl, hw.src (i := 5) rfl rfl⟩)) ?_
 | refine S_call (f := 27) rfl (by (repeat' (first | exact trivial | apply And.intro | rfl | omega | intro _ | (simp only [obS] at *; omega))); first | done | fail) (by kernel_rfl) (fun w hw => awake_c w (hw.rdm hE.toS (by repeat (first | exact List.Mem.head _ | apply List.Mem.tail))) (Pw_at hP hw (by repeat (first | exact List.Mem.head _ | apply List.Mem.tail)))) ?_
 | refine S_call (f := 45) rfl (by (repeat' (first | exact trivial | apply And.intro | rfl | omega | intro _ | (simp only [obS] at *; omega))); first | done | fail) (by kernel_rfl) (fun w hw => rCounted_c n d k1 hb1 hb2 (by omega) w) ?_
 | refine S_call (f := 46) rfl (by (repeat' (first | exact trivial | apply And.intro | rfl | omega | intro _ | (simp only [obS] at *; omega))); first | done | fail) (by kernel_rfl) (fun w hw => rSlip_c n d k2 hS w) ?_
 | refine S_call (f := 47) rfl (by (repeat' (first | exact trivial | apply And.intro | rfl | omega | intro _ | (simp only [obS] at *; omega))); first | done | fail) (by kernel_rfl) (fun w hw => rSameInts_c _ none _ 0 (lockR x0 x1 x2).1 [] (lockR_len x0 x1 x2) (Nat.zero_le _) w (hw.rdm hSL (by repeat (first | exact List.Mem.head _ | apply List.Mem.tail))) (.inl rfl)) ?_
 | (refine S_callM (f := 38) rfl (by (repeat' (first | exact trivial | apply And.intro | rfl | omega | intro _ | (simp only [obS] at *; omega))); first | done | fail) (by kernel_rfl) (fun w hw => Lock_c x0 x1 x2 w) (fun w1L w2L vL hw1L hbL hRL => ?_); obtain ⟨AL, cL, rfl, hSL⟩ := hRL)
              )
 | (refine D_id ?_; first
 | refine D_nil ?_
 | refine D_tail ?_
 | refine D_run rfl rfl (by (repeat' (first | exact trivial | apply And.intro | rfl | omega | intro _ | (simp only [obS] at *; omega))); first | done | fail) (by (repeat' (first | exact trivial | apply And.intro | rfl | omega | intro _ | (simp only [obS] at *; omega))); first | done | fail) ?_
 | refine D_call (f := 39) rfl (by (repeat' (first | exact trivial | apply And.intro | rfl | omega | intro _ | (simp only [obS] at *; omega))); first | done | fail) (by kernel_rfl) (fun w hw => Counted_c n d k1 w) ?_
 | refine D_call (f := 40) rfl (by (repeat' (first | exact trivial | apply And.intro | rfl | omega | intro _ | (simp only [obS] at *; omega))); first | done | fail) (by kernel_rfl) (fun w hw => Slip_c n d k2 w) ?_
 | refine D_call (f := 41) rfl (by (repeat' (first | exact trivial | apply And.intro | rfl | omega | intro _ | (simp only [obS] at *; omega))); first | done | fail) (by kernel_rfl) (fun w hw => rCheckLock_c x0 x1 x2 w) ?_
 | refine D_call (f := 42) rfl (by (repeat' (first | exact trivial | apply And.intro | rfl | omega | intro _ | (simp only [obS] at *; omega))); first | done | fail) (by kernel_rfl) (fun w hw => rCheckClock_c n d w) ?_
 | refine D_call (f := 20) rfl (by (repeat' (first | exact trivial | apply And.intro | rfl | omega | intro _ | (simp only [obS] at *; omega))); first | done | fail) (by kernel_rfl) (fun w hw => rCheckTick_c k1 w) ?_
 | refine D_call (f := 43) rfl (by (repeat' (first | exact trivial | apply And.intro | rfl | omega | intro _ | (simp only [obS] at *; omega))); first | done | fail) (by kernel_rfl) (fun w hw => rRange_c k2 1 1000 w) ?_
 | refine D_call (f := 19) rfl (by (repeat' (first | exact trivial | apply And.intro | rfl | omega | intro _ | (simp only [obS] at *; omega))); first | done | fail) (by kernel_rfl) (fun w hw => lfirst_c _ _ [clockE n d, wi k1 0 10000000] (by simp) w (by first | exact .inr ⟨_, rfl, hw.src (i := 3) rfl rfl⟩ | exact .inr ⟨_, rfl, hw.src (i := 4) rfl rfl⟩ | exact .inr ⟨_, rfl, hw.src (i := 5) rfl rfl⟩)) ?_
 | refine D_call (f := 19) rfl (by (repeat' (first | exact trivial | apply And.intro | rfl | omega | intro _ | (simp only [obS] at *; omega))); first | done | fail) (by kernel_rfl) (fun w hw => lfirst_c _ _ [clockE n d, wi k2 1 1000] (by simp) w (by first | exact .inr ⟨_, rfl, hw.src (i := 3) rfl rfl⟩ | exact .inr ⟨_, rfl, hw.src (i := 4) rfl rfl⟩ | exact .inr ⟨_, rfl, hw.src (i := 5) rfl rfl⟩)) ?_
 | refine D_call (f := 27) rfl (by (repeat' (first | exact trivial | apply And.intro | rfl | omega | intro _ | (simp only [obS] at *; omega))); first | done | fail) (by kernel_rfl) (fun w hw => awake_c w (hw.rdm hE.toS (by repeat (first | exact List.Mem.head _ | apply List.Mem.tail))) (Pw_at hP hw (by repeat (first | exact List.Mem.head _ | apply List.Mem.tail)))) ?_
 | refine D_call (f := 45) rfl (by (repeat' (first | exact trivial | apply And.intro | rfl | omega | intro _ | (simp only [obS] at *; omega))); first | done | fail) (by kernel_rfl) (fun w hw => rCounted_c n d k1 hb1 hb2 (by omega) w) ?_
 | refine D_call (f := 46) rfl (by (repeat' (first | exact trivial | apply And.intro | rfl | omega | intro _ | (simp only [obS] at *; omega))); first | done | fail) (by kernel_rfl) (fun w hw => rSlip_c n d k2 hS w) ?_
 | refine D_call (f := 47) rfl (by (repeat' (first | exact trivial | apply And.intro | rfl | omega | intro _ | (simp only [obS] at *; omega))); first | done | fail) (by kernel_rfl) (fun w hw => rSameInts_c _ none _ 0 (lockR x0 x1 x2).1 [] (lockR_len x0 x1 x2) (Nat.zero_le _) w (hw.rdm hSL (by repeat (first | exact List.Mem.head _ | apply List.Mem.tail))) (.inl rfl)) ?_
              )
 | (refine V_id ?_; first
 | refine V_nil ?_
 | refine V_q rfl (Yl_step rfl (by (repeat' (first | exact trivial | apply And.intro | rfl | omega | intro _ | (simp only [obS] at *; omega))); first | done | fail)) ?_
 | refine V_n rfl ?_
              )
 | (refine G_id ?_; first
 | refine G_V ⟨⟨_, rfl, trivial⟩, ⟨_, rfl⟩, rfl, (by intro p hp; repeat (first | exact hp | apply List.mem_cons_of_mem))⟩ rfl ?_
 | refine G_then ?_
 | refine G_block ?_
 | refine G_blockX ?_
 | refine G_blockN rfl ?_
 | refine G_blockR ?_
 | refine G_thenR ?_
 | refine G_thenX ?_
 | refine G_ret rfl (by (repeat' (first | exact trivial | apply And.intro | rfl | omega | intro _ | (simp only [obS] at *; omega))); first | done | fail) (fun w2 hw => ⟨?_, hw.below⟩)
              )
            )
        all_goals rfl
      · have hS1 : (slipR n d k2).1 = 0 := by unfold slipR; rw [if_pos (show ¬ slipE n d k2 = 0 from hS)]
        have hS2 : (slipR n d k2).2 = firstL [clockE n d, wi k2 1 1000] := by unfold slipR; rw [if_pos (show ¬ slipE n d k2 = 0 from hS)]; rfl
        repeat' (first
 | (refine C_id ?_; first
 | refine C_seq ?_
 | refine C_region rfl ?_
 | refine C_block ?_
 | refine C_skip ?_
 | refine C_exit ?_
 | refine C_ret0 ?_
 | refine C_drawV (id := 4) 18 [(0, true), (1, true), (2, true), (3, true), (4, true), (5, true), (7, true), (9, true), (10, true), (14, true), (16, true), (17, true), (6, false), (8, false), (11, false), (12, false), (13, false), (15, false)] rfl mixed (by kernel_rfl) rfl ?_
 | refine C_condT rfl (by (repeat' (first | exact trivial | apply And.intro | rfl | omega | intro _ | (simp only [obS] at *; omega))); first | done | fail) ?_
 | refine C_condF rfl (by (repeat' (first | exact trivial | apply And.intro | rfl | omega | intro _ | (simp only [obS] at *; omega))); first | done | fail) ?_
 | (refine C_cond rfl (by (repeat' (first | exact trivial | apply And.intro | rfl | omega | intro _ | (simp only [obS] at *; omega))); first | done | fail) (fun h => ?_) (fun h => ?_) <;> (try simp only [Bool.or_eq_true, Bool.and_eq_true, Bool.or_eq_false_iff, Bool.and_eq_false_iff, decide_eq_true_eq, decide_eq_false_iff_not, beq_iff_eq, bne_iff_ne, beq_eq_false_iff_ne, bne_eq_false_iff_eq, ne_eq, Decidable.not_not, List.cons.injEq, and_true, Bool.not_eq_true', Bool.not_eq_false', Int.not_lt, Int.not_le] at h) <;> (try (exfalso; omega)) <;> (try (exfalso; simp at h; done)) <;> (try (exfalso; simp only [not_true_eq_false, false_or, or_false] at h; omega)) <;> (try contradiction))
              )
 | (refine S_id ?_; first
 | ((with_reducible refine S_trueE ?_ ?_); · (first | exact beq_self_eq_true _ | (rw [beq_iff_eq]; first | rfl | assumption | (simp only [hF1, hF2, hC1, hC2, hS1, hS2]; done) | (simp [hF1, hF2, hC1, hC2, hS1, hS2]; done)) | assumption | (simp only [hF1, hF2, hC1, hC2, hS1, hS2]; done)))
 | ((with_reducible refine S_trueB ?_ ?_); · (first | exact beq_self_eq_true _ | (rw [beq_iff_eq]; first | rfl | assumption | (simp only [hF1, hF2, hC1, hC2, hS1, hS2]; done) | (simp [hF1, hF2, hC1, hC2, hS1, hS2]; done)) | assumption | (simp only [hF1, hF2, hC1, hC2, hS1, hS2]; done)))
 | ((with_reducible refine S_trueL ?_ ?_); · (first | exact beq_self_eq_true _ | (rw [beq_iff_eq]; first | rfl | assumption | (simp only [hF1, hF2, hC1, hC2, hS1, hS2]; done) | (simp [hF1, hF2, hC1, hC2, hS1, hS2]; done)) | assumption | (simp only [hF1, hF2, hC1, hC2, hS1, hS2]; done)))
 | ((with_reducible refine S_trueD ?_ ?_); · (first | exact beq_self_eq_true _ | (rw [beq_iff_eq]; first | rfl | assumption | (simp only [hF1, hF2, hC1, hC2, hS1, hS2]; done) | (simp [hF1, hF2, hC1, hC2, hS1, hS2]; done)) | assumption | (simp only [hF1, hF2, hC1, hC2, hS1, hS2]; done)))
 | ((with_reducible refine S_trueA ?_ ?_ ?_); (· rfl); (· first | rfl | (first | exact beq_self_eq_true _ | (rw [beq_iff_eq]; first | rfl | assumption | (simp only [hF1, hF2, hC1, hC2, hS1, hS2]; done) | (simp [hF1, hF2, hC1, hC2, hS1, hS2]; done)) | assumption | (simp only [hF1, hF2, hC1, hC2, hS1, hS2]; done))))
 | refine S_unG rfl rfl rfl rfl ?_
 | refine S_nil ?_
 | refine S_runN rfl rfl (by (repeat' (first | exact trivial | apply And.intro | rfl | omega | intro _ | (simp only [obS] at *; omega))); first | done | fail) (by (repeat' (first | exact trivial | apply And.intro | rfl | omega | intro _ | (simp only [obS] at *; omega))); first | done | fail) ?_
 | refine S_box (fun b => ⟨_, _, rfl, (by (repeat' (first | exact trivial | apply And.intro | rfl | omega | intro _ | (simp only [obS] at *; omega))); first | done | fail), ?_⟩)
 | refine S_slice (fun b => ⟨_, _, rfl, (by (repeat' (first | exact trivial | apply And.intro | rfl | omega | intro _ | (simp only [obS] at *; omega))); first | done | fail), ?_⟩)
 | refine S_call (f := 39) rfl (by (repeat' (first | exact trivial | apply And.intro | rfl | omega | intro _ | (simp only [obS] at *; omega))); first | done | fail) (by kernel_rfl) (fun w hw => Counted_c n d k1 w) ?_
 | refine S_call (f := 40) rfl (by (repeat' (first | exact trivial | apply And.intro | rfl | omega | intro _ | (simp only [obS] at *; omega))); first | done | fail) (by kernel_rfl) (fun w hw => Slip_c n d k2 w) ?_
 | refine S_call (f := 41) rfl (by (repeat' (first | exact trivial | apply And.intro | rfl | omega | intro _ | (simp only [obS] at *; omega))); first | done | fail) (by kernel_rfl) (fun w hw => rCheckLock_c x0 x1 x2 w) ?_
 | refine S_call (f := 42) rfl (by (repeat' (first | exact trivial | apply And.intro | rfl | omega | intro _ | (simp only [obS] at *; omega))); first | done | fail) (by kernel_rfl) (fun w hw => rCheckClock_c n d w) ?_
 | refine S_call (f := 20) rfl (by (repeat' (first | exact trivial | apply And.intro | rfl | omega | intro _ | (simp only [obS] at *; omega))); first | done | fail) (by kernel_rfl) (fun w hw => rCheckTick_c k1 w) ?_
 | refine S_call (f := 43) rfl (by (repeat' (first | exact trivial | apply And.intro | rfl | omega | intro _ | (simp only [obS] at *; omega))); first | done | fail) (by kernel_rfl) (fun w hw => rRange_c k2 1 1000 w) ?_
 | refine S_call (f := 19) rfl (by (repeat' (first | exact trivial | apply And.intro | rfl | omega | intro _ | (simp only [obS] at *; omega))); first | done | fail) (by kernel_rfl) (fun w hw => lfirst_c _ _ [clockE n d, wi k1 0 10000000] (by simp) w (by first | exact .inr ⟨_, rfl, hw.src (i := 3) rfl rfl⟩ | exact .inr ⟨_, rfl, hw.src (i := 4) rfl rfl⟩ | exact .inr ⟨_, rfl, hw.src (i := 5) rfl rfl⟩)) ?_
 | refine S_call (f := 19) rfl (by (repeat' (first | exact trivial | apply And.intro | rfl | omega | intro _ | (simp only [obS] at *; omega))); first | done | fail) (by kernel_rfl) (fun w hw => lfirst_c _ _ [clockE n d, wi k2 1 1000] (by simp) w (by first | exact .inr ⟨_, rfl, hw.src (i := 3) rfl rfl⟩ | exact .inr ⟨_, rfl, hw.src (i := 4) rfl rfl⟩ | exact .inr ⟨_, rfl, hw.src (i := 5) rfl rfl⟩)) ?_
 | refine S_call (f := 27) rfl (by (repeat' (first | exact trivial | apply And.intro | rfl | omega | intro _ | (simp only [obS] at *; omega))); first | done | fail) (by kernel_rfl) (fun w hw => awake_c w (hw.rdm hE.toS (by repeat (first | exact List.Mem.head _ | apply List.Mem.tail))) (Pw_at hP hw (by repeat (first | exact List.Mem.head _ | apply List.Mem.tail)))) ?_
 | refine S_call (f := 45) rfl (by (repeat' (first | exact trivial | apply And.intro | rfl | omega | intro _ | (simp only [obS] at *; omega))); first | done | fail) (by kernel_rfl) (fun w hw => rCounted_c n d k1 hb1 hb2 (by omega) w) ?_
 | refine S_call (f := 47) rfl (by (repeat' (first | exact trivial | apply And.intro | rfl | omega | intro _ | (simp only [obS] at *; omega))); first | done | fail) (by kernel_rfl) (fun w hw => rSameInts_c _ none _ 0 (lockR x0 x1 x2).1 [] (lockR_len x0 x1 x2) (Nat.zero_le _) w (hw.rdm hSL (by repeat (first | exact List.Mem.head _ | apply List.Mem.tail))) (.inl rfl)) ?_
 | (refine S_callM (f := 38) rfl (by (repeat' (first | exact trivial | apply And.intro | rfl | omega | intro _ | (simp only [obS] at *; omega))); first | done | fail) (by kernel_rfl) (fun w hw => Lock_c x0 x1 x2 w) (fun w1L w2L vL hw1L hbL hRL => ?_); obtain ⟨AL, cL, rfl, hSL⟩ := hRL)
              )
 | (refine D_id ?_; first
 | refine D_nil ?_
 | refine D_tail ?_
 | refine D_run rfl rfl (by (repeat' (first | exact trivial | apply And.intro | rfl | omega | intro _ | (simp only [obS] at *; omega))); first | done | fail) (by (repeat' (first | exact trivial | apply And.intro | rfl | omega | intro _ | (simp only [obS] at *; omega))); first | done | fail) ?_
 | refine D_call (f := 39) rfl (by (repeat' (first | exact trivial | apply And.intro | rfl | omega | intro _ | (simp only [obS] at *; omega))); first | done | fail) (by kernel_rfl) (fun w hw => Counted_c n d k1 w) ?_
 | refine D_call (f := 40) rfl (by (repeat' (first | exact trivial | apply And.intro | rfl | omega | intro _ | (simp only [obS] at *; omega))); first | done | fail) (by kernel_rfl) (fun w hw => Slip_c n d k2 w) ?_
 | refine D_call (f := 41) rfl (by (repeat' (first | exact trivial | apply And.intro | rfl | omega | intro _ | (simp only [obS] at *; omega))); first | done | fail) (by kernel_rfl) (fun w hw => rCheckLock_c x0 x1 x2 w) ?_
 | refine D_call (f := 42) rfl (by (repeat' (first | exact trivial | apply And.intro | rfl | omega | intro _ | (simp only [obS] at *; omega))); first | done | fail) (by kernel_rfl) (fun w hw => rCheckClock_c n d w) ?_
 | refine D_call (f := 20) rfl (by (repeat' (first | exact trivial | apply And.intro | rfl | omega | intro _ | (simp only [obS] at *; omega))); first | done | fail) (by kernel_rfl) (fun w hw => rCheckTick_c k1 w) ?_
 | refine D_call (f := 43) rfl (by (repeat' (first | exact trivial | apply And.intro | rfl | omega | intro _ | (simp only [obS] at *; omega))); first | done | fail) (by kernel_rfl) (fun w hw => rRange_c k2 1 1000 w) ?_
 | refine D_call (f := 19) rfl (by (repeat' (first | exact trivial | apply And.intro | rfl | omega | intro _ | (simp only [obS] at *; omega))); first | done | fail) (by kernel_rfl) (fun w hw => lfirst_c _ _ [clockE n d, wi k1 0 10000000] (by simp) w (by first | exact .inr ⟨_, rfl, hw.src (i := 3) rfl rfl⟩ | exact .inr ⟨_, rfl, hw.src (i := 4) rfl rfl⟩ | exact .inr ⟨_, rfl, hw.src (i := 5) rfl rfl⟩)) ?_
 | refine D_call (f := 19) rfl (by (repeat' (first | exact trivial | apply And.intro | rfl | omega | intro _ | (simp only [obS] at *; omega))); first | done | fail) (by kernel_rfl) (fun w hw => lfirst_c _ _ [clockE n d, wi k2 1 1000] (by simp) w (by first | exact .inr ⟨_, rfl, hw.src (i := 3) rfl rfl⟩ | exact .inr ⟨_, rfl, hw.src (i := 4) rfl rfl⟩ | exact .inr ⟨_, rfl, hw.src (i := 5) rfl rfl⟩)) ?_
 | refine D_call (f := 27) rfl (by (repeat' (first | exact trivial | apply And.intro | rfl | omega | intro _ | (simp only [obS] at *; omega))); first | done | fail) (by kernel_rfl) (fun w hw => awake_c w (hw.rdm hE.toS (by repeat (first | exact List.Mem.head _ | apply List.Mem.tail))) (Pw_at hP hw (by repeat (first | exact List.Mem.head _ | apply List.Mem.tail)))) ?_
 | refine D_call (f := 45) rfl (by (repeat' (first | exact trivial | apply And.intro | rfl | omega | intro _ | (simp only [obS] at *; omega))); first | done | fail) (by kernel_rfl) (fun w hw => rCounted_c n d k1 hb1 hb2 (by omega) w) ?_
 | refine D_call (f := 47) rfl (by (repeat' (first | exact trivial | apply And.intro | rfl | omega | intro _ | (simp only [obS] at *; omega))); first | done | fail) (by kernel_rfl) (fun w hw => rSameInts_c _ none _ 0 (lockR x0 x1 x2).1 [] (lockR_len x0 x1 x2) (Nat.zero_le _) w (hw.rdm hSL (by repeat (first | exact List.Mem.head _ | apply List.Mem.tail))) (.inl rfl)) ?_
              )
 | (refine V_id ?_; first
 | refine V_nil ?_
 | refine V_q rfl (Yl_step rfl (by (repeat' (first | exact trivial | apply And.intro | rfl | omega | intro _ | (simp only [obS] at *; omega))); first | done | fail)) ?_
 | refine V_n rfl ?_
              )
 | (refine G_id ?_; first
 | refine G_V ⟨⟨_, rfl, trivial⟩, ⟨_, rfl⟩, rfl, (by intro p hp; repeat (first | exact hp | apply List.mem_cons_of_mem))⟩ rfl ?_
 | refine G_then ?_
 | refine G_block ?_
 | refine G_blockX ?_
 | refine G_blockN rfl ?_
 | refine G_blockR ?_
 | refine G_thenR ?_
 | refine G_thenX ?_
 | refine G_ret rfl (by (repeat' (first | exact trivial | apply And.intro | rfl | omega | intro _ | (simp only [obS] at *; omega))); first | done | fail) (fun w2 hw => ⟨?_, hw.below⟩)
              )
            )
        all_goals rfl
    · have hC1 : (countR n d k1).1 = 0 := by unfold countR; rw [if_pos (show ¬ countE n d k1 = 0 from hC)]
      have hC2 : (countR n d k1).2 = firstL [clockE n d, wi k1 0 10000000] := by unfold countR; split <;> first | rfl | (rename_i h; exact (Classical.not_not.1 h).symm)
      by_cases hS : firstL [clockE n d, wi k2 1 1000] = 0
      · have hS1 : True := trivial
        have hS2 : True := trivial
        repeat' (first
 | (refine C_id ?_; first
 | refine C_seq ?_
 | refine C_region rfl ?_
 | refine C_block ?_
 | refine C_skip ?_
 | refine C_exit ?_
 | refine C_ret0 ?_
 | refine C_drawV (id := 4) 18 [(0, true), (1, true), (2, true), (3, true), (4, true), (5, true), (7, true), (9, true), (10, true), (14, true), (16, true), (17, true), (6, false), (8, false), (11, false), (12, false), (13, false), (15, false)] rfl mixed (by kernel_rfl) rfl ?_
 | refine C_condT rfl (by (repeat' (first | exact trivial | apply And.intro | rfl | omega | intro _ | (simp only [obS] at *; omega))); first | done | fail) ?_
 | refine C_condF rfl (by (repeat' (first | exact trivial | apply And.intro | rfl | omega | intro _ | (simp only [obS] at *; omega))); first | done | fail) ?_
 | (refine C_cond rfl (by (repeat' (first | exact trivial | apply And.intro | rfl | omega | intro _ | (simp only [obS] at *; omega))); first | done | fail) (fun h => ?_) (fun h => ?_) <;> (try simp only [Bool.or_eq_true, Bool.and_eq_true, Bool.or_eq_false_iff, Bool.and_eq_false_iff, decide_eq_true_eq, decide_eq_false_iff_not, beq_iff_eq, bne_iff_ne, beq_eq_false_iff_ne, bne_eq_false_iff_eq, ne_eq, Decidable.not_not, List.cons.injEq, and_true, Bool.not_eq_true', Bool.not_eq_false', Int.not_lt, Int.not_le] at h) <;> (try (exfalso; omega)) <;> (try (exfalso; simp at h; done)) <;> (try (exfalso; simp only [not_true_eq_false, false_or, or_false] at h; omega)) <;> (try contradiction))
              )
 | (refine S_id ?_; first
 | ((with_reducible refine S_trueE ?_ ?_); · (first | exact beq_self_eq_true _ | (rw [beq_iff_eq]; first | rfl | assumption | (simp only [hF1, hF2, hC1, hC2, hS1, hS2]; done) | (simp [hF1, hF2, hC1, hC2, hS1, hS2]; done)) | assumption | (simp only [hF1, hF2, hC1, hC2, hS1, hS2]; done)))
 | ((with_reducible refine S_trueB ?_ ?_); · (first | exact beq_self_eq_true _ | (rw [beq_iff_eq]; first | rfl | assumption | (simp only [hF1, hF2, hC1, hC2, hS1, hS2]; done) | (simp [hF1, hF2, hC1, hC2, hS1, hS2]; done)) | assumption | (simp only [hF1, hF2, hC1, hC2, hS1, hS2]; done)))
 | ((with_reducible refine S_trueL ?_ ?_); · (first | exact beq_self_eq_true _ | (rw [beq_iff_eq]; first | rfl | assumption | (simp only [hF1, hF2, hC1, hC2, hS1, hS2]; done) | (simp [hF1, hF2, hC1, hC2, hS1, hS2]; done)) | assumption | (simp only [hF1, hF2, hC1, hC2, hS1, hS2]; done)))
 | ((with_reducible refine S_trueD ?_ ?_); · (first | exact beq_self_eq_true _ | (rw [beq_iff_eq]; first | rfl | assumption | (simp only [hF1, hF2, hC1, hC2, hS1, hS2]; done) | (simp [hF1, hF2, hC1, hC2, hS1, hS2]; done)) | assumption | (simp only [hF1, hF2, hC1, hC2, hS1, hS2]; done)))
 | ((with_reducible refine S_trueA ?_ ?_ ?_); (· rfl); (· first | rfl | (first | exact beq_self_eq_true _ | (rw [beq_iff_eq]; first | rfl | assumption | (simp only [hF1, hF2, hC1, hC2, hS1, hS2]; done) | (simp [hF1, hF2, hC1, hC2, hS1, hS2]; done)) | assumption | (simp only [hF1, hF2, hC1, hC2, hS1, hS2]; done))))
 | refine S_unG rfl rfl rfl rfl ?_
 | refine S_nil ?_
 | refine S_runN rfl rfl (by (repeat' (first | exact trivial | apply And.intro | rfl | omega | intro _ | (simp only [obS] at *; omega))); first | done | fail) (by (repeat' (first | exact trivial | apply And.intro | rfl | omega | intro _ | (simp only [obS] at *; omega))); first | done | fail) ?_
 | refine S_box (fun b => ⟨_, _, rfl, (by (repeat' (first | exact trivial | apply And.intro | rfl | omega | intro _ | (simp only [obS] at *; omega))); first | done | fail), ?_⟩)
 | refine S_slice (fun b => ⟨_, _, rfl, (by (repeat' (first | exact trivial | apply And.intro | rfl | omega | intro _ | (simp only [obS] at *; omega))); first | done | fail), ?_⟩)
 | refine S_call (f := 39) rfl (by (repeat' (first | exact trivial | apply And.intro | rfl | omega | intro _ | (simp only [obS] at *; omega))); first | done | fail) (by kernel_rfl) (fun w hw => Counted_c n d k1 w) ?_
 | refine S_call (f := 40) rfl (by (repeat' (first | exact trivial | apply And.intro | rfl | omega | intro _ | (simp only [obS] at *; omega))); first | done | fail) (by kernel_rfl) (fun w hw => Slip_c n d k2 w) ?_
 | refine S_call (f := 41) rfl (by (repeat' (first | exact trivial | apply And.intro | rfl | omega | intro _ | (simp only [obS] at *; omega))); first | done | fail) (by kernel_rfl) (fun w hw => rCheckLock_c x0 x1 x2 w) ?_
 | refine S_call (f := 42) rfl (by (repeat' (first | exact trivial | apply And.intro | rfl | omega | intro _ | (simp only [obS] at *; omega))); first | done | fail) (by kernel_rfl) (fun w hw => rCheckClock_c n d w) ?_
 | refine S_call (f := 20) rfl (by (repeat' (first | exact trivial | apply And.intro | rfl | omega | intro _ | (simp only [obS] at *; omega))); first | done | fail) (by kernel_rfl) (fun w hw => rCheckTick_c k1 w) ?_
 | refine S_call (f := 43) rfl (by (repeat' (first | exact trivial | apply And.intro | rfl | omega | intro _ | (simp only [obS] at *; omega))); first | done | fail) (by kernel_rfl) (fun w hw => rRange_c k2 1 1000 w) ?_
 | refine S_call (f := 19) rfl (by (repeat' (first | exact trivial | apply And.intro | rfl | omega | intro _ | (simp only [obS] at *; omega))); first | done | fail) (by kernel_rfl) (fun w hw => lfirst_c _ _ [clockE n d, wi k1 0 10000000] (by simp) w (by first | exact .inr ⟨_, rfl, hw.src (i := 3) rfl rfl⟩ | exact .inr ⟨_, rfl, hw.src (i := 4) rfl rfl⟩ | exact .inr ⟨_, rfl, hw.src (i := 5) rfl rfl⟩)) ?_
 | refine S_call (f := 19) rfl (by (repeat' (first | exact trivial | apply And.intro | rfl | omega | intro _ | (simp only [obS] at *; omega))); first | done | fail) (by kernel_rfl) (fun w hw => lfirst_c _ _ [clockE n d, wi k2 1 1000] (by simp) w (by first | exact .inr ⟨_, rfl, hw.src (i := 3) rfl rfl⟩ | exact .inr ⟨_, rfl, hw.src (i := 4) rfl rfl⟩ | exact .inr ⟨_, rfl, hw.src (i := 5) rfl rfl⟩)) ?_
 | refine S_call (f := 27) rfl (by (repeat' (first | exact trivial | apply And.intro | rfl | omega | intro _ | (simp only [obS] at *; omega))); first | done | fail) (by kernel_rfl) (fun w hw => awake_c w (hw.rdm hE.toS (by repeat (first | exact List.Mem.head _ | apply List.Mem.tail))) (Pw_at hP hw (by repeat (first | exact List.Mem.head _ | apply List.Mem.tail)))) ?_
 | refine S_call (f := 46) rfl (by (repeat' (first | exact trivial | apply And.intro | rfl | omega | intro _ | (simp only [obS] at *; omega))); first | done | fail) (by kernel_rfl) (fun w hw => rSlip_c n d k2 hS w) ?_
 | refine S_call (f := 47) rfl (by (repeat' (first | exact trivial | apply And.intro | rfl | omega | intro _ | (simp only [obS] at *; omega))); first | done | fail) (by kernel_rfl) (fun w hw => rSameInts_c _ none _ 0 (lockR x0 x1 x2).1 [] (lockR_len x0 x1 x2) (Nat.zero_le _) w (hw.rdm hSL (by repeat (first | exact List.Mem.head _ | apply List.Mem.tail))) (.inl rfl)) ?_
 | (refine S_callM (f := 38) rfl (by (repeat' (first | exact trivial | apply And.intro | rfl | omega | intro _ | (simp only [obS] at *; omega))); first | done | fail) (by kernel_rfl) (fun w hw => Lock_c x0 x1 x2 w) (fun w1L w2L vL hw1L hbL hRL => ?_); obtain ⟨AL, cL, rfl, hSL⟩ := hRL)
              )
 | (refine D_id ?_; first
 | refine D_nil ?_
 | refine D_tail ?_
 | refine D_run rfl rfl (by (repeat' (first | exact trivial | apply And.intro | rfl | omega | intro _ | (simp only [obS] at *; omega))); first | done | fail) (by (repeat' (first | exact trivial | apply And.intro | rfl | omega | intro _ | (simp only [obS] at *; omega))); first | done | fail) ?_
 | refine D_call (f := 39) rfl (by (repeat' (first | exact trivial | apply And.intro | rfl | omega | intro _ | (simp only [obS] at *; omega))); first | done | fail) (by kernel_rfl) (fun w hw => Counted_c n d k1 w) ?_
 | refine D_call (f := 40) rfl (by (repeat' (first | exact trivial | apply And.intro | rfl | omega | intro _ | (simp only [obS] at *; omega))); first | done | fail) (by kernel_rfl) (fun w hw => Slip_c n d k2 w) ?_
 | refine D_call (f := 41) rfl (by (repeat' (first | exact trivial | apply And.intro | rfl | omega | intro _ | (simp only [obS] at *; omega))); first | done | fail) (by kernel_rfl) (fun w hw => rCheckLock_c x0 x1 x2 w) ?_
 | refine D_call (f := 42) rfl (by (repeat' (first | exact trivial | apply And.intro | rfl | omega | intro _ | (simp only [obS] at *; omega))); first | done | fail) (by kernel_rfl) (fun w hw => rCheckClock_c n d w) ?_
 | refine D_call (f := 20) rfl (by (repeat' (first | exact trivial | apply And.intro | rfl | omega | intro _ | (simp only [obS] at *; omega))); first | done | fail) (by kernel_rfl) (fun w hw => rCheckTick_c k1 w) ?_
 | refine D_call (f := 43) rfl (by (repeat' (first | exact trivial | apply And.intro | rfl | omega | intro _ | (simp only [obS] at *; omega))); first | done | fail) (by kernel_rfl) (fun w hw => rRange_c k2 1 1000 w) ?_
 | refine D_call (f := 19) rfl (by (repeat' (first | exact trivial | apply And.intro | rfl | omega | intro _ | (simp only [obS] at *; omega))); first | done | fail) (by kernel_rfl) (fun w hw => lfirst_c _ _ [clockE n d, wi k1 0 10000000] (by simp) w (by first | exact .inr ⟨_, rfl, hw.src (i := 3) rfl rfl⟩ | exact .inr ⟨_, rfl, hw.src (i := 4) rfl rfl⟩ | exact .inr ⟨_, rfl, hw.src (i := 5) rfl rfl⟩)) ?_
 | refine D_call (f := 19) rfl (by (repeat' (first | exact trivial | apply And.intro | rfl | omega | intro _ | (simp only [obS] at *; omega))); first | done | fail) (by kernel_rfl) (fun w hw => lfirst_c _ _ [clockE n d, wi k2 1 1000] (by simp) w (by first | exact .inr ⟨_, rfl, hw.src (i := 3) rfl rfl⟩ | exact .inr ⟨_, rfl, hw.src (i := 4) rfl rfl⟩ | exact .inr ⟨_, rfl, hw.src (i := 5) rfl rfl⟩)) ?_
 | refine D_call (f := 27) rfl (by (repeat' (first | exact trivial | apply And.intro | rfl | omega | intro _ | (simp only [obS] at *; omega))); first | done | fail) (by kernel_rfl) (fun w hw => awake_c w (hw.rdm hE.toS (by repeat (first | exact List.Mem.head _ | apply List.Mem.tail))) (Pw_at hP hw (by repeat (first | exact List.Mem.head _ | apply List.Mem.tail)))) ?_
 | refine D_call (f := 46) rfl (by (repeat' (first | exact trivial | apply And.intro | rfl | omega | intro _ | (simp only [obS] at *; omega))); first | done | fail) (by kernel_rfl) (fun w hw => rSlip_c n d k2 hS w) ?_
 | refine D_call (f := 47) rfl (by (repeat' (first | exact trivial | apply And.intro | rfl | omega | intro _ | (simp only [obS] at *; omega))); first | done | fail) (by kernel_rfl) (fun w hw => rSameInts_c _ none _ 0 (lockR x0 x1 x2).1 [] (lockR_len x0 x1 x2) (Nat.zero_le _) w (hw.rdm hSL (by repeat (first | exact List.Mem.head _ | apply List.Mem.tail))) (.inl rfl)) ?_
              )
 | (refine V_id ?_; first
 | refine V_nil ?_
 | refine V_q rfl (Yl_step rfl (by (repeat' (first | exact trivial | apply And.intro | rfl | omega | intro _ | (simp only [obS] at *; omega))); first | done | fail)) ?_
 | refine V_n rfl ?_
              )
 | (refine G_id ?_; first
 | refine G_V ⟨⟨_, rfl, trivial⟩, ⟨_, rfl⟩, rfl, (by intro p hp; repeat (first | exact hp | apply List.mem_cons_of_mem))⟩ rfl ?_
 | refine G_then ?_
 | refine G_block ?_
 | refine G_blockX ?_
 | refine G_blockN rfl ?_
 | refine G_blockR ?_
 | refine G_thenR ?_
 | refine G_thenX ?_
 | refine G_ret rfl (by (repeat' (first | exact trivial | apply And.intro | rfl | omega | intro _ | (simp only [obS] at *; omega))); first | done | fail) (fun w2 hw => ⟨?_, hw.below⟩)
              )
            )
        all_goals rfl
      · have hS1 : (slipR n d k2).1 = 0 := by unfold slipR; rw [if_pos (show ¬ slipE n d k2 = 0 from hS)]
        have hS2 : (slipR n d k2).2 = firstL [clockE n d, wi k2 1 1000] := by unfold slipR; rw [if_pos (show ¬ slipE n d k2 = 0 from hS)]; rfl
        repeat' (first
 | (refine C_id ?_; first
 | refine C_seq ?_
 | refine C_region rfl ?_
 | refine C_block ?_
 | refine C_skip ?_
 | refine C_exit ?_
 | refine C_ret0 ?_
 | refine C_drawV (id := 4) 18 [(0, true), (1, true), (2, true), (3, true), (4, true), (5, true), (7, true), (9, true), (10, true), (14, true), (16, true), (17, true), (6, false), (8, false), (11, false), (12, false), (13, false), (15, false)] rfl mixed (by kernel_rfl) rfl ?_
 | refine C_condT rfl (by (repeat' (first | exact trivial | apply And.intro | rfl | omega | intro _ | (simp only [obS] at *; omega))); first | done | fail) ?_
 | refine C_condF rfl (by (repeat' (first | exact trivial | apply And.intro | rfl | omega | intro _ | (simp only [obS] at *; omega))); first | done | fail) ?_
 | (refine C_cond rfl (by (repeat' (first | exact trivial | apply And.intro | rfl | omega | intro _ | (simp only [obS] at *; omega))); first | done | fail) (fun h => ?_) (fun h => ?_) <;> (try simp only [Bool.or_eq_true, Bool.and_eq_true, Bool.or_eq_false_iff, Bool.and_eq_false_iff, decide_eq_true_eq, decide_eq_false_iff_not, beq_iff_eq, bne_iff_ne, beq_eq_false_iff_ne, bne_eq_false_iff_eq, ne_eq, Decidable.not_not, List.cons.injEq, and_true, Bool.not_eq_true', Bool.not_eq_false', Int.not_lt, Int.not_le] at h) <;> (try (exfalso; omega)) <;> (try (exfalso; simp at h; done)) <;> (try (exfalso; simp only [not_true_eq_false, false_or, or_false] at h; omega)) <;> (try contradiction))
              )
 | (refine S_id ?_; first
 | ((with_reducible refine S_trueE ?_ ?_); · (first | exact beq_self_eq_true _ | (rw [beq_iff_eq]; first | rfl | assumption | (simp only [hF1, hF2, hC1, hC2, hS1, hS2]; done) | (simp [hF1, hF2, hC1, hC2, hS1, hS2]; done)) | assumption | (simp only [hF1, hF2, hC1, hC2, hS1, hS2]; done)))
 | ((with_reducible refine S_trueB ?_ ?_); · (first | exact beq_self_eq_true _ | (rw [beq_iff_eq]; first | rfl | assumption | (simp only [hF1, hF2, hC1, hC2, hS1, hS2]; done) | (simp [hF1, hF2, hC1, hC2, hS1, hS2]; done)) | assumption | (simp only [hF1, hF2, hC1, hC2, hS1, hS2]; done)))
 | ((with_reducible refine S_trueL ?_ ?_); · (first | exact beq_self_eq_true _ | (rw [beq_iff_eq]; first | rfl | assumption | (simp only [hF1, hF2, hC1, hC2, hS1, hS2]; done) | (simp [hF1, hF2, hC1, hC2, hS1, hS2]; done)) | assumption | (simp only [hF1, hF2, hC1, hC2, hS1, hS2]; done)))
 | ((with_reducible refine S_trueD ?_ ?_); · (first | exact beq_self_eq_true _ | (rw [beq_iff_eq]; first | rfl | assumption | (simp only [hF1, hF2, hC1, hC2, hS1, hS2]; done) | (simp [hF1, hF2, hC1, hC2, hS1, hS2]; done)) | assumption | (simp only [hF1, hF2, hC1, hC2, hS1, hS2]; done)))
 | ((with_reducible refine S_trueA ?_ ?_ ?_); (· rfl); (· first | rfl | (first | exact beq_self_eq_true _ | (rw [beq_iff_eq]; first | rfl | assumption | (simp only [hF1, hF2, hC1, hC2, hS1, hS2]; done) | (simp [hF1, hF2, hC1, hC2, hS1, hS2]; done)) | assumption | (simp only [hF1, hF2, hC1, hC2, hS1, hS2]; done))))
 | refine S_unG rfl rfl rfl rfl ?_
 | refine S_nil ?_
 | refine S_runN rfl rfl (by (repeat' (first | exact trivial | apply And.intro | rfl | omega | intro _ | (simp only [obS] at *; omega))); first | done | fail) (by (repeat' (first | exact trivial | apply And.intro | rfl | omega | intro _ | (simp only [obS] at *; omega))); first | done | fail) ?_
 | refine S_box (fun b => ⟨_, _, rfl, (by (repeat' (first | exact trivial | apply And.intro | rfl | omega | intro _ | (simp only [obS] at *; omega))); first | done | fail), ?_⟩)
 | refine S_slice (fun b => ⟨_, _, rfl, (by (repeat' (first | exact trivial | apply And.intro | rfl | omega | intro _ | (simp only [obS] at *; omega))); first | done | fail), ?_⟩)
 | refine S_call (f := 39) rfl (by (repeat' (first | exact trivial | apply And.intro | rfl | omega | intro _ | (simp only [obS] at *; omega))); first | done | fail) (by kernel_rfl) (fun w hw => Counted_c n d k1 w) ?_
 | refine S_call (f := 40) rfl (by (repeat' (first | exact trivial | apply And.intro | rfl | omega | intro _ | (simp only [obS] at *; omega))); first | done | fail) (by kernel_rfl) (fun w hw => Slip_c n d k2 w) ?_
 | refine S_call (f := 41) rfl (by (repeat' (first | exact trivial | apply And.intro | rfl | omega | intro _ | (simp only [obS] at *; omega))); first | done | fail) (by kernel_rfl) (fun w hw => rCheckLock_c x0 x1 x2 w) ?_
 | refine S_call (f := 42) rfl (by (repeat' (first | exact trivial | apply And.intro | rfl | omega | intro _ | (simp only [obS] at *; omega))); first | done | fail) (by kernel_rfl) (fun w hw => rCheckClock_c n d w) ?_
 | refine S_call (f := 20) rfl (by (repeat' (first | exact trivial | apply And.intro | rfl | omega | intro _ | (simp only [obS] at *; omega))); first | done | fail) (by kernel_rfl) (fun w hw => rCheckTick_c k1 w) ?_
 | refine S_call (f := 43) rfl (by (repeat' (first | exact trivial | apply And.intro | rfl | omega | intro _ | (simp only [obS] at *; omega))); first | done | fail) (by kernel_rfl) (fun w hw => rRange_c k2 1 1000 w) ?_
 | refine S_call (f := 19) rfl (by (repeat' (first | exact trivial | apply And.intro | rfl | omega | intro _ | (simp only [obS] at *; omega))); first | done | fail) (by kernel_rfl) (fun w hw => lfirst_c _ _ [clockE n d, wi k1 0 10000000] (by simp) w (by first | exact .inr ⟨_, rfl, hw.src (i := 3) rfl rfl⟩ | exact .inr ⟨_, rfl, hw.src (i := 4) rfl rfl⟩ | exact .inr ⟨_, rfl, hw.src (i := 5) rfl rfl⟩)) ?_
 | refine S_call (f := 19) rfl (by (repeat' (first | exact trivial | apply And.intro | rfl | omega | intro _ | (simp only [obS] at *; omega))); first | done | fail) (by kernel_rfl) (fun w hw => lfirst_c _ _ [clockE n d, wi k2 1 1000] (by simp) w (by first | exact .inr ⟨_, rfl, hw.src (i := 3) rfl rfl⟩ | exact .inr ⟨_, rfl, hw.src (i := 4) rfl rfl⟩ | exact .inr ⟨_, rfl, hw.src (i := 5) rfl rfl⟩)) ?_
 | refine S_call (f := 27) rfl (by (repeat' (first | exact trivial | apply And.intro | rfl | omega | intro _ | (simp only [obS] at *; omega))); first | done | fail) (by kernel_rfl) (fun w hw => awake_c w (hw.rdm hE.toS (by repeat (first | exact List.Mem.head _ | apply List.Mem.tail))) (Pw_at hP hw (by repeat (first | exact List.Mem.head _ | apply List.Mem.tail)))) ?_
 | refine S_call (f := 47) rfl (by (repeat' (first | exact trivial | apply And.intro | rfl | omega | intro _ | (simp only [obS] at *; omega))); first | done | fail) (by kernel_rfl) (fun w hw => rSameInts_c _ none _ 0 (lockR x0 x1 x2).1 [] (lockR_len x0 x1 x2) (Nat.zero_le _) w (hw.rdm hSL (by repeat (first | exact List.Mem.head _ | apply List.Mem.tail))) (.inl rfl)) ?_
 | (refine S_callM (f := 38) rfl (by (repeat' (first | exact trivial | apply And.intro | rfl | omega | intro _ | (simp only [obS] at *; omega))); first | done | fail) (by kernel_rfl) (fun w hw => Lock_c x0 x1 x2 w) (fun w1L w2L vL hw1L hbL hRL => ?_); obtain ⟨AL, cL, rfl, hSL⟩ := hRL)
              )
 | (refine D_id ?_; first
 | refine D_nil ?_
 | refine D_tail ?_
 | refine D_run rfl rfl (by (repeat' (first | exact trivial | apply And.intro | rfl | omega | intro _ | (simp only [obS] at *; omega))); first | done | fail) (by (repeat' (first | exact trivial | apply And.intro | rfl | omega | intro _ | (simp only [obS] at *; omega))); first | done | fail) ?_
 | refine D_call (f := 39) rfl (by (repeat' (first | exact trivial | apply And.intro | rfl | omega | intro _ | (simp only [obS] at *; omega))); first | done | fail) (by kernel_rfl) (fun w hw => Counted_c n d k1 w) ?_
 | refine D_call (f := 40) rfl (by (repeat' (first | exact trivial | apply And.intro | rfl | omega | intro _ | (simp only [obS] at *; omega))); first | done | fail) (by kernel_rfl) (fun w hw => Slip_c n d k2 w) ?_
 | refine D_call (f := 41) rfl (by (repeat' (first | exact trivial | apply And.intro | rfl | omega | intro _ | (simp only [obS] at *; omega))); first | done | fail) (by kernel_rfl) (fun w hw => rCheckLock_c x0 x1 x2 w) ?_
 | refine D_call (f := 42) rfl (by (repeat' (first | exact trivial | apply And.intro | rfl | omega | intro _ | (simp only [obS] at *; omega))); first | done | fail) (by kernel_rfl) (fun w hw => rCheckClock_c n d w) ?_
 | refine D_call (f := 20) rfl (by (repeat' (first | exact trivial | apply And.intro | rfl | omega | intro _ | (simp only [obS] at *; omega))); first | done | fail) (by kernel_rfl) (fun w hw => rCheckTick_c k1 w) ?_
 | refine D_call (f := 43) rfl (by (repeat' (first | exact trivial | apply And.intro | rfl | omega | intro _ | (simp only [obS] at *; omega))); first | done | fail) (by kernel_rfl) (fun w hw => rRange_c k2 1 1000 w) ?_
 | refine D_call (f := 19) rfl (by (repeat' (first | exact trivial | apply And.intro | rfl | omega | intro _ | (simp only [obS] at *; omega))); first | done | fail) (by kernel_rfl) (fun w hw => lfirst_c _ _ [clockE n d, wi k1 0 10000000] (by simp) w (by first | exact .inr ⟨_, rfl, hw.src (i := 3) rfl rfl⟩ | exact .inr ⟨_, rfl, hw.src (i := 4) rfl rfl⟩ | exact .inr ⟨_, rfl, hw.src (i := 5) rfl rfl⟩)) ?_
 | refine D_call (f := 19) rfl (by (repeat' (first | exact trivial | apply And.intro | rfl | omega | intro _ | (simp only [obS] at *; omega))); first | done | fail) (by kernel_rfl) (fun w hw => lfirst_c _ _ [clockE n d, wi k2 1 1000] (by simp) w (by first | exact .inr ⟨_, rfl, hw.src (i := 3) rfl rfl⟩ | exact .inr ⟨_, rfl, hw.src (i := 4) rfl rfl⟩ | exact .inr ⟨_, rfl, hw.src (i := 5) rfl rfl⟩)) ?_
 | refine D_call (f := 27) rfl (by (repeat' (first | exact trivial | apply And.intro | rfl | omega | intro _ | (simp only [obS] at *; omega))); first | done | fail) (by kernel_rfl) (fun w hw => awake_c w (hw.rdm hE.toS (by repeat (first | exact List.Mem.head _ | apply List.Mem.tail))) (Pw_at hP hw (by repeat (first | exact List.Mem.head _ | apply List.Mem.tail)))) ?_
 | refine D_call (f := 47) rfl (by (repeat' (first | exact trivial | apply And.intro | rfl | omega | intro _ | (simp only [obS] at *; omega))); first | done | fail) (by kernel_rfl) (fun w hw => rSameInts_c _ none _ 0 (lockR x0 x1 x2).1 [] (lockR_len x0 x1 x2) (Nat.zero_le _) w (hw.rdm hSL (by repeat (first | exact List.Mem.head _ | apply List.Mem.tail))) (.inl rfl)) ?_
              )
 | (refine V_id ?_; first
 | refine V_nil ?_
 | refine V_q rfl (Yl_step rfl (by (repeat' (first | exact trivial | apply And.intro | rfl | omega | intro _ | (simp only [obS] at *; omega))); first | done | fail)) ?_
 | refine V_n rfl ?_
              )
 | (refine G_id ?_; first
 | refine G_V ⟨⟨_, rfl, trivial⟩, ⟨_, rfl⟩, rfl, (by intro p hp; repeat (first | exact hp | apply List.mem_cons_of_mem))⟩ rfl ?_
 | refine G_then ?_
 | refine G_block ?_
 | refine G_blockX ?_
 | refine G_blockN rfl ?_
 | refine G_blockR ?_
 | refine G_thenR ?_
 | refine G_thenX ?_
 | refine G_ret rfl (by (repeat' (first | exact trivial | apply And.intro | rfl | omega | intro _ | (simp only [obS] at *; omega))); first | done | fail) (fun w2 hw => ⟨?_, hw.below⟩)
              )
            )
        all_goals rfl

end Go.Proofs.YtmfophoejjcnlaaGreatDoor
