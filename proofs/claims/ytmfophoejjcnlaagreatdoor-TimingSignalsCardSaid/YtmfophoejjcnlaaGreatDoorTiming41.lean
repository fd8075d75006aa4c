/- The reference: blanking, sync, vertical intervals, signals. -/
import Derived.Test.YtmfophoejjcnlaaGreatDoorTiming17
import Derived.Test.YtmfophoejjcnlaaGreatDoorEng3
namespace Go.Proofs.YtmfophoejjcnlaaGreatDoor
open Go.E Go.RowKit
attribute [local irreducible] G C S D Calls
set_option maxRecDepth 100000
set_option linter.unusedSimpArgs false
set_option linter.unusedVariables false

set_option maxHeartbeats 400000 in
/-- genlockref04.Blanked -/
theorem rBlanked_c (f : Fmt) (t : Int) (hv : Valid f) (ht : 0 ≤ t ∧ t ≤ 20000000) (w : World) : Calls Tryz.prog 33 #[.agg #[.int .i64 f.S, .int .i64 f.L, .int .i64 f.F, .int .i64 f.B, .int .i64 f.Y, .int .i64 f.V, .int .i64 f.C], .int .i64 t] w fun r w' => r = .returned (.bool (decide ((atF f t).S < f.B) || decide ((atF f t).L < f.V))) ∧ Below w.heap.size w w' := by
  refine calls_of (args := [.agg #[.int .i64 f.S, .int .i64 f.L, .int .i64 f.F, .int .i64 f.B, .int .i64 f.Y, .int .i64 f.V, .int .i64 f.C], .int .i64 t]) T_ok Tryz.func33 rfl Tryz.ntmps33 (Nat.le_of_ble_eq_true rfl) rfl ?_
  repeat' (first
 | (refine C_id ?_; first
 | refine C_seq ?_
 | refine C_region rfl ?_
 | refine C_block ?_
 | refine C_skip ?_
 | refine C_exit ?_
 | refine C_ret0 ?_
 | refine C_condT rfl (by (repeat' (first | exact trivial | apply And.intro | rfl | omega | intro _ | (simp only [obS] at *; omega))); first | done | fail) ?_
 | refine C_condF rfl (by (repeat' (first | exact trivial | apply And.intro | rfl | omega | intro _ | (simp only [obS] at *; omega))); first | done | fail) ?_
 | (refine C_cond rfl (by (repeat' (first | exact trivial | apply And.intro | rfl | omega | intro _ | (simp only [obS] at *; omega))); first | done | fail) (fun h => ?_) (fun h => ?_) <;> (try simp only [Bool.or_eq_true, Bool.and_eq_true, Bool.or_eq_false_iff, Bool.and_eq_false_iff, decide_eq_true_eq, decide_eq_false_iff_not, beq_iff_eq, bne_iff_ne, beq_eq_false_iff_ne, bne_eq_false_iff_eq, ne_eq, Decidable.not_not, List.cons.injEq, and_true, Bool.not_eq_true', Bool.not_eq_false', Int.not_lt, Int.not_le] at h))
      )
 | (refine S_id ?_; first
 | refine S_nil ?_
 | refine S_run rfl rfl (by (repeat' (first | exact trivial | apply And.intro | rfl | omega | intro _ | (simp only [obS] at *; omega))); first | done | fail) (by (repeat' (first | exact trivial | apply And.intro | rfl | omega | intro _ | (simp only [obS] at *; omega))); first | done | fail) ?_
 | refine S_box (fun b => ⟨_, _, rfl, (by (repeat' (first | exact trivial | apply And.intro | rfl | omega | intro _ | (simp only [obS] at *; omega))); first | done | fail), ?_⟩)
 | refine S_slice (fun b => ⟨_, _, rfl, (by (repeat' (first | exact trivial | apply And.intro | rfl | omega | intro _ | (simp only [obS] at *; omega))); first | done | fail), ?_⟩)
 | refine S_call (f := 21) rfl (by (repeat' (first | exact trivial | apply And.intro | rfl | omega | intro _ | (simp only [obS] at *; omega))); first | done | fail) (by kernel_rfl) (fun w hw => rAt_c f t hv ht w) ?_
      )
 | (refine G_id ?_; first
 | refine G_then ?_
 | refine G_block ?_
 | refine G_blockX ?_
 | refine G_blockN rfl ?_
 | refine G_blockR ?_
 | refine G_thenR ?_
 | refine G_thenX ?_
 | refine G_ret rfl (by (repeat' (first | exact trivial | apply And.intro | rfl | omega | intro _ | (simp only [obS] at *; omega))); first | done | fail) (fun w hw => ⟨?_, hw.below⟩)
      )
    )
  rfl

theorem atF_S (f : Fmt) (t : Int) : (atF f t).S = t % f.S := by unfold atF; dsimp only; split <;> rfl
/-- The error of a tick and a number of samples. -/
def sigC (t n : Int) : Int := if ¬ firstL [wi t 0 10000000, wi n 0 4096] = 0 then firstL [wi t 0 10000000, wi n 0 4096] else wh (decide (0 < n) && decide (10000000 < t + n - 1)) 4
theorem sigC_eq (f : Fmt) (t n : Int) : firstL [checkF f, sigC t n] = sigE f t n := by
  unfold sigE checkT sigC
  by_cases h0 : checkF f = 0
  · rcases wi_3 t 0 10000000 with h1 | h1
    · rcases wi_3 n 0 4096 with h2 | h2
      · have g1 := (wi_eq _ _ _).1 h1
        have g2 := (wi_eq _ _ _).1 h2
        have e : IntKind.i64.wrap (10000000 - t) = 10000000 - t := inR_wrap (by simp only [inR]; omega)
        have e' : IntKind.i64.wrap (n - 1) = n - 1 := inR_wrap (by simp only [inR]; omega)
        rw [e, e']
        have hd : decide (10000000 < t + n - 1) = decide (10000000 - t < n - 1) := decide_eq_decide.2 (by omega)
        rw [hd]
        simp [firstL, h0, h1, h2]
      · simp [firstL, h0, h1, h2]
    · simp [firstL, h0, h1]
  · simp [firstL, h0]

set_option maxHeartbeats 400000 in
/-- genlockref04.InSync -/
theorem rInSync_c (f : Fmt) (t : Int) (hv : Valid f) (ht : 0 ≤ t ∧ t ≤ 20000000) (w : World) : Calls Tryz.prog 34 #[.agg #[.int .i64 f.S, .int .i64 f.L, .int .i64 f.F, .int .i64 f.B, .int .i64 f.Y, .int .i64 f.V, .int .i64 f.C], .int .i64 t] w fun r w' => r = .returned (.bool (decide ((atF f t).S < f.Y))) ∧ Below w.heap.size w w' := by
  have hS := hv.S
  rw [atF_S]
  refine calls_of (args := [.agg #[.int .i64 f.S, .int .i64 f.L, .int .i64 f.F, .int .i64 f.B, .int .i64 f.Y, .int .i64 f.V, .int .i64 f.C], .int .i64 t]) T_ok Tryz.func34 rfl Tryz.ntmps34 (Nat.le_of_ble_eq_true rfl) rfl ?_
  repeat' (first
 | (refine C_id ?_; first
 | refine C_seq ?_
 | refine C_region rfl ?_
 | refine C_block ?_
 | refine C_skip ?_
 | refine C_exit ?_
 | refine C_ret0 ?_
 | refine C_draw (id := 1) rfl mixed (by kernel_rfl) ?_
 | refine C_condT rfl (by (repeat' (first | exact trivial | apply And.intro | rfl | omega | intro _ | (simp only [obS] at *; omega))); first | done | fail) ?_
 | refine C_condF rfl (by (repeat' (first | exact trivial | apply And.intro | rfl | omega | intro _ | (simp only [obS] at *; omega))); first | done | fail) ?_
 | (refine C_cond rfl (by (repeat' (first | exact trivial | apply And.intro | rfl | omega | intro _ | (simp only [obS] at *; omega))); first | done | fail) (fun h => ?_) (fun h => ?_) <;> (try simp only [Bool.or_eq_true, Bool.and_eq_true, Bool.or_eq_false_iff, Bool.and_eq_false_iff, decide_eq_true_eq, decide_eq_false_iff_not, beq_iff_eq, bne_iff_ne, beq_eq_false_iff_ne, bne_eq_false_iff_eq, ne_eq, Decidable.not_not, List.cons.injEq, and_true, Bool.not_eq_true', Bool.not_eq_false', Int.not_lt, Int.not_le] at h))
      )
 | (refine S_id ?_; first
 | refine S_nil ?_
 | refine S_run rfl rfl (by (repeat' (first | exact trivial | apply And.intro | rfl | omega | intro _ | (simp only [obS] at *; omega))); first | done | fail) (by (repeat' (first | exact trivial | apply And.intro | rfl | omega | intro _ | (simp only [obS] at *; omega))); first | done | fail) ?_
 | refine S_box (fun b => ⟨_, _, rfl, (by (repeat' (first | exact trivial | apply And.intro | rfl | omega | intro _ | (simp only [obS] at *; omega))); first | done | fail), ?_⟩)
 | refine S_slice (fun b => ⟨_, _, rfl, (by (repeat' (first | exact trivial | apply And.intro | rfl | omega | intro _ | (simp only [obS] at *; omega))); first | done | fail), ?_⟩)
      )
 | (refine D_id ?_; first
 | refine D_nil ?_
 | refine D_tail ?_
 | refine D_run rfl rfl (by (repeat' (first | exact trivial | apply And.intro | rfl | omega | intro _ | (simp only [obS] at *; omega))); first | done | fail) (by (repeat' (first | exact trivial | apply And.intro | rfl | omega | intro _ | (simp only [obS] at *; omega))); first | done | fail) ?_
      )
 | (refine G_id ?_; first
 | refine G_then ?_
 | refine G_block ?_
 | refine G_blockX ?_
 | refine G_blockN rfl ?_
 | refine G_blockR ?_
 | refine G_thenR ?_
 | refine G_thenX ?_
 | refine G_ret rfl (by (repeat' (first | exact trivial | apply And.intro | rfl | omega | intro _ | (simp only [obS] at *; omega))); first | done | fail) (fun w hw => ⟨?_, hw.below⟩)
      )
    )
  rfl

set_option maxHeartbeats 400000 in
/-- genlockref04.CheckSignal -/
theorem rCheckSignal_c (t n : Int) (w : World) : Calls Tryz.prog 32 #[.int .i64 t, .int .i64 n] w fun r w' => r = .returned (.int .i64 (sigC t n)) ∧ Below w.heap.size w w' := by
  refine calls_of (args := [.int .i64 t, .int .i64 n]) T_ok Tryz.func32 rfl Tryz.ntmps32 (Nat.le_of_ble_eq_true rfl) rfl ?_
  by_cases hc : firstL [wi t 0 10000000, wi n 0 4096] = 0
  · have hc' := hc
    rw [firstL_zero] at hc'
    simp only [List.mem_cons, List.mem_nil_iff, or_false, forall_eq_or_imp, forall_eq, wi_eq] at hc'
    obtain ⟨g1, g2⟩ := hc'
    have hR : sigC t n = wh (decide (0 < n) && decide (10000000 < t + n - 1)) 4 := if_neg (Classical.not_not.2 hc)
    rw [hR]
    repeat' (first
 | (refine C_id ?_; first
 | refine C_seq ?_
 | refine C_region rfl ?_
 | refine C_block ?_
 | refine C_skip ?_
 | refine C_exit ?_
 | refine C_ret0 ?_
 | refine C_condT rfl (by (repeat' (first | exact trivial | apply And.intro | rfl | omega | intro _ | (simp only [obS] at *; omega))); first | done | fail) ?_
 | refine C_condF rfl (by (repeat' (first | exact trivial | apply And.intro | rfl | omega | intro _ | (simp only [obS] at *; omega))); first | done | fail) ?_
 | (refine C_cond rfl (by (repeat' (first | exact trivial | apply And.intro | rfl | omega | intro _ | (simp only [obS] at *; omega))); first | done | fail) (fun h => ?_) (fun h => ?_) <;> (try simp only [Bool.or_eq_true, Bool.and_eq_true, Bool.or_eq_false_iff, Bool.and_eq_false_iff, decide_eq_true_eq, decide_eq_false_iff_not, beq_iff_eq, bne_iff_ne, beq_eq_false_iff_ne, bne_eq_false_iff_eq, ne_eq, Decidable.not_not, List.cons.injEq, and_true, Bool.not_eq_true', Bool.not_eq_false', Int.not_lt, Int.not_le] at h) <;> (try (exfalso; omega)) <;> (try (exfalso; simp at h; done)) <;> (try (exfalso; simp only [not_true_eq_false, false_or, or_false] at h; omega)) <;> (try contradiction))
          )
 | (refine S_id ?_; first
 | refine S_nil ?_
 | refine S_run rfl rfl (by (repeat' (first | exact trivial | apply And.intro | rfl | omega | intro _ | (simp only [obS] at *; omega))); first | done | fail) (by (repeat' (first | exact trivial | apply And.intro | rfl | omega | intro _ | (simp only [obS] at *; omega))); first | done | fail) ?_
 | refine S_box (fun b => ⟨_, _, rfl, (by (repeat' (first | exact trivial | apply And.intro | rfl | omega | intro _ | (simp only [obS] at *; omega))); first | done | fail), ?_⟩)
 | refine S_slice (fun b => ⟨_, _, rfl, (by (repeat' (first | exact trivial | apply And.intro | rfl | omega | intro _ | (simp only [obS] at *; omega))); first | done | fail), ?_⟩)
 | refine S_call (f := 20) rfl (by (repeat' (first | exact trivial | apply And.intro | rfl | omega | intro _ | (simp only [obS] at *; omega))); first | done | fail) (by kernel_rfl) (fun w hw => rCheckTick_c t w) ?_
 | refine S_call (f := 43) rfl (by (repeat' (first | exact trivial | apply And.intro | rfl | omega | intro _ | (simp only [obS] at *; omega))); first | done | fail) (by kernel_rfl) (fun w hw => rRange_c _ _ _ w) ?_
 | refine S_call (f := 56) rfl (by (repeat' (first | exact trivial | apply And.intro | rfl | omega | intro _ | (simp only [obS] at *; omega))); first | done | fail) (by kernel_rfl) (fun w hw => rWhen_c _ _ w) ?_
 | refine S_call (f := 84) rfl (by (repeat' (first | exact trivial | apply And.intro | rfl | omega | intro _ | (simp only [obS] at *; omega))); first | done | fail) (by kernel_rfl) (fun w hw => rFirst_c _ _ [wi t 0 10000000, wi n 0 4096] (by simp) w (.inr ⟨_, rfl, hw.src (i := 0) rfl rfl⟩)) ?_
          )
 | (refine G_id ?_; first
 | refine G_then ?_
 | refine G_block ?_
 | refine G_blockX ?_
 | refine G_blockN rfl ?_
 | refine G_blockR ?_
 | refine G_thenR ?_
 | refine G_thenX ?_
 | refine G_ret rfl (by (repeat' (first | exact trivial | apply And.intro | rfl | omega | intro _ | (simp only [obS] at *; omega))); first | done | fail) (fun w hw => ⟨?_, hw.below⟩)
          )
        )
    all_goals rfl
  · have hR : sigC t n = firstL [wi t 0 10000000, wi n 0 4096] := if_pos hc
    rw [hR]
    repeat' (first
 | (refine C_id ?_; first
 | refine C_seq ?_
 | refine C_region rfl ?_
 | refine C_block ?_
 | refine C_skip ?_
 | refine C_exit ?_
 | refine C_ret0 ?_
 | refine C_condT rfl (by (repeat' (first | exact trivial | apply And.intro | rfl | omega | intro _ | (simp only [obS] at *; omega))); first | done | fail) ?_
 | refine C_condF rfl (by (repeat' (first | exact trivial | apply And.intro | rfl | omega | intro _ | (simp only [obS] at *; omega))); first | done | fail) ?_
 | (refine C_cond rfl (by (repeat' (first | exact trivial | apply And.intro | rfl | omega | intro _ | (simp only [obS] at *; omega))); first | done | fail) (fun h => ?_) (fun h => ?_) <;> (try simp only [Bool.or_eq_true, Bool.and_eq_true, Bool.or_eq_false_iff, Bool.and_eq_false_iff, decide_eq_true_eq, decide_eq_false_iff_not, beq_iff_eq, bne_iff_ne, beq_eq_false_iff_ne, bne_eq_false_iff_eq, ne_eq, Decidable.not_not, List.cons.injEq, and_true, Bool.not_eq_true', Bool.not_eq_false', Int.not_lt, Int.not_le] at h) <;> (try (exfalso; omega)) <;> (try (exfalso; simp at h; done)) <;> (try (exfalso; simp only [not_true_eq_false, false_or, or_false] at h; omega)) <;> (try contradiction))
          )
 | (refine S_id ?_; first
 | refine S_nil ?_
 | refine S_run rfl rfl (by (repeat' (first | exact trivial | apply And.intro | rfl | omega | intro _ | (simp only [obS] at *; omega))); first | done | fail) (by (repeat' (first | exact trivial | apply And.intro | rfl | omega | intro _ | (simp only [obS] at *; omega))); first | done | fail) ?_
 | refine S_box (fun b => ⟨_, _, rfl, (by (repeat' (first | exact trivial | apply And.intro | rfl | omega | intro _ | (simp only [obS] at *; omega))); first | done | fail), ?_⟩)
 | refine S_slice (fun b => ⟨_, _, rfl, (by (repeat' (first | exact trivial | apply And.intro | rfl | omega | intro _ | (simp only [obS] at *; omega))); first | done | fail), ?_⟩)
 | refine S_call (f := 20) rfl (by (repeat' (first | exact trivial | apply And.intro | rfl | omega | intro _ | (simp only [obS] at *; omega))); first | done | fail) (by kernel_rfl) (fun w hw => rCheckTick_c t w) ?_
 | refine S_call (f := 43) rfl (by (repeat' (first | exact trivial | apply And.intro | rfl | omega | intro _ | (simp only [obS] at *; omega))); first | done | fail) (by kernel_rfl) (fun w hw => rRange_c _ _ _ w) ?_
 | refine S_call (f := 56) rfl (by (repeat' (first | exact trivial | apply And.intro | rfl | omega | intro _ | (simp only [obS] at *; omega))); first | done | fail) (by kernel_rfl) (fun w hw => rWhen_c _ _ w) ?_
 | refine S_call (f := 84) rfl (by (repeat' (first | exact trivial | apply And.intro | rfl | omega | intro _ | (simp only [obS] at *; omega))); first | done | fail) (by kernel_rfl) (fun w hw => rFirst_c _ _ [wi t 0 10000000, wi n 0 4096] (by simp) w (.inr ⟨_, rfl, hw.src (i := 0) rfl rfl⟩)) ?_
          )
 | (refine G_id ?_; first
 | refine G_then ?_
 | refine G_block ?_
 | refine G_blockX ?_
 | refine G_blockN rfl ?_
 | refine G_blockR ?_
 | refine G_thenR ?_
 | refine G_thenX ?_
 | refine G_ret rfl (by (repeat' (first | exact trivial | apply And.intro | rfl | omega | intro _ | (simp only [obS] at *; omega))); first | done | fail) (fun w hw => ⟨?_, hw.below⟩)
          )
        )
    all_goals rfl

def givR (a b : Int) : (Int × Int) × Int := if 10000000 < b then ((0, 0), 7) else ((a, b), 0)
theorem retG {a b c : Int} {q : (Int × Int) × Int} (h : q = ((a, b), c)) : Ending.returned (.tuple #[.agg #[.int .i64 a, .int .i64 b], .int .i64 c]) = Ending.returned (.tuple #[.agg #[.int .i64 q.1.1, .int .i64 q.1.2], .int .i64 q.2]) := by subst h; rfl

set_option maxHeartbeats 400000 in
/-- genlockref04.given -/
theorem rGiven_c (a b : Int) (w : World) : Calls Tryz.prog 100 #[.agg #[.int .i64 a, .int .i64 b]] w fun r w' => r = .returned (.tuple #[.agg #[.int .i64 (givR a b).1.1, .int .i64 (givR a b).1.2], .int .i64 (givR a b).2]) ∧ Below w.heap.size w w' := by
  refine calls_of (args := [.agg #[.int .i64 a, .int .i64 b]]) T_ok Tryz.func100 rfl Tryz.ntmps100 (Nat.le_of_ble_eq_true rfl) rfl ?_
  repeat' (first
 | (refine C_id ?_; first
 | refine C_seq ?_
 | refine C_region rfl ?_
 | refine C_block ?_
 | refine C_skip ?_
 | refine C_exit ?_
 | refine C_ret0 ?_
 | refine C_condT rfl (by (repeat' (first | exact trivial | apply And.intro | rfl | omega | intro _ | (simp only [obS] at *; omega))); first | done | fail) ?_
 | refine C_condF rfl (by (repeat' (first | exact trivial | apply And.intro | rfl | omega | intro _ | (simp only [obS] at *; omega))); first | done | fail) ?_
 | (refine C_cond rfl (by (repeat' (first | exact trivial | apply And.intro | rfl | omega | intro _ | (simp only [obS] at *; omega))); first | done | fail) (fun h => ?_) (fun h => ?_) <;> (try simp only [Bool.or_eq_true, Bool.and_eq_true, Bool.or_eq_false_iff, Bool.and_eq_false_iff, decide_eq_true_eq, decide_eq_false_iff_not, beq_iff_eq, bne_iff_ne, beq_eq_false_iff_ne, bne_eq_false_iff_eq, ne_eq, Decidable.not_not, List.cons.injEq, and_true, Bool.not_eq_true', Bool.not_eq_false', Int.not_lt, Int.not_le] at h))
      )
 | (refine S_id ?_; first
 | refine S_nil ?_
 | refine S_run rfl rfl (by (repeat' (first | exact trivial | apply And.intro | rfl | omega | intro _ | (simp only [obS] at *; omega))); first | done | fail) (by (repeat' (first | exact trivial | apply And.intro | rfl | omega | intro _ | (simp only [obS] at *; omega))); first | done | fail) ?_
 | refine S_box (fun b => ⟨_, _, rfl, (by (repeat' (first | exact trivial | apply And.intro | rfl | omega | intro _ | (simp only [obS] at *; omega))); first | done | fail), ?_⟩)
 | refine S_slice (fun b => ⟨_, _, rfl, (by (repeat' (first | exact trivial | apply And.intro | rfl | omega | intro _ | (simp only [obS] at *; omega))); first | done | fail), ?_⟩)
      )
 | (refine G_id ?_; first
 | refine G_then ?_
 | refine G_block ?_
 | refine G_blockX ?_
 | refine G_blockN rfl ?_
 | refine G_blockR ?_
 | refine G_thenR ?_
 | refine G_thenX ?_
 | refine G_ret rfl (by (repeat' (first | exact trivial | apply And.intro | rfl | omega | intro _ | (simp only [obS] at *; omega))); first | done | fail) (fun w hw => ⟨?_, hw.below⟩)
      )
    )
  · exact retG (by unfold givR; rw [if_pos h])
  · exact retG (by unfold givR; rw [if_neg (by omega)])

theorem rvert_facts {f : Fmt} {t : Int} (hv : Valid f) (ht : 0 ≤ t ∧ t ≤ 10000000) : tickN f ⟨t / (f.S * f.L) + 0 / 2, 0 % 2, 0, 0⟩ = vb0 f t ∧ tickN f ⟨t / (f.S * f.L) + 1 / 2, 1 % 2, 0, 0⟩ = vb1 f t ∧ (f.F = 1 → tickN f ⟨t / (f.S * f.L) + 2 / 2, 2 % 2, 0, 0⟩ = vb1 f t) ∧ (f.F = 2 → tickN f ⟨t / (f.S * f.L) + 2 / 2, 2 % 2, 0, 0⟩ = vb2 f t) := by
  have e0 : tickN f ⟨t / (f.S * f.L) + 0 / 2, 0 % 2, 0, 0⟩ = vb0 f t := by unfold tickN vb0; simp
  have e1 : tickN f ⟨t / (f.S * f.L) + 1 / 2, 1 % 2, 0, 0⟩ = vb1 f t := by unfold tickN vb1 vb0; simp
  have e2 : tickN f ⟨t / (f.S * f.L) + 2 / 2, 2 % 2, 0, 0⟩ = vb0 f t + f.S * f.L := by unfold tickN vb0; simp [Int.add_mul]
  refine ⟨e0, e1, fun h => ?_, fun h => ?_⟩
  · rw [e2]
    have : linesF f 0 * f.S = f.S * f.L := by simp [linesF, h, Int.mul_comm]
    unfold vb1
    omega
  · rw [e2]
    have h0 : linesF f 0 + linesF f 1 = f.L := by
      simp [linesF, h, exA]
      omega
    have : linesF f 0 * f.S + linesF f 1 * f.S = f.S * f.L := by rw [← Int.add_mul, h0, Int.mul_comm]
    unfold vb2 vb1
    omega

set_option maxHeartbeats 1000000 in
/-- genlockref04.Vertical -/
theorem rVertical_c (f : Fmt) (t : Int) (hc : checkT f t = 0) (w : World) : Calls Tryz.prog 35 #[.agg #[.int .i64 f.S, .int .i64 f.L, .int .i64 f.F, .int .i64 f.B, .int .i64 f.Y, .int .i64 f.V, .int .i64 f.C], .int .i64 t] w fun r w' => r = .returned (.tuple #[.agg #[.int .i64 (vertR f t).1.1, .int .i64 (vertR f t).1.2], .int .i64 (vertR f t).2]) ∧ Below w.heap.size w w' := by
  refine calls_of (args := [.agg #[.int .i64 f.S, .int .i64 f.L, .int .i64 f.F, .int .i64 f.B, .int .i64 f.Y, .int .i64 f.V, .int .i64 f.C], .int .i64 t]) T_ok Tryz.func35 rfl Tryz.ntmps35 (Nat.le_of_ble_eq_true rfl) rfl ?_
  obtain ⟨hv, ht⟩ := (checkT_iff f t).1 hc
  have hS := hv.S
  have hL := hv.L
  have hF := hv.F
  have hfr := frame_bd f ⟨by omega, hS.2⟩ ⟨by omega, hL.2⟩
  have hfs := vert_facts hv ht
  obtain ⟨hq0, hq1, hq2, hq3, hq4, hq5⟩ := hfs
  have htd := Int.ediv_nonneg ht.1 (show 0 ≤ f.S * f.L by omega)
  have htl := Int.ediv_le_self (f.S * f.L) ht.1
  obtain ⟨e0, e1, e2, e3⟩ := rvert_facts hv ht
  have v1 : vb1 f t = vb0 f t + linesF f 0 * f.S := rfl
  have v2 : vb2 f t = vb1 f t + linesF f 1 * f.S := rfl
  have hR : vertR f t = givR (vertT f t) (vertT f t + f.V * f.S) := by unfold vertR givR; rw [if_neg (Classical.not_not.2 hc)]
  rw [hR]
  repeat' (first
 | (refine C_id ?_; first
 | refine C_seq ?_
 | refine C_region rfl ?_
 | refine C_block ?_
 | refine C_skip ?_
 | refine C_exit ?_
 | refine C_ret0 ?_
 | refine C_condT rfl (by (repeat' (first | exact trivial | apply And.intro | rfl | omega | intro _ | (simp only [obS] at *; omega))); first | done | fail) ?_
 | refine C_condF rfl (by (repeat' (first | exact trivial | apply And.intro | rfl | omega | intro _ | (simp only [obS] at *; omega))); first | done | fail) ?_
 | (refine C_cond rfl (by (repeat' (first | exact trivial | apply And.intro | rfl | omega | intro _ | (simp only [obS] at *; omega))); first | done | fail) (fun h => ?_) (fun h => ?_) <;> (try simp only [Bool.or_eq_true, Bool.and_eq_true, Bool.or_eq_false_iff, Bool.and_eq_false_iff, decide_eq_true_eq, decide_eq_false_iff_not, beq_iff_eq, bne_iff_ne, beq_eq_false_iff_ne, bne_eq_false_iff_eq, ne_eq, Decidable.not_not, List.cons.injEq, and_true, Bool.not_eq_true', Bool.not_eq_false', Int.not_lt, Int.not_le] at h) <;> (try (exfalso; omega)))
        )
 | (refine S_id ?_; first
 | refine S_nil ?_
 | refine S_run rfl rfl (by (repeat' (first | exact trivial | apply And.intro | rfl | omega | intro _ | (simp only [obS] at *; omega))); first | done | fail) (by (repeat' (first | exact trivial | apply And.intro | rfl | omega | intro _ | (simp only [obS] at *; omega))); first | done | fail) ?_
 | refine S_box (fun b => ⟨_, _, rfl, (by (repeat' (first | exact trivial | apply And.intro | rfl | omega | intro _ | (simp only [obS] at *; omega))); first | done | fail), ?_⟩)
 | refine S_slice (fun b => ⟨_, _, rfl, (by (repeat' (first | exact trivial | apply And.intro | rfl | omega | intro _ | (simp only [obS] at *; omega))); first | done | fail), ?_⟩)
        )
 | (refine G_id ?_; first
 | refine G_then ?_
 | refine G_block ?_
 | refine G_blockX ?_
 | refine G_blockN rfl ?_
 | refine G_blockR ?_
 | refine G_thenR ?_
 | refine G_thenX ?_
 | refine G_ret rfl (by (repeat' (first | exact trivial | apply And.intro | rfl | omega | intro _ | (simp only [obS] at *; omega))); first | done | fail) (fun w hw => ⟨?_, hw.below⟩)
        )
      )
  rename_i b2
  refine C_loopS (fun i : Int => ⟨[(2, .s (.p b2 0 0)), (4, .s (.p b 1 0)), (1, .s (.v (.int .i64 t))), (5, .s (.v (.int .i64 0))), (6, .s (.v (.int .i64 (t / (f.S * f.L))))), (7, .s (.v (.int .i64 i)))], [⟨b2, 23, [.v (.int .i64 f.S), .v (.int .i64 f.L), .v (.int .i64 f.F), .v (.int .i64 f.B), .v (.int .i64 f.Y), .v (.int .i64 f.V), .v (.int .i64 f.C)]⟩, ⟨b, 46, [.v (.int .i64 0), .v (.int .i64 0)]⟩], []⟩) (fun i => i = 0 ∨ (i = 1 ∧ vb0 f t < t) ∨ (i = 2 ∧ vb0 f t < t ∧ (f.F = 2 → vb1 f t < t))) (fun i => (3 - i).toNat) 0 (.inl rfl) ?_ (fun i hi => ?_)
  · exact ⟨⟨_, rfl, (by (repeat' (first | exact trivial | apply And.intro | rfl | omega | intro _ | (simp only [obS] at *; omega))); first | done | fail)⟩, ⟨[], rfl⟩, rfl, (by intro p hp; repeat (first | exact hp | apply List.mem_cons_of_mem))⟩
  rcases hi with rfl | ⟨rfl, g0⟩ | ⟨rfl, g0, g1⟩
  · by_cases g : t ≤ vb0 f t
    · have hT : vertT f t = vb0 f t := if_pos g
      rw [hT]
      repeat' (first
 | (refine C_id ?_; first
 | refine C_seq ?_
 | refine C_region rfl ?_
 | refine C_block ?_
 | refine C_skip ?_
 | refine C_exit ?_
 | refine C_ret0 ?_
 | refine C_condT rfl (by (repeat' (first | exact trivial | apply And.intro | rfl | omega | intro _ | (simp only [obS] at *; omega))); first | done | fail) ?_
 | refine C_condF rfl (by (repeat' (first | exact trivial | apply And.intro | rfl | omega | intro _ | (simp only [obS] at *; omega))); first | done | fail) ?_
 | (refine C_cond rfl (by (repeat' (first | exact trivial | apply And.intro | rfl | omega | intro _ | (simp only [obS] at *; omega))); first | done | fail) (fun h => ?_) (fun h => ?_) <;> (try simp only [Bool.or_eq_true, Bool.and_eq_true, Bool.or_eq_false_iff, Bool.and_eq_false_iff, decide_eq_true_eq, decide_eq_false_iff_not, beq_iff_eq, bne_iff_ne, beq_eq_false_iff_ne, bne_eq_false_iff_eq, ne_eq, Decidable.not_not, List.cons.injEq, and_true, Bool.not_eq_true', Bool.not_eq_false', Int.not_lt, Int.not_le] at h) <;> (try (exfalso; omega)))
            )
 | (refine S_id ?_; first
 | refine S_nil ?_
 | refine S_run rfl rfl (by (repeat' (first | exact trivial | apply And.intro | rfl | omega | intro _ | (simp only [obS] at *; omega))); first | done | fail) (by (repeat' (first | exact trivial | apply And.intro | rfl | omega | intro _ | (simp only [obS] at *; omega))); first | done | fail) ?_
 | refine S_box (fun b => ⟨_, _, rfl, (by (repeat' (first | exact trivial | apply And.intro | rfl | omega | intro _ | (simp only [obS] at *; omega))); first | done | fail), ?_⟩)
 | refine S_slice (fun b => ⟨_, _, rfl, (by (repeat' (first | exact trivial | apply And.intro | rfl | omega | intro _ | (simp only [obS] at *; omega))); first | done | fail), ?_⟩)
 | refine S_call (f := 100) rfl (by (repeat' (first | exact trivial | apply And.intro | rfl | omega | intro _ | (simp only [obS] at *; omega))); first | done | fail) (by kernel_rfl) (fun w hw => rGiven_c _ _ w) ?_
 | refine S_call (f := 24) rfl (by (repeat' (first | exact trivial | apply And.intro | rfl | omega | intro _ | (simp only [obS] at *; omega))); first | done | fail) (by kernel_rfl) (fun w hw => (by have h := rTick_c f ⟨t / (f.S * f.L) + 0 / 2, 0 % 2, 0, 0⟩ hv (by show 0 ≤ t / (f.S * f.L) + 0 ∧ t / (f.S * f.L) + 0 ≤ 10000010; omega) (by show 0 ≤ ((0 % 2 : Int)) ∧ ((0 % 2 : Int)) ≤ f.F - 1; omega) (by show (0 : Int) ≤ 0 ∧ (0 : Int) ≤ 2000; omega) (by show (0 : Int) ≤ 0 ∧ (0 : Int) ≤ 2000; omega) w; rw [e0] at h; exact h)) ?_
            )
 | (refine G_id ?_; first
 | refine G_loop 1 (.inr (.inl ⟨rfl, by omega⟩)) (by show (3 - (1 : Int)).toNat < (3 - (0 : Int)).toNat; decide) ⟨⟨_, rfl, (by (repeat' (first | exact trivial | apply And.intro | rfl | omega | intro _ | (simp only [obS] at *; omega))); first | done | fail)⟩, ⟨_, rfl⟩, rfl, (by intro p hp; repeat (first | exact hp | apply List.mem_cons_of_mem))⟩
 | refine G_then ?_
 | refine G_block ?_
 | refine G_blockX ?_
 | refine G_blockN rfl ?_
 | refine G_blockR ?_
 | refine G_thenR ?_
 | refine G_thenX ?_
 | refine G_ret rfl (by (repeat' (first | exact trivial | apply And.intro | rfl | omega | intro _ | (simp only [obS] at *; omega))); first | done | fail) (fun w hw => ⟨?_, hw.below⟩)
            )
          )
      all_goals rfl
    · repeat' (first
 | (refine C_id ?_; first
 | refine C_seq ?_
 | refine C_region rfl ?_
 | refine C_block ?_
 | refine C_skip ?_
 | refine C_exit ?_
 | refine C_ret0 ?_
 | refine C_condT rfl (by (repeat' (first | exact trivial | apply And.intro | rfl | omega | intro _ | (simp only [obS] at *; omega))); first | done | fail) ?_
 | refine C_condF rfl (by (repeat' (first | exact trivial | apply And.intro | rfl | omega | intro _ | (simp only [obS] at *; omega))); first | done | fail) ?_
 | (refine C_cond rfl (by (repeat' (first | exact trivial | apply And.intro | rfl | omega | intro _ | (simp only [obS] at *; omega))); first | done | fail) (fun h => ?_) (fun h => ?_) <;> (try simp only [Bool.or_eq_true, Bool.and_eq_true, Bool.or_eq_false_iff, Bool.and_eq_false_iff, decide_eq_true_eq, decide_eq_false_iff_not, beq_iff_eq, bne_iff_ne, beq_eq_false_iff_ne, bne_eq_false_iff_eq, ne_eq, Decidable.not_not, List.cons.injEq, and_true, Bool.not_eq_true', Bool.not_eq_false', Int.not_lt, Int.not_le] at h) <;> (try (exfalso; omega)))
            )
 | (refine S_id ?_; first
 | refine S_nil ?_
 | refine S_run rfl rfl (by (repeat' (first | exact trivial | apply And.intro | rfl | omega | intro _ | (simp only [obS] at *; omega))); first | done | fail) (by (repeat' (first | exact trivial | apply And.intro | rfl | omega | intro _ | (simp only [obS] at *; omega))); first | done | fail) ?_
 | refine S_box (fun b => ⟨_, _, rfl, (by (repeat' (first | exact trivial | apply And.intro | rfl | omega | intro _ | (simp only [obS] at *; omega))); first | done | fail), ?_⟩)
 | refine S_slice (fun b => ⟨_, _, rfl, (by (repeat' (first | exact trivial | apply And.intro | rfl | omega | intro _ | (simp only [obS] at *; omega))); first | done | fail), ?_⟩)
 | refine S_call (f := 100) rfl (by (repeat' (first | exact trivial | apply And.intro | rfl | omega | intro _ | (simp only [obS] at *; omega))); first | done | fail) (by kernel_rfl) (fun w hw => rGiven_c _ _ w) ?_
 | refine S_call (f := 24) rfl (by (repeat' (first | exact trivial | apply And.intro | rfl | omega | intro _ | (simp only [obS] at *; omega))); first | done | fail) (by kernel_rfl) (fun w hw => (by have h := rTick_c f ⟨t / (f.S * f.L) + 0 / 2, 0 % 2, 0, 0⟩ hv (by show 0 ≤ t / (f.S * f.L) + 0 ∧ t / (f.S * f.L) + 0 ≤ 10000010; omega) (by show 0 ≤ ((0 % 2 : Int)) ∧ ((0 % 2 : Int)) ≤ f.F - 1; omega) (by show (0 : Int) ≤ 0 ∧ (0 : Int) ≤ 2000; omega) (by show (0 : Int) ≤ 0 ∧ (0 : Int) ≤ 2000; omega) w; rw [e0] at h; exact h)) ?_
            )
 | (refine G_id ?_; first
 | refine G_loop 1 (.inr (.inl ⟨rfl, by omega⟩)) (by show (3 - (1 : Int)).toNat < (3 - (0 : Int)).toNat; decide) ⟨⟨_, rfl, (by (repeat' (first | exact trivial | apply And.intro | rfl | omega | intro _ | (simp only [obS] at *; omega))); first | done | fail)⟩, ⟨_, rfl⟩, rfl, (by intro p hp; repeat (first | exact hp | apply List.mem_cons_of_mem))⟩
 | refine G_then ?_
 | refine G_block ?_
 | refine G_blockX ?_
 | refine G_blockN rfl ?_
 | refine G_blockR ?_
 | refine G_thenR ?_
 | refine G_thenX ?_
 | refine G_ret rfl (by (repeat' (first | exact trivial | apply And.intro | rfl | omega | intro _ | (simp only [obS] at *; omega))); first | done | fail) (fun w hw => ⟨?_, hw.below⟩)
            )
          )
  · by_cases gF : f.F = 2
    · by_cases g : t ≤ vb1 f t
      · have hT : vertT f t = vb1 f t := by unfold vertT; rw [if_neg (by omega), if_pos g]
        rw [hT]
        repeat' (first
 | (refine C_id ?_; first
 | refine C_seq ?_
 | refine C_region rfl ?_
 | refine C_block ?_
 | refine C_skip ?_
 | refine C_exit ?_
 | refine C_ret0 ?_
 | refine C_condT rfl (by (repeat' (first | exact trivial | apply And.intro | rfl | omega | intro _ | (simp only [obS] at *; omega))); first | done | fail) ?_
 | refine C_condF rfl (by (repeat' (first | exact trivial | apply And.intro | rfl | omega | intro _ | (simp only [obS] at *; omega))); first | done | fail) ?_
 | (refine C_cond rfl (by (repeat' (first | exact trivial | apply And.intro | rfl | omega | intro _ | (simp only [obS] at *; omega))); first | done | fail) (fun h => ?_) (fun h => ?_) <;> (try simp only [Bool.or_eq_true, Bool.and_eq_true, Bool.or_eq_false_iff, Bool.and_eq_false_iff, decide_eq_true_eq, decide_eq_false_iff_not, beq_iff_eq, bne_iff_ne, beq_eq_false_iff_ne, bne_eq_false_iff_eq, ne_eq, Decidable.not_not, List.cons.injEq, and_true, Bool.not_eq_true', Bool.not_eq_false', Int.not_lt, Int.not_le] at h) <;> (try (exfalso; omega)))
              )
 | (refine S_id ?_; first
 | refine S_nil ?_
 | refine S_run rfl rfl (by (repeat' (first | exact trivial | apply And.intro | rfl | omega | intro _ | (simp only [obS] at *; omega))); first | done | fail) (by (repeat' (first | exact trivial | apply And.intro | rfl | omega | intro _ | (simp only [obS] at *; omega))); first | done | fail) ?_
 | refine S_box (fun b => ⟨_, _, rfl, (by (repeat' (first | exact trivial | apply And.intro | rfl | omega | intro _ | (simp only [obS] at *; omega))); first | done | fail), ?_⟩)
 | refine S_slice (fun b => ⟨_, _, rfl, (by (repeat' (first | exact trivial | apply And.intro | rfl | omega | intro _ | (simp only [obS] at *; omega))); first | done | fail), ?_⟩)
 | refine S_call (f := 100) rfl (by (repeat' (first | exact trivial | apply And.intro | rfl | omega | intro _ | (simp only [obS] at *; omega))); first | done | fail) (by kernel_rfl) (fun w hw => rGiven_c _ _ w) ?_
 | refine S_call (f := 24) rfl (by (repeat' (first | exact trivial | apply And.intro | rfl | omega | intro _ | (simp only [obS] at *; omega))); first | done | fail) (by kernel_rfl) (fun w hw => (by have h := rTick_c f ⟨t / (f.S * f.L) + 1 / 2, 1 % 2, 0, 0⟩ hv (by show 0 ≤ t / (f.S * f.L) + 0 ∧ t / (f.S * f.L) + 0 ≤ 10000010; omega) (by show 0 ≤ ((1 % 2 : Int)) ∧ ((1 % 2 : Int)) ≤ f.F - 1; omega) (by show (0 : Int) ≤ 0 ∧ (0 : Int) ≤ 2000; omega) (by show (0 : Int) ≤ 0 ∧ (0 : Int) ≤ 2000; omega) w; rw [e1] at h; exact h)) ?_
              )
 | (refine G_id ?_; first
 | refine G_loop 2 (.inr (.inr ⟨rfl, by omega, fun _ => by omega⟩)) (by show (3 - (2 : Int)).toNat < (3 - (1 : Int)).toNat; decide) ⟨⟨_, rfl, (by (repeat' (first | exact trivial | apply And.intro | rfl | omega | intro _ | (simp only [obS] at *; omega))); first | done | fail)⟩, ⟨_, rfl⟩, rfl, (by intro p hp; repeat (first | exact hp | apply List.mem_cons_of_mem))⟩
 | refine G_then ?_
 | refine G_block ?_
 | refine G_blockX ?_
 | refine G_blockN rfl ?_
 | refine G_blockR ?_
 | refine G_thenR ?_
 | refine G_thenX ?_
 | refine G_ret rfl (by (repeat' (first | exact trivial | apply And.intro | rfl | omega | intro _ | (simp only [obS] at *; omega))); first | done | fail) (fun w hw => ⟨?_, hw.below⟩)
              )
            )
        all_goals rfl
      · repeat' (first
 | (refine C_id ?_; first
 | refine C_seq ?_
 | refine C_region rfl ?_
 | refine C_block ?_
 | refine C_skip ?_
 | refine C_exit ?_
 | refine C_ret0 ?_
 | refine C_condT rfl (by (repeat' (first | exact trivial | apply And.intro | rfl | omega | intro _ | (simp only [obS] at *; omega))); first | done | fail) ?_
 | refine C_condF rfl (by (repeat' (first | exact trivial | apply And.intro | rfl | omega | intro _ | (simp only [obS] at *; omega))); first | done | fail) ?_
 | (refine C_cond rfl (by (repeat' (first | exact trivial | apply And.intro | rfl | omega | intro _ | (simp only [obS] at *; omega))); first | done | fail) (fun h => ?_) (fun h => ?_) <;> (try simp only [Bool.or_eq_true, Bool.and_eq_true, Bool.or_eq_false_iff, Bool.and_eq_false_iff, decide_eq_true_eq, decide_eq_false_iff_not, beq_iff_eq, bne_iff_ne, beq_eq_false_iff_ne, bne_eq_false_iff_eq, ne_eq, Decidable.not_not, List.cons.injEq, and_true, Bool.not_eq_true', Bool.not_eq_false', Int.not_lt, Int.not_le] at h) <;> (try (exfalso; omega)))
              )
 | (refine S_id ?_; first
 | refine S_nil ?_
 | refine S_run rfl rfl (by (repeat' (first | exact trivial | apply And.intro | rfl | omega | intro _ | (simp only [obS] at *; omega))); first | done | fail) (by (repeat' (first | exact trivial | apply And.intro | rfl | omega | intro _ | (simp only [obS] at *; omega))); first | done | fail) ?_
 | refine S_box (fun b => ⟨_, _, rfl, (by (repeat' (first | exact trivial | apply And.intro | rfl | omega | intro _ | (simp only [obS] at *; omega))); first | done | fail), ?_⟩)
 | refine S_slice (fun b => ⟨_, _, rfl, (by (repeat' (first | exact trivial | apply And.intro | rfl | omega | intro _ | (simp only [obS] at *; omega))); first | done | fail), ?_⟩)
 | refine S_call (f := 100) rfl (by (repeat' (first | exact trivial | apply And.intro | rfl | omega | intro _ | (simp only [obS] at *; omega))); first | done | fail) (by kernel_rfl) (fun w hw => rGiven_c _ _ w) ?_
 | refine S_call (f := 24) rfl (by (repeat' (first | exact trivial | apply And.intro | rfl | omega | intro _ | (simp only [obS] at *; omega))); first | done | fail) (by kernel_rfl) (fun w hw => (by have h := rTick_c f ⟨t / (f.S * f.L) + 1 / 2, 1 % 2, 0, 0⟩ hv (by show 0 ≤ t / (f.S * f.L) + 0 ∧ t / (f.S * f.L) + 0 ≤ 10000010; omega) (by show 0 ≤ ((1 % 2 : Int)) ∧ ((1 % 2 : Int)) ≤ f.F - 1; omega) (by show (0 : Int) ≤ 0 ∧ (0 : Int) ≤ 2000; omega) (by show (0 : Int) ≤ 0 ∧ (0 : Int) ≤ 2000; omega) w; rw [e1] at h; exact h)) ?_
              )
 | (refine G_id ?_; first
 | refine G_loop 2 (.inr (.inr ⟨rfl, by omega, fun _ => by omega⟩)) (by show (3 - (2 : Int)).toNat < (3 - (1 : Int)).toNat; decide) ⟨⟨_, rfl, (by (repeat' (first | exact trivial | apply And.intro | rfl | omega | intro _ | (simp only [obS] at *; omega))); first | done | fail)⟩, ⟨_, rfl⟩, rfl, (by intro p hp; repeat (first | exact hp | apply List.mem_cons_of_mem))⟩
 | refine G_then ?_
 | refine G_block ?_
 | refine G_blockX ?_
 | refine G_blockN rfl ?_
 | refine G_blockR ?_
 | refine G_thenR ?_
 | refine G_thenX ?_
 | refine G_ret rfl (by (repeat' (first | exact trivial | apply And.intro | rfl | omega | intro _ | (simp only [obS] at *; omega))); first | done | fail) (fun w hw => ⟨?_, hw.below⟩)
              )
            )
    · have gF1 : f.F = 1 := by omega
      repeat' (first
 | (refine C_id ?_; first
 | refine C_seq ?_
 | refine C_region rfl ?_
 | refine C_block ?_
 | refine C_skip ?_
 | refine C_exit ?_
 | refine C_ret0 ?_
 | refine C_condT rfl (by (repeat' (first | exact trivial | apply And.intro | rfl | omega | intro _ | (simp only [obS] at *; omega))); first | done | fail) ?_
 | refine C_condF rfl (by (repeat' (first | exact trivial | apply And.intro | rfl | omega | intro _ | (simp only [obS] at *; omega))); first | done | fail) ?_
 | (refine C_cond rfl (by (repeat' (first | exact trivial | apply And.intro | rfl | omega | intro _ | (simp only [obS] at *; omega))); first | done | fail) (fun h => ?_) (fun h => ?_) <;> (try simp only [Bool.or_eq_true, Bool.and_eq_true, Bool.or_eq_false_iff, Bool.and_eq_false_iff, decide_eq_true_eq, decide_eq_false_iff_not, beq_iff_eq, bne_iff_ne, beq_eq_false_iff_ne, bne_eq_false_iff_eq, ne_eq, Decidable.not_not, List.cons.injEq, and_true, Bool.not_eq_true', Bool.not_eq_false', Int.not_lt, Int.not_le] at h) <;> (try (exfalso; omega)))
            )
 | (refine S_id ?_; first
 | refine S_nil ?_
 | refine S_run rfl rfl (by (repeat' (first | exact trivial | apply And.intro | rfl | omega | intro _ | (simp only [obS] at *; omega))); first | done | fail) (by (repeat' (first | exact trivial | apply And.intro | rfl | omega | intro _ | (simp only [obS] at *; omega))); first | done | fail) ?_
 | refine S_box (fun b => ⟨_, _, rfl, (by (repeat' (first | exact trivial | apply And.intro | rfl | omega | intro _ | (simp only [obS] at *; omega))); first | done | fail), ?_⟩)
 | refine S_slice (fun b => ⟨_, _, rfl, (by (repeat' (first | exact trivial | apply And.intro | rfl | omega | intro _ | (simp only [obS] at *; omega))); first | done | fail), ?_⟩)
 | refine S_call (f := 100) rfl (by (repeat' (first | exact trivial | apply And.intro | rfl | omega | intro _ | (simp only [obS] at *; omega))); first | done | fail) (by kernel_rfl) (fun w hw => rGiven_c _ _ w) ?_
            )
 | (refine G_id ?_; first
 | refine G_loop 2 (.inr (.inr ⟨rfl, by omega, fun _ => by omega⟩)) (by show (3 - (2 : Int)).toNat < (3 - (1 : Int)).toNat; decide) ⟨⟨_, rfl, (by (repeat' (first | exact trivial | apply And.intro | rfl | omega | intro _ | (simp only [obS] at *; omega))); first | done | fail)⟩, ⟨_, rfl⟩, rfl, (by intro p hp; repeat (first | exact hp | apply List.mem_cons_of_mem))⟩
 | refine G_then ?_
 | refine G_block ?_
 | refine G_blockX ?_
 | refine G_blockN rfl ?_
 | refine G_blockR ?_
 | refine G_thenR ?_
 | refine G_thenX ?_
 | refine G_ret rfl (by (repeat' (first | exact trivial | apply And.intro | rfl | omega | intro _ | (simp only [obS] at *; omega))); first | done | fail) (fun w hw => ⟨?_, hw.below⟩)
            )
          )
  · by_cases gF : f.F = 2
    · have g := hq5 gF
      have e3' := e3 gF
      have hT : vertT f t = vb2 f t := by unfold vertT; rw [if_neg (by omega), if_neg (by omega)]
      rw [hT]
      repeat' (first
 | (refine C_id ?_; first
 | refine C_seq ?_
 | refine C_region rfl ?_
 | refine C_block ?_
 | refine C_skip ?_
 | refine C_exit ?_
 | refine C_ret0 ?_
 | refine C_condT rfl (by (repeat' (first | exact trivial | apply And.intro | rfl | omega | intro _ | (simp only [obS] at *; omega))); first | done | fail) ?_
 | refine C_condF rfl (by (repeat' (first | exact trivial | apply And.intro | rfl | omega | intro _ | (simp only [obS] at *; omega))); first | done | fail) ?_
 | (refine C_cond rfl (by (repeat' (first | exact trivial | apply And.intro | rfl | omega | intro _ | (simp only [obS] at *; omega))); first | done | fail) (fun h => ?_) (fun h => ?_) <;> (try simp only [Bool.or_eq_true, Bool.and_eq_true, Bool.or_eq_false_iff, Bool.and_eq_false_iff, decide_eq_true_eq, decide_eq_false_iff_not, beq_iff_eq, bne_iff_ne, beq_eq_false_iff_ne, bne_eq_false_iff_eq, ne_eq, Decidable.not_not, List.cons.injEq, and_true, Bool.not_eq_true', Bool.not_eq_false', Int.not_lt, Int.not_le] at h) <;> (try (exfalso; omega)))
            )
 | (refine S_id ?_; first
 | refine S_nil ?_
 | refine S_run rfl rfl (by (repeat' (first | exact trivial | apply And.intro | rfl | omega | intro _ | (simp only [obS] at *; omega))); first | done | fail) (by (repeat' (first | exact trivial | apply And.intro | rfl | omega | intro _ | (simp only [obS] at *; omega))); first | done | fail) ?_
 | refine S_box (fun b => ⟨_, _, rfl, (by (repeat' (first | exact trivial | apply And.intro | rfl | omega | intro _ | (simp only [obS] at *; omega))); first | done | fail), ?_⟩)
 | refine S_slice (fun b => ⟨_, _, rfl, (by (repeat' (first | exact trivial | apply And.intro | rfl | omega | intro _ | (simp only [obS] at *; omega))); first | done | fail), ?_⟩)
 | refine S_call (f := 100) rfl (by (repeat' (first | exact trivial | apply And.intro | rfl | omega | intro _ | (simp only [obS] at *; omega))); first | done | fail) (by kernel_rfl) (fun w hw => rGiven_c _ _ w) ?_
 | refine S_call (f := 24) rfl (by (repeat' (first | exact trivial | apply And.intro | rfl | omega | intro _ | (simp only [obS] at *; omega))); first | done | fail) (by kernel_rfl) (fun w hw => (by have h := rTick_c f ⟨t / (f.S * f.L) + 2 / 2, 2 % 2, 0, 0⟩ hv (by show 0 ≤ t / (f.S * f.L) + 1 ∧ t / (f.S * f.L) + 1 ≤ 10000010; omega) (by show 0 ≤ ((2 % 2 : Int)) ∧ ((2 % 2 : Int)) ≤ f.F - 1; omega) (by show (0 : Int) ≤ 0 ∧ (0 : Int) ≤ 2000; omega) (by show (0 : Int) ≤ 0 ∧ (0 : Int) ≤ 2000; omega) w; rw [e3'] at h; exact h)) ?_
            )
 | (refine G_id ?_; first
 | refine G_loop 3 (.inr (.inr ⟨rfl, by omega, fun _ => by omega⟩)) (by show (3 - (3 : Int)).toNat < (3 - (2 : Int)).toNat; decide) ⟨⟨_, rfl, (by (repeat' (first | exact trivial | apply And.intro | rfl | omega | intro _ | (simp only [obS] at *; omega))); first | done | fail)⟩, ⟨_, rfl⟩, rfl, (by intro p hp; repeat (first | exact hp | apply List.mem_cons_of_mem))⟩
 | refine G_then ?_
 | refine G_block ?_
 | refine G_blockX ?_
 | refine G_blockN rfl ?_
 | refine G_blockR ?_
 | refine G_thenR ?_
 | refine G_thenX ?_
 | refine G_ret rfl (by (repeat' (first | exact trivial | apply And.intro | rfl | omega | intro _ | (simp only [obS] at *; omega))); first | done | fail) (fun w hw => ⟨?_, hw.below⟩)
            )
          )
      all_goals rfl
    · have gF1 : f.F = 1 := by omega
      have g := hq4 gF1
      have e2' := e2 gF1
      have hT : vertT f t = vb1 f t := by unfold vertT; rw [if_neg (by omega), if_pos g]
      rw [hT]
      repeat' (first
 | (refine C_id ?_; first
 | refine C_seq ?_
 | refine C_region rfl ?_
 | refine C_block ?_
 | refine C_skip ?_
 | refine C_exit ?_
 | refine C_ret0 ?_
 | refine C_condT rfl (by (repeat' (first | exact trivial | apply And.intro | rfl | omega | intro _ | (simp only [obS] at *; omega))); first | done | fail) ?_
 | refine C_condF rfl (by (repeat' (first | exact trivial | apply And.intro | rfl | omega | intro _ | (simp only [obS] at *; omega))); first | done | fail) ?_
 | (refine C_cond rfl (by (repeat' (first | exact trivial | apply And.intro | rfl | omega | intro _ | (simp only [obS] at *; omega))); first | done | fail) (fun h => ?_) (fun h => ?_) <;> (try simp only [Bool.or_eq_true, Bool.and_eq_true, Bool.or_eq_false_iff, Bool.and_eq_false_iff, decide_eq_true_eq, decide_eq_false_iff_not, beq_iff_eq, bne_iff_ne, beq_eq_false_iff_ne, bne_eq_false_iff_eq, ne_eq, Decidable.not_not, List.cons.injEq, and_true, Bool.not_eq_true', Bool.not_eq_false', Int.not_lt, Int.not_le] at h) <;> (try (exfalso; omega)))
            )
 | (refine S_id ?_; first
 | refine S_nil ?_
 | refine S_run rfl rfl (by (repeat' (first | exact trivial | apply And.intro | rfl | omega | intro _ | (simp only [obS] at *; omega))); first | done | fail) (by (repeat' (first | exact trivial | apply And.intro | rfl | omega | intro _ | (simp only [obS] at *; omega))); first | done | fail) ?_
 | refine S_box (fun b => ⟨_, _, rfl, (by (repeat' (first | exact trivial | apply And.intro | rfl | omega | intro _ | (simp only [obS] at *; omega))); first | done | fail), ?_⟩)
 | refine S_slice (fun b => ⟨_, _, rfl, (by (repeat' (first | exact trivial | apply And.intro | rfl | omega | intro _ | (simp only [obS] at *; omega))); first | done | fail), ?_⟩)
 | refine S_call (f := 100) rfl (by (repeat' (first | exact trivial | apply And.intro | rfl | omega | intro _ | (simp only [obS] at *; omega))); first | done | fail) (by kernel_rfl) (fun w hw => rGiven_c _ _ w) ?_
 | refine S_call (f := 24) rfl (by (repeat' (first | exact trivial | apply And.intro | rfl | omega | intro _ | (simp only [obS] at *; omega))); first | done | fail) (by kernel_rfl) (fun w hw => (by have h := rTick_c f ⟨t / (f.S * f.L) + 2 / 2, 2 % 2, 0, 0⟩ hv (by show 0 ≤ t / (f.S * f.L) + 1 ∧ t / (f.S * f.L) + 1 ≤ 10000010; omega) (by show 0 ≤ ((2 % 2 : Int)) ∧ ((2 % 2 : Int)) ≤ f.F - 1; omega) (by show (0 : Int) ≤ 0 ∧ (0 : Int) ≤ 2000; omega) (by show (0 : Int) ≤ 0 ∧ (0 : Int) ≤ 2000; omega) w; rw [e2'] at h; exact h)) ?_
            )
 | (refine G_id ?_; first
 | refine G_loop 3 (.inr (.inr ⟨rfl, by omega, fun _ => by omega⟩)) (by show (3 - (3 : Int)).toNat < (3 - (2 : Int)).toNat; decide) ⟨⟨_, rfl, (by (repeat' (first | exact trivial | apply And.intro | rfl | omega | intro _ | (simp only [obS] at *; omega))); first | done | fail)⟩, ⟨_, rfl⟩, rfl, (by intro p hp; repeat (first | exact hp | apply List.mem_cons_of_mem))⟩
 | refine G_then ?_
 | refine G_block ?_
 | refine G_blockX ?_
 | refine G_blockN rfl ?_
 | refine G_blockR ?_
 | refine G_thenR ?_
 | refine G_thenX ?_
 | refine G_ret rfl (by (repeat' (first | exact trivial | apply And.intro | rfl | omega | intro _ | (simp only [obS] at *; omega))); first | done | fail) (fun w hw => ⟨?_, hw.below⟩)
            )
          )
      all_goals rfl

set_option maxHeartbeats 400000 in
/-- genlockref04.Signal -/
theorem rSignal_c (f : Fmt) (t n : Int) (hc : sigE f t n = 0) (w : World) : Calls Tryz.prog 36 #[.agg #[.int .i64 f.S, .int .i64 f.L, .int .i64 f.F, .int .i64 f.B, .int .i64 f.Y, .int .i64 f.V, .int .i64 f.C], .int .i64 t, .int .i64 n] w fun r w' => ∃ v, r = .returned v ∧ Below w.heap.size w w' ∧ Sl w w' v (sigL f t n).length (sigL f t n) := by
  refine calls_of (args := [.agg #[.int .i64 f.S, .int .i64 f.L, .int .i64 f.F, .int .i64 f.B, .int .i64 f.Y, .int .i64 f.V, .int .i64 f.C], .int .i64 t, .int .i64 n]) T_ok Tryz.func36 rfl Tryz.ntmps36 (Nat.le_of_ble_eq_true rfl) rfl ?_
  obtain ⟨hv, ht, hn', hnt⟩ := sigE_ok hc
  have hsl : sigL f t n = (List.range n.toNat).map fun i : Nat => lvl f (t + i) := by rw [sigL, if_pos hc]
  repeat' (first
 | (refine C_id ?_; first
 | refine C_seq ?_
 | refine C_region rfl ?_
 | refine C_block ?_
 | refine C_skip ?_
 | refine C_exit ?_
 | refine C_ret0 ?_
 | refine C_condT rfl (by (repeat' (first | exact trivial | apply And.intro | rfl | omega | intro _ | (simp only [obS] at *; omega))); first | done | fail) ?_
 | refine C_condF rfl (by (repeat' (first | exact trivial | apply And.intro | rfl | omega | intro _ | (simp only [obS] at *; omega))); first | done | fail) ?_
 | (refine C_cond rfl (by (repeat' (first | exact trivial | apply And.intro | rfl | omega | intro _ | (simp only [obS] at *; omega))); first | done | fail) (fun h => ?_) (fun h => ?_) <;> (try simp only [Bool.or_eq_true, Bool.and_eq_true, Bool.or_eq_false_iff, Bool.and_eq_false_iff, decide_eq_true_eq, decide_eq_false_iff_not, beq_iff_eq, bne_iff_ne, beq_eq_false_iff_ne, bne_eq_false_iff_eq, ne_eq, Decidable.not_not, List.cons.injEq, and_true, Bool.not_eq_true', Bool.not_eq_false', Int.not_lt, Int.not_le] at h) <;> (try (exfalso; omega)))
        )
 | (refine S_id ?_; first
 | refine S_nil ?_
 | refine S_run rfl rfl (by (repeat' (first | exact trivial | apply And.intro | rfl | omega | intro _ | (simp only [obS] at *; omega))); first | done | fail) (by (repeat' (first | exact trivial | apply And.intro | rfl | omega | intro _ | (simp only [obS] at *; omega))); first | done | fail) ?_
 | refine S_box (fun b => ⟨_, _, rfl, (by (repeat' (first | exact trivial | apply And.intro | rfl | omega | intro _ | (simp only [obS] at *; omega))); first | done | fail), ?_⟩)
 | refine S_slice (fun b => ⟨_, _, rfl, (by (repeat' (first | exact trivial | apply And.intro | rfl | omega | intro _ | (simp only [obS] at *; omega))); first | done | fail), ?_⟩)
        )
 | (refine G_id ?_; first
 | refine G_then ?_
 | refine G_block ?_
 | refine G_blockX ?_
 | refine G_blockN rfl ?_
 | refine G_blockR ?_
 | refine G_thenR ?_
 | refine G_thenX ?_
 | refine G_ret rfl (by (repeat' (first | exact trivial | apply And.intro | rfl | omega | intro _ | (simp only [obS] at *; omega))); first | done | fail) (fun w hw => ⟨?_, hw.below⟩)
        )
      )
  refine C_row0 7 76 1 rfl ?_
  refine C_loopS (fun i : Nat × Option Addr × Nat => ⟨[(7, .s (.r i.2.1 i.1 i.2.2 0)), (3, .s (.p b 0 0)), (1, .s (.v (.int .i64 t))), (2, .s (.v (.int .i64 n))), (8, .s (.v (.int .i64 i.1)))], [⟨b, 23, [.v (.int .i64 f.S), .v (.int .i64 f.L), .v (.int .i64 f.F), .v (.int .i64 f.B), .v (.int .i64 f.Y), .v (.int .i64 f.V), .v (.int .i64 f.C)]⟩], [⟨76, 1, i.1, (List.range i.1).map fun j : Nat => lvl f (t + j), .slice i.2.1 i.1 i.2.2⟩]⟩) (fun i => (i.1 : Int) ≤ n) (fun i => n.toNat - i.1) (0, none, 0) (by show ((0 : Nat) : Int) ≤ n; omega) ?_ (fun i hi => ?_)
  · exact ⟨⟨_, rfl, (by (repeat' (first | exact trivial | apply And.intro | rfl | omega | intro _ | (simp only [obS] at *; omega))); first | done | fail)⟩, ⟨_, rfl⟩, rfl, (by intro p hp; repeat (first | exact hp | apply List.mem_cons_of_mem))⟩
  obtain ⟨k, A', c'⟩ := i
  have hi' : (k : Int) ≤ n := hi
  have hmt : ((List.range (k + 1)).map fun j : Nat => lvl f (t + j)) = ((List.range k).map fun j : Nat => lvl f (t + j)) ++ [lvl f (t + k)] := by rw [List.range_succ, List.map_append]; rfl
  dsimp only
  by_cases hlt : (k : Int) < n
  · by_cases hY : (atF f (t + k)).S < f.Y
    · have hlv : lvl f (t + k) = .float .f32 3263168512 := by unfold lvl; rw [if_pos hY]
      repeat' (first
 | (refine C_id ?_; first
 | refine C_seq ?_
 | refine C_region rfl ?_
 | refine C_block ?_
 | refine C_skip ?_
 | refine C_exit ?_
 | refine C_ret0 ?_
 | refine C_condT rfl (by (repeat' (first | exact trivial | apply And.intro | rfl | omega | intro _ | (simp only [obS] at *; omega))); first | done | fail) ?_
 | refine C_condF rfl (by (repeat' (first | exact trivial | apply And.intro | rfl | omega | intro _ | (simp only [obS] at *; omega))); first | done | fail) ?_
 | (refine C_cond rfl (by (repeat' (first | exact trivial | apply And.intro | rfl | omega | intro _ | (simp only [obS] at *; omega))); first | done | fail) (fun h => ?_) (fun h => ?_) <;> (try simp only [Bool.or_eq_true, Bool.and_eq_true, Bool.or_eq_false_iff, Bool.and_eq_false_iff, decide_eq_true_eq, decide_eq_false_iff_not, beq_iff_eq, bne_iff_ne, beq_eq_false_iff_ne, bne_eq_false_iff_eq, ne_eq, Decidable.not_not, List.cons.injEq, and_true, Bool.not_eq_true', Bool.not_eq_false', Int.not_lt, Int.not_le] at h) <;> (try (exfalso; omega)) <;> (try (exfalso; simp at h; done)) <;> (try (exfalso; simp only [not_true_eq_false, false_or, or_false] at h; omega)) <;> (try (exfalso; simp_all; omega)))
            )
 | (refine S_id ?_; first
 | refine S_append rfl (by (repeat' (first | exact trivial | apply And.intro | rfl | omega | intro _ | (simp only [obS] at *; omega))); first | done | fail) rfl rfl rfl ⟨by decide, rfl⟩ rfl ⟨rfl, rfl, rfl, rfl⟩ [.float .f32 3263168512] ⟨by decide, rfl⟩ (by simp [Value.oneCell']) (fun w hw => by first | exact hw.src (i := 0) rfl rfl | exact hw.src (i := 1) rfl rfl | exact hw.src (i := 2) rfl rfl | exact hw.src (i := 3) rfl rfl | exact hw.src (i := 4) rfl rfl | exact hw.src (i := 5) rfl rfl) (by unfold maxLen; dsimp only; omega) (fun gb cap' => ⟨_, rfl, ?_⟩)
 | refine S_nil ?_
 | refine S_run rfl rfl (by (repeat' (first | exact trivial | apply And.intro | rfl | omega | intro _ | (simp only [obS] at *; omega))); first | done | fail) (by (repeat' (first | exact trivial | apply And.intro | rfl | omega | intro _ | (simp only [obS] at *; omega))); first | done | fail) ?_
 | refine S_box (fun b => ⟨_, _, rfl, (by (repeat' (first | exact trivial | apply And.intro | rfl | omega | intro _ | (simp only [obS] at *; omega))); first | done | fail), ?_⟩)
 | refine S_slice (fun b => ⟨_, _, rfl, (by (repeat' (first | exact trivial | apply And.intro | rfl | omega | intro _ | (simp only [obS] at *; omega))); first | done | fail), ?_⟩)
 | refine S_call (f := 33) rfl (by (repeat' (first | exact trivial | apply And.intro | rfl | omega | intro _ | (simp only [obS] at *; omega))); first | done | fail) (by kernel_rfl) (fun w hw => rBlanked_c f (t + k) hv (by omega) w) ?_
 | refine S_call (f := 34) rfl (by (repeat' (first | exact trivial | apply And.intro | rfl | omega | intro _ | (simp only [obS] at *; omega))); first | done | fail) (by kernel_rfl) (fun w hw => rInSync_c f (t + k) hv (by omega) w) ?_
            )
 | (refine G_id ?_; first
 | refine G_loop (k + 1, some ⟨gb, 0, none⟩, cap') (by show ((k + 1 : Nat) : Int) ≤ n; omega) (by show n.toNat - (k + 1) < n.toNat - k; omega) ⟨⟨_, rfl, (by (repeat' (first | exact trivial | apply And.intro | rfl | omega | intro _ | (simp only [obS] at *; omega))); first | done | fail)⟩, ⟨_, rfl⟩, (by dsimp only; rw [hmt, hlv]), (by intro p hp; repeat (first | exact hp | apply List.mem_cons_of_mem))⟩
 | refine G_then ?_
 | refine G_block ?_
 | refine G_blockX ?_
 | refine G_blockN rfl ?_
 | refine G_blockR ?_
 | refine G_thenR ?_
 | refine G_thenX ?_
 | refine G_ret rfl (by (repeat' (first | exact trivial | apply And.intro | rfl | omega | intro _ | (simp only [obS] at *; omega))); first | done | fail) (fun w hw => ⟨?_, hw.below⟩)
            )
          )
    · by_cases hB : (atF f (t + k)).S < f.B ∨ (atF f (t + k)).L < f.V
      · have hlv : lvl f (t + k) = .float .f32 0 := by unfold lvl; rw [if_neg hY, if_pos hB]
        repeat' (first
 | (refine C_id ?_; first
 | refine C_seq ?_
 | refine C_region rfl ?_
 | refine C_block ?_
 | refine C_skip ?_
 | refine C_exit ?_
 | refine C_ret0 ?_
 | refine C_condT rfl (by (repeat' (first | exact trivial | apply And.intro | rfl | omega | intro _ | (simp only [obS] at *; omega))); first | done | fail) ?_
 | refine C_condF rfl (by (repeat' (first | exact trivial | apply And.intro | rfl | omega | intro _ | (simp only [obS] at *; omega))); first | done | fail) ?_
 | (refine C_cond rfl (by (repeat' (first | exact trivial | apply And.intro | rfl | omega | intro _ | (simp only [obS] at *; omega))); first | done | fail) (fun h => ?_) (fun h => ?_) <;> (try simp only [Bool.or_eq_true, Bool.and_eq_true, Bool.or_eq_false_iff, Bool.and_eq_false_iff, decide_eq_true_eq, decide_eq_false_iff_not, beq_iff_eq, bne_iff_ne, beq_eq_false_iff_ne, bne_eq_false_iff_eq, ne_eq, Decidable.not_not, List.cons.injEq, and_true, Bool.not_eq_true', Bool.not_eq_false', Int.not_lt, Int.not_le] at h) <;> (try (exfalso; omega)) <;> (try (exfalso; simp at h; done)) <;> (try (exfalso; simp only [not_true_eq_false, false_or, or_false] at h; omega)) <;> (try (exfalso; simp_all; omega)))
              )
 | (refine S_id ?_; first
 | refine S_append rfl (by (repeat' (first | exact trivial | apply And.intro | rfl | omega | intro _ | (simp only [obS] at *; omega))); first | done | fail) rfl rfl rfl ⟨by decide, rfl⟩ rfl ⟨rfl, rfl, rfl, rfl⟩ [.float .f32 0] ⟨by decide, rfl⟩ (by simp [Value.oneCell']) (fun w hw => by first | exact hw.src (i := 0) rfl rfl | exact hw.src (i := 1) rfl rfl | exact hw.src (i := 2) rfl rfl | exact hw.src (i := 3) rfl rfl | exact hw.src (i := 4) rfl rfl | exact hw.src (i := 5) rfl rfl) (by unfold maxLen; dsimp only; omega) (fun gb cap' => ⟨_, rfl, ?_⟩)
 | refine S_nil ?_
 | refine S_run rfl rfl (by (repeat' (first | exact trivial | apply And.intro | rfl | omega | intro _ | (simp only [obS] at *; omega))); first | done | fail) (by (repeat' (first | exact trivial | apply And.intro | rfl | omega | intro _ | (simp only [obS] at *; omega))); first | done | fail) ?_
 | refine S_box (fun b => ⟨_, _, rfl, (by (repeat' (first | exact trivial | apply And.intro | rfl | omega | intro _ | (simp only [obS] at *; omega))); first | done | fail), ?_⟩)
 | refine S_slice (fun b => ⟨_, _, rfl, (by (repeat' (first | exact trivial | apply And.intro | rfl | omega | intro _ | (simp only [obS] at *; omega))); first | done | fail), ?_⟩)
 | refine S_call (f := 33) rfl (by (repeat' (first | exact trivial | apply And.intro | rfl | omega | intro _ | (simp only [obS] at *; omega))); first | done | fail) (by kernel_rfl) (fun w hw => rBlanked_c f (t + k) hv (by omega) w) ?_
 | refine S_call (f := 34) rfl (by (repeat' (first | exact trivial | apply And.intro | rfl | omega | intro _ | (simp only [obS] at *; omega))); first | done | fail) (by kernel_rfl) (fun w hw => rInSync_c f (t + k) hv (by omega) w) ?_
              )
 | (refine G_id ?_; first
 | refine G_loop (k + 1, some ⟨gb, 0, none⟩, cap') (by show ((k + 1 : Nat) : Int) ≤ n; omega) (by show n.toNat - (k + 1) < n.toNat - k; omega) ⟨⟨_, rfl, (by (repeat' (first | exact trivial | apply And.intro | rfl | omega | intro _ | (simp only [obS] at *; omega))); first | done | fail)⟩, ⟨_, rfl⟩, (by dsimp only; rw [hmt, hlv]), (by intro p hp; repeat (first | exact hp | apply List.mem_cons_of_mem))⟩
 | refine G_then ?_
 | refine G_block ?_
 | refine G_blockX ?_
 | refine G_blockN rfl ?_
 | refine G_blockR ?_
 | refine G_thenR ?_
 | refine G_thenX ?_
 | refine G_ret rfl (by (repeat' (first | exact trivial | apply And.intro | rfl | omega | intro _ | (simp only [obS] at *; omega))); first | done | fail) (fun w hw => ⟨?_, hw.below⟩)
              )
            )
      · have hlv : lvl f (t + k) = .float .f32 1098907648 := by unfold lvl; rw [if_neg hY, if_neg hB]
        repeat' (first
 | (refine C_id ?_; first
 | refine C_seq ?_
 | refine C_region rfl ?_
 | refine C_block ?_
 | refine C_skip ?_
 | refine C_exit ?_
 | refine C_ret0 ?_
 | refine C_condT rfl (by (repeat' (first | exact trivial | apply And.intro | rfl | omega | intro _ | (simp only [obS] at *; omega))); first | done | fail) ?_
 | refine C_condF rfl (by (repeat' (first | exact trivial | apply And.intro | rfl | omega | intro _ | (simp only [obS] at *; omega))); first | done | fail) ?_
 | (refine C_cond rfl (by (repeat' (first | exact trivial | apply And.intro | rfl | omega | intro _ | (simp only [obS] at *; omega))); first | done | fail) (fun h => ?_) (fun h => ?_) <;> (try simp only [Bool.or_eq_true, Bool.and_eq_true, Bool.or_eq_false_iff, Bool.and_eq_false_iff, decide_eq_true_eq, decide_eq_false_iff_not, beq_iff_eq, bne_iff_ne, beq_eq_false_iff_ne, bne_eq_false_iff_eq, ne_eq, Decidable.not_not, List.cons.injEq, and_true, Bool.not_eq_true', Bool.not_eq_false', Int.not_lt, Int.not_le] at h) <;> (try (exfalso; omega)) <;> (try (exfalso; simp at h; done)) <;> (try (exfalso; simp only [not_true_eq_false, false_or, or_false] at h; omega)) <;> (try (exfalso; simp_all; omega)))
              )
 | (refine S_id ?_; first
 | refine S_append rfl (by (repeat' (first | exact trivial | apply And.intro | rfl | omega | intro _ | (simp only [obS] at *; omega))); first | done | fail) rfl rfl rfl ⟨by decide, rfl⟩ rfl ⟨rfl, rfl, rfl, rfl⟩ [.float .f32 1098907648] ⟨by decide, rfl⟩ (by simp [Value.oneCell']) (fun w hw => by first | exact hw.src (i := 0) rfl rfl | exact hw.src (i := 1) rfl rfl | exact hw.src (i := 2) rfl rfl | exact hw.src (i := 3) rfl rfl | exact hw.src (i := 4) rfl rfl | exact hw.src (i := 5) rfl rfl) (by unfold maxLen; dsimp only; omega) (fun gb cap' => ⟨_, rfl, ?_⟩)
 | refine S_nil ?_
 | refine S_run rfl rfl (by (repeat' (first | exact trivial | apply And.intro | rfl | omega | intro _ | (simp only [obS] at *; omega))); first | done | fail) (by (repeat' (first | exact trivial | apply And.intro | rfl | omega | intro _ | (simp only [obS] at *; omega))); first | done | fail) ?_
 | refine S_box (fun b => ⟨_, _, rfl, (by (repeat' (first | exact trivial | apply And.intro | rfl | omega | intro _ | (simp only [obS] at *; omega))); first | done | fail), ?_⟩)
 | refine S_slice (fun b => ⟨_, _, rfl, (by (repeat' (first | exact trivial | apply And.intro | rfl | omega | intro _ | (simp only [obS] at *; omega))); first | done | fail), ?_⟩)
 | refine S_call (f := 33) rfl (by (repeat' (first | exact trivial | apply And.intro | rfl | omega | intro _ | (simp only [obS] at *; omega))); first | done | fail) (by kernel_rfl) (fun w hw => rBlanked_c f (t + k) hv (by omega) w) ?_
 | refine S_call (f := 34) rfl (by (repeat' (first | exact trivial | apply And.intro | rfl | omega | intro _ | (simp only [obS] at *; omega))); first | done | fail) (by kernel_rfl) (fun w hw => rInSync_c f (t + k) hv (by omega) w) ?_
              )
 | (refine G_id ?_; first
 | refine G_loop (k + 1, some ⟨gb, 0, none⟩, cap') (by show ((k + 1 : Nat) : Int) ≤ n; omega) (by show n.toNat - (k + 1) < n.toNat - k; omega) ⟨⟨_, rfl, (by (repeat' (first | exact trivial | apply And.intro | rfl | omega | intro _ | (simp only [obS] at *; omega))); first | done | fail)⟩, ⟨_, rfl⟩, (by dsimp only; rw [hmt, hlv]), (by intro p hp; repeat (first | exact hp | apply List.mem_cons_of_mem))⟩
 | refine G_then ?_
 | refine G_block ?_
 | refine G_blockX ?_
 | refine G_blockN rfl ?_
 | refine G_blockR ?_
 | refine G_thenR ?_
 | refine G_thenX ?_
 | refine G_ret rfl (by (repeat' (first | exact trivial | apply And.intro | rfl | omega | intro _ | (simp only [obS] at *; omega))); first | done | fail) (fun w hw => ⟨?_, hw.below⟩)
              )
            )
  · obtain hkn : k = n.toNat := by omega
    subst hkn
    repeat' (first
 | (refine C_id ?_; first
 | refine C_seq ?_
 | refine C_region rfl ?_
 | refine C_block ?_
 | refine C_skip ?_
 | refine C_exit ?_
 | refine C_ret0 ?_
 | refine C_condT rfl (by (repeat' (first | exact trivial | apply And.intro | rfl | omega | intro _ | (simp only [obS] at *; omega))); first | done | fail) ?_
 | refine C_condF rfl (by (repeat' (first | exact trivial | apply And.intro | rfl | omega | intro _ | (simp only [obS] at *; omega))); first | done | fail) ?_
 | (refine C_cond rfl (by (repeat' (first | exact trivial | apply And.intro | rfl | omega | intro _ | (simp only [obS] at *; omega))); first | done | fail) (fun h => ?_) (fun h => ?_) <;> (try simp only [Bool.or_eq_true, Bool.and_eq_true, Bool.or_eq_false_iff, Bool.and_eq_false_iff, decide_eq_true_eq, decide_eq_false_iff_not, beq_iff_eq, bne_iff_ne, beq_eq_false_iff_ne, bne_eq_false_iff_eq, ne_eq, Decidable.not_not, List.cons.injEq, and_true, Bool.not_eq_true', Bool.not_eq_false', Int.not_lt, Int.not_le] at h) <;> (try (exfalso; omega)))
          )
 | (refine S_id ?_; first
 | refine S_nil ?_
 | refine S_run rfl rfl (by (repeat' (first | exact trivial | apply And.intro | rfl | omega | intro _ | (simp only [obS] at *; omega))); first | done | fail) (by (repeat' (first | exact trivial | apply And.intro | rfl | omega | intro _ | (simp only [obS] at *; omega))); first | done | fail) ?_
 | refine S_box (fun b => ⟨_, _, rfl, (by (repeat' (first | exact trivial | apply And.intro | rfl | omega | intro _ | (simp only [obS] at *; omega))); first | done | fail), ?_⟩)
 | refine S_slice (fun b => ⟨_, _, rfl, (by (repeat' (first | exact trivial | apply And.intro | rfl | omega | intro _ | (simp only [obS] at *; omega))); first | done | fail), ?_⟩)
          )
 | (refine G_id ?_; first
 | refine G_then ?_
 | refine G_block ?_
 | refine G_blockX ?_
 | refine G_blockN rfl ?_
 | refine G_blockR ?_
 | refine G_thenR ?_
 | refine G_thenX ?_
 | refine G_ret rfl (by (repeat' (first | exact trivial | apply And.intro | rfl | omega | intro _ | (simp only [obS] at *; omega))); first | done | fail) (fun w2 hw => ⟨_, rfl, hw.below, HW.rowSl (i := 0) hw rfl rfl (by dsimp only; rw [hsl]; simp) (by dsimp only; rw [hsl])⟩)
          )
        )

end Go.Proofs.YtmfophoejjcnlaaGreatDoor
