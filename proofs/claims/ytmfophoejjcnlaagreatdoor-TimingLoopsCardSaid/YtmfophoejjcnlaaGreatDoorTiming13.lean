/- The reference: clocks. -/
import Derived.Test.YtmfophoejjcnlaaGreatDoorTiming12
namespace Go.Proofs.YtmfophoejjcnlaaGreatDoor
open Go.E Go.RowKit
attribute [local irreducible] G C S D Calls
set_option maxRecDepth 100000
set_option linter.unusedSimpArgs false
set_option linter.unusedVariables false

theorem gcd_tstep {a b : Int} : Int.gcd b (a.tmod b) = Int.gcd a b := by
  show Nat.gcd b.natAbs (a.tmod b).natAbs = Nat.gcd a.natAbs b.natAbs
  rw [Int.natAbs_tmod, Nat.gcd_comm b.natAbs, ← Nat.gcd_rec, Nat.gcd_comm]
theorem tmod_bd {a b m : Int} (hb : b ≠ 0) (hm : -m ≤ b ∧ b ≤ m) : (-m ≤ a.tmod b ∧ a.tmod b ≤ m) ∧ (a.tmod b).natAbs < b.natAbs := by
  have h := Nat.mod_lt a.natAbs (show 0 < b.natAbs by omega)
  rw [← Int.natAbs_tmod] at h
  omega

set_option maxHeartbeats 400000 in
/-- genlockref01.Divisor -/
theorem rDivisor_c (n d : Int) (hn : -999999999 ≤ n ∧ n ≤ 999999999) (hd : -999999999 ≤ d ∧ d ≤ 999999999) (w : World) : Calls Tryz.prog 144 #[.int .i64 n, .int .i64 d] w fun r w' => r = .returned (.int .i64 (Int.gcd n d : Nat)) ∧ Below w.heap.size w w' := by
  refine calls_of (args := [.int .i64 n, .int .i64 d]) T_ok Tryz.func144 rfl Tryz.ntmps144 (Nat.le_of_ble_eq_true rfl) rfl ?_
  repeat' (first
 | (refine C_id ?_; first
 | refine C_seq ?_
 | refine C_region rfl ?_
 | refine C_block ?_
 | refine C_skip ?_
 | refine C_exit ?_
 | refine C_ret0 ?_
 | refine C_draw (id := 2) rfl mixed (by kernel_rfl) ?_
 | refine C_condT rfl obQ ?_
 | refine C_condF rfl obQ ?_
 | (refine C_cond rfl obQ (fun h => ?_) (fun h => ?_) <;> (try simp only [Bool.or_eq_true, Bool.and_eq_true, Bool.or_eq_false_iff, Bool.and_eq_false_iff, decide_eq_true_eq, decide_eq_false_iff_not, beq_iff_eq, bne_iff_ne, beq_eq_false_iff_ne, bne_eq_false_iff_eq, ne_eq, Decidable.not_not, List.cons.injEq, and_true, Bool.not_eq_true', Bool.not_eq_false', Int.not_lt, Int.not_le] at h))
      )
 | (refine S_id ?_; first
 | refine S_nil ?_
 | refine S_run rfl rfl obQ obQ ?_
      )
 | (refine D_id ?_; first
 | refine D_nil ?_
 | refine D_tail ?_
 | refine D_run rfl rfl obQ obQ ?_
      )
 | (refine G_id ?_; first
 | refine G_then ?_
 | refine G_block ?_
 | refine G_blockX ?_
 | refine G_blockN rfl ?_
 | refine G_blockR ?_
 | refine G_thenR ?_
 | refine G_thenX ?_
 | refine G_ret rfl obQ (fun w hw => ⟨?_, hw.below⟩)
      )
    )
  refine C_loopS (fun i : Int × Int => ⟨[(0, .s (.v (.int .i64 i.1))), (1, .s (.v (.int .i64 i.2))), (4, .s (.v (.int .i64 0)))], [], []⟩) (fun i => (-999999999 ≤ i.1 ∧ i.1 ≤ 999999999) ∧ (-999999999 ≤ i.2 ∧ i.2 ≤ 999999999) ∧ Int.gcd i.1 i.2 = Int.gcd n d) (fun i => i.2.natAbs) (n, d) ⟨hn, hd, rfl⟩ ?_ (fun i hi => ?_)
  · exact ⟨⟨_, rfl, obQ⟩, ⟨_, rfl⟩, rfl, pstQ⟩
  obtain ⟨a, b⟩ := i
  obtain ⟨ha, hb, hg⟩ := hi
  dsimp only at ha hb hg ⊢
  by_cases hlt : b ≠ 0
  · have h1 := tmod_bd (a := a) (m := 999999999) hlt hb
    repeat' (first
 | (refine C_id ?_; first
 | refine C_seq ?_
 | refine C_region rfl ?_
 | refine C_block ?_
 | refine C_skip ?_
 | refine C_exit ?_
 | refine C_ret0 ?_
 | refine C_draw (id := 2) rfl mixed (by kernel_rfl) ?_
 | refine C_condT rfl obQ ?_
 | refine C_condF rfl obQ ?_
 | (refine C_cond rfl obQ (fun h => ?_) (fun h => ?_) <;> (try simp only [Bool.or_eq_true, Bool.and_eq_true, Bool.or_eq_false_iff, Bool.and_eq_false_iff, decide_eq_true_eq, decide_eq_false_iff_not, beq_iff_eq, bne_iff_ne, beq_eq_false_iff_ne, bne_eq_false_iff_eq, ne_eq, Decidable.not_not, List.cons.injEq, and_true, Bool.not_eq_true', Bool.not_eq_false', Int.not_lt, Int.not_le] at h) <;> (try (exfalso; omega)))
          )
 | (refine S_id ?_; first
 | refine S_pure (binX_pure rfl obQ (fun w => wrap_sub _ _ _ _ _ _ w)) ?_
 | refine S_pure (binX_pure rfl obQ (fun w => wrap_add _ _ _ _ _ _ w)) ?_
 | refine S_pure (binX_pure rfl obQ (fun w => wrap_mul _ _ _ _ _ _ w)) ?_
 | refine S_pure (binX_pure rfl obQ (fun w => wrap_quo _ _ _ _ _ _ (by omega) w)) ?_
 | refine S_pure (binX_pure rfl obQ (fun w => wrap_rem _ _ _ _ _ _ (by omega) w)) ?_
 | refine S_nil ?_
 | refine S_run rfl rfl obQ obQ ?_
 | refine S_one rfl obQ ?_
          )
 | (refine D_id ?_; first
 | refine D_pure (binX_pure rfl obQ (fun w => wrap_sub _ _ _ _ _ _ w)) ?_
 | refine D_pure (binX_pure rfl obQ (fun w => wrap_add _ _ _ _ _ _ w)) ?_
 | refine D_pure (binX_pure rfl obQ (fun w => wrap_mul _ _ _ _ _ _ w)) ?_
 | refine D_pure (binX_pure rfl obQ (fun w => wrap_quo _ _ _ _ _ _ (by omega) w)) ?_
 | refine D_pure (binX_pure rfl obQ (fun w => wrap_rem _ _ _ _ _ _ (by omega) w)) ?_
 | refine D_nil ?_
 | refine D_tail ?_
 | refine D_run rfl rfl obQ obQ ?_
 | refine D_one rfl obQ ?_
          )
 | (refine G_id ?_; first
 | refine G_loop (b, a.tmod b) ⟨hb, h1.1, by rw [← hg]; exact gcd_tstep⟩ (by show (a.tmod b).natAbs < b.natAbs; exact h1.2) ⟨⟨_, rfl, obQ⟩, ⟨_, rfl⟩, rfl, pstQ⟩
 | refine G_then ?_
 | refine G_block ?_
 | refine G_blockX ?_
 | refine G_blockN rfl ?_
 | refine G_blockR ?_
 | refine G_thenR ?_
 | refine G_thenX ?_
 | refine G_ret rfl obQ (fun w hw => ⟨?_, hw.below⟩)
          )
        )
  · obtain rfl : b = 0 := by omega
    have hga : ((Int.gcd n d : Nat) : Int) = (a.natAbs : Int) := by rw [← hg, Int.gcd_zero_right]
    repeat' (first
 | (refine C_id ?_; first
 | refine C_seq ?_
 | refine C_region rfl ?_
 | refine C_block ?_
 | refine C_skip ?_
 | refine C_exit ?_
 | refine C_ret0 ?_
 | refine C_draw (id := 2) rfl mixed (by kernel_rfl) ?_
 | refine C_condT rfl obQ ?_
 | refine C_condF rfl obQ ?_
 | (refine C_cond rfl obQ (fun h => ?_) (fun h => ?_) <;> (try simp only [Bool.or_eq_true, Bool.and_eq_true, Bool.or_eq_false_iff, Bool.and_eq_false_iff, decide_eq_true_eq, decide_eq_false_iff_not, beq_iff_eq, bne_iff_ne, beq_eq_false_iff_ne, bne_eq_false_iff_eq, ne_eq, Decidable.not_not, List.cons.injEq, and_true, Bool.not_eq_true', Bool.not_eq_false', Int.not_lt, Int.not_le] at h) <;> (try (exfalso; omega)))
          )
 | (refine S_id ?_; first
 | refine S_nil ?_
 | refine S_run rfl rfl obQ obQ ?_
          )
 | (refine D_id ?_; first
 | refine D_nil ?_
 | refine D_tail ?_
 | refine D_run rfl rfl obQ obQ ?_
          )
 | (refine G_id ?_; first
 | refine G_then ?_
 | refine G_block ?_
 | refine G_blockX ?_
 | refine G_blockN rfl ?_
 | refine G_blockR ?_
 | refine G_thenR ?_
 | refine G_thenX ?_
 | refine G_ret rfl obQ (fun w hw => ⟨?_, hw.below⟩)
          )
        )
    · rw [hga, show (a.natAbs : Int) = 0 - a by omega]
    · rw [hga, show (a.natAbs : Int) = a by omega]

set_option maxHeartbeats 400000 in
/-- genlockref01.CheckRatio -/
theorem rRatio_c (n d : Int) (w : World) : Calls Tryz.prog 102 #[.agg #[.int .i64 n, .int .i64 d]] w fun r w' => r = .returned (.int .i64 (ratioE n d)) ∧ Below w.heap.size w w' := by
  refine calls_of (args := [.agg #[.int .i64 n, .int .i64 d]]) T_ok Tryz.func102 rfl Tryz.ntmps102 (Nat.le_of_ble_eq_true rfl) rfl ?_
  repeat' (first
 | (refine C_id ?_; first
 | refine C_seq ?_
 | refine C_region rfl ?_
 | refine C_block ?_
 | refine C_skip ?_
 | refine C_exit ?_
 | refine C_ret0 ?_
 | refine C_drawT (id := 1) 6 rfl mixed (by kernel_rfl) rfl rfl ?_
 | refine C_condT rfl obQ ?_
 | refine C_condF rfl obQ ?_
 | (refine C_cond rfl obQ (fun h => ?_) (fun h => ?_) <;> (try simp only [Bool.or_eq_true, Bool.and_eq_true, Bool.or_eq_false_iff, Bool.and_eq_false_iff, decide_eq_true_eq, decide_eq_false_iff_not, beq_iff_eq, bne_iff_ne, beq_eq_false_iff_ne, bne_eq_false_iff_eq, ne_eq, Decidable.not_not, List.cons.injEq, and_true, Bool.not_eq_true', Bool.not_eq_false', Int.not_lt, Int.not_le] at h))
      )
 | (refine S_id ?_; first
 | refine S_nil ?_
 | refine S_run rfl rfl obQ obQ ?_
 | refine S_box (fun b => ⟨_, _, rfl, obQ, ?_⟩)
 | refine S_slice (fun b => ⟨_, _, rfl, obQ, ?_⟩)
 | refine S_call (f := 43) rfl obQ (by kernel_rfl) (fun w hw => rRange_c _ _ _ w) ?_
 | refine S_call (f := 84) rfl obQ (by kernel_rfl) (fun w hw => rFirst_c _ _ [wi n (-999999999) 999999999, wi d 1 999999999] (by simp) w (.inr ⟨_, rfl, hw.src (i := 1) rfl rfl⟩)) ?_
 | refine S_call (f := 144) rfl obQ (by kernel_rfl) (fun w hw => rDivisor_c n d (ratio_ok h).1 (by have := ratio_ok h; omega) w) ?_
 | refine S_call (f := 56) rfl obQ (by kernel_rfl) (fun w hw => rWhen_c _ _ w) ?_
      )
 | (refine D_id ?_; first
 | refine D_nil ?_
 | refine D_tail ?_
 | refine D_run rfl rfl obQ obQ ?_
 | refine D_call (f := 43) rfl obQ (by kernel_rfl) (fun w hw => rRange_c _ _ _ w) ?_
 | refine D_call (f := 84) rfl obQ (by kernel_rfl) (fun w hw => rFirst_c _ _ [wi n (-999999999) 999999999, wi d 1 999999999] (by simp) w (.inr ⟨_, rfl, hw.src (i := 1) rfl rfl⟩)) ?_
 | refine D_call (f := 144) rfl obQ (by kernel_rfl) (fun w hw => rDivisor_c n d (ratio_ok h).1 (by have := ratio_ok h; omega) w) ?_
 | refine D_call (f := 56) rfl obQ (by kernel_rfl) (fun w hw => rWhen_c _ _ w) ?_
      )
 | (refine G_id ?_; first
 | refine G_then ?_
 | refine G_block ?_
 | refine G_blockX ?_
 | refine G_blockN rfl ?_
 | refine G_blockR ?_
 | refine G_thenR ?_
 | refine G_thenX ?_
 | refine G_ret rfl obQ (fun w hw => ⟨?_, hw.below⟩)
      )
    )
  all_goals simp [ratioE, h]

set_option maxHeartbeats 400000 in
/-- genlockref04.CheckClock -/
theorem rCheckClock_c (n d : Int) (w : World) : Calls Tryz.prog 42 #[.agg #[.int .i64 n, .int .i64 d]] w fun r w' => r = .returned (.int .i64 (clockE n d)) ∧ Below w.heap.size w w' := by
  refine calls_of (args := [.agg #[.int .i64 n, .int .i64 d]]) T_ok Tryz.func42 rfl Tryz.ntmps42 (Nat.le_of_ble_eq_true rfl) rfl ?_
  repeat' (first
 | (refine C_id ?_; first
 | refine C_seq ?_
 | refine C_region rfl ?_
 | refine C_block ?_
 | refine C_skip ?_
 | refine C_exit ?_
 | refine C_ret0 ?_
 | refine C_drawT (id := 1) 8 rfl mixed (by kernel_rfl) rfl rfl ?_
 | refine C_condT rfl obQ ?_
 | refine C_condF rfl obQ ?_
 | (refine C_cond rfl obQ (fun h => ?_) (fun h => ?_) <;> (try simp only [Bool.or_eq_true, Bool.and_eq_true, Bool.or_eq_false_iff, Bool.and_eq_false_iff, decide_eq_true_eq, decide_eq_false_iff_not, beq_iff_eq, bne_iff_ne, beq_eq_false_iff_ne, bne_eq_false_iff_eq, ne_eq, Decidable.not_not, List.cons.injEq, and_true, Bool.not_eq_true', Bool.not_eq_false', Int.not_lt, Int.not_le] at h))
      )
 | (refine S_id ?_; first
 | refine S_nil ?_
 | refine S_run rfl rfl obQ obQ ?_
 | refine S_box (fun b => ⟨_, _, rfl, obQ, ?_⟩)
 | refine S_slice (fun b => ⟨_, _, rfl, obQ, ?_⟩)
 | refine S_call (f := 102) rfl obQ (by kernel_rfl) (fun w hw => rRatio_c n d w) ?_
 | refine S_call (f := 43) rfl obQ (by kernel_rfl) (fun w hw => rRange_c _ _ _ w) ?_
 | refine S_call (f := 84) rfl obQ (by kernel_rfl) (fun w hw => rFirst_c _ _ [ratioE n d, wi n 1 100000, wi d 1 100000] (by simp) w (.inr ⟨_, rfl, hw.src (i := 1) rfl rfl⟩)) ?_
      )
 | (refine D_id ?_; first
 | refine D_nil ?_
 | refine D_tail ?_
 | refine D_run rfl rfl obQ obQ ?_
 | refine D_call (f := 102) rfl obQ (by kernel_rfl) (fun w hw => rRatio_c n d w) ?_
 | refine D_call (f := 43) rfl obQ (by kernel_rfl) (fun w hw => rRange_c _ _ _ w) ?_
 | refine D_call (f := 84) rfl obQ (by kernel_rfl) (fun w hw => rFirst_c _ _ [ratioE n d, wi n 1 100000, wi d 1 100000] (by simp) w (.inr ⟨_, rfl, hw.src (i := 1) rfl rfl⟩)) ?_
      )
 | (refine G_id ?_; first
 | refine G_then ?_
 | refine G_block ?_
 | refine G_blockX ?_
 | refine G_blockN rfl ?_
 | refine G_blockR ?_
 | refine G_thenR ?_
 | refine G_thenX ?_
 | refine G_ret rfl obQ (fun w hw => ⟨?_, hw.below⟩)
      )
    )
  rfl

theorem mul_bd {t n : Int} (ht : 0 ≤ t ∧ t ≤ 10000001) (hn : 1 ≤ n ∧ n ≤ 100000) : 0 ≤ t * n ∧ t * n ≤ 1000000100000 := by
  have h5 := Int.mul_nonneg ht.1 (show 0 ≤ n by omega)
  have h6 := Int.mul_le_mul ht.2 hn.2 (by omega) (by omega)
  omega

set_option maxHeartbeats 400000 in
/-- genlockref04.Counted -/
theorem rCounted_c (n d t : Int) (hn : 1 ≤ n ∧ n ≤ 100000) (hd : 1 ≤ d) (ht : 0 ≤ t ∧ t ≤ 10000001) (w : World) : Calls Tryz.prog 45 #[.agg #[.int .i64 n, .int .i64 d], .int .i64 t] w fun r w' => r = .returned (.int .i64 (t * n / d)) ∧ Below w.heap.size w w' := by
  have hm := mul_bd ht hn
  refine calls_of (args := [.agg #[.int .i64 n, .int .i64 d], .int .i64 t]) T_ok Tryz.func45 rfl Tryz.ntmps45 (Nat.le_of_ble_eq_true rfl) rfl ?_
  repeat' (first
 | (refine C_id ?_; first
 | refine C_seq ?_
 | refine C_region rfl ?_
 | refine C_block ?_
 | refine C_skip ?_
 | refine C_exit ?_
 | refine C_ret0 ?_
 | refine C_condT rfl obQ ?_
 | refine C_condF rfl obQ ?_
 | (refine C_cond rfl obQ (fun h => ?_) (fun h => ?_) <;> (try simp only [Bool.or_eq_true, Bool.and_eq_true, Bool.or_eq_false_iff, Bool.and_eq_false_iff, decide_eq_true_eq, decide_eq_false_iff_not, beq_iff_eq, bne_iff_ne, beq_eq_false_iff_ne, bne_eq_false_iff_eq, ne_eq, Decidable.not_not, List.cons.injEq, and_true, Bool.not_eq_true', Bool.not_eq_false', Int.not_lt, Int.not_le] at h))
      )
 | (refine S_id ?_; first
 | refine S_nil ?_
 | refine S_run rfl rfl obQ obQ ?_
 | refine S_box (fun b => ⟨_, _, rfl, obQ, ?_⟩)
      )
 | (refine G_id ?_; first
 | refine G_then ?_
 | refine G_block ?_
 | refine G_blockX ?_
 | refine G_blockN rfl ?_
 | refine G_blockR ?_
 | refine G_thenR ?_
 | refine G_thenX ?_
 | refine G_ret rfl obQ (fun w hw => ⟨?_, hw.below⟩)
      )
    )
  rfl

theorem gap_eq {n d x : Int} (hd : 1 ≤ d) : x * n / d - x = x * (n - d) / d := by
  have e : x * n = x * (n - d) + x * d := by rw [← Int.mul_add]; congr 1; omega
  rw [e, Int.add_mul_ediv_right _ _ (by omega)]
  omega
/-- A clock has slipped by so much after x ticks just from slipN on. -/
theorem slip_iff {n d t x : Int} (hd : 1 ≤ d) (ht : 1 ≤ t) (hx : 0 ≤ x ∧ x ≤ 10000000) : t ≤ max (x * n / d - x) (0 - (x * n / d - x)) ↔ slipN n d t ≤ x := by
  rw [gap_eq hd]
  rcases Int.lt_trichotomy (n - d) 0 with h | h | h
  · rw [slipN_slow h]
    have h1 : x * (n - d) ≤ 0 := Int.mul_nonpos_of_nonneg_of_nonpos hx.1 (by omega)
    have h2 : x * (n - d) / d ≤ 0 := by
      have := Int.ediv_le_ediv (show 0 < d by omega) h1
      simpa using this
    rw [Int.max_eq_right (by omega)]
    have a1 : t ≤ 0 - x * (n - d) / d ↔ x * (n - d) / d < 1 - t := by omega
    rw [a1, Int.ediv_lt_iff_lt_mul (by omega)]
    have a2 : (t - 1) * d / (0 - (n - d)) + 1 ≤ x ↔ (t - 1) * d / (0 - (n - d)) < x := by omega
    rw [a2, Int.ediv_lt_iff_lt_mul (by omega)]
    have e1 : (1 - t) * d = -((t - 1) * d) := by rw [← Int.neg_mul]; congr 1; omega
    have e2 : x * (0 - (n - d)) = -(x * (n - d)) := by rw [Int.zero_sub, Int.mul_neg]
    rw [e1, e2]
    omega
  · have e : x * (n - d) / d = 0 := by rw [h]; simp
    rw [slipN_none (by omega) (by omega), e]
    omega
  · rw [slipN_fast h]
    have h1 : 0 ≤ x * (n - d) := Int.mul_nonneg hx.1 (by omega)
    have h2 := Int.ediv_nonneg h1 (show 0 ≤ d by omega)
    rw [Int.max_eq_left (by omega), Int.le_ediv_iff_mul_le (by omega)]
    have a1 : (t * d + (n - d) - 1) / (n - d) ≤ x ↔ (t * d + (n - d) - 1) / (n - d) < x + 1 := by omega
    rw [a1, Int.ediv_lt_iff_lt_mul (by omega), Int.add_mul]
    omega
theorem slip_end {n d t h : Int} (hc : slipE n d t = 0) (h0 : 1 ≤ h ∧ h ≤ 10000001) (h1 : h - 1 < slipN n d t) (h2 : h ≤ 10000000 → slipN n d t ≤ h) : slipR n d t = if 10000000 < h then (0, 7) else (h, 0) := by
  split
  · exact slipR_big hc rfl (by omega)
  · exact slipR_ok hc (by have := h2 (by omega); omega) (by omega)

set_option maxHeartbeats 400000 in
/-- genlockref04.Slip -/
theorem rSlip_c (n d t : Int) (hc : slipE n d t = 0) (w : World) : Calls Tryz.prog 46 #[.agg #[.int .i64 n, .int .i64 d], .int .i64 t] w fun r w' => r = .returned (.tuple #[.int .i64 (slipR n d t).1, .int .i64 (slipR n d t).2]) ∧ Below w.heap.size w w' := by
  refine calls_of (args := [.agg #[.int .i64 n, .int .i64 d], .int .i64 t]) T_ok Tryz.func46 rfl Tryz.ntmps46 (Nat.le_of_ble_eq_true rfl) rfl ?_
  obtain ⟨hc1, ht⟩ := slip_ok hc
  obtain ⟨⟨hn, hd'⟩, _⟩ := clock_ok hc1
  have hd := hd'.1
  have hpos : 1 ≤ slipN n d t := by
    have := (slip_iff (n := n) (x := 0) hd ht.1 (by omega)).2
    rcases Int.lt_or_le (slipN n d t) 1 with h | h
    · have := this (by omega)
      simp at this
      omega
    · exact h
  repeat' (first
 | (refine C_id ?_; first
 | refine C_seq ?_
 | refine C_region rfl ?_
 | refine C_block ?_
 | refine C_skip ?_
 | refine C_exit ?_
 | refine C_ret0 ?_
 | refine C_condT rfl obQ ?_
 | refine C_condF rfl obQ ?_
 | (refine C_cond rfl obQ (fun h => ?_) (fun h => ?_) <;> (try simp only [Bool.or_eq_true, Bool.and_eq_true, Bool.or_eq_false_iff, Bool.and_eq_false_iff, decide_eq_true_eq, decide_eq_false_iff_not, beq_iff_eq, bne_iff_ne, beq_eq_false_iff_ne, bne_eq_false_iff_eq, ne_eq, Decidable.not_not, List.cons.injEq, and_true, Bool.not_eq_true', Bool.not_eq_false', Int.not_lt, Int.not_le] at h))
      )
 | (refine S_id ?_; first
 | refine S_nil ?_
 | refine S_run rfl rfl obQ obQ ?_
 | refine S_box (fun b => ⟨_, _, rfl, obQ, ?_⟩)
      )
 | (refine G_id ?_; first
 | refine G_then ?_
 | refine G_block ?_
 | refine G_blockX ?_
 | refine G_blockN rfl ?_
 | refine G_blockR ?_
 | refine G_thenR ?_
 | refine G_thenX ?_
 | refine G_ret rfl obQ (fun w hw => ⟨?_, hw.below⟩)
      )
    )
  refine C_loopS (fun i : Int × Int => ⟨[(6, .s (.v (.int .i64 i.1))), (7, .s (.v (.int .i64 i.2))), (1, .s (.v (.int .i64 t))), (2, .s (.p b 0 0)), (4, .s (.v (.int .i64 0))), (5, .s (.v (.int .i64 0)))], [⟨b, 61, [.v (.int .i64 n), .v (.int .i64 d)]⟩], []⟩) (fun i => (0 ≤ i.1 ∧ i.1 < i.2 ∧ i.2 ≤ 10000001) ∧ i.1 < slipN n d t ∧ (i.2 ≤ 10000000 → slipN n d t ≤ i.2)) (fun i => (i.2 - i.1).toNat) (0, 10000001) ⟨by omega, by show 0 < slipN n d t; omega, by intro h; exfalso; revert h; show ¬ ((10000001 : Int) ≤ 10000000); omega⟩ ?_ (fun i hi => ?_)
  · exact ⟨⟨_, rfl, obQ⟩, ⟨_, rfl⟩, rfl, pstQ⟩
  obtain ⟨l, u⟩ := i
  obtain ⟨hb, hl, hu⟩ := hi
  dsimp only at hb hl hu ⊢
  have hg := slip_iff (n := n) (t := t) (x := (l + u) / 2) hd ht.1 (by omega)
  have hm := mul_bd (t := (l + u) / 2) (n := n) (by omega) hn
  have hq := Int.ediv_nonneg hm.1 (show 0 ≤ d by omega)
  have hq2 := Int.ediv_le_self d hm.1
  repeat' (first
 | (refine C_id ?_; first
 | refine C_seq ?_
 | refine C_region rfl ?_
 | refine C_block ?_
 | refine C_skip ?_
 | refine C_exit ?_
 | refine C_ret0 ?_
 | refine C_condT rfl obQ ?_
 | refine C_condF rfl obQ ?_
 | (refine C_cond rfl obQ (fun h => ?_) (fun h => ?_) <;> (try simp only [Bool.or_eq_true, Bool.and_eq_true, Bool.or_eq_false_iff, Bool.and_eq_false_iff, decide_eq_true_eq, decide_eq_false_iff_not, beq_iff_eq, bne_iff_ne, beq_eq_false_iff_ne, bne_eq_false_iff_eq, ne_eq, Decidable.not_not, List.cons.injEq, and_true, Bool.not_eq_true', Bool.not_eq_false', Int.not_lt, Int.not_le] at h) <;> (try (exfalso; omega)))
        )
 | (refine S_id ?_; first
 | refine S_nil ?_
 | refine S_run rfl rfl obQ obQ ?_
 | refine S_box (fun b => ⟨_, _, rfl, obQ, ?_⟩)
 | refine S_call (f := 45) rfl obQ (by kernel_rfl) (fun w hw => rCounted_c n d _ hn hd (by omega) w) ?_
        )
 | (refine G_id ?_; first
 | refine G_loop (l, (l + u) / 2) ⟨by dsimp only; omega, hl, fun _ => hg.1 (by assumption)⟩ (by show ((l + u) / 2 - l).toNat < (u - l).toNat; omega) ⟨⟨_, rfl, obQ⟩, ⟨_, rfl⟩, rfl, pstQ⟩
 | refine G_loop ((l + u) / 2, u) ⟨by dsimp only; omega, by have := fun q => hg.2 q; dsimp only; omega, hu⟩ (by show (u - (l + u) / 2).toNat < (u - l).toNat; omega) ⟨⟨_, rfl, obQ⟩, ⟨_, rfl⟩, rfl, pstQ⟩
 | refine G_then ?_
 | refine G_block ?_
 | refine G_blockX ?_
 | refine G_blockN rfl ?_
 | refine G_blockR ?_
 | refine G_thenR ?_
 | refine G_thenX ?_
 | refine G_ret rfl obQ (fun w hw => ⟨?_, hw.below⟩)
        )
      )
  · rename_i h0
    rw [slip_end hc (h := u) (by omega) (by omega) hu, if_pos h]
  · rename_i h0
    rw [slip_end hc (h := u) (by omega) (by omega) hu, if_neg (by omega)]

end Go.Proofs.YtmfophoejjcnlaaGreatDoor
