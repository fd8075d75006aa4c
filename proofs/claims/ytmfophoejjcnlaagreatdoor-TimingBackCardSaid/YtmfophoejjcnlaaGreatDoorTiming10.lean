/- Clocks. -/
import Derived.Test.YtmfophoejjcnlaaGreatDoorTiming9
namespace Go.Proofs.YtmfophoejjcnlaaGreatDoor
open Go.E Go.RowKit
attribute [local irreducible] G C S D Calls
set_option maxRecDepth 100000
set_option linter.unusedSimpArgs false
set_option linter.unusedVariables false

set_option maxHeartbeats 400000 in
/-- picture.when -/
theorem pwhen_c (b : Bool) (e : Int) (w : World) : Calls Tryz.prog 166 #[.bool b, .int .i64 e] w fun r w' => r = .returned (.int .i64 (wh b e)) ∧ Below w.heap.size w w' := by
  refine calls_of (args := [.bool b, .int .i64 e]) T_ok Tryz.func166 rfl Tryz.ntmps166 (Nat.le_of_ble_eq_true rfl) rfl ?_
  repeat' (first
 | (refine C_id ?_; first
 | refine C_seq ?_
 | refine C_region rfl ?_
 | refine C_block ?_
 | refine C_skip ?_
 | refine C_ret0 ?_
 | (refine C_cond rfl obQ (fun h => ?_) (fun h => ?_) <;> (try simp only [Bool.or_eq_true, Bool.and_eq_true, Bool.or_eq_false_iff, Bool.and_eq_false_iff, decide_eq_true_eq, decide_eq_false_iff_not, beq_iff_eq, bne_iff_ne, beq_eq_false_iff_ne, bne_eq_false_iff_eq, ne_eq, Decidable.not_not, List.cons.injEq, and_true, Bool.not_eq_true', Bool.not_eq_false', Int.not_lt, Int.not_le] at h))
 )
 | (refine S_id ?_; first
 | refine S_nil ?_
 | refine S_run rfl rfl obQ obQ ?_
 )
 | (refine G_id ?_; first
 | refine G_then ?_
 | refine G_thenR ?_
 | refine G_ret rfl obQ (fun w hw => ⟨?_, hw.below⟩)
 )
 )
  all_goals simp [wh, h]

set_option maxHeartbeats 400000 in
/-- picture.within -/
theorem pwithin_c (n l m : Int) (w : World) : Calls Tryz.prog 165 #[.int .i64 n, .int .i64 l, .int .i64 m] w fun r w' => r = .returned (.int .i64 (wi n l m)) ∧ Below w.heap.size w w' := by
  refine calls_of (args := [.int .i64 n, .int .i64 l, .int .i64 m]) T_ok Tryz.func165 rfl Tryz.ntmps165 (Nat.le_of_ble_eq_true rfl) rfl ?_
  repeat' (first
 | (refine C_id ?_; first
 | refine C_seq ?_
 | refine C_region rfl ?_
 | refine C_ret0 ?_
 )
 | (refine S_id ?_; first
 | refine S_nil ?_
 | refine S_run rfl rfl obQ obQ ?_
 | refine S_call (f := 166) rfl obQ (by kernel_rfl) (fun w hw => pwhen_c _ _ _) ?_
 )
 | (refine G_id ?_; first
 | refine G_then ?_
 | refine G_ret rfl obQ (fun w hw => ⟨?_, hw.below⟩)
 )
 )
  simp [wi, wh]

set_option maxHeartbeats 400000 in
/-- picture.first -/
theorem pfirst_c (A : Option Addr) (c : Nat) (es : List Int) (hl : es.length ≤ 1000000) (w : World) (hr : Rd w A (es.map (.int .i64))) : Calls Tryz.prog 164 #[.slice A es.length c] w fun r w' => r = .returned (.int .i64 (firstL es)) ∧ Below w.heap.size w w' := by
  refine calls_of (args := [.slice A es.length c]) T_ok Tryz.func164 rfl Tryz.ntmps164 (Nat.le_of_ble_eq_true rfl) rfl ?_
  repeat' (first
 | (refine C_id ?_; first
 | refine C_seq ?_
 | refine C_region rfl ?_
 | refine C_block ?_
 | refine C_skip ?_
 | refine C_ret0 ?_
 | (refine C_cond rfl obQ (fun h => ?_) (fun h => ?_) <;> (try simp only [Bool.or_eq_true, Bool.and_eq_true, Bool.or_eq_false_iff, Bool.and_eq_false_iff, decide_eq_true_eq, decide_eq_false_iff_not, beq_iff_eq, bne_iff_ne, beq_eq_false_iff_ne, bne_eq_false_iff_eq, ne_eq, Decidable.not_not, List.cons.injEq, and_true, Bool.not_eq_true', Bool.not_eq_false', Int.not_lt, Int.not_le] at h))
 )
 | (refine S_id ?_; first
 | refine S_nil ?_
 | refine S_run rfl rfl obQ obQ ?_
 )
 | (refine G_id ?_; first
 | refine G_then ?_
 | refine G_thenR ?_
 | refine G_ret rfl obQ (fun w hw => ⟨?_, hw.below⟩)
 )
 )
  refine C_loopS (fun k : Nat => ⟨[(7, .s (.v (.int .i64 k))), (6, .s (.v (.int .i64 es.length))), (5, .s (.v (.slice A es.length c)))], [], []⟩) (fun k => k ≤ es.length ∧ firstL es = firstL (es.drop k)) (fun k => es.length - k) 0 ⟨Nat.zero_le _, rfl⟩ ?_ (fun k hk => ?_)
  · exact ⟨⟨_, rfl, obQ⟩, ⟨_, rfl⟩, rfl, pstQ⟩
  by_cases hlt : k < es.length
  · obtain ⟨ad, rfl⟩ := hr.some (by simp; omega)
    have hfd := firstL_drop hlt
    repeat' (first
 | (refine C_id ?_; first
 | refine C_seq ?_
 | refine C_region rfl ?_
 | refine C_block ?_
 | refine C_skip ?_
 | refine C_ret0 ?_
 | (refine C_cond rfl obQ (fun h => ?_) (fun h => ?_) <;> (try simp only [Bool.or_eq_true, Bool.and_eq_true, Bool.or_eq_false_iff, Bool.and_eq_false_iff, decide_eq_true_eq, decide_eq_false_iff_not, beq_iff_eq, bne_iff_ne, beq_eq_false_iff_ne, bne_eq_false_iff_eq, ne_eq, Decidable.not_not, List.cons.injEq, and_true, Bool.not_eq_true', Bool.not_eq_false', Int.not_lt, Int.not_le] at h) <;> (try (exfalso; omega)))
     )
 | (refine S_id ?_; first
 | refine S_load rfl obQ rfl [.int .i64 es[k]] (.past _ memQ _ _ hr.toS _ _ rfl rfl (idx1 hlt)) rfl (.inr ⟨rfl, rfl⟩) ?_
 | refine S_nil ?_
 | refine S_run rfl rfl obQ obQ ?_
     )
 | (refine G_id ?_; first
 | refine G_loop (k + 1) ?_ (by omega) ⟨⟨_, rfl, obQ⟩, ⟨_, rfl⟩, rfl, pstQ⟩
 | refine G_then ?_
 | refine G_block ?_
 | refine G_blockR ?_
 | refine G_thenR ?_
 | refine G_ret rfl obQ (fun w hw => ⟨?_, hw.below⟩)
     )
     )
    · rw [hk.2, hfd, if_neg h]
    · exact ⟨by omega, by rw [hk.2, hfd, if_pos h]⟩
  · repeat' (first
 | (refine C_id ?_; first
 | refine C_seq ?_
 | refine C_region rfl ?_
 | refine C_exit ?_
 | refine C_ret0 ?_
 | (refine C_cond rfl obQ (fun h => ?_) (fun h => ?_) <;> (try simp only [Bool.or_eq_true, Bool.and_eq_true, Bool.or_eq_false_iff, Bool.and_eq_false_iff, decide_eq_true_eq, decide_eq_false_iff_not, beq_iff_eq, bne_iff_ne, beq_eq_false_iff_ne, bne_eq_false_iff_eq, ne_eq, Decidable.not_not, List.cons.injEq, and_true, Bool.not_eq_true', Bool.not_eq_false', Int.not_lt, Int.not_le] at h) <;> (try (exfalso; omega)))
     )
 | (refine S_id ?_; first
 | refine S_nil ?_
 | refine S_run rfl rfl obQ obQ ?_
     )
 | (refine G_id ?_; first
 | refine G_then ?_
 | refine G_blockX ?_
 | refine G_thenX ?_
 | refine G_ret rfl obQ (fun w hw => ⟨?_, hw.below⟩)
     )
     )
    rw [hk.2, List.drop_of_length_le (by omega)]
    rfl

theorem ret2 {a b : Int} {q : Int × Int} (h : q = (a, b)) : Ending.returned (.tuple #[.int .i64 a, .int .i64 b]) = Ending.returned (.tuple #[.int .i64 q.1, .int .i64 q.2]) := by subst h; rfl
theorem gcd_step {a b : Int} (ha : 0 ≤ a) (hb : 0 < b) : Int.gcd b (a % b) = Int.gcd a b := by
  obtain ⟨m, rfl⟩ := Int.eq_ofNat_of_zero_le ha
  obtain ⟨k, rfl⟩ := Int.eq_ofNat_of_zero_le (Int.le_of_lt hb)
  show Nat.gcd k (m % k) = Nat.gcd m k
  rw [Nat.gcd_comm k, ← Nat.gcd_rec, Nat.gcd_comm]
def ratioE (n d : Int) : Int := if ¬ firstL [wi n (-999999999) 999999999, wi d 1 999999999] = 0 then firstL [wi n (-999999999) 999999999, wi d 1 999999999] else wh (((Int.gcd n d : Nat) : Int) != 1) 1
def clockE (n d : Int) : Int := firstL [ratioE n d, wi n 1 100000, wi d 1 100000]
theorem ratio_ok {n d : Int} (h : firstL [wi n (-999999999) 999999999, wi d 1 999999999] = 0) : (-999999999 ≤ n ∧ n ≤ 999999999) ∧ 1 ≤ d ∧ d ≤ 999999999 := by
  rw [firstL_zero] at h
  simpa only [List.mem_cons, List.mem_nil_iff, or_false, forall_eq_or_imp, forall_eq, wi_eq] using h
theorem clock_ok {n d : Int} (h : clockE n d = 0) : ((1 ≤ n ∧ n ≤ 100000) ∧ 1 ≤ d ∧ d ≤ 100000) ∧ ratioE n d = 0 := by
  unfold clockE at h
  rw [firstL_zero] at h
  simp only [List.mem_cons, List.mem_nil_iff, or_false, forall_eq_or_imp, forall_eq, wi_eq] at h
  exact ⟨h.2, h.1⟩
def countE (n d t : Int) : Int := firstL [clockE n d, wi t 0 10000000]
def countR (n d t : Int) : Int × Int := if ¬ countE n d t = 0 then (0, countE n d t) else (t * n / d, 0)
theorem count_ok {n d t : Int} (h : countE n d t = 0) : clockE n d = 0 ∧ 0 ≤ t ∧ t ≤ 10000000 := by
  unfold countE at h
  rw [firstL_zero] at h
  simpa only [List.mem_cons, List.mem_nil_iff, or_false, forall_eq_or_imp, forall_eq, wi_eq] using h
def slipE (n d t : Int) : Int := firstL [clockE n d, wi t 1 1000]
theorem slip_ok {n d t : Int} (h : slipE n d t = 0) : clockE n d = 0 ∧ 1 ≤ t ∧ t ≤ 1000 := by
  unfold slipE at h
  rw [firstL_zero] at h
  simpa only [List.mem_cons, List.mem_nil_iff, or_false, forall_eq_or_imp, forall_eq, wi_eq] using h
def slipN (n d t : Int) : Int := if 0 < n - d then (t * d + (n - d) - 1) / (n - d) else if n - d < 0 then (t - 1) * d / (0 - (n - d)) + 1 else 10000001
def slipR (n d t : Int) : Int × Int := if ¬ slipE n d t = 0 then (0, slipE n d t) else if 10000000 < slipN n d t then (0, 7) else (slipN n d t, 0)
theorem slipN_fast {n d t : Int} (h : 0 < n - d) : slipN n d t = (t * d + (n - d) - 1) / (n - d) := if_pos h
theorem slipN_slow {n d t : Int} (h : n - d < 0) : slipN n d t = (t - 1) * d / (0 - (n - d)) + 1 := by rw [slipN, if_neg (by omega), if_pos h]
theorem slipN_none {n d t : Int} (h : n - d ≤ 0) (h' : 0 ≤ n - d) : slipN n d t = 10000001 := by rw [slipN, if_neg (by omega), if_neg (by omega)]
theorem slipR_big {n d t N : Int} (h0 : slipE n d t = 0) (hN : slipN n d t = N) (h : 10000000 < N) : slipR n d t = (0, 7) := by rw [slipR, if_neg (Classical.not_not.2 h0), hN, if_pos h]
theorem slipR_ok {n d t N : Int} (h0 : slipE n d t = 0) (hN : slipN n d t = N) (h : N ≤ 10000000) : slipR n d t = (N, 0) := by rw [slipR, if_neg (Classical.not_not.2 h0), hN, if_neg (by omega)]

set_option maxHeartbeats 400000 in
/-- picture.divisor -/
theorem divisor_c (n d : Int) (hn : -999999999 ≤ n ∧ n ≤ 999999999) (hd : 1 ≤ d ∧ d ≤ 999999999) (w : World) : Calls Tryz.prog 167 #[.int .i64 n, .int .i64 d] w fun r w' => r = .returned (.int .i64 (Int.gcd n d : Nat)) ∧ Below w.heap.size w w' := by
  refine calls_of (args := [.int .i64 n, .int .i64 d]) T_ok Tryz.func167 rfl Tryz.ntmps167 (Nat.le_of_ble_eq_true rfl) rfl ?_
  repeat' (first
 | (refine C_id ?_; first
 | refine C_seq ?_
 | refine C_region rfl ?_
 | refine C_block ?_
 )
 | (refine S_id ?_; first
 | refine S_nil ?_
 | refine S_run rfl rfl obQ obQ ?_
 )
 | (refine G_id ?_; first
 | refine G_then ?_
 )
 )
  refine C_loopS (fun i : Int × Int => ⟨[(5, .s (.v (.int .i64 i.1))), (6, .s (.v (.int .i64 i.2)))], [], []⟩) (fun i => (0 ≤ i.1 ∧ i.1 ≤ 999999999) ∧ (0 ≤ i.2 ∧ i.2 ≤ 999999999) ∧ Int.gcd i.1 i.2 = Int.gcd n d) (fun i => i.2.toNat) (max n (0 - n), d) ⟨by dsimp only; omega, by dsimp only; omega, ?_⟩ ?_ (fun i hi => ?_)
  · dsimp only
    rcases Int.le_total 0 n with h | h
    · rw [Int.max_eq_left (by omega)]
    · rw [Int.max_eq_right (by omega), Int.zero_sub, Int.neg_gcd]
  · exact ⟨⟨_, rfl, obQ⟩, ⟨_, rfl⟩, rfl, pstQ⟩
  obtain ⟨a, b⟩ := i
  obtain ⟨ha, hb, hg⟩ := hi
  dsimp only at ha hb hg ⊢
  by_cases hlt : 0 < b
  · have h1 := Int.emod_nonneg a (show b ≠ 0 by omega)
    have h2 := Int.emod_lt_of_pos a hlt
    repeat' (first
 | (refine C_id ?_; first
 | refine C_seq ?_
 | refine C_region rfl ?_
 | refine C_block ?_
 | refine C_skip ?_
 | refine C_draw (id := 3) rfl mixed (by kernel_rfl) ?_
 | (refine C_cond rfl obQ (fun h => ?_) (fun h => ?_) <;> (try simp only [Bool.or_eq_true, Bool.and_eq_true, Bool.or_eq_false_iff, Bool.and_eq_false_iff, decide_eq_true_eq, decide_eq_false_iff_not, beq_iff_eq, bne_iff_ne, beq_eq_false_iff_ne, bne_eq_false_iff_eq, ne_eq, Decidable.not_not, List.cons.injEq, and_true, Bool.not_eq_true', Bool.not_eq_false', Int.not_lt, Int.not_le] at h) <;> (try (exfalso; omega)))
     )
 | (refine S_id ?_; first
 | refine S_nil ?_
 | refine S_run rfl rfl obQ obQ ?_
     )
 | (refine D_id ?_; first
 | refine D_nil ?_
 | refine D_run rfl rfl obQ obQ ?_
     )
 | (refine G_id ?_; first
 | refine G_loop (b, a % b) ⟨hb, by dsimp only; omega, by rw [← hg]; exact gcd_step ha.1 hlt⟩ (by show (a % b).toNat < b.toNat; omega) ⟨⟨_, rfl, obQ⟩, ⟨_, rfl⟩, rfl, pstQ⟩
 | refine G_then ?_
 | refine G_block ?_
     )
     )
  · obtain rfl : b = 0 := by omega
    have hga : ((Int.gcd n d : Nat) : Int) = a := by rw [← hg, Int.gcd_zero_right]; omega
    repeat' (first
 | (refine C_id ?_; first
 | refine C_seq ?_
 | refine C_region rfl ?_
 | refine C_exit ?_
 | refine C_ret0 ?_
 | refine C_condF rfl obQ ?_
     )
 | (refine S_id ?_; first
 | refine S_nil ?_
 | refine S_run rfl rfl obQ obQ ?_
     )
 | (refine G_id ?_; first
 | refine G_then ?_
 | refine G_blockX ?_
 | refine G_thenX ?_
 | refine G_ret rfl obQ (fun w hw => ⟨?_, hw.below⟩)
     )
     )
    rw [hga]

set_option maxHeartbeats 400000 in
/-- picture.CheckRatio -/
theorem ratio_c (n d : Int) (w : World) : Calls Tryz.prog 143 #[.agg #[.int .i64 n, .int .i64 d]] w fun r w' => r = .returned (.int .i64 (ratioE n d)) ∧ Below w.heap.size w w' := by
  refine calls_of (args := [.agg #[.int .i64 n, .int .i64 d]]) T_ok Tryz.func143 rfl Tryz.ntmps143 (Nat.le_of_ble_eq_true rfl) rfl ?_
  repeat' (first
 | (refine C_id ?_; first
 | refine C_seq ?_
 | refine C_region rfl ?_
 | refine C_skip ?_
 | refine C_ret0 ?_
 | refine C_drawT (id := 1) 6 rfl mixed (by kernel_rfl) rfl rfl ?_
 | (refine C_cond rfl obQ (fun h => ?_) (fun h => ?_) <;> (try simp only [Bool.or_eq_true, Bool.and_eq_true, Bool.or_eq_false_iff, Bool.and_eq_false_iff, decide_eq_true_eq, decide_eq_false_iff_not, beq_iff_eq, bne_iff_ne, beq_eq_false_iff_ne, bne_eq_false_iff_eq, ne_eq, Decidable.not_not, List.cons.injEq, and_true, Bool.not_eq_true', Bool.not_eq_false', Int.not_lt, Int.not_le] at h))
 )
 | (refine S_id ?_; first
 | refine S_nil ?_
 | refine S_run rfl rfl obQ obQ ?_
 | refine S_box (fun b => ⟨_, _, rfl, obQ, ?_⟩)
 | refine S_slice (fun b => ⟨_, _, rfl, obQ, ?_⟩)
 | refine S_call (f := 164) rfl obQ (by kernel_rfl) (fun w hw => pfirst_c _ _ [wi n (-999999999) 999999999, wi d 1 999999999] (by simp) w (.inr ⟨_, rfl, hw.src (i := 1) rfl rfl⟩)) ?_
 | refine S_call (f := 167) rfl obQ (by kernel_rfl) (fun w hw => divisor_c n d (ratio_ok h).1 (ratio_ok h).2 w) ?_
 | refine S_call (f := 166) rfl obQ (by kernel_rfl) (fun w hw => pwhen_c _ _ w) ?_
 )
 | (refine D_id ?_; first
 | refine D_tail ?_
 | refine D_run rfl rfl obQ obQ ?_
 | refine D_call (f := 165) rfl obQ (by kernel_rfl) (fun w hw => pwithin_c _ _ _ w) ?_
 )
 | (refine G_id ?_; first
 | refine G_then ?_
 | refine G_thenR ?_
 | refine G_ret rfl obQ (fun w hw => ⟨?_, hw.below⟩)
 )
 )
  all_goals simp [ratioE, h]

set_option maxHeartbeats 400000 in
/-- timing.checkClock -/
theorem checkClock_c (n d : Int) (w : World) : Calls Tryz.prog 101 #[.agg #[.int .i64 n, .int .i64 d]] w fun r w' => r = .returned (.int .i64 (clockE n d)) ∧ Below w.heap.size w w' := by
  refine calls_of (args := [.agg #[.int .i64 n, .int .i64 d]]) T_ok Tryz.func101 rfl Tryz.ntmps101 (Nat.le_of_ble_eq_true rfl) rfl ?_
  repeat' (first
 | (refine C_id ?_; first
 | refine C_seq ?_
 | refine C_region rfl ?_
 | refine C_ret0 ?_
 | refine C_drawT (id := 1) 8 rfl mixed (by kernel_rfl) rfl rfl ?_
 )
 | (refine S_id ?_; first
 | refine S_nil ?_
 | refine S_run rfl rfl obQ obQ ?_
 | refine S_box (fun b => ⟨_, _, rfl, obQ, ?_⟩)
 | refine S_slice (fun b => ⟨_, _, rfl, obQ, ?_⟩)
 | refine S_call (f := 87) rfl obQ (by kernel_rfl) (fun w hw => first_c _ _ [ratioE n d, wi n 1 100000, wi d 1 100000] (by simp) w (.inr ⟨_, rfl, hw.src (i := 1) rfl rfl⟩)) ?_
 )
 | (refine D_id ?_; first
 | refine D_tail ?_
 | refine D_run rfl rfl obQ obQ ?_
 | refine D_call (f := 143) rfl obQ (by kernel_rfl) (fun w hw => ratio_c n d w) ?_
 | refine D_call (f := 91) rfl obQ (by kernel_rfl) (fun w hw => within_c _ _ _ w) ?_
 )
 | (refine G_id ?_; first
 | refine G_then ?_
 | refine G_ret rfl obQ (fun w hw => ⟨?_, hw.below⟩)
 )
 )
  rfl

set_option maxHeartbeats 400000 in
/-- timing.Counted -/
theorem Counted_c (n d t : Int) (w : World) : Calls Tryz.prog 39 #[.agg #[.int .i64 n, .int .i64 d], .int .i64 t] w fun r w' => r = .returned (.tuple #[.int .i64 (countR n d t).1, .int .i64 (countR n d t).2]) ∧ Below w.heap.size w w' := by
  have hk : firstL [clockE n d, wi t 0 10000000] = 0 → (0 ≤ t * n ∧ t * n ≤ 10000000 * 100000) ∧ 1 ≤ d := fun hc => by
    obtain ⟨h1, h2⟩ := count_ok hc
    obtain ⟨⟨h3, h4⟩, _⟩ := clock_ok h1
    exact ⟨⟨Int.mul_nonneg h2.1 (show 0 ≤ n by omega), Int.mul_le_mul h2.2 h3.2 (by omega) (by omega)⟩, h4.1⟩
  refine calls_of (args := [.agg #[.int .i64 n, .int .i64 d], .int .i64 t]) T_ok Tryz.func39 rfl Tryz.ntmps39 (Nat.le_of_ble_eq_true rfl) rfl ?_
  repeat' (first
 | (refine C_id ?_; first
 | refine C_seq ?_
 | refine C_region rfl ?_
 | refine C_skip ?_
 | refine C_ret0 ?_
 | (refine C_cond rfl obQ (fun h => ?_) (fun h => ?_) <;> (try simp only [Bool.or_eq_true, Bool.and_eq_true, Bool.or_eq_false_iff, Bool.and_eq_false_iff, decide_eq_true_eq, decide_eq_false_iff_not, beq_iff_eq, bne_iff_ne, beq_eq_false_iff_ne, bne_eq_false_iff_eq, ne_eq, Decidable.not_not, List.cons.injEq, and_true, Bool.not_eq_true', Bool.not_eq_false', Int.not_lt, Int.not_le] at h))
 )
 | (refine S_id ?_; first
 | refine S_nil ?_
 | refine S_run rfl rfl obQ obQ ?_
 | refine S_box (fun b => ⟨_, _, rfl, obQ, ?_⟩)
 | refine S_slice (fun b => ⟨_, _, rfl, obQ, ?_⟩)
 | refine S_call (f := 101) rfl obQ (by kernel_rfl) (fun w hw => checkClock_c n d w) ?_
 | refine S_call (f := 91) rfl obQ (by kernel_rfl) (fun w hw => within_c _ _ _ w) ?_
 | refine S_call (f := 87) rfl obQ (by kernel_rfl) (fun w hw => first_c _ _ [clockE n d, wi t 0 10000000] (by simp) w (.inr ⟨_, rfl, hw.src (i := 1) rfl rfl⟩)) ?_
 )
 | (refine G_id ?_; first
 | refine G_then ?_
 | refine G_thenR ?_
 | refine G_ret rfl obQ (fun w hw => ⟨?_, hw.below⟩)
 )
 )
  all_goals simp [countR, countE, h]

set_option maxHeartbeats 400000 in
/-- timing.Slip -/
theorem Slip_c (n d t : Int) (w : World) : Calls Tryz.prog 40 #[.agg #[.int .i64 n, .int .i64 d], .int .i64 t] w fun r w' => r = .returned (.tuple #[.int .i64 (slipR n d t).1, .int .i64 (slipR n d t).2]) ∧ Below w.heap.size w w' := by
  have hk : firstL [clockE n d, wi t 1 1000] = 0 → ((1 ≤ n ∧ n ≤ 100000) ∧ (1 ≤ d ∧ d ≤ 100000)) ∧ (0 ≤ t * d ∧ t * d ≤ 1000 * 100000) ∧ (1 ≤ t ∧ t ≤ 1000) ∧ (0 ≤ (t - 1) * d ∧ (t - 1) * d ≤ 1000 * 100000) := fun hc => by
    obtain ⟨h1, h2⟩ := slip_ok hc
    obtain ⟨⟨h3, h4⟩, _⟩ := clock_ok h1
    exact ⟨⟨h3, h4⟩, ⟨Int.mul_nonneg (by omega) (show 0 ≤ d by omega), Int.mul_le_mul h2.2 h4.2 (by omega) (by omega)⟩, h2, ⟨Int.mul_nonneg (by omega) (show 0 ≤ d by omega), Int.mul_le_mul (by omega) h4.2 (by omega) (by omega)⟩⟩
  have q1 : 0 < n - d → firstL [clockE n d, wi t 1 1000] = 0 → 0 ≤ (t * d + (n - d) - 1) / (n - d) ∧ (t * d + (n - d) - 1) / (n - d) ≤ t * d + (n - d) - 1 := fun h0 h => by
    have := hk h
    exact ⟨Int.ediv_nonneg (by omega) (by omega), Int.ediv_le_self _ (by omega)⟩
  have q2 : n - d < 0 → firstL [clockE n d, wi t 1 1000] = 0 → 0 ≤ (t - 1) * d / (0 - (n - d)) ∧ (t - 1) * d / (0 - (n - d)) ≤ (t - 1) * d := fun h0 h => by
    have := hk h
    exact ⟨Int.ediv_nonneg (by omega) (by omega), Int.ediv_le_self _ (by omega)⟩
  refine calls_of (args := [.agg #[.int .i64 n, .int .i64 d], .int .i64 t]) T_ok Tryz.func40 rfl Tryz.ntmps40 (Nat.le_of_ble_eq_true rfl) rfl ?_
  repeat' (first
 | (refine C_id ?_; first
 | refine C_seq ?_
 | refine C_region rfl ?_
 | refine C_block ?_
 | refine C_skip ?_
 | refine C_ret0 ?_
 | refine C_condT rfl obQ ?_
 | (refine C_cond rfl obQ (fun h => ?_) (fun h => ?_) <;> (try simp only [Bool.or_eq_true, Bool.and_eq_true, Bool.or_eq_false_iff, Bool.and_eq_false_iff, decide_eq_true_eq, decide_eq_false_iff_not, beq_iff_eq, bne_iff_ne, beq_eq_false_iff_ne, bne_eq_false_iff_eq, ne_eq, Decidable.not_not, List.cons.injEq, and_true, Bool.not_eq_true', Bool.not_eq_false', Int.not_lt, Int.not_le] at h) <;> (try (exfalso; omega)))
 )
 | (refine S_id ?_; first
 | refine S_nil ?_
 | refine S_run rfl rfl obQ obQ ?_
 | refine S_box (fun b => ⟨_, _, rfl, obQ, ?_⟩)
 | refine S_slice (fun b => ⟨_, _, rfl, obQ, ?_⟩)
 | refine S_call (f := 101) rfl obQ (by kernel_rfl) (fun w hw => checkClock_c n d w) ?_
 | refine S_call (f := 91) rfl obQ (by kernel_rfl) (fun w hw => within_c _ _ _ w) ?_
 | refine S_call (f := 87) rfl obQ (by kernel_rfl) (fun w hw => first_c _ _ [clockE n d, wi t 1 1000] (by simp) w (.inr ⟨_, rfl, hw.src (i := 1) rfl rfl⟩)) ?_
 )
 | (refine G_id ?_; first
 | refine G_then ?_
 | refine G_block ?_
 | refine G_thenR ?_
 | refine G_ret rfl obQ (fun w hw => ⟨?_, hw.below⟩)
 )
 )
  all_goals first
    | exact ret2 (if_pos (by assumption))
    | exact ret2 (slipR_big (by assumption) (slipN_fast (by assumption)) (by assumption))
    | exact ret2 (slipR_ok (by assumption) (slipN_fast (by assumption)) (by assumption))
    | exact ret2 (slipR_big (by assumption) (slipN_slow (by assumption)) (by assumption))
    | exact ret2 (slipR_ok (by assumption) (slipN_slow (by assumption)) (by assumption))
    | exact ret2 (slipR_big (by assumption) (slipN_none (by assumption) (by assumption)) (by omega))

end Go.Proofs.YtmfophoejjcnlaaGreatDoor
