/- Sounds: the reference. -/
import Derived.Test.YtdbffbcobghbeaaGreatDoorColour53
import Derived.Test.YtdbffbcobghbeaaGreatDoorColour26
namespace Go.Proofs.YtdbffbcobghbeaaGreatDoor
open Go.E Go.RowKit Go.Fl
attribute [local irreducible] G C S D Calls
set_option maxRecDepth 100000
set_option linter.unusedSimpArgs false
set_option linter.unusedVariables false

/-- The error of sound; that of taps. -/
def ssE (s : List Nat) : Int := if 4096 < s.length then 5 else firstL (s.map smpE)
def ttE (t : List Int) : Int := if t.length = 0 then 12 else if 8 < t.length then 5 else firstL (t.map fun n => wi n (-100) 100)
theorem sd_eq (s : List Nat) (t : List Int) (b : Int) : firstL [ssE s, ttE t, wi b 1 4096] = sdE s t b := by
  have hf : ∀ x y z : Int, firstL [x, y, z] = if x = 0 then (if y = 0 then z else y) else x := fun x y z => by
    simp only [firstL]
    by_cases hz : z = 0 <;> simp [hz]
  rw [hf]
  by_cases h1 : 4096 < s.length
  · have e : ssE s = 5 := if_pos h1
    rw [sdE_1 h1, e]
    rfl
  · have e : ssE s = firstL (s.map smpE) := if_neg h1
    rw [e]
    by_cases h2 : firstL (s.map smpE) = 0
    · rw [if_pos h2]
      have ht : (tpE t = 0 → ttE t = firstL (t.map fun n => wi n (-100) 100)) ∧ (¬ tpE t = 0 → ttE t = tpE t) := by
        unfold tpE ttE
        by_cases g1 : t.length = 0
        · simp [g1, firstL, wh]
        · by_cases g2 : 8 < t.length
          · have g3 : (8 : Int) < t.length := by omega
            have g4 : ((t.length : Int) == 0) = false := by rw [beq_eq_false_iff_ne]; omega
            simp [g1, g2, g3, g4, firstL, wh]
          · have g3 : ¬ (8 : Int) < t.length := by omega
            have g4 : ((t.length : Int) == 0) = false := by rw [beq_eq_false_iff_ne]; omega
            simp [g1, g2, g3, g4, firstL, wh]
      by_cases h3 : tpE t = 0
      · rw [sdE_4 h1 h2 h3, ht.1 h3]
        simp only [firstL]
        by_cases hz : wi b 1 4096 = 0 <;> simp [hz]
      · rw [sdE_3 h1 h2 h3, ht.2 h3, if_neg h3]
    · rw [sdE_2 h1 h2, if_neg h2]
theorem smp_dropL {s : List Nat} {k : Nat} (h : k < s.length) : firstL ((s.map smpE).drop k) = if smpE (gB s k) = 0 then firstL ((s.map smpE).drop (k + 1)) else smpE (gB s k) := by
  rw [firstL_drop (by simpa using h), List.getElem_map, gB_at h]

set_option maxHeartbeats 400000 in
/-- genlockref01.CheckSamples -/
theorem rCheckSamples_c (A : Option Addr) (c : Nat) (s : List Nat) (hs : s.length ≤ 1000000) (w : World) (hr : Rd w A (s.map (.float .f32))) : Calls Tryz.prog 155 #[.slice A s.length c] w fun r w' => r = .returned (.int .i64 (firstL (s.map smpE))) ∧ Below w.heap.size w w' := by
  refine calls_of (args := [.slice A s.length c]) T_ok Tryz.func155 rfl Tryz.ntmps155 (Nat.le_of_ble_eq_true rfl) rfl ?_
  repeat' (first
 | (refine C_id ?_; first
 | refine C_seq ?_
 | refine C_region rfl ?_
 | refine C_block ?_
 | refine C_skip ?_
 | refine C_ret0 ?_
 | (refine C_cond rfl obQ (fun h => ?_) (fun h => ?_) <;> (try simp only [Bool.or_eq_true, Bool.and_eq_true, Bool.or_eq_false_iff, Bool.and_eq_false_iff, decide_eq_true_eq, decide_eq_false_iff_not, beq_iff_eq, bne_iff_ne, beq_eq_false_iff_ne, bne_eq_false_iff_eq, ne_eq, Decidable.not_not, List.cons.injEq, and_true, Bool.not_eq_true', Bool.not_eq_false', Int.not_lt, Int.not_le] at h))
 )
 | (refine S_id ?_; first
 | refine S_nil ?_
 | refine S_run rfl rfl obQ obQ ?_
 )
 | (refine G_id ?_; first
 | refine G_then ?_
 | refine G_thenR ?_
 | refine G_ret rfl obQ (fun w hw => ⟨?_, hw.below⟩)
 )
 )
  refine C_loopS (fun k : Nat => ⟨[(3, .s (.v (.int .i64 k))), (0, .s (.v (.slice A s.length c)))], [], []⟩) (fun k => k ≤ s.length ∧ firstL (s.map smpE) = firstL ((s.map smpE).drop k)) (fun k => s.length - k) 0 ⟨Nat.zero_le _, rfl⟩ ?_ (fun k hk => ?_)
  · exact ⟨⟨_, rfl, obQ⟩, ⟨_, rfl⟩, rfl, pstQ⟩
  by_cases hlt : k < s.length
  · obtain ⟨ad, rfl⟩ := hr.some (by simp; omega)
    have hfd := smp_dropL hlt
    repeat' (first
 | (refine C_id ?_; first
 | refine C_seq ?_
 | refine C_region rfl ?_
 | refine C_block ?_
 | refine C_skip ?_
 | refine C_exit ?_
 | refine C_ret0 ?_
 | refine C_condT rfl obQ ?_
 | refine C_condF rfl obQ ?_
 | (refine C_cond rfl obQ (fun h => ?_) (fun h => ?_) <;> (try simp only [Bool.or_eq_true, Bool.and_eq_true, Bool.or_eq_false_iff, Bool.and_eq_false_iff, decide_eq_true_eq, decide_eq_false_iff_not, beq_iff_eq, bne_iff_ne, beq_eq_false_iff_ne, bne_eq_false_iff_eq, ne_eq, Decidable.not_not, List.cons.injEq, and_true, Bool.not_eq_true', Bool.not_eq_false', Int.not_lt, Int.not_le] at h) <;> (try (exfalso; omega)))
     )
 | (refine S_id ?_; first
 | refine S_load rfl obQ rfl [.float .f32 (gB s k)] (.past _ memQ _ _ hr.toS _ _ rfl rfl (gB_idx hlt)) rfl (.inr ⟨rfl, rfl⟩) ?_
 | refine S_nil ?_
 | refine S_run rfl rfl obQ obQ ?_
 | refine S_call (f := 101) rfl obQ (by kernel_rfl) (fun w hw => rCheckSample_c _ w) ?_
     )
 | (refine G_id ?_; first
 | refine G_loop (k + 1) ?_ (by omega) ⟨⟨_, rfl, obQ⟩, ⟨_, rfl⟩, rfl, pstQ⟩
 | refine G_then ?_
 | refine G_block ?_
 | refine G_blockX ?_
 | refine G_blockN rfl ?_
 | refine G_blockR ?_
 | refine G_thenR ?_
 | refine G_thenX ?_
 | refine G_ret rfl obQ (fun w hw => ⟨?_, hw.below⟩)
     )
     )
    · rw [hk.2, hfd, if_neg h]
    · exact ⟨by omega, by rw [hk.2, hfd, if_pos h]⟩
  · repeat' (first
 | (refine C_id ?_; first
 | refine C_seq ?_
 | refine C_region rfl ?_
 | refine C_exit ?_
 | refine C_ret0 ?_
 | (refine C_cond rfl obQ (fun h => ?_) (fun h => ?_) <;> (try simp only [Bool.or_eq_true, Bool.and_eq_true, Bool.or_eq_false_iff, Bool.and_eq_false_iff, decide_eq_true_eq, decide_eq_false_iff_not, beq_iff_eq, bne_iff_ne, beq_eq_false_iff_ne, bne_eq_false_iff_eq, ne_eq, Decidable.not_not, List.cons.injEq, and_true, Bool.not_eq_true', Bool.not_eq_false', Int.not_lt, Int.not_le] at h) <;> (try (exfalso; omega)))
     )
 | (refine S_id ?_; first
 | refine S_nil ?_
 | refine S_run rfl rfl obQ obQ ?_
     )
 | (refine G_id ?_; first
 | refine G_then ?_
 | refine G_blockX ?_
 | refine G_thenX ?_
 | refine G_ret rfl obQ (fun w hw => ⟨?_, hw.below⟩)
     )
     )
    rw [hk.2, List.drop_of_length_le (by simp; omega)]
    rfl

set_option maxHeartbeats 400000 in
/-- genlockref02.CheckSound -/
theorem rCheckSound_c (A : Option Addr) (c : Nat) (s : List Nat) (hs : s.length ≤ 1000000) (w : World) (hr : Rd w A (s.map (.float .f32))) : Calls Tryz.prog 79 #[.slice A s.length c] w fun r w' => r = .returned (.int .i64 (ssE s)) ∧ Below w.heap.size w w' := by
  refine calls_of (args := [.slice A s.length c]) T_ok Tryz.func79 rfl Tryz.ntmps79 (Nat.le_of_ble_eq_true rfl) rfl ?_
  repeat' (first
 | (refine C_id ?_; first
 | refine C_seq ?_
 | refine C_region rfl ?_
 | refine C_block ?_
 | refine C_skip ?_
 | refine C_exit ?_
 | refine C_ret0 ?_
 | refine C_condT rfl obQ ?_
 | refine C_condF rfl obQ ?_
 | (refine C_cond rfl obQ (fun h => ?_) (fun h => ?_) <;> (try simp only [Bool.or_eq_true, Bool.and_eq_true, Bool.or_eq_false_iff, Bool.and_eq_false_iff, decide_eq_true_eq, decide_eq_false_iff_not, beq_iff_eq, bne_iff_ne, beq_eq_false_iff_ne, bne_eq_false_iff_eq, ne_eq, Decidable.not_not, List.cons.injEq, and_true, Bool.not_eq_true', Bool.not_eq_false', Int.not_lt, Int.not_le] at h))
 )
 | (refine S_id ?_; first
 | refine S_nil ?_
 | refine S_run rfl rfl obQ obQ ?_
 | refine S_call (f := 155) rfl obQ (by kernel_rfl) (fun w hw => rCheckSamples_c A c s hs w (hw.rdm hr.toS memQ)) ?_
 )
 | (refine G_id ?_; first
 | refine G_then ?_
 | refine G_block ?_
 | refine G_blockX ?_
 | refine G_blockN rfl ?_
 | refine G_blockR ?_
 | refine G_thenR ?_
 | refine G_thenX ?_
 | refine G_ret rfl obQ (fun w hw => ⟨?_, hw.below⟩)
 )
 )
  · exact rI (show (5 : Int) = ssE s from (if_pos (by omega)).symm)
  · exact rI (show firstL (s.map smpE) = ssE s from (if_neg (by omega)).symm)

set_option maxHeartbeats 400000 in
/-- genlockref02.CheckTaps -/
theorem rCheckTaps_c (A : Option Addr) (c : Nat) (t : List Int) (ht : t.length ≤ 1000000) (w : World) (hr : Rd w A (t.map (.int .i64))) : Calls Tryz.prog 80 #[.slice A t.length c] w fun r w' => r = .returned (.int .i64 (ttE t)) ∧ Below w.heap.size w w' := by
  refine calls_of (args := [.slice A t.length c]) T_ok Tryz.func80 rfl Tryz.ntmps80 (Nat.le_of_ble_eq_true rfl) rfl ?_
  repeat' (first
 | (refine C_id ?_; first
 | refine C_seq ?_
 | refine C_region rfl ?_
 | refine C_block ?_
 | refine C_skip ?_
 | refine C_ret0 ?_
 | (refine C_cond rfl obQ (fun h => ?_) (fun h => ?_) <;> (try simp only [Bool.or_eq_true, Bool.and_eq_true, Bool.or_eq_false_iff, Bool.and_eq_false_iff, decide_eq_true_eq, decide_eq_false_iff_not, beq_iff_eq, bne_iff_ne, beq_eq_false_iff_ne, bne_eq_false_iff_eq, ne_eq, Decidable.not_not, List.cons.injEq, and_true, Bool.not_eq_true', Bool.not_eq_false', Int.not_lt, Int.not_le] at h))
 )
 | (refine S_id ?_; first
 | refine S_nil ?_
 | refine S_run rfl rfl obQ obQ ?_
 )
 | (refine G_id ?_; first
 | refine G_then ?_
 | refine G_thenR ?_
 | refine G_ret rfl obQ (fun w hw => ⟨?_, hw.below⟩)
 )
 )
  · exact rI (show (12 : Int) = ttE t from (if_pos (by omega)).symm)
  · exact rI (show (5 : Int) = ttE t by unfold ttE; rw [if_neg (by omega), if_pos (by omega)])
  have hP : ttE t = firstL (t.map fun n => wi n (-100) 100) := by unfold ttE; rw [if_neg (by omega), if_neg (by omega)]
  refine C_loopS (fun k : Nat => ⟨[(3, .s (.v (.int .i64 k))), (0, .s (.v (.slice A t.length c)))], [], []⟩) (fun k => k ≤ t.length ∧ ttE t = firstL ((t.map fun n => wi n (-100) 100).drop k)) (fun k => t.length - k) 0 ⟨Nat.zero_le _, hP⟩ ?_ (fun k hk => ?_)
  · exact ⟨⟨_, rfl, obQ⟩, ⟨_, rfl⟩, rfl, pstQ⟩
  by_cases hlt : k < t.length
  · obtain ⟨ad, rfl⟩ := hr.some (by simp; omega)
    have hfd := firstL_drop (es := t.map fun n => wi n (-100) 100) (k := k) (by simpa using hlt)
    rw [List.getElem_map, ← gI_at hlt] at hfd
    repeat' (first
 | (refine C_id ?_; first
 | refine C_seq ?_
 | refine C_region rfl ?_
 | refine C_block ?_
 | refine C_skip ?_
 | refine C_exit ?_
 | refine C_ret0 ?_
 | refine C_condT rfl obQ ?_
 | refine C_condF rfl obQ ?_
 | (refine C_cond rfl obQ (fun h => ?_) (fun h => ?_) <;> (try simp only [Bool.or_eq_true, Bool.and_eq_true, Bool.or_eq_false_iff, Bool.and_eq_false_iff, decide_eq_true_eq, decide_eq_false_iff_not, beq_iff_eq, bne_iff_ne, beq_eq_false_iff_ne, bne_eq_false_iff_eq, ne_eq, Decidable.not_not, List.cons.injEq, and_true, Bool.not_eq_true', Bool.not_eq_false', Int.not_lt, Int.not_le] at h) <;> (try (exfalso; omega)))
     )
 | (refine S_id ?_; first
 | refine S_load rfl obQ rfl [.int .i64 (gI t k)] (.past _ memQ _ _ hr.toS _ _ rfl rfl (gI_idxZ (k := k) rfl hlt)) rfl (.inr ⟨rfl, rfl⟩) ?_
 | refine S_nil ?_
 | refine S_run rfl rfl obQ obQ ?_
 | refine S_call (f := 29) rfl obQ (by kernel_rfl) (fun w hw => rRange_c _ _ _ w) ?_
     )
 | (refine G_id ?_; first
 | refine G_loop (k + 1) ?_ (by omega) ⟨⟨_, rfl, obQ⟩, ⟨_, rfl⟩, rfl, pstQ⟩
 | refine G_then ?_
 | refine G_block ?_
 | refine G_blockX ?_
 | refine G_blockN rfl ?_
 | refine G_blockR ?_
 | refine G_thenR ?_
 | refine G_thenX ?_
 | refine G_ret rfl obQ (fun w hw => ⟨?_, hw.below⟩)
     )
     )
    · exact rI (by rw [hk.2, hfd, if_neg h])
    · exact ⟨by omega, by rw [hk.2, hfd, if_pos h]⟩
  · repeat' (first
 | (refine C_id ?_; first
 | refine C_seq ?_
 | refine C_region rfl ?_
 | refine C_exit ?_
 | refine C_ret0 ?_
 | (refine C_cond rfl obQ (fun h => ?_) (fun h => ?_) <;> (try simp only [Bool.or_eq_true, Bool.and_eq_true, Bool.or_eq_false_iff, Bool.and_eq_false_iff, decide_eq_true_eq, decide_eq_false_iff_not, beq_iff_eq, bne_iff_ne, beq_eq_false_iff_ne, bne_eq_false_iff_eq, ne_eq, Decidable.not_not, List.cons.injEq, and_true, Bool.not_eq_true', Bool.not_eq_false', Int.not_lt, Int.not_le] at h) <;> (try (exfalso; omega)))
     )
 | (refine S_id ?_; first
 | refine S_nil ?_
 | refine S_run rfl rfl obQ obQ ?_
     )
 | (refine G_id ?_; first
 | refine G_then ?_
 | refine G_blockX ?_
 | refine G_thenX ?_
 | refine G_ret rfl obQ (fun w hw => ⟨?_, hw.below⟩)
     )
     )
    exact rI (by rw [hk.2, List.drop_of_length_le (by simp; omega)]; rfl)

set_option maxHeartbeats 400000 in
/-- genlockref02.ShortSound -/
theorem rShortSound_c (A : Option Addr) (n c : Nat) (v : Bool) (hv : (decide ((n : Int) ≤ 40) || ((n : Int) == 4097)) = v) (w : World) : Calls Tryz.prog 75 #[.slice A n c] w fun r w' => r = .returned (.bool v) ∧ Below w.heap.size w w' := by
  refine calls_of (args := [.slice A n c]) T_ok Tryz.func75 rfl Tryz.ntmps75 (Nat.le_of_ble_eq_true rfl) rfl ?_
  repeat' (first
 | (refine C_id ?_; first
 | refine C_seq ?_
 | refine C_region rfl ?_
 | refine C_block ?_
 | refine C_skip ?_
 | refine C_ret0 ?_
 | (refine C_cond rfl obQ (fun h => ?_) (fun h => ?_) <;> (try simp only [Bool.or_eq_true, Bool.and_eq_true, Bool.or_eq_false_iff, Bool.and_eq_false_iff, decide_eq_true_eq, decide_eq_false_iff_not, beq_iff_eq, bne_iff_ne, beq_eq_false_iff_ne, bne_eq_false_iff_eq, ne_eq, Decidable.not_not, List.cons.injEq, and_true, Bool.not_eq_true', Bool.not_eq_false', Int.not_lt, Int.not_le] at h))
 )
 | (refine S_id ?_; first
 | refine S_nil ?_
 | refine S_run rfl rfl obQ obQ ?_
 )
 | (refine G_id ?_; first
 | refine G_then ?_
 | refine G_thenR ?_
 | refine G_ret rfl obQ (fun w hw => ⟨?_, hw.below⟩)
 )
 )
  subst hv; rfl

set_option maxHeartbeats 400000 in
/-- genlockref02.ShortTaps -/
theorem rShortTaps_c (A : Option Addr) (n c : Nat) (v : Bool) (hv : decide ((n : Int) ≤ 9) = v) (w : World) : Calls Tryz.prog 76 #[.slice A n c] w fun r w' => r = .returned (.bool v) ∧ Below w.heap.size w w' := by
  refine calls_of (args := [.slice A n c]) T_ok Tryz.func76 rfl Tryz.ntmps76 (Nat.le_of_ble_eq_true rfl) rfl ?_
  repeat' (first
 | (refine C_id ?_; first
 | refine C_seq ?_
 | refine C_region rfl ?_
 | refine C_block ?_
 | refine C_skip ?_
 | refine C_ret0 ?_
 | (refine C_cond rfl obQ (fun h => ?_) (fun h => ?_) <;> (try simp only [Bool.or_eq_true, Bool.and_eq_true, Bool.or_eq_false_iff, Bool.and_eq_false_iff, decide_eq_true_eq, decide_eq_false_iff_not, beq_iff_eq, bne_iff_ne, beq_eq_false_iff_ne, bne_eq_false_iff_eq, ne_eq, Decidable.not_not, List.cons.injEq, and_true, Bool.not_eq_true', Bool.not_eq_false', Int.not_lt, Int.not_le] at h))
 )
 | (refine S_id ?_; first
 | refine S_nil ?_
 | refine S_run rfl rfl obQ obQ ?_
 )
 | (refine G_id ?_; first
 | refine G_then ?_
 | refine G_thenR ?_
 | refine G_ret rfl obQ (fun w hw => ⟨?_, hw.below⟩)
 )
 )
  subst hv; rfl

theorem lt_range (q : Nat) : ∀ c, q ≤ c → (List.range c).filter (fun m => decide (m < q)) = List.range q
  | 0, h => by
    obtain rfl : q = 0 := by omega
    rfl
  | c + 1, h => by
    rw [List.range_succ, List.filter_append]
    by_cases hc : c < q
    · obtain rfl : q = c + 1 := by omega
      have : (List.range c).filter (fun m => decide (m < c + 1)) = List.range c := by
        rw [List.filter_eq_self]
        intro a ha
        have := List.mem_range.1 ha
        exact decide_eq_true (by omega)
      rw [this]
      simp [List.range_succ]
    · rw [lt_range q c (by omega)]
      simp [hc]
/-- The sums of the first whole blocks. -/
def lsK (s : List Nat) (t : List Int) (blk m : Nat) : List Int := (List.range m).map fun i => pS (sqI s t) (i * blk) blk
theorem lsK_len (s : List Nat) (t : List Int) (blk m : Nat) : (lsK s t blk m).length = m := by simp [lsK]
theorem lsK_succ (s : List Nat) (t : List Int) (blk m : Nat) : lsK s t blk (m + 1) = lsK s t blk m ++ [pS (sqI s t) (m * blk) blk] := by
  unfold lsK
  rw [List.range_succ, List.map_append]
  rfl
theorem whole_lt {N blk m : Nat} (hb : 0 < blk) : m < N / blk ↔ m * blk + blk ≤ N := by
  have : m < N / blk ↔ (m + 1) * blk ≤ N := Nat.le_div_iff_mul_le hb
  rw [this, Nat.succ_mul]
theorem lsR_eq (s : List Nat) (t : List Int) {blk : Nat} (hb : 0 < blk) : lsR s t blk = lsK s t blk (s.length / blk) := by
  unfold lsR lsF lsK chL
  rw [sq_len]
  congr 1
  have e : ∀ m, fuB s.length blk m = decide (m < s.length / blk) := fun m => by
    unfold fuB chM
    refine decide_eq_decide.2 ?_
    rw [whole_lt hb]
    omega
  rw [List.filter_congr (fun m _ => e m)]
  refine lt_range _ _ ?_
  unfold chN
  exact Nat.div_le_div_right (by omega)
theorem cv_stop {s : List Nat} {t : List Int} {k : Nat} : ∀ (d j : Nat), k < j → cv s t k (j + d) = cv s t k j
  | 0, j, h => rfl
  | d + 1, j, h => by
    rw [← Nat.add_assoc, cv_2 (by omega), cv_stop d j h]
theorem sq_gI {s : List Nat} {t : List Int} {k : Nat} (h : k < s.length) : gI (sqI s t) k = sqN s t k := by
  rw [gI_at (by rw [sq_len]; exact h)]
  simp [sqI]

set_option maxHeartbeats 2000000 in
/-- genlockref02.Loudness -/
theorem rLoudness_c (A : Option Addr) (c : Nat) (s : List Nat) (A2 : Option Addr) (c2 : Nat) (t : List Int) (blk : Nat) (hSD : SdOk s t blk) (w : World) (hr : Rd w A (s.map (.float .f32))) (hr2 : Rd w A2 (t.map (.int .i64))) : Calls Tryz.prog 81 #[.slice A s.length c, .slice A2 t.length c2, .int .i64 blk] w fun r w' => ∃ v, r = .returned v ∧ Below w.heap.size w w' ∧ Sl w w' v (lsR s t blk).length ((lsR s t blk).map (.int .i64)) := by
  refine calls_of (args := [.slice A s.length c, .slice A2 t.length c2, .int .i64 blk]) T_ok Tryz.func81 rfl Tryz.ntmps81 (Nat.le_of_ble_eq_true rfl) rfl ?_
  have hsn := hSD.n
  have hbb := hSD.b
  have hmm := hSD.m
  have hb0 : 0 < blk := by omega
  rw [lsR_eq s t hb0, lsK_len]
  have hq := Nat.div_le_self s.length blk
  repeat' (first
 | (refine C_id ?_; first
 | refine C_seq ?_
 | refine C_region rfl ?_
 | refine C_block ?_
 | refine C_skip ?_
 | refine C_exit ?_
 | refine C_ret0 ?_
 | refine C_draw (id := 13) rfl mixed (by kernel_rfl) ?_
 | refine C_condT rfl obQ ?_
 | refine C_condF rfl obQ ?_
 | (refine C_cond rfl obQ (fun h => ?_) (fun h => ?_) <;> (try simp only [Bool.or_eq_true, Bool.and_eq_true, Bool.or_eq_false_iff, Bool.and_eq_false_iff, decide_eq_true_eq, decide_eq_false_iff_not, beq_iff_eq, bne_iff_ne, beq_eq_false_iff_ne, bne_eq_false_iff_eq, ne_eq, Decidable.not_not, List.cons.injEq, and_true, Bool.not_eq_true', Bool.not_eq_false', Int.not_lt, Int.not_le] at h))
   )
 | (refine S_id ?_; first
 | refine S_nil ?_
 | refine S_run rfl rfl obQ obQ ?_
 | refine S_slice (fun b => ⟨_, _, rfl, obQ, ?_⟩)
   )
 | (refine D_id ?_; first
 | refine D_nil ?_
 | refine D_tail ?_
 | refine D_run rfl rfl obQ obQ ?_
   )
 | (refine G_id ?_; first
 | refine G_then ?_
 | refine G_block ?_
 | refine G_blockX ?_
 | refine G_blockN rfl ?_
 | refine G_blockR ?_
 | refine G_thenR ?_
 | refine G_thenX ?_
 | refine G_ret rfl obQ (fun w hw => ⟨?_, hw.below⟩)
   )
   )
  refine C_row0 7 3 1 rfl ?_
  refine C_loopS (fun i : Nat × Option Addr × Nat => ⟨[(7, .s (.r i.2.1 i.1 i.2.2 0)), (8, .s (.v (.int .i64 ((i.1 * blk : Nat) : Int)))), (0, .s (.v (.slice A s.length c))), (1, .s (.v (.slice A2 t.length c2))), (2, .s (.v (.int .i64 blk)))], [], [⟨3, 1, i.1, (lsK s t blk i.1).map (.int .i64), .slice i.2.1 i.1 i.2.2⟩]⟩) (fun i => i.1 ≤ s.length / blk) (fun i => s.length / blk - i.1) (0, none, 0) (Nat.zero_le _) ?_ (fun i hi => ?_)
  · dsimp only
    rw [Nat.zero_mul]
    exact ⟨⟨_, rfl, obQ⟩, ⟨_, rfl⟩, rfl, pstQ⟩
  obtain ⟨m, A3, c3⟩ := i
  have hm : m ≤ s.length / blk := hi
  dsimp only
  by_cases hml : m < s.length / blk
  · have hmb := (whole_lt hb0).1 hml
    obtain ⟨ad, rfl⟩ := hr.some (by simp; omega)
    obtain ⟨ad2, rfl⟩ := hr2.some (by simp; omega)
    have hmb2 : m * blk + blk = (m + 1) * blk := (Nat.succ_mul m blk).symm
    have hls := lsK_succ s t blk m
    repeat' (first
 | (refine C_id ?_; first
 | refine C_seq ?_
 | refine C_region rfl ?_
 | refine C_block ?_
 | refine C_skip ?_
 | refine C_exit ?_
 | refine C_ret0 ?_
 | refine C_draw (id := 13) rfl mixed (by kernel_rfl) ?_
 | refine C_condT rfl obQ ?_
 | refine C_condF rfl obQ ?_
 | (refine C_cond rfl obQ (fun h => ?_) (fun h => ?_) <;> (try simp only [Bool.or_eq_true, Bool.and_eq_true, Bool.or_eq_false_iff, Bool.and_eq_false_iff, decide_eq_true_eq, decide_eq_false_iff_not, beq_iff_eq, bne_iff_ne, beq_eq_false_iff_ne, bne_eq_false_iff_eq, ne_eq, Decidable.not_not, List.cons.injEq, and_true, Bool.not_eq_true', Bool.not_eq_false', Int.not_lt, Int.not_le] at h) <;> (try (exfalso; omega)) <;> (try (exfalso; simp at h; done)) <;> (try (exfalso; simp only [not_true_eq_false, false_or, or_false] at h; omega)) <;> (try (exfalso; omega)))
     )
 | (refine S_id ?_; first
 | refine S_nil ?_
 | refine S_run rfl rfl obQ obQ ?_
 | refine S_slice (fun b => ⟨_, _, rfl, obQ, ?_⟩)
     )
 | (refine D_id ?_; first
 | refine D_nil ?_
 | refine D_tail ?_
 | refine D_run rfl rfl obQ obQ ?_
     )
 | (refine G_id ?_; first
 | refine G_then ?_
 | refine G_block ?_
 | refine G_blockX ?_
 | refine G_blockN rfl ?_
 | refine G_blockR ?_
 | refine G_thenR ?_
 | refine G_thenX ?_
 | refine G_ret rfl obQ (fun w hw => ⟨?_, hw.below⟩)
     )
     )
    refine C_loopS (fun i : Nat => ⟨[(10, .s (.v (.int .i64 ((m * blk + i : Nat) : Int)))), (9, .s (.v (.int .i64 (pS (sqI s t) (m * blk) i)))), (7, .s (.r A3 m c3 0)), (8, .s (.v (.int .i64 ((m * blk : Nat) : Int)))), (0, .s (.v (.slice (some ad) s.length c))), (1, .s (.v (.slice (some ad2) t.length c2))), (2, .s (.v (.int .i64 blk)))], [], [⟨3, 1, m, (lsK s t blk m).map (.int .i64), .slice A3 m c3⟩]⟩) (fun i => i ≤ blk) (fun i => blk - i) 0 (Nat.zero_le _) ?_ (fun i hi0 => ?_)
    · exact ⟨⟨_, rfl, obQ⟩, ⟨_, rfl⟩, rfl, pstQ⟩
    have hi : i ≤ blk := hi0
    have hpb := pS_bd (sq_bd hSD) (p := m * blk) (n := i) (by rw [sq_len]; omega)
    by_cases hil : i < blk
    · have hps := pS_step (L := sqI s t) (p := m * blk) (n := i) (by rw [sq_len]; omega)
      rw [sq_gI (show m * blk + i < s.length by omega)] at hps
      repeat' (first
 | (refine C_id ?_; first
 | refine C_seq ?_
 | refine C_region rfl ?_
 | refine C_block ?_
 | refine C_skip ?_
 | refine C_exit ?_
 | refine C_ret0 ?_
 | refine C_draw (id := 13) rfl mixed (by kernel_rfl) ?_
 | refine C_condT rfl obQ ?_
 | refine C_condF rfl obQ ?_
 | (refine C_cond rfl obQ (fun h => ?_) (fun h => ?_) <;> (try simp only [Bool.or_eq_true, Bool.and_eq_true, Bool.or_eq_false_iff, Bool.and_eq_false_iff, decide_eq_true_eq, decide_eq_false_iff_not, beq_iff_eq, bne_iff_ne, beq_eq_false_iff_ne, bne_eq_false_iff_eq, ne_eq, Decidable.not_not, List.cons.injEq, and_true, Bool.not_eq_true', Bool.not_eq_false', Int.not_lt, Int.not_le] at h) <;> (try (exfalso; omega)) <;> (try (exfalso; simp at h; done)) <;> (try (exfalso; simp only [not_true_eq_false, false_or, or_false] at h; omega)) <;> (try (exfalso; omega)))
       )
 | (refine S_id ?_; first
 | refine S_nil ?_
 | refine S_run rfl rfl obQ obQ ?_
 | refine S_slice (fun b => ⟨_, _, rfl, obQ, ?_⟩)
       )
 | (refine D_id ?_; first
 | refine D_nil ?_
 | refine D_tail ?_
 | refine D_run rfl rfl obQ obQ ?_
       )
 | (refine G_id ?_; first
 | refine G_then ?_
 | refine G_block ?_
 | refine G_blockX ?_
 | refine G_blockN rfl ?_
 | refine G_blockR ?_
 | refine G_thenR ?_
 | refine G_thenX ?_
 | refine G_ret rfl obQ (fun w hw => ⟨?_, hw.below⟩)
       )
       )
      refine C_loopS (fun j : Nat => ⟨[(12, .s (.v (.int .i64 j))), (11, .s (.v (.int .i64 (cv s t (m * blk + i) j)))), (10, .s (.v (.int .i64 ((m * blk + i : Nat) : Int)))), (9, .s (.v (.int .i64 (pS (sqI s t) (m * blk) i)))), (7, .s (.r A3 m c3 0)), (8, .s (.v (.int .i64 ((m * blk : Nat) : Int)))), (0, .s (.v (.slice (some ad) s.length c))), (1, .s (.v (.slice (some ad2) t.length c2))), (2, .s (.v (.int .i64 blk)))], [], [⟨3, 1, m, (lsK s t blk m).map (.int .i64), .slice A3 m c3⟩]⟩) (fun j => j ≤ t.length ∧ j ≤ m * blk + i + 1) (fun j => t.length - j) 0 ⟨Nat.zero_le _, Nat.zero_le _⟩ ?_ (fun j hj0 => ?_)
      · exact ⟨⟨_, rfl, obQ⟩, ⟨_, rfl⟩, rfl, pstQ⟩
      obtain ⟨hj1, hj2⟩ := hj0
      have hcb := cv_bd hSD (show m * blk + i < s.length by omega) hj1
      by_cases hj : j < t.length ∧ j ≤ m * blk + i
      · have hsm := hSD.s _ (gB_mem (l := s) (k := m * blk + i - j) (by omega))
        have hml2 := mul_ab (hSD.t _ (gI_mem (l := t) (k := j) (by omega))) hsm.lv
        have hc1 := cv_1 (s := s) (t := t) hj.2
        repeat' (first
 | (refine C_id ?_; first
 | refine C_seq ?_
 | refine C_region rfl ?_
 | refine C_block ?_
 | refine C_skip ?_
 | refine C_exit ?_
 | refine C_ret0 ?_
 | refine C_draw (id := 13) rfl mixed (by kernel_rfl) ?_
 | refine C_condT rfl obQ ?_
 | refine C_condF rfl obQ ?_
 | (refine C_cond rfl obQ (fun h => ?_) (fun h => ?_) <;> (try simp only [Bool.or_eq_true, Bool.and_eq_true, Bool.or_eq_false_iff, Bool.and_eq_false_iff, decide_eq_true_eq, decide_eq_false_iff_not, beq_iff_eq, bne_iff_ne, beq_eq_false_iff_ne, bne_eq_false_iff_eq, ne_eq, Decidable.not_not, List.cons.injEq, and_true, Bool.not_eq_true', Bool.not_eq_false', Int.not_lt, Int.not_le] at h) <;> (try (exfalso; omega)) <;> (try (exfalso; simp at h; done)) <;> (try (exfalso; simp only [not_true_eq_false, false_or, or_false] at h; omega)) <;> (try (exfalso; omega)))
         )
 | (refine S_id ?_; first
 | refine S_nil ?_
 | refine S_run rfl rfl obQ obQ ?_
 | refine S_slice (fun b => ⟨_, _, rfl, obQ, ?_⟩)
 | refine S_call (f := 98) rfl obQ (by kernel_rfl) (fun w hw => sixteenths_c (gB s (m * blk + i - j)) hsm.fin hsm.bd w) ?_
         )
 | (refine D_id ?_; first
 | refine D_load rfl obQ rfl [.int .i64 (gI t j)] (.past _ memQ _ _ hr2.toS _ _ rfl rfl (gI_idxZ (k := j) rfl hj.1)) rfl (.inr ⟨rfl, rfl⟩) ?_
 | refine D_load rfl obQ rfl [.float .f32 (gB s (m * blk + i - j))] (.past _ memQ _ _ hr.toS _ _ rfl rfl (gB_idxZ (k := m * blk + i - j) (by omega) (by omega))) rfl (.inr ⟨rfl, rfl⟩) ?_
 | refine D_nil ?_
 | refine D_tail ?_
 | refine D_run rfl rfl obQ obQ ?_
 | refine D_call (f := 98) rfl obQ (by kernel_rfl) (fun w hw => sixteenths_c (gB s (m * blk + i - j)) hsm.fin hsm.bd w) ?_
         )
 | (refine G_id ?_; first
 | refine G_loop (j + 1) (show j + 1 ≤ t.length ∧ j + 1 ≤ m * blk + i + 1 by omega) (by show t.length - (j + 1) < t.length - j; omega) (by rw [hc1]; exact ⟨⟨_, rfl, obQ⟩, ⟨_, rfl⟩, rfl, pstQ⟩)
 | refine G_then ?_
 | refine G_block ?_
 | refine G_blockX ?_
 | refine G_blockN rfl ?_
 | refine G_blockR ?_
 | refine G_thenR ?_
 | refine G_thenX ?_
 | refine G_ret rfl obQ (fun w hw => ⟨?_, hw.below⟩)
         )
         )
      · have hend : cv s t (m * blk + i) t.length = cv s t (m * blk + i) j := by
          rcases Nat.lt_or_ge j t.length with g | g
          · obtain ⟨d, hd⟩ : ∃ d, t.length = j + d := ⟨t.length - j, by omega⟩
            rw [hd]
            exact cv_stop d j (by omega)
          · obtain rfl : j = t.length := by omega
            rfl
        have hsq := mul_ab (a := cv s t (m * blk + i) j) (x := cv s t (m * blk + i) j) (A := 13107200) (X := 13107200) (by omega) (by omega)
        unfold sqN at hps
        rw [hend] at hps
        repeat' (first
 | (refine C_id ?_; first
 | refine C_seq ?_
 | refine C_region rfl ?_
 | refine C_block ?_
 | refine C_skip ?_
 | refine C_exit ?_
 | refine C_ret0 ?_
 | refine C_draw (id := 13) rfl mixed (by kernel_rfl) ?_
 | refine C_condT rfl obQ ?_
 | refine C_condF rfl obQ ?_
 | (refine C_cond rfl obQ (fun h => ?_) (fun h => ?_) <;> (try simp only [Bool.or_eq_true, Bool.and_eq_true, Bool.or_eq_false_iff, Bool.and_eq_false_iff, decide_eq_true_eq, decide_eq_false_iff_not, beq_iff_eq, bne_iff_ne, beq_eq_false_iff_ne, bne_eq_false_iff_eq, ne_eq, Decidable.not_not, List.cons.injEq, and_true, Bool.not_eq_true', Bool.not_eq_false', Int.not_lt, Int.not_le] at h) <;> (try (exfalso; omega)) <;> (try (exfalso; simp at h; done)) <;> (try (exfalso; simp only [not_true_eq_false, false_or, or_false] at h; omega)) <;> (try (exfalso; omega)))
         )
 | (refine S_id ?_; first
 | refine S_nil ?_
 | refine S_run rfl rfl obQ obQ ?_
 | refine S_slice (fun b => ⟨_, _, rfl, obQ, ?_⟩)
         )
 | (refine D_id ?_; first
 | refine D_nil ?_
 | refine D_tail ?_
 | refine D_run rfl rfl obQ obQ ?_
         )
 | (refine G_id ?_; first
 | refine G_loop (i + 1) (show i + 1 ≤ blk by omega) (by show blk - (i + 1) < blk - i; omega) (by rw [hps]; exact ⟨⟨_, rfl, obQ⟩, ⟨_, rfl⟩, rfl, pstQ⟩)
 | refine G_then ?_
 | refine G_block ?_
 | refine G_blockX ?_
 | refine G_blockN rfl ?_
 | refine G_blockR ?_
 | refine G_thenR ?_
 | refine G_thenX ?_
 | refine G_ret rfl obQ (fun w hw => ⟨?_, hw.below⟩)
         )
         )
    · obtain rfl : i = blk := by omega
      repeat' (first
 | (refine C_id ?_; first
 | refine C_seq ?_
 | refine C_region rfl ?_
 | refine C_block ?_
 | refine C_skip ?_
 | refine C_exit ?_
 | refine C_ret0 ?_
 | refine C_draw (id := 13) rfl mixed (by kernel_rfl) ?_
 | refine C_condT rfl obQ ?_
 | refine C_condF rfl obQ ?_
 | (refine C_cond rfl obQ (fun h => ?_) (fun h => ?_) <;> (try simp only [Bool.or_eq_true, Bool.and_eq_true, Bool.or_eq_false_iff, Bool.and_eq_false_iff, decide_eq_true_eq, decide_eq_false_iff_not, beq_iff_eq, bne_iff_ne, beq_eq_false_iff_ne, bne_eq_false_iff_eq, ne_eq, Decidable.not_not, List.cons.injEq, and_true, Bool.not_eq_true', Bool.not_eq_false', Int.not_lt, Int.not_le] at h) <;> (try (exfalso; omega)) <;> (try (exfalso; simp at h; done)) <;> (try (exfalso; simp only [not_true_eq_false, false_or, or_false] at h; omega)) <;> (try (exfalso; omega)))
       )
 | (refine S_id ?_; first
 | refine S_append rfl obQ rfl rfl rfl ⟨by decide, rfl⟩ rfl ⟨rfl, rfl, rfl, rfl⟩ [.int .i64 (pS (sqI s t) (m * i) i)] ⟨by decide, rfl⟩ (by simp [Value.oneCell']) (fun w hw => by first | exact hw.src (i := 0) rfl rfl | exact hw.src (i := 1) rfl rfl | exact hw.src (i := 2) rfl rfl | exact hw.src (i := 3) rfl rfl | exact hw.src (i := 4) rfl rfl | exact hw.src (i := 5) rfl rfl | exact hw.src (i := 6) rfl rfl | exact hw.src (i := 7) rfl rfl | exact hw.src (i := 8) rfl rfl) (by unfold maxLen; dsimp only; omega) (fun gb cap' => ⟨_, rfl, ?_⟩)
 | refine S_nil ?_
 | refine S_run rfl rfl obQ obQ ?_
 | refine S_slice (fun b => ⟨_, _, rfl, obQ, ?_⟩)
       )
 | (refine D_id ?_; first
 | refine D_nil ?_
 | refine D_tail ?_
 | refine D_run rfl rfl obQ obQ ?_
       )
 | (refine G_id ?_; first
 | refine G_loop (m + 1, some ⟨gb, 0, none⟩, cap') (show m + 1 ≤ s.length / i by omega) (by show s.length / i - (m + 1) < s.length / i - m; omega) (by dsimp only; rw [hls, List.map_append, ← hmb2]; exact ⟨⟨_, rfl, obQ⟩, ⟨_, rfl⟩, rfl, pstQ⟩)
 | refine G_then ?_
 | refine G_block ?_
 | refine G_blockX ?_
 | refine G_blockN rfl ?_
 | refine G_blockR ?_
 | refine G_thenR ?_
 | refine G_thenX ?_
 | refine G_ret rfl obQ (fun w hw => ⟨?_, hw.below⟩)
       )
       )
  · obtain rfl : m = s.length / blk := by omega
    have hmb : ¬ (s.length / blk) * blk + blk ≤ s.length := fun h => hml ((whole_lt hb0).2 h)
    have hdm : (s.length / blk) * blk ≤ s.length := Nat.div_mul_le_self _ _
    repeat' (first
 | (refine C_id ?_; first
 | refine C_seq ?_
 | refine C_region rfl ?_
 | refine C_block ?_
 | refine C_skip ?_
 | refine C_exit ?_
 | refine C_ret0 ?_
 | refine C_draw (id := 13) rfl mixed (by kernel_rfl) ?_
 | refine C_condT rfl obQ ?_
 | refine C_condF rfl obQ ?_
 | (refine C_cond rfl obQ (fun h => ?_) (fun h => ?_) <;> (try simp only [Bool.or_eq_true, Bool.and_eq_true, Bool.or_eq_false_iff, Bool.and_eq_false_iff, decide_eq_true_eq, decide_eq_false_iff_not, beq_iff_eq, bne_iff_ne, beq_eq_false_iff_ne, bne_eq_false_iff_eq, ne_eq, Decidable.not_not, List.cons.injEq, and_true, Bool.not_eq_true', Bool.not_eq_false', Int.not_lt, Int.not_le] at h) <;> (try (exfalso; omega)) <;> (try (exfalso; simp at h; done)) <;> (try (exfalso; simp only [not_true_eq_false, false_or, or_false] at h; omega)) <;> (try (exfalso; omega)))
     )
 | (refine S_id ?_; first
 | refine S_nil ?_
 | refine S_run rfl rfl obQ obQ ?_
 | refine S_slice (fun b => ⟨_, _, rfl, obQ, ?_⟩)
     )
 | (refine D_id ?_; first
 | refine D_nil ?_
 | refine D_tail ?_
 | refine D_run rfl rfl obQ obQ ?_
     )
 | (refine G_id ?_; first
 | refine G_then ?_
 | refine G_block ?_
 | refine G_blockX ?_
 | refine G_blockN rfl ?_
 | refine G_blockR ?_
 | refine G_thenR ?_
 | refine G_thenX ?_
 | refine G_ret rfl obQ (fun w2 hw => ⟨_, rfl, hw.below, HW.rowSl (i := 0) hw rfl rfl rfl rfl⟩)
     )
     )

set_option maxHeartbeats 1000000 in
/-- genlockref02.Loud -/
theorem rLoud_c (A : Option Addr) (c : Nat) (L : List Int) (hL : L.length ≤ 1000000) (lim : Int) (w : World) (hr : Rd w A (L.map (.int .i64))) : Calls Tryz.prog 82 #[.slice A L.length c, .int .i64 lim] w fun r w' => ∃ v, r = .returned v ∧ Below w.heap.size w w' ∧ Sl w w' v (ldF L lim L.length).length (natC (ldF L lim L.length)) := by
  refine calls_of (args := [.slice A L.length c, .int .i64 lim]) T_ok Tryz.func82 rfl Tryz.ntmps82 (Nat.le_of_ble_eq_true rfl) rfl ?_
  repeat' (first
 | (refine C_id ?_; first
 | refine C_seq ?_
 | refine C_region rfl ?_
 | refine C_block ?_
   )
 | (refine S_id ?_; first
 | refine S_nil ?_
 | refine S_run rfl rfl obQ obQ ?_
   )
 | (refine G_id ?_; first
 | refine G_then ?_
   )
   )
  refine C_row0 5 3 1 rfl ?_
  refine C_loopS (fun i : Nat × Option Addr × Nat => ⟨[(5, .s (.r i.2.1 (ldF L lim i.1).length i.2.2 0)), (6, .s (.v (.int .i64 i.1))), (0, .s (.v (.slice A L.length c))), (1, .s (.v (.int .i64 lim)))], [], [⟨3, 1, (ldF L lim i.1).length, natC (ldF L lim i.1), .slice i.2.1 (ldF L lim i.1).length i.2.2⟩]⟩) (fun i => i.1 ≤ L.length) (fun i => L.length - i.1) (0, none, 0) (Nat.zero_le _) ?_ (fun i hi => ?_)
  · exact ⟨⟨_, rfl, obQ⟩, ⟨_, rfl⟩, rfl, pstQ⟩
  obtain ⟨k, A', c'⟩ := i
  have hi' : k ≤ L.length := hi
  dsimp only
  have hfl := ldF_len L lim k
  by_cases hlt : k < L.length
  · obtain ⟨ad, rfl⟩ := hr.some (by simp; omega)
    by_cases hc : lim < gI L k
    · have hsn := ldF_t hc
      repeat' (first
 | (refine C_id ?_; first
 | refine C_seq ?_
 | refine C_region rfl ?_
 | refine C_block ?_
 | refine C_skip ?_
 | refine C_exit ?_
 | refine C_ret0 ?_
 | refine C_condT rfl obQ ?_
 | refine C_condF rfl obQ ?_
 | (refine C_cond rfl obQ (fun h => ?_) (fun h => ?_) <;> (try simp only [Bool.or_eq_true, Bool.and_eq_true, Bool.or_eq_false_iff, Bool.and_eq_false_iff, decide_eq_true_eq, decide_eq_false_iff_not, beq_iff_eq, bne_iff_ne, beq_eq_false_iff_ne, bne_eq_false_iff_eq, ne_eq, Decidable.not_not, List.cons.injEq, and_true, Bool.not_eq_true', Bool.not_eq_false', Int.not_lt, Int.not_le] at h) <;> (try (exfalso; omega)) <;> (try (exfalso; simp at h; done)) <;> (try (exfalso; simp only [not_true_eq_false, false_or, or_false] at h; omega)) <;> (try (exfalso; omega)))
       )
 | (refine S_id ?_; first
 | refine S_load rfl obQ rfl [.int .i64 (gI L k)] (.past _ memQ _ _ hr.toS _ _ rfl rfl (gI_idxZ (k := k) rfl hlt)) rfl (.inr ⟨rfl, rfl⟩) ?_
 | refine S_append rfl obQ rfl rfl rfl ⟨by decide, rfl⟩ rfl ⟨rfl, rfl, rfl, rfl⟩ [.int .i64 (k : Int)] ⟨by decide, rfl⟩ (by simp [Value.oneCell']) (fun w hw => by first | exact hw.src (i := 0) rfl rfl | exact hw.src (i := 1) rfl rfl | exact hw.src (i := 2) rfl rfl | exact hw.src (i := 3) rfl rfl | exact hw.src (i := 4) rfl rfl | exact hw.src (i := 5) rfl rfl | exact hw.src (i := 6) rfl rfl | exact hw.src (i := 7) rfl rfl | exact hw.src (i := 8) rfl rfl) (by unfold maxLen; dsimp only; omega) (fun gb cap' => ⟨_, rfl, ?_⟩)
 | refine S_nil ?_
 | refine S_run rfl rfl obQ obQ ?_
 | refine S_slice (fun b => ⟨_, _, rfl, obQ, ?_⟩)
       )
 | (refine G_id ?_; first
 | refine G_loop (k + 1, some ⟨gb, 0, none⟩, cap') (show k + 1 ≤ L.length by omega) (by show L.length - (k + 1) < L.length - k; omega) (by dsimp only; rw [hsn, natC_snoc, List.length_append]; exact ⟨⟨_, rfl, obQ⟩, ⟨_, rfl⟩, rfl, pstQ⟩)
 | refine G_then ?_
 | refine G_block ?_
 | refine G_blockX ?_
 | refine G_blockN rfl ?_
 | refine G_blockR ?_
 | refine G_thenR ?_
 | refine G_thenX ?_
 | refine G_ret rfl obQ (fun w hw => ⟨?_, hw.below⟩)
       )
       )
    · have hsn := ldF_f hc
      repeat' (first
 | (refine C_id ?_; first
 | refine C_seq ?_
 | refine C_region rfl ?_
 | refine C_block ?_
 | refine C_skip ?_
 | refine C_exit ?_
 | refine C_ret0 ?_
 | refine C_condT rfl obQ ?_
 | refine C_condF rfl obQ ?_
 | (refine C_cond rfl obQ (fun h => ?_) (fun h => ?_) <;> (try simp only [Bool.or_eq_true, Bool.and_eq_true, Bool.or_eq_false_iff, Bool.and_eq_false_iff, decide_eq_true_eq, decide_eq_false_iff_not, beq_iff_eq, bne_iff_ne, beq_eq_false_iff_ne, bne_eq_false_iff_eq, ne_eq, Decidable.not_not, List.cons.injEq, and_true, Bool.not_eq_true', Bool.not_eq_false', Int.not_lt, Int.not_le] at h) <;> (try (exfalso; omega)) <;> (try (exfalso; simp at h; done)) <;> (try (exfalso; simp only [not_true_eq_false, false_or, or_false] at h; omega)) <;> (try (exfalso; omega)))
       )
 | (refine S_id ?_; first
 | refine S_load rfl obQ rfl [.int .i64 (gI L k)] (.past _ memQ _ _ hr.toS _ _ rfl rfl (gI_idxZ (k := k) rfl hlt)) rfl (.inr ⟨rfl, rfl⟩) ?_
 | refine S_nil ?_
 | refine S_run rfl rfl obQ obQ ?_
 | refine S_slice (fun b => ⟨_, _, rfl, obQ, ?_⟩)
       )
 | (refine G_id ?_; first
 | refine G_loop (k + 1, A', c') (show k + 1 ≤ L.length by omega) (by show L.length - (k + 1) < L.length - k; omega) (by dsimp only; rw [hsn]; exact ⟨⟨_, rfl, obQ⟩, ⟨_, rfl⟩, rfl, pstQ⟩)
 | refine G_then ?_
 | refine G_block ?_
 | refine G_blockX ?_
 | refine G_blockN rfl ?_
 | refine G_blockR ?_
 | refine G_thenR ?_
 | refine G_thenX ?_
 | refine G_ret rfl obQ (fun w hw => ⟨?_, hw.below⟩)
       )
       )
  · obtain rfl : k = L.length := by omega
    repeat' (first
 | (refine C_id ?_; first
 | refine C_seq ?_
 | refine C_region rfl ?_
 | refine C_exit ?_
 | refine C_ret0 ?_
 | (refine C_cond rfl obQ (fun h => ?_) (fun h => ?_) <;> (try simp only [Bool.or_eq_true, Bool.and_eq_true, Bool.or_eq_false_iff, Bool.and_eq_false_iff, decide_eq_true_eq, decide_eq_false_iff_not, beq_iff_eq, bne_iff_ne, beq_eq_false_iff_ne, bne_eq_false_iff_eq, ne_eq, Decidable.not_not, List.cons.injEq, and_true, Bool.not_eq_true', Bool.not_eq_false', Int.not_lt, Int.not_le] at h) <;> (try (exfalso; omega)))
     )
 | (refine S_id ?_; first
 | refine S_nil ?_
 | refine S_run rfl rfl obQ obQ ?_
     )
 | (refine G_id ?_; first
 | refine G_then ?_
 | refine G_blockX ?_
 | refine G_thenX ?_
 | refine G_ret rfl obQ (fun w2 hw => ⟨_, rfl, hw.below, HW.rowSl (i := 0) hw rfl rfl rfl rfl⟩)
     )
     )

theorem sameI_c (A B : Option Addr) (c c2 : Nat) (xs : List Int) (n : Nat) (hn : xs.length = n) (hl : n ≤ 1000000) (w : World) (hr : Rd w A (xs.map (.int .i64))) (hr2 : Rd w B (xs.map (.int .i64))) : Calls Tryz.prog 84 #[.slice A n c, .slice B n c2] w fun r w' => r = .returned (.bool true) ∧ Below w.heap.size w w' := by
  subst hn
  have h := rSameInts_c A B c c2 xs xs hl hl w hr hr2
  rw [decide_eq_true (show xs = xs from rfl)] at h
  exact h

set_option maxHeartbeats 400000 in
/-- genlocklaw02.listed -/
theorem llisted_c (A B : Option Addr) (c c2 : Nat) (xs : List Int) (n : Nat) (hn : xs.length = n) (hl : n ≤ 1000000) (w : World) (hr : Rd w A (xs.map (.int .i64))) (hr2 : Rd w B (xs.map (.int .i64))) : Calls Tryz.prog 74 #[.slice A n c, .int .i64 0, .int .i64 0, .slice B n c2] w fun r w' => r = .returned (.bool true) ∧ Below w.heap.size w w' := by
  refine calls_of (args := [.slice A n c, .int .i64 0, .int .i64 0, .slice B n c2]) T_ok Tryz.func74 rfl Tryz.ntmps74 (Nat.le_of_ble_eq_true rfl) rfl ?_
  repeat' (first
 | (refine C_id ?_; first
 | refine C_seq ?_
 | refine C_region rfl ?_
 | refine C_skip ?_
 | refine C_ret0 ?_
 | refine C_condF rfl obQ ?_
 )
 | (refine S_id ?_; first
 | ((with_reducible refine S_trueA ?_ ?_ ?_); (· rfl); (· first | rfl | (first | exact beq_self_eq_true _ | rfl)))
 | refine S_unG rfl rfl rfl rfl ?_
 | refine S_nil ?_
 | refine S_runN rfl rfl obQ obQ ?_
 | refine S_call (f := 84) rfl obQ (by kernel_rfl) (fun w hw => sameI_c A B c c2 xs n hn hl w (hw.rdm hr.toS memQ) (hw.rdm hr2.toS memQ)) ?_
 )
 | (refine G_id ?_; first
 | refine G_then ?_
 | refine G_ret rfl obQ (fun w hw => ⟨?_, hw.below⟩)
 )
 )
  rfl

set_option maxHeartbeats 400000 in
/-- genlocklaw02.listed -/
theorem llistedE_c (e : Int) (he : ¬ e = 0) (A B : Option Addr) (c c2 n : Nat) (w : World) : Calls Tryz.prog 74 #[.slice A 0 c, .int .i64 e, .int .i64 e, .slice B n c2] w fun r w' => r = .returned (.bool true) ∧ Below w.heap.size w w' := by
  refine calls_of (args := [.slice A 0 c, .int .i64 e, .int .i64 e, .slice B n c2]) T_ok Tryz.func74 rfl Tryz.ntmps74 (Nat.le_of_ble_eq_true rfl) rfl ?_
  repeat' (first
 | (refine C_id ?_; first
 | refine C_seq ?_
 | refine C_region rfl ?_
 | refine C_ret0 ?_
 | (refine C_cond rfl obQ (fun h => ?_) (fun h => ?_) <;> (try simp only [Bool.or_eq_true, Bool.and_eq_true, Bool.or_eq_false_iff, Bool.and_eq_false_iff, decide_eq_true_eq, decide_eq_false_iff_not, beq_iff_eq, bne_iff_ne, beq_eq_false_iff_ne, bne_eq_false_iff_eq, ne_eq, Decidable.not_not, List.cons.injEq, and_true, Bool.not_eq_true', Bool.not_eq_false', Int.not_lt, Int.not_le] at h) <;> (try (exfalso; omega)) <;> (try (exfalso; simp at h; done)) <;> (try (exfalso; simp only [not_true_eq_false, false_or, or_false] at h; omega)) <;> (try contradiction))
 )
 | (refine S_id ?_; first
 | ((with_reducible refine S_trueA ?_ ?_ ?_); (· rfl); (· first | rfl | (first | exact beq_self_eq_true _ | rfl)))
 | refine S_unG rfl rfl rfl rfl ?_
 | refine S_nil ?_
 | refine S_runN rfl rfl obQ obQ ?_
 | refine S_call (f := 84) rfl obQ (by kernel_rfl) (fun w hw => sameI_c A none c 0 [] 0 rfl (Nat.zero_le _) w (.inl rfl) (.inl rfl)) ?_
 )
 | (refine G_id ?_; first
 | refine G_then ?_
 | refine G_ret rfl obQ (fun w hw => ⟨?_, hw.below⟩)
 )
 )
  rfl

end Go.Proofs.YtdbffbcobghbeaaGreatDoor
