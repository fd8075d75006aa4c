/- Curves: the reference, and what the laws convert. -/
import Derived.Test.YtedlaominconaaaColour4
import Derived.Test.YtedlaominconaaaEng4
namespace Go.Proofs.Ytedlaominconaaa
open Go.E Go.RowKit Go.Fl
attribute [local irreducible] G C S D DY DS V VT Yl QV QT Calls
set_option maxRecDepth 100000
set_option linter.unusedSimpArgs false
set_option linter.unusedVariables false

set_option maxHeartbeats 400000 in
/-- genlockref01.When -/
theorem rWhen_c (b : Bool) (e : Int) (w : World) : Calls Try.prog 95 #[.bool b, .int .i64 e] w fun r w' => r = .returned (.int .i64 (wh b e)) ∧ Below w.heap.size w w' := by
  refine calls_of (args := [.bool b, .int .i64 e]) T_ok Try.func95 rfl Try.ntmps95 (Nat.le_of_ble_eq_true rfl) rfl ?_
  repeat' (first
 | (refine C_id ?_; first
 | refine C_seq ?_
 | refine C_region rfl ?_
 | refine C_block ?_
 | refine C_skip ?_
 | refine C_ret0 ?_
 | (refine C_cond rfl obQ (fun h => ?_) (fun h => ?_) <;> (try simp only [Bool.or_eq_true, Bool.and_eq_true, Bool.or_eq_false_iff, Bool.and_eq_false_iff, decide_eq_true_eq, decide_eq_false_iff_not, beq_iff_eq, bne_iff_ne, beq_eq_false_iff_ne, bne_eq_false_iff_eq, ne_eq, Decidable.not_not, List.cons.injEq, and_true, Bool.not_eq_true', Bool.not_eq_false', Int.not_lt, Int.not_le] at h))
 )
 | (refine S_id ?_; first
 | refine S_nil ?_
 | refine S_run rfl rfl obQ obQ ?_
 )
 | (refine G_id ?_; first
 | refine G_then ?_
 | refine G_thenR ?_
 | refine G_ret rfl obQ (fun w hw => ⟨?_, hw.below⟩)
 )
 )
  all_goals simp [wh, h]

set_option maxHeartbeats 400000 in
/-- genlockref01.CheckRange -/
theorem rRange_c (n l m : Int) (w : World) : Calls Try.prog 53 #[.int .i64 n, .int .i64 l, .int .i64 m] w fun r w' => r = .returned (.int .i64 (wi n l m)) ∧ Below w.heap.size w w' := by
  refine calls_of (args := [.int .i64 n, .int .i64 l, .int .i64 m]) T_ok Try.func53 rfl Try.ntmps53 (Nat.le_of_ble_eq_true rfl) rfl ?_
  repeat' (first
 | (refine C_id ?_; first
 | refine C_seq ?_
 | refine C_region rfl ?_
 | refine C_ret0 ?_
 )
 | (refine S_id ?_; first
 | refine S_nil ?_
 | refine S_run rfl rfl obQ obQ ?_
 | refine S_call (f := 95) rfl obQ (by kernel_rfl) (fun w hw => rWhen_c _ _ _) ?_
 )
 | (refine G_id ?_; first
 | refine G_then ?_
 | refine G_ret rfl obQ (fun w hw => ⟨?_, hw.below⟩)
 )
 )
  simp [wi, wh]

set_option maxHeartbeats 400000 in
/-- genlockref01.First -/
theorem rFirst_c (A : Option Addr) (c : Nat) (es : List Int) (hl : es.length ≤ 1000000) (w : World) (hr : Rd w A (es.map (.int .i64))) : Calls Try.prog 41 #[.slice A es.length c] w fun r w' => r = .returned (.int .i64 (firstL es)) ∧ Below w.heap.size w w' := by
  refine calls_of (args := [.slice A es.length c]) T_ok Try.func41 rfl Try.ntmps41 (Nat.le_of_ble_eq_true rfl) rfl ?_
  repeat' (first
 | (refine C_id ?_; first
 | refine C_seq ?_
 | refine C_region rfl ?_
 | refine C_block ?_
 | refine C_skip ?_
 | refine C_ret0 ?_
 | (refine C_cond rfl obQ (fun h => ?_) (fun h => ?_) <;> (try simp only [Bool.or_eq_true, Bool.and_eq_true, Bool.or_eq_false_iff, Bool.and_eq_false_iff, decide_eq_true_eq, decide_eq_false_iff_not, beq_iff_eq, bne_iff_ne, beq_eq_false_iff_ne, bne_eq_false_iff_eq, ne_eq, Decidable.not_not, List.cons.injEq, and_true, Bool.not_eq_true', Bool.not_eq_false', Int.not_lt, Int.not_le] at h))
 )
 | (refine S_id ?_; first
 | refine S_nil ?_
 | refine S_run rfl rfl obQ obQ ?_
 )
 | (refine G_id ?_; first
 | refine G_then ?_
 | refine G_thenR ?_
 | refine G_ret rfl obQ (fun w hw => ⟨?_, hw.below⟩)
 )
 )
  refine C_loopS (fun k : Nat => ⟨[(3, .s (.v (.int .i64 k))), (2, .s (.v (.int .i64 0))), (0, .s (.v (.slice A es.length c)))], [], []⟩) (fun k => k ≤ es.length ∧ firstL es = firstL (es.drop k)) (fun k => es.length - k) 0 ⟨Nat.zero_le _, rfl⟩ ?_ (fun k hk => ?_)
  · exact ⟨⟨_, rfl, obQ⟩, ⟨_, rfl⟩, rfl, pstQ⟩
  by_cases hlt : k < es.length
  · obtain ⟨ad, rfl⟩ := hr.some (by simp; omega)
    have hfd := firstL_drop hlt
    repeat' (first
 | (refine C_id ?_; first
 | refine C_seq ?_
 | refine C_region rfl ?_
 | refine C_block ?_
 | refine C_skip ?_
 | refine C_ret0 ?_
 | (refine C_cond rfl obQ (fun h => ?_) (fun h => ?_) <;> (try simp only [Bool.or_eq_true, Bool.and_eq_true, Bool.or_eq_false_iff, Bool.and_eq_false_iff, decide_eq_true_eq, decide_eq_false_iff_not, beq_iff_eq, bne_iff_ne, beq_eq_false_iff_ne, bne_eq_false_iff_eq, ne_eq, Decidable.not_not, List.cons.injEq, and_true, Bool.not_eq_true', Bool.not_eq_false', Int.not_lt, Int.not_le] at h) <;> (try (exfalso; omega)))
     )
 | (refine S_id ?_; first
 | refine S_load rfl obQ rfl [.int .i64 es[k]] (.past _ memQ _ _ hr.toS _ _ rfl rfl (idx1 hlt)) rfl (.inr ⟨rfl, rfl⟩) ?_
 | refine S_nil ?_
 | refine S_run rfl rfl obQ obQ ?_
     )
 | (refine G_id ?_; first
 | refine G_loop (k + 1) ?_ (by omega) ⟨⟨_, rfl, obQ⟩, ⟨_, rfl⟩, rfl, pstQ⟩
 | refine G_then ?_
 | refine G_block ?_
 | refine G_blockR ?_
 | refine G_thenR ?_
 | refine G_ret rfl obQ (fun w hw => ⟨?_, hw.below⟩)
     )
     )
    · rw [hk.2, hfd, if_neg h]
    · exact ⟨by omega, by rw [hk.2, hfd, if_pos h]⟩
  · repeat' (first
 | (refine C_id ?_; first
 | refine C_seq ?_
 | refine C_region rfl ?_
 | refine C_exit ?_
 | refine C_ret0 ?_
 | (refine C_cond rfl obQ (fun h => ?_) (fun h => ?_) <;> (try simp only [Bool.or_eq_true, Bool.and_eq_true, Bool.or_eq_false_iff, Bool.and_eq_false_iff, decide_eq_true_eq, decide_eq_false_iff_not, beq_iff_eq, bne_iff_ne, beq_eq_false_iff_ne, bne_eq_false_iff_eq, ne_eq, Decidable.not_not, List.cons.injEq, and_true, Bool.not_eq_true', Bool.not_eq_false', Int.not_lt, Int.not_le] at h) <;> (try (exfalso; omega)))
     )
 | (refine S_id ?_; first
 | refine S_nil ?_
 | refine S_run rfl rfl obQ obQ ?_
     )
 | (refine G_id ?_; first
 | refine G_then ?_
 | refine G_blockX ?_
 | refine G_thenX ?_
 | refine G_ret rfl obQ (fun w hw => ⟨?_, hw.below⟩)
     )
     )
    rw [hk.2, List.drop_of_length_le (by omega)]
    rfl

-- lfirst

-- rFloor

-- rRound

set_option maxHeartbeats 400000 in
/-- genlockref02.level -/
theorem rlevel_c (n : Int) (w : World) : Calls Try.prog 42 #[.int .i64 n] w fun r w' => r = .returned (.int .i64 (lvE n)) ∧ Below w.heap.size w w' := by
  refine calls_of (args := [.int .i64 n]) T_ok Try.func42 rfl Try.ntmps42 (Nat.le_of_ble_eq_true rfl) rfl ?_
  repeat' (first
 | (refine C_id ?_; first
 | refine C_seq ?_
 | refine C_region rfl ?_
 | refine C_ret0 ?_
 )
 | (refine S_id ?_; first
 | refine S_nil ?_
 | refine S_run rfl rfl obQ obQ ?_
 | refine S_call (f := 53) rfl obQ (by kernel_rfl) (fun w hw => rRange_c _ _ _ w) ?_
 )
 | (refine G_id ?_; first
 | refine G_then ?_
 | refine G_ret rfl obQ (fun w hw => ⟨?_, hw.below⟩)
 )
 )
  rfl

-- rCheckLevel

theorem rB {a b : Bool} (h : a = b) : Ending.returned (.bool a) = Ending.returned (.bool b) := by rw [h]
theorem ptE_two (l : List Pt) (k : Nat) : ptE l k = if firstL [lvE (gP l k).1, lvE (gP l k).2] = 0 then wh (ordB l k) 11 else firstL [lvE (gP l k).1, lvE (gP l k).2] := by
  unfold ptE
  simp only [firstL]
  by_cases h1 : lvE (gP l k).1 = 0 <;> by_cases h2 : lvE (gP l k).2 = 0 <;> first | (simp [h1, h2]; done) | (simp [h1, h2]; exact fun h => h.symm)
theorem ordB_t {l : List Pt} {k : Nat} (h : (0 : Int) < k ∧ ((gP l k).1 ≤ (gP l (k - 1)).1 ∨ (gP l k).2 ≤ (gP l (k - 1)).2)) : ordB l k = true := by
  simp only [ordB, Bool.and_eq_true, Bool.or_eq_true, decide_eq_true_eq]; exact h
theorem ordB_f {l : List Pt} {k : Nat} (h : ¬ (0 : Int) < k ∨ ¬ (gP l k).1 ≤ (gP l (k - 1)).1 ∧ ¬ (gP l k).2 ≤ (gP l (k - 1)).2) : ordB l k = false := by
  simp only [ordB, Bool.and_eq_false_iff, Bool.or_eq_false_iff, decide_eq_false_iff_not]; exact h
theorem curveE_lo {l : List Pt} (h : l.length < 2) : curveE l = 16 := by
  have h1 : lenE l.length = 16 := by unfold lenE; simp [firstL, wh, show (l.length : Int) < 2 by omega]
  unfold curveE
  rw [if_neg (by omega), h1]
theorem curveE_hi {l : List Pt} (h : 16 < l.length) : curveE l = 5 := by
  have h1 : lenE l.length = 5 := by unfold lenE; simp [firstL, wh, show ¬ (l.length : Int) < 2 by omega, show (16 : Int) < l.length by omega]
  unfold curveE
  rw [if_neg (by omega), h1]
theorem curveE_mid {l : List Pt} (h : 2 ≤ l.length ∧ l.length ≤ 16) : curveE l = firstL ((List.range l.length).map (ptE l)) := by
  unfold curveE
  rw [if_pos (lenE_zero.2 h)]
set_option maxHeartbeats 400000 in
/-- genlockref02.CheckCurve -/
theorem rCheckCurve_c (A : Option Addr) (c : Nat) (l : List Pt) (hl : l.length ≤ 1000000) (w : World) (hr : Rd w A (l.flatMap ptC)) : Calls Try.prog 13 #[.slice A l.length c] w fun r w' => r = .returned (.int .i64 (curveE l)) ∧ Below w.heap.size w w' := by
  refine calls_of (args := [.slice A l.length c]) T_ok Try.func13 rfl Try.ntmps13 (Nat.le_of_ble_eq_true rfl) rfl ?_
  repeat' (first
 | (refine C_id ?_; first
 | refine C_seq ?_
 | refine C_region rfl ?_
 | refine C_block ?_
 | refine C_skip ?_
 | refine C_ret0 ?_
 | (refine C_cond rfl obQ (fun h => ?_) (fun h => ?_) <;> (try simp only [Bool.or_eq_true, Bool.and_eq_true, Bool.or_eq_false_iff, Bool.and_eq_false_iff, decide_eq_true_eq, decide_eq_false_iff_not, beq_iff_eq, bne_iff_ne, beq_eq_false_iff_ne, bne_eq_false_iff_eq, ne_eq, Decidable.not_not, List.cons.injEq, and_true, Bool.not_eq_true', Bool.not_eq_false', Int.not_lt, Int.not_le] at h))
 )
 | (refine S_id ?_; first
 | refine S_nil ?_
 | refine S_run rfl rfl obQ obQ ?_
 )
 | (refine G_id ?_; first
 | refine G_then ?_
 | refine G_thenR ?_
 | refine G_ret rfl obQ (fun w hw => ⟨?_, hw.below⟩)
 )
 )
  · exact rI (curveE_lo (by omega)).symm
  · exact rI (curveE_hi (by omega)).symm
  refine C_loopS (fun k : Nat => ⟨[(3, .s (.v (.int .i64 k))), (0, .s (.v (.slice A l.length c)))], [], []⟩) (fun k => k ≤ l.length ∧ curveE l = firstL (((List.range l.length).map (ptE l)).drop k)) (fun k => l.length - k) 0 ⟨Nat.zero_le _, curveE_mid (by omega)⟩ ?_ (fun k hk => ?_)
  · exact ⟨⟨_, rfl, obQ⟩, ⟨_, rfl⟩, rfl, pstQ⟩
  by_cases hlt : k < l.length
  · obtain ⟨ad, rfl⟩ := hr.some (by rw [pt_len]; omega)
    have hfd := range_drop (f := ptE l) hlt
    have h2 := ptE_two l k
    repeat' (first
 | (refine C_id ?_; first
 | refine C_seq ?_
 | refine C_region rfl ?_
 | refine C_block ?_
 | refine C_skip ?_
 | refine C_ret0 ?_
 | refine C_drawT (id := 8) 12 rfl mixed (by kernel_rfl) rfl rfl ?_
 | refine C_draw (id := 11) rfl mixed (by kernel_rfl) ?_
 | (refine C_cond rfl obQ (fun h => ?_) (fun h => ?_) <;> (try simp only [Bool.or_eq_true, Bool.and_eq_true, Bool.or_eq_false_iff, Bool.and_eq_false_iff, decide_eq_true_eq, decide_eq_false_iff_not, beq_iff_eq, bne_iff_ne, beq_eq_false_iff_ne, bne_eq_false_iff_eq, ne_eq, Decidable.not_not, List.cons.injEq, and_true, Bool.not_eq_true', Bool.not_eq_false', Int.not_lt, Int.not_le] at h) <;> (try (exfalso; omega)))
     )
 | (refine S_id ?_; first
 | refine S_nil ?_
 | refine S_run rfl rfl obQ obQ ?_
 | refine S_slice (fun b => ⟨_, _, rfl, obQ, ?_⟩)
 | refine S_call (f := 41) rfl obQ (by kernel_rfl) (fun w hw => rFirst_c _ _ [lvE (gP l k).1, lvE (gP l k).2] (by simp) w (.inr ⟨_, rfl, hw.src (i := 0) rfl rfl⟩)) ?_
     )
 | (refine D_id ?_; first
 | refine D_load rfl obQ rfl [.int .i64 (gP l (k)).1] (.past _ memQ _ _ hr.toS _ _ rfl (add_of_add _ _ _) (gP_1 (k := k) rfl hlt)) rfl (.inr ⟨rfl, rfl⟩) ?_
 | refine D_load rfl obQ rfl [.int .i64 (gP l (k)).2] (.past _ memQ _ _ hr.toS _ _ rfl (add_of_add _ _ _) (gP_2 (k := k) rfl hlt)) rfl (.inr ⟨rfl, rfl⟩) ?_
 | refine D_loadG rfl rfl (fun hg => obQ) rfl [.int .i64 (gP l (k)).1] (fun hg => .past _ memQ _ _ hr.toS _ _ rfl (add_of_add _ _ _) (gP_1 (k := k) rfl hlt)) rfl (.inr ⟨rfl, rfl⟩) ?_
 | refine D_loadG rfl rfl (fun hg => obQ) rfl [.int .i64 (gP l (k)).2] (fun hg => .past _ memQ _ _ hr.toS _ _ rfl (add_of_add _ _ _) (gP_2 (k := k) rfl hlt)) rfl (.inr ⟨rfl, rfl⟩) ?_
 | refine D_loadG rfl rfl (fun hg => obQ) rfl [.int .i64 (gP l (k - 1)).1] (fun hg => .past _ memQ _ _ hr.toS _ _ rfl (add_of_add _ _ _) (gP_1 (k := k - 1) (by simp [gOk] at hg; omega) (by omega))) rfl (.inr ⟨rfl, rfl⟩) ?_
 | refine D_loadG rfl rfl (fun hg => obQ) rfl [.int .i64 (gP l (k - 1)).2] (fun hg => .past _ memQ _ _ hr.toS _ _ rfl (add_of_add _ _ _) (gP_2 (k := k - 1) (by simp [gOk] at hg; omega) (by omega))) rfl (.inr ⟨rfl, rfl⟩) ?_
 | refine D_nil ?_
 | refine D_tail ?_
 | refine D_run rfl rfl obQ obQ ?_
 | refine D_call (f := 42) rfl obQ (by kernel_rfl) (fun w hw => rlevel_c _ w) ?_
     )
 | (refine G_id ?_; first
 | refine G_loop (k + 1) ?_ (by omega) ⟨⟨_, rfl, obQ⟩, ⟨_, rfl⟩, rfl, pstQ⟩
 | refine G_then ?_
 | refine G_block ?_
 | refine G_blockR ?_
 | refine G_thenR ?_
 | refine G_ret rfl obQ (fun w hw => ⟨?_, hw.below⟩)
     )
     )
    · rw [if_neg h] at h2
      exact rI (by rw [hk.2, hfd, if_neg (by rw [h2]; exact h), h2])
    · rename_i h0
      rw [if_pos h0, ordB_t h] at h2
      exact rI (by rw [hk.2, hfd, if_neg (by rw [h2]; decide), h2]; rfl)
    · rename_i h0
      rw [if_pos h0, ordB_f (by omega)] at h2
      exact ⟨by omega, by rw [hk.2, hfd, if_pos (by rw [h2]; rfl)]⟩
  · repeat' (first
 | (refine C_id ?_; first
 | refine C_seq ?_
 | refine C_region rfl ?_
 | refine C_exit ?_
 | refine C_ret0 ?_
 | (refine C_cond rfl obQ (fun h => ?_) (fun h => ?_) <;> (try simp only [Bool.or_eq_true, Bool.and_eq_true, Bool.or_eq_false_iff, Bool.and_eq_false_iff, decide_eq_true_eq, decide_eq_false_iff_not, beq_iff_eq, bne_iff_ne, beq_eq_false_iff_ne, bne_eq_false_iff_eq, ne_eq, Decidable.not_not, List.cons.injEq, and_true, Bool.not_eq_true', Bool.not_eq_false', Int.not_lt, Int.not_le] at h) <;> (try (exfalso; omega)))
     )
 | (refine S_id ?_; first
 | refine S_nil ?_
 | refine S_run rfl rfl obQ obQ ?_
     )
 | (refine G_id ?_; first
 | refine G_then ?_
 | refine G_blockX ?_
 | refine G_thenX ?_
 | refine G_ret rfl obQ (fun w hw => ⟨?_, hw.below⟩)
     )
     )
    obtain rfl : k = l.length := by omega
    exact rI (by rw [hk.2, range_end])

-- rValue

-- rSameCurve

-- lcurve

-- lpoints

end Go.Proofs.Ytedlaominconaaa
