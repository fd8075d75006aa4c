/- Contracts of loops of package timing. -/
import Derived.Test.YtmfophoejjcnlaaGreatDoorTiming1
namespace Go.Proofs.YtmfophoejjcnlaaGreatDoor
open Go.E Go.RowKit
attribute [local irreducible] G C S D Calls
set_option maxRecDepth 100000
set_option linter.unusedSimpArgs false
set_option linter.unusedVariables false

def firstL : List Int → Int
  | [] => 0
  | e :: r => if e = 0 then firstL r else e
theorem firstL_drop {es : List Int} {k : Nat} (h : k < es.length) : firstL (es.drop k) = if es[k] = 0 then firstL (es.drop (k + 1)) else es[k] := by
  rw [List.drop_eq_getElem_cons h]
  rfl

set_option maxHeartbeats 400000 in
/-- timing.first -/
theorem first_c (A : Option Addr) (c : Nat) (es : List Int) (hl : es.length ≤ 1000000) (w : World) (hr : Rd w A (es.map (.int .i64))) : Calls Tryz.prog 87 #[.slice A es.length c] w fun r w' => r = .returned (.int .i64 (firstL es)) ∧ Below w.heap.size w w' := by
  refine calls_of (args := [.slice A es.length c]) T_ok Tryz.func87 rfl Tryz.ntmps87 (Nat.le_of_ble_eq_true rfl) rfl ?_
  repeat' (first
 | (refine C_id ?_; first
 | refine C_seq ?_
 | refine C_region rfl ?_
 | refine C_block ?_
 | refine C_skip ?_
 | refine C_ret0 ?_
 | (refine C_cond rfl obQ (fun h => ?_) (fun h => ?_) <;> (try simp only [Bool.or_eq_true, Bool.and_eq_true, Bool.or_eq_false_iff, Bool.and_eq_false_iff, decide_eq_true_eq, decide_eq_false_iff_not, beq_iff_eq, bne_iff_ne, beq_eq_false_iff_ne, bne_eq_false_iff_eq, ne_eq, Decidable.not_not, List.cons.injEq, and_true, Bool.not_eq_true', Bool.not_eq_false', Int.not_lt, Int.not_le] at h))
 )
 | (refine S_id ?_; first
 | refine S_nil ?_
 | refine S_run rfl rfl obQ obQ ?_
 )
 | (refine G_id ?_; first
 | refine G_then ?_
 | refine G_thenR ?_
 | refine G_ret rfl obQ (fun w hw => ⟨?_, hw.below⟩)
 )
 )
  refine C_loopS (fun k : Nat => ⟨[(7, .s (.v (.int .i64 k))), (6, .s (.v (.int .i64 es.length))), (5, .s (.v (.slice A es.length c)))], [], []⟩) (fun k => k ≤ es.length ∧ firstL es = firstL (es.drop k)) (fun k => es.length - k) 0 ⟨Nat.zero_le _, rfl⟩ ?_ (fun k hk => ?_)
  · exact ⟨⟨_, rfl, obQ⟩, ⟨_, rfl⟩, rfl, pstQ⟩
  by_cases hlt : k < es.length
  · obtain ⟨ad, rfl⟩ := hr.some (by simp; omega)
    have hfd := firstL_drop hlt
    repeat' (first
 | (refine C_id ?_; first
 | refine C_seq ?_
 | refine C_region rfl ?_
 | refine C_block ?_
 | refine C_skip ?_
 | refine C_ret0 ?_
 | (refine C_cond rfl obQ (fun h => ?_) (fun h => ?_) <;> (try simp only [Bool.or_eq_true, Bool.and_eq_true, Bool.or_eq_false_iff, Bool.and_eq_false_iff, decide_eq_true_eq, decide_eq_false_iff_not, beq_iff_eq, bne_iff_ne, beq_eq_false_iff_ne, bne_eq_false_iff_eq, ne_eq, Decidable.not_not, List.cons.injEq, and_true, Bool.not_eq_true', Bool.not_eq_false', Int.not_lt, Int.not_le] at h) <;> (try (exfalso; omega)))
     )
 | (refine S_id ?_; first
 | refine S_load rfl obQ rfl [.int .i64 es[k]] (.past _ memQ _ _ hr.toS _ _ rfl rfl (idx1 hlt)) rfl (.inr ⟨rfl, rfl⟩) ?_
 | refine S_nil ?_
 | refine S_run rfl rfl obQ obQ ?_
     )
 | (refine G_id ?_; first
 | refine G_loop (k + 1) ?_ (by omega) ⟨⟨_, rfl, obQ⟩, ⟨_, rfl⟩, rfl, pstQ⟩
 | refine G_then ?_
 | refine G_block ?_
 | refine G_blockR ?_
 | refine G_thenR ?_
 | refine G_ret rfl obQ (fun w hw => ⟨?_, hw.below⟩)
     )
     )
    · rw [hk.2, hfd, if_neg h]
    · exact ⟨by omega, by rw [hk.2, hfd, if_pos h]⟩
  · repeat' (first
 | (refine C_id ?_; first
 | refine C_seq ?_
 | refine C_region rfl ?_
 | refine C_exit ?_
 | refine C_ret0 ?_
 | (refine C_cond rfl obQ (fun h => ?_) (fun h => ?_) <;> (try simp only [Bool.or_eq_true, Bool.and_eq_true, Bool.or_eq_false_iff, Bool.and_eq_false_iff, decide_eq_true_eq, decide_eq_false_iff_not, beq_iff_eq, bne_iff_ne, beq_eq_false_iff_ne, bne_eq_false_iff_eq, ne_eq, Decidable.not_not, List.cons.injEq, and_true, Bool.not_eq_true', Bool.not_eq_false', Int.not_lt, Int.not_le] at h) <;> (try (exfalso; omega)))
     )
 | (refine S_id ?_; first
 | refine S_nil ?_
 | refine S_run rfl rfl obQ obQ ?_
     )
 | (refine G_id ?_; first
 | refine G_then ?_
 | refine G_blockX ?_
 | refine G_thenX ?_
 | refine G_ret rfl obQ (fun w hw => ⟨?_, hw.below⟩)
     )
     )
    rw [hk.2, List.drop_of_length_le (by omega)]
    rfl

end Go.Proofs.YtmfophoejjcnlaaGreatDoor
