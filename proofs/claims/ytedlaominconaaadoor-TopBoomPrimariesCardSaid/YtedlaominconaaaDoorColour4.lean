/- Curves: values, inverses, knees: the program. -/
import Derived.Test.YtedlaominconaaaDoorColour3
import Derived.Test.YtedlaominconaaaDoorEng4
namespace Go.Proofs.YtedlaominconaaaDoor
open Go.E Go.RowKit Go.Fl
attribute [local irreducible] G C S D Calls
set_option maxRecDepth 100000
set_option linter.unusedSimpArgs false
set_option linter.unusedVariables false

set_option maxHeartbeats 400000 in
/-- (genlock/colour.Curve).value -/
theorem value_c (A : Option Addr) (c : Nat) (l : List Pt) (n : Int) (hv : CvOk l) (w : World) (hr : Rd w A (l.flatMap ptC)) : Calls Tryd.prog 53 #[.slice A l.length c, .int .i64 n] w fun r w' => r = .returned (.int .i64 (valF l n)) ∧ Below w.heap.size w w' := by
  refine calls_of (args := [.slice A l.length c, .int .i64 n]) T_ok Tryd.func53 rfl Tryd.ntmps53 (Nat.le_of_ble_eq_true rfl) rfl ?_
  have hlo := hv.lo
  have hhi := hv.hi
  obtain ⟨ad, rfl⟩ := hr.some (by rw [pt_len]; omega)
  repeat' (first
 | (refine C_id ?_; first
 | refine C_seq ?_
 | refine C_region rfl ?_
 | refine C_block ?_
 | refine C_skip ?_
 | refine C_ret0 ?_
 | (refine C_cond rfl obQ (fun h => ?_) (fun h => ?_) <;> (try simp only [Bool.or_eq_true, Bool.and_eq_true, Bool.or_eq_false_iff, Bool.and_eq_false_iff, decide_eq_true_eq, decide_eq_false_iff_not, beq_iff_eq, bne_iff_ne, beq_eq_false_iff_ne, bne_eq_false_iff_eq, ne_eq, Decidable.not_not, List.cons.injEq, and_true, Bool.not_eq_true', Bool.not_eq_false', Int.not_lt, Int.not_le] at h))
 )
 | (refine S_id ?_; first
 | refine S_load rfl obQ rfl [.int .i64 (gP l 0).1] (.past _ memQ _ _ hr.toS _ _ rfl rfl (gP_1 (k := 0) rfl (by omega))) rfl (.inr ⟨rfl, rfl⟩) ?_
 | refine S_load rfl obQ rfl [.int .i64 (gP l 0).2] (.past _ memQ _ _ hr.toS _ _ rfl rfl (gP_2 (k := 0) rfl (by omega))) rfl (.inr ⟨rfl, rfl⟩) ?_
 | refine S_nil ?_
 | refine S_run rfl rfl obQ obQ ?_
 )
 | (refine G_id ?_; first
 | refine G_then ?_
 | refine G_thenR ?_
 | refine G_ret rfl obQ (fun w hw => ⟨?_, hw.below⟩)
 )
 )
  · exact rI (valF_low h).symm
  have h0 := h
  refine C_loopS (fun k : Nat => ⟨[(20, .s (.v (.int .i64 k))), (19, .s (.v (.int .i64 l.length))), (18, .s (.v (.slice (some ad) l.length c))), (0, .s (.v (.slice (some ad) l.length c))), (1, .s (.v (.int .i64 n)))], [], []⟩) (fun k => k ≤ l.length ∧ ∀ j, j < k → (gP l j).1 < n) (fun k => l.length - k) 0 ⟨Nat.zero_le _, fun j hj => absurd hj (Nat.not_lt_zero j)⟩ ?_ (fun k hk => ?_)
  · exact ⟨⟨_, rfl, obQ⟩, ⟨_, rfl⟩, rfl, pstQ⟩
  by_cases hlt : k < l.length
  · have hkp : n ≤ (gP l k).1 → 0 < k := fun h => by
      rcases Nat.eq_zero_or_pos k with rfl | h'
      · omega
      · exact h'
    have hsf : n ≤ (gP l k).1 → _ := fun h => seg_facts hv (hkp h) hlt (hk.2 (k - 1) (by have := hkp h; omega)) h
    have hb := hv.bd k hlt
    have hb1 := hv.bd (k - 1) (by omega)
    repeat' (first
 | (refine C_id ?_; first
 | refine C_seq ?_
 | refine C_region rfl ?_
 | refine C_block ?_
 | refine C_skip ?_
 | refine C_exit ?_
 | refine C_ret0 ?_
 | refine C_draw (id := 8) rfl mixed (by kernel_rfl) ?_
 | refine C_condT rfl obQ ?_
 | refine C_condF rfl obQ ?_
 | (refine C_cond rfl obQ (fun h => ?_) (fun h => ?_) <;> (try simp only [Bool.or_eq_true, Bool.and_eq_true, Bool.or_eq_false_iff, Bool.and_eq_false_iff, decide_eq_true_eq, decide_eq_false_iff_not, beq_iff_eq, bne_iff_ne, beq_eq_false_iff_ne, bne_eq_false_iff_eq, ne_eq, Decidable.not_not, List.cons.injEq, and_true, Bool.not_eq_true', Bool.not_eq_false', Int.not_lt, Int.not_le] at h) <;> (try (exfalso; omega)) <;> (try (exfalso; simp at h; done)) <;> (try (exfalso; simp only [not_true_eq_false, false_or, or_false] at h; omega)) <;> (try (have hkp := hkp h; have hlk := hk.2 (k - 1) (by omega); have hsf := hsf h)))
     )
 | (refine S_id ?_; first
 | refine S_load rfl obQ rfl [.int .i64 (gP l (k)).1, .int .i64 (gP l (k)).2] (.past _ memQ _ _ hr.toS _ _ rfl rfl (gP_idx hlt)) rfl (.inl ⟨rfl, rfl⟩) ?_
 | refine S_load rfl obQ rfl [.int .i64 (gP l (k - 1)).1, .int .i64 (gP l (k - 1)).2] (.past _ memQ _ _ hr.toS _ _ rfl rfl (gP_idxZ (k := k - 1) (by omega) (by omega))) rfl (.inl ⟨rfl, rfl⟩) ?_
 | refine S_nil ?_
 | refine S_run rfl rfl obQ obQ ?_
 | refine S_box (fun b => ⟨_, _, rfl, obQ, ?_⟩)
 | refine S_call (f := 36) rfl obQ (by kernel_rfl) (fun w hw => rounded_c _ _ (by omega) (by omega) w) ?_
     )
 | (refine D_id ?_; first
 | refine D_nil ?_
 | refine D_tail ?_
 | refine D_run rfl rfl obQ obQ ?_
 | refine D_call (f := 36) rfl obQ (by kernel_rfl) (fun w hw => rounded_c _ _ (by omega) (by omega) w) ?_
     )
 | (refine G_id ?_; first
 | refine G_loop (k + 1) ?_ (by omega) ⟨⟨_, rfl, obQ⟩, ⟨_, rfl⟩, rfl, pstQ⟩
 | refine G_then ?_
 | refine G_block ?_
 | refine G_blockX ?_
 | refine G_blockN rfl ?_
 | refine G_blockR ?_
 | refine G_thenR ?_
 | refine G_thenX ?_
 | refine G_ret rfl obQ (fun w hw => ⟨?_, hw.below⟩)
     )
     )
    · exact rI (valF_at hkp hlt hk.2 h).symm
    · exact ⟨by omega, fun j hj => by
        rcases Nat.lt_or_ge j k with h1 | h1
        · exact hk.2 j h1
        · obtain rfl : j = k := by omega
          omega⟩
  · obtain rfl : k = l.length := by omega
    repeat' (first
 | (refine C_id ?_; first
 | refine C_seq ?_
 | refine C_region rfl ?_
 | refine C_exit ?_
 | refine C_ret0 ?_
 | (refine C_cond rfl obQ (fun h => ?_) (fun h => ?_) <;> (try simp only [Bool.or_eq_true, Bool.and_eq_true, Bool.or_eq_false_iff, Bool.and_eq_false_iff, decide_eq_true_eq, decide_eq_false_iff_not, beq_iff_eq, bne_iff_ne, beq_eq_false_iff_ne, bne_eq_false_iff_eq, ne_eq, Decidable.not_not, List.cons.injEq, and_true, Bool.not_eq_true', Bool.not_eq_false', Int.not_lt, Int.not_le] at h) <;> (try (exfalso; omega)))
     )
 | (refine S_id ?_; first
 | refine S_load rfl obQ rfl [.int .i64 (gP l (l.length - 1)).2] (.past _ memQ _ _ hr.toS _ _ rfl (add_of_add _ _ _) (gP_2 (k := l.length - 1) (by omega) (by omega))) rfl (.inr ⟨rfl, rfl⟩) ?_
 | refine S_nil ?_
 | refine S_run rfl rfl obQ obQ ?_
     )
 | (refine G_id ?_; first
 | refine G_then ?_
 | refine G_blockX ?_
 | refine G_thenX ?_
 | refine G_ret rfl obQ (fun w hw => ⟨?_, hw.below⟩)
     )
     )
    exact rI (valF_end (by omega) hk.2).symm

-- exchanged

-- inverted_c
-- Value

-- Survives

-- Inverse

-- Knee

end Go.Proofs.YtedlaominconaaaDoor
