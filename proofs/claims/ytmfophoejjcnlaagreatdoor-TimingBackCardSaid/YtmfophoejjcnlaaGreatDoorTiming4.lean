/- Positions and ticks. -/
import Derived.Test.YtmfophoejjcnlaaGreatDoorTiming3
import Derived.Test.YtmfophoejjcnlaaGreatDoorEng2
namespace Go.Proofs.YtmfophoejjcnlaaGreatDoor
open Go.E Go.RowKit
attribute [local irreducible] G C S D Calls
set_option maxRecDepth 100000
set_option linter.unusedSimpArgs false
set_option linter.unusedVariables false

/-- A format without an error. -/
structure Valid (f : Fmt) : Prop where
  S : 2 ≤ f.S ∧ f.S ≤ 2000
  L : 2 ≤ f.L ∧ f.L ≤ 2000
  F : 1 ≤ f.F ∧ f.F ≤ 2
  B : 1 ≤ f.B ∧ f.B ≤ f.S - 1
  Y : 1 ≤ f.Y ∧ f.Y ≤ f.B
  V : 1 ≤ f.V ∧ f.V ≤ f.L / f.F
  C : 1 ≤ f.C ∧ f.C ≤ 8

theorem wi_eq (n l m : Int) : wi n l m = 0 ↔ l ≤ n ∧ n ≤ m := by unfold wi; split <;> omega
theorem firstL_zero : ∀ (l : List Int), firstL l = 0 ↔ ∀ x ∈ l, x = 0
  | [] => by simp [firstL]
  | x :: l => by
    have := firstL_zero l
    simp only [firstL, List.mem_cons, forall_eq_or_imp]
    split <;> simp_all
theorem valid_iff (f : Fmt) : checkF f = 0 ↔ Valid f := by
  unfold checkF
  rw [firstL_zero]
  simp only [bf, List.map_cons, List.map_nil, List.mem_cons, List.mem_nil_iff, or_false, forall_eq_or_imp, forall_eq, wi_eq]
  have hB : f.S ≤ 2000 → 2 ≤ f.S → mostB f = f.S - 1 := fun h1 h2 => by
    unfold mostB
    exact inR_wrap (by simp only [inR]; omega)
  have hV : f.L ≤ 2000 → 2 ≤ f.L → 1 ≤ f.F → mostV f = f.L / f.F := fun h1 h2 h3 => by
    unfold mostV
    rw [Int.max_eq_right h3, Int.tdiv_eq_ediv_of_nonneg (by omega)]
    have h4 := Int.ediv_nonneg (show 0 ≤ f.L by omega) (show 0 ≤ f.F by omega)
    have h5 := Int.ediv_le_self f.F (show 0 ≤ f.L by omega)
    exact inR_wrap (by simp only [inR]; omega)
  constructor
  · rintro ⟨h1, h2, h3, h4, h5, h6, h7⟩
    rw [hB h1.2 h1.1] at h4
    rw [hV h2.2 h2.1 h3.1] at h6
    exact ⟨h1, h2, h3, h4, h5, h6, h7⟩
  · intro h
    rw [hB h.S.2 h.S.1, hV h.L.2 h.L.1 h.F.1]
    exact ⟨h.S, h.L, h.F, h.B, h.Y, h.V, h.C⟩

/-- The first error of a format and a tick. -/
def checkT (f : Fmt) (t : Int) : Int := firstL [checkF f, wi t 0 10000000]
theorem checkT_iff (f : Fmt) (t : Int) : checkT f t = 0 ↔ Valid f ∧ 0 ≤ t ∧ t ≤ 10000000 := by
  unfold checkT
  rw [firstL_zero]
  simp only [List.mem_cons, List.mem_nil_iff, or_false, forall_eq_or_imp, forall_eq, wi_eq, valid_iff]
/-- The position that At returns. -/
def atE (f : Fmt) (t : Int) : Pos := if checkT f t = 0 then atF f t else ⟨0, 0, 0, 0⟩
set_option maxHeartbeats 400000 in
/-- timing.checkTick -/
theorem checkTick_c (f : Fmt) (t : Int) (w : World) : Calls Tryz.prog 81 #[.agg #[.int .i64 f.S, .int .i64 f.L, .int .i64 f.F, .int .i64 f.B, .int .i64 f.Y, .int .i64 f.V, .int .i64 f.C], .int .i64 t] w fun r w' => r = .returned (.int .i64 (checkT f t)) ∧ Below w.heap.size w w' := by
  refine calls_of (args := [.agg #[.int .i64 f.S, .int .i64 f.L, .int .i64 f.F, .int .i64 f.B, .int .i64 f.Y, .int .i64 f.V, .int .i64 f.C], .int .i64 t]) T_ok Tryz.func81 rfl Tryz.ntmps81 (Nat.le_of_ble_eq_true rfl) rfl ?_
  repeat' (first
 | (refine C_id ?_; first
 | refine C_seq ?_
 | refine C_region rfl ?_
 | refine C_ret0 ?_
 )
 | (refine S_id ?_; first
 | refine S_nil ?_
 | refine S_run rfl rfl obQ obQ ?_
 | refine S_box (fun b => ⟨_, _, rfl, obQ, ?_⟩)
 | refine S_slice (fun b => ⟨_, _, rfl, obQ, ?_⟩)
 | refine S_call (f := 26) rfl obQ (by kernel_rfl) (fun w hw => checkFormat_c f w) ?_
 | refine S_call (f := 91) rfl obQ (by kernel_rfl) (fun w hw => within_c _ _ _ w) ?_
 | refine S_call (f := 87) rfl obQ (by kernel_rfl) (fun w hw => first_c _ _ [checkF f, wi t 0 10000000] (by simp) w (.inr ⟨_, rfl, hw.src (i := 1) rfl rfl⟩)) ?_
 )
 | (refine G_id ?_; first
 | refine G_then ?_
 | refine G_ret rfl obQ (fun w hw => ⟨?_, hw.below⟩)
 )
 )
  rfl

set_option maxHeartbeats 400000 in
/-- timing.At -/
theorem At_c (f : Fmt) (t : Int) (w : World) (hE : Ex w) : Calls Tryz.prog 14 #[.agg #[.int .i64 f.S, .int .i64 f.L, .int .i64 f.F, .int .i64 f.B, .int .i64 f.Y, .int .i64 f.V, .int .i64 f.C], .int .i64 t] w fun r w' => r = .returned (.tuple #[posV (atE f t), .int .i64 (checkT f t)]) ∧ Below w.heap.size w w' := by
  refine calls_of (args := [.agg #[.int .i64 f.S, .int .i64 f.L, .int .i64 f.F, .int .i64 f.B, .int .i64 f.Y, .int .i64 f.V, .int .i64 f.C], .int .i64 t]) T_ok Tryz.func14 rfl Tryz.ntmps14 (Nat.le_of_ble_eq_true rfl) rfl ?_
  repeat' (first
 | (refine C_id ?_; first
 | refine C_seq ?_
 | refine C_region rfl ?_
 | refine C_skip ?_
 | refine C_ret0 ?_
 | (refine C_cond rfl obQ (fun h => ?_) (fun h => ?_) <;> (try simp only [Bool.or_eq_true, Bool.and_eq_true, Bool.or_eq_false_iff, Bool.and_eq_false_iff, decide_eq_true_eq, decide_eq_false_iff_not, beq_iff_eq, bne_iff_ne, beq_eq_false_iff_ne, bne_eq_false_iff_eq, ne_eq, Decidable.not_not, List.cons.injEq, and_true, Bool.not_eq_true', Bool.not_eq_false', Int.not_lt, Int.not_le] at h))
 )
 | (refine S_id ?_; first
 | refine S_nil ?_
 | refine S_run rfl rfl obQ obQ ?_
 | refine S_box (fun b => ⟨_, _, rfl, obQ, ?_⟩)
 | refine S_call (f := 81) rfl obQ (by kernel_rfl) (fun w hw => checkTick_c f t w) ?_
 | refine S_call (f := 82) rfl obQ (by kernel_rfl) (fun w hw => (have hv := (checkT_iff f t).1 h; at_c f t ⟨by have := hv.1.S; omega, hv.1.S.2⟩ ⟨by have := hv.1.L; omega, hv.1.L.2⟩ (by omega) w (hw.rd memQ hE.toS))) ?_
 )
 | (refine G_id ?_; first
 | refine G_then ?_
 | refine G_thenR ?_
 | refine G_ret rfl obQ (fun w hw => ⟨?_, hw.below⟩)
 )
 )
  all_goals simp [posV, atE, h]

set_option maxHeartbeats 400000 in
/-- (genlock/timing.Format).blanked -/
theorem blanked_c (f : Fmt) (p : Pos) (w : World) : Calls Tryz.prog 95 #[.agg #[.int .i64 f.S, .int .i64 f.L, .int .i64 f.F, .int .i64 f.B, .int .i64 f.Y, .int .i64 f.V, .int .i64 f.C], .agg #[.int .i64 p.R, .int .i64 p.F, .int .i64 p.L, .int .i64 p.S]] w fun r w' => r = .returned (.bool (decide (p.S < f.B) || decide (p.L < f.V))) ∧ Below w.heap.size w w' := by
  refine calls_of (args := [.agg #[.int .i64 f.S, .int .i64 f.L, .int .i64 f.F, .int .i64 f.B, .int .i64 f.Y, .int .i64 f.V, .int .i64 f.C], .agg #[.int .i64 p.R, .int .i64 p.F, .int .i64 p.L, .int .i64 p.S]]) T_ok Tryz.func95 rfl Tryz.ntmps95 (Nat.le_of_ble_eq_true rfl) rfl ?_
  repeat' (first
 | (refine C_id ?_; first
 | refine C_seq ?_
 | refine C_region rfl ?_
 | refine C_block ?_
 | refine C_skip ?_
 | refine C_ret0 ?_
 | (refine C_cond rfl obQ (fun h => ?_) (fun h => ?_) <;> (try simp only [Bool.or_eq_true, Bool.and_eq_true, Bool.or_eq_false_iff, Bool.and_eq_false_iff, decide_eq_true_eq, decide_eq_false_iff_not, beq_iff_eq, bne_iff_ne, beq_eq_false_iff_ne, bne_eq_false_iff_eq, ne_eq, Decidable.not_not, List.cons.injEq, and_true, Bool.not_eq_true', Bool.not_eq_false', Int.not_lt, Int.not_le] at h))
 )
 | (refine S_id ?_; first
 | refine S_nil ?_
 | refine S_run rfl rfl obQ obQ ?_
 | refine S_box (fun b => ⟨_, _, rfl, obQ, ?_⟩)
 )
 | (refine G_id ?_; first
 | refine G_then ?_
 | refine G_thenR ?_
 | refine G_ret rfl obQ (fun w hw => ⟨?_, hw.below⟩)
 )
 )
  rfl

set_option maxHeartbeats 400000 in
/-- (genlock/timing.Format).sync -/
theorem sync_c (f : Fmt) (p : Pos) (w : World) : Calls Tryz.prog 96 #[.agg #[.int .i64 f.S, .int .i64 f.L, .int .i64 f.F, .int .i64 f.B, .int .i64 f.Y, .int .i64 f.V, .int .i64 f.C], .agg #[.int .i64 p.R, .int .i64 p.F, .int .i64 p.L, .int .i64 p.S]] w fun r w' => r = .returned (.bool (decide (p.S < f.Y))) ∧ Below w.heap.size w w' := by
  refine calls_of (args := [.agg #[.int .i64 f.S, .int .i64 f.L, .int .i64 f.F, .int .i64 f.B, .int .i64 f.Y, .int .i64 f.V, .int .i64 f.C], .agg #[.int .i64 p.R, .int .i64 p.F, .int .i64 p.L, .int .i64 p.S]]) T_ok Tryz.func96 rfl Tryz.ntmps96 (Nat.le_of_ble_eq_true rfl) rfl ?_
  repeat' (first
 | (refine C_id ?_; first
 | refine C_seq ?_
 | refine C_region rfl ?_
 | refine C_block ?_
 | refine C_skip ?_
 | refine C_ret0 ?_
 | (refine C_cond rfl obQ (fun h => ?_) (fun h => ?_) <;> (try simp only [Bool.or_eq_true, Bool.and_eq_true, Bool.or_eq_false_iff, Bool.and_eq_false_iff, decide_eq_true_eq, decide_eq_false_iff_not, beq_iff_eq, bne_iff_ne, beq_eq_false_iff_ne, bne_eq_false_iff_eq, ne_eq, Decidable.not_not, List.cons.injEq, and_true, Bool.not_eq_true', Bool.not_eq_false', Int.not_lt, Int.not_le] at h))
 )
 | (refine S_id ?_; first
 | refine S_nil ?_
 | refine S_run rfl rfl obQ obQ ?_
 | refine S_box (fun b => ⟨_, _, rfl, obQ, ?_⟩)
 )
 | (refine G_id ?_; first
 | refine G_then ?_
 | refine G_thenR ?_
 | refine G_ret rfl obQ (fun w hw => ⟨?_, hw.below⟩)
 )
 )
  rfl

set_option maxHeartbeats 400000 in
/-- timing.Blanked -/
theorem Blanked_c (f : Fmt) (t : Int) (w : World) (hE : Ex w) : Calls Tryz.prog 28 #[.agg #[.int .i64 f.S, .int .i64 f.L, .int .i64 f.F, .int .i64 f.B, .int .i64 f.Y, .int .i64 f.V, .int .i64 f.C], .int .i64 t] w fun r w' => r = .returned (.tuple #[.bool ((checkT f t == 0) && (decide ((atE f t).S < f.B) || decide ((atE f t).L < f.V))), .int .i64 (checkT f t)]) ∧ Below w.heap.size w w' := by
  refine calls_of (args := [.agg #[.int .i64 f.S, .int .i64 f.L, .int .i64 f.F, .int .i64 f.B, .int .i64 f.Y, .int .i64 f.V, .int .i64 f.C], .int .i64 t]) T_ok Tryz.func28 rfl Tryz.ntmps28 (Nat.le_of_ble_eq_true rfl) rfl ?_
  repeat' (first
 | (refine C_id ?_; first
 | refine C_seq ?_
 | refine C_region rfl ?_
 | refine C_ret0 ?_
 )
 | (refine S_id ?_; first
 | refine S_nil ?_
 | refine S_run rfl rfl obQ obQ ?_
 | refine S_box (fun b => ⟨_, _, rfl, obQ, ?_⟩)
 | refine S_call (f := 14) rfl obQ (by kernel_rfl) (fun w hw => At_c f t w (hw.rd memQ hE.toS)) ?_
 | refine S_callG (f := 95) rfl rfl (fun hg => obQ) (by kernel_rfl) (fun hg w hw => blanked_c f _ w) ?_
 )
 | (refine G_id ?_; first
 | refine G_then ?_
 | refine G_ret rfl obQ (fun w hw => ⟨?_, hw.below⟩)
 )
 )
  rfl

set_option maxHeartbeats 400000 in
/-- timing.InSync -/
theorem InSync_c (f : Fmt) (t : Int) (w : World) (hE : Ex w) : Calls Tryz.prog 29 #[.agg #[.int .i64 f.S, .int .i64 f.L, .int .i64 f.F, .int .i64 f.B, .int .i64 f.Y, .int .i64 f.V, .int .i64 f.C], .int .i64 t] w fun r w' => r = .returned (.tuple #[.bool ((checkT f t == 0) && (decide ((atE f t).S < f.Y))), .int .i64 (checkT f t)]) ∧ Below w.heap.size w w' := by
  refine calls_of (args := [.agg #[.int .i64 f.S, .int .i64 f.L, .int .i64 f.F, .int .i64 f.B, .int .i64 f.Y, .int .i64 f.V, .int .i64 f.C], .int .i64 t]) T_ok Tryz.func29 rfl Tryz.ntmps29 (Nat.le_of_ble_eq_true rfl) rfl ?_
  repeat' (first
 | (refine C_id ?_; first
 | refine C_seq ?_
 | refine C_region rfl ?_
 | refine C_ret0 ?_
 )
 | (refine S_id ?_; first
 | refine S_nil ?_
 | refine S_run rfl rfl obQ obQ ?_
 | refine S_box (fun b => ⟨_, _, rfl, obQ, ?_⟩)
 | refine S_call (f := 14) rfl obQ (by kernel_rfl) (fun w hw => At_c f t w (hw.rd memQ hE.toS)) ?_
 | refine S_callG (f := 96) rfl rfl (fun hg => obQ) (by kernel_rfl) (fun hg w hw => sync_c f _ w) ?_
 )
 | (refine G_id ?_; first
 | refine G_then ?_
 | refine G_ret rfl obQ (fun w hw => ⟨?_, hw.below⟩)
 )
 )
  rfl

end Go.Proofs.YtmfophoejjcnlaaGreatDoor
