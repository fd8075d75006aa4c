/- Contracts of the small functions of package timing. -/
import Derived.Test.YtmfophoejjcnlaaGreatDoorTab
namespace Go.Proofs.YtmfophoejjcnlaaGreatDoor
open Go.E Go.RowKit
attribute [local irreducible] G C S D Calls
set_option maxRecDepth 100000
set_option linter.unusedSimpArgs false
set_option linter.unusedVariables false

structure Fmt where
  S : Int
  L : Int
  F : Int
  B : Int
  Y : Int
  V : Int
  C : Int

set_option maxHeartbeats 400000 in
/-- timing.when -/
theorem when_c (b : Bool) (e : Int) (w : World) : Calls Tryz.prog 99 #[.bool b, .int .i64 e] w fun r w' => r = .returned (.int .i64 (if b then e else 0)) ∧ Below w.heap.size w w' := by
  refine calls_of (args := [.bool b, .int .i64 e]) T_ok Tryz.func99 rfl Tryz.ntmps99 (Nat.le_of_ble_eq_true rfl) rfl ?_
  repeat' (first
 | (refine C_id ?_; first
 | refine C_seq ?_
 | refine C_region rfl ?_
 | refine C_block ?_
 | refine C_skip ?_
 | refine C_ret0 ?_
 | (refine C_cond rfl obQ (fun h => ?_) (fun h => ?_) <;> (try simp only [Bool.or_eq_true, Bool.and_eq_true, Bool.or_eq_false_iff, Bool.and_eq_false_iff, decide_eq_true_eq, decide_eq_false_iff_not, beq_iff_eq, bne_iff_ne, beq_eq_false_iff_ne, bne_eq_false_iff_eq, ne_eq, Decidable.not_not, List.cons.injEq, and_true, Bool.not_eq_true', Bool.not_eq_false', Int.not_lt, Int.not_le] at h))
 )
 | (refine S_id ?_; first
 | refine S_nil ?_
 | refine S_run rfl rfl obQ obQ ?_
 )
 | (refine G_id ?_; first
 | refine G_then ?_
 | refine G_thenR ?_
 | refine G_ret rfl obQ (fun w hw => ⟨?_, hw.below⟩)
 )
 )
  all_goals simp [h]

set_option maxHeartbeats 400000 in
/-- timing.within -/
theorem within_c (n l m : Int) (w : World) : Calls Tryz.prog 91 #[.int .i64 n, .int .i64 l, .int .i64 m] w fun r w' => r = .returned (.int .i64 (if n < l ∨ m < n then 3 else 0)) ∧ Below w.heap.size w w' := by
  refine calls_of (args := [.int .i64 n, .int .i64 l, .int .i64 m]) T_ok Tryz.func91 rfl Tryz.ntmps91 (Nat.le_of_ble_eq_true rfl) rfl ?_
  repeat' (first
 | (refine C_id ?_; first
 | refine C_seq ?_
 | refine C_region rfl ?_
 | refine C_ret0 ?_
 )
 | (refine S_id ?_; first
 | refine S_nil ?_
 | refine S_run rfl rfl obQ obQ ?_
 | refine S_call (f := 99) rfl obQ (by kernel_rfl) (fun w hw => when_c _ _ _) ?_
 )
 | (refine G_id ?_; first
 | refine G_then ?_
 | refine G_ret rfl obQ (fun w hw => ⟨?_, hw.below⟩)
 )
 )
  simp

set_option maxHeartbeats 400000 in
/-- (genlock/timing.Format).frame -/
theorem frame_c (f : Fmt) (h0 : 0 ≤ f.S ∧ f.S ≤ 2000) (h1 : 0 ≤ f.L ∧ f.L ≤ 2000) (w : World) : Calls Tryz.prog 97 #[.agg #[.int .i64 f.S, .int .i64 f.L, .int .i64 f.F, .int .i64 f.B, .int .i64 f.Y, .int .i64 f.V, .int .i64 f.C]] w fun r w' => r = .returned (.int .i64 (f.S * f.L)) ∧ Below w.heap.size w w' := by
  have hm : 0 ≤ f.S * f.L := Int.mul_nonneg h0.1 h1.1
  have hm2 : f.S * f.L ≤ 2000 * 2000 := Int.mul_le_mul h0.2 h1.2 h1.1 (by omega)
  refine calls_of (args := [.agg #[.int .i64 f.S, .int .i64 f.L, .int .i64 f.F, .int .i64 f.B, .int .i64 f.Y, .int .i64 f.V, .int .i64 f.C]]) T_ok Tryz.func97 rfl Tryz.ntmps97 (Nat.le_of_ble_eq_true rfl) rfl ?_
  repeat' (first
 | (refine C_id ?_; first
 | refine C_seq ?_
 | refine C_region rfl ?_
 | refine C_block ?_
 | refine C_skip ?_
 | refine C_ret0 ?_
 | (refine C_cond rfl obQ (fun h => ?_) (fun h => ?_) <;> (try simp only [Bool.or_eq_true, Bool.and_eq_true, Bool.or_eq_false_iff, Bool.and_eq_false_iff, decide_eq_true_eq, decide_eq_false_iff_not, beq_iff_eq, bne_iff_ne, beq_eq_false_iff_ne, bne_eq_false_iff_eq, ne_eq, Decidable.not_not, List.cons.injEq, and_true, Bool.not_eq_true', Bool.not_eq_false', Int.not_lt, Int.not_le] at h))
 )
 | (refine S_id ?_; first
 | refine S_nil ?_
 | refine S_run rfl rfl obQ obQ ?_
 | refine S_box (fun b => ⟨_, _, rfl, obQ, ?_⟩)
 )
 | (refine G_id ?_; first
 | refine G_then ?_
 | refine G_thenR ?_
 | refine G_ret rfl obQ (fun w hw => ⟨?_, hw.below⟩)
 )
 )
  rfl

/-- The table of package timing, as it was laid. -/
def Ex (w : World) : Prop := Rd w (some ⟨0, 0, none⟩) [.int .i64 1, .int .i64 0]
def exA (i : Int) : Int := if i = 0 then 1 else 0
/-- The lines of a field. -/
def linesF (f : Fmt) (i : Int) : Int := if f.F = 1 then f.L else (f.L + exA i) / 2
theorem linesF_bd (f : Fmt) (i : Int) (h : 0 ≤ f.L ∧ f.L ≤ 2000) : 0 ≤ linesF f i ∧ linesF f i ≤ 2000 := by
  unfold linesF exA
  split <;> (try split) <;> omega

set_option maxHeartbeats 400000 in
/-- (genlock/timing.Format).lines -/
theorem lines_c (f : Fmt) (i : Int) (h1 : 0 ≤ f.L ∧ f.L ≤ 2000) (hi : i = 0 ∨ i = 1) (w : World) (hE : Ex w) : Calls Tryz.prog 98 #[.agg #[.int .i64 f.S, .int .i64 f.L, .int .i64 f.F, .int .i64 f.B, .int .i64 f.Y, .int .i64 f.V, .int .i64 f.C], .int .i64 i] w fun r w' => r = .returned (.int .i64 (linesF f i)) ∧ Below w.heap.size w w' := by
  have hx : 0 ≤ exA i ∧ exA i ≤ 1 := by unfold exA; split <;> omega
  refine calls_of (args := [.agg #[.int .i64 f.S, .int .i64 f.L, .int .i64 f.F, .int .i64 f.B, .int .i64 f.Y, .int .i64 f.V, .int .i64 f.C], .int .i64 i]) T_ok Tryz.func98 rfl Tryz.ntmps98 (Nat.le_of_ble_eq_true rfl) rfl ?_
  repeat' (first
 | (refine C_id ?_; first
 | refine C_seq ?_
 | refine C_region rfl ?_
 | refine C_skip ?_
 | refine C_ret0 ?_
 | refine C_draw (id := 3) rfl mixed (by kernel_rfl) ?_
 | (refine C_cond rfl obQ (fun h => ?_) (fun h => ?_) <;> (try simp only [Bool.or_eq_true, Bool.and_eq_true, Bool.or_eq_false_iff, Bool.and_eq_false_iff, decide_eq_true_eq, decide_eq_false_iff_not, beq_iff_eq, bne_iff_ne, beq_eq_false_iff_ne, bne_eq_false_iff_eq, ne_eq, Decidable.not_not, List.cons.injEq, and_true, Bool.not_eq_true', Bool.not_eq_false', Int.not_lt, Int.not_le] at h))
 )
 | (refine S_id ?_; first
 | refine S_nil ?_
 | refine S_run rfl rfl obQ obQ ?_
 | refine S_box (fun b => ⟨_, _, rfl, obQ, ?_⟩)
 )
 | (refine D_id ?_; first
 | refine D_load rfl obQ rfl [.int .i64 (exA i)] (.past _ memQ _ _ hE.toS _ _ rfl rfl (by intro j u hu; rcases hi with rfl | rfl <;> (cases j with | zero => simpa [exA] using hu | succ j => simp at hu))) rfl (.inr ⟨rfl, rfl⟩) ?_
 | refine D_nil ?_
 | refine D_run rfl rfl obQ obQ ?_
 )
 | (refine G_id ?_; first
 | refine G_then ?_
 | refine G_thenR ?_
 | refine G_ret rfl obQ (fun w hw => ⟨?_, hw.below⟩)
 )
 )
  all_goals simp [linesF, h]

structure Pos where
  R : Int
  F : Int
  L : Int
  S : Int
/-- The position of a tick. -/
def atF (f : Fmt) (t : Int) : Pos :=
  let line := t % (f.S * f.L) / f.S
  if linesF f 0 ≤ line then ⟨t / (f.S * f.L), 1, line - linesF f 0, t % f.S⟩ else ⟨t / (f.S * f.L), 0, line, t % f.S⟩
def posV (p : Pos) : Value := .agg #[.int .i64 p.R, .int .i64 p.F, .int .i64 p.L, .int .i64 p.S]
theorem frame_bd (f : Fmt) (h0 : 1 ≤ f.S ∧ f.S ≤ 2000) (h1 : 1 ≤ f.L ∧ f.L ≤ 2000) : 1 ≤ f.S * f.L ∧ f.S * f.L ≤ 4000000 := by
  have h2 : 1 * 1 ≤ f.S * f.L := Int.mul_le_mul h0.1 h1.1 (by omega) (by omega)
  have h3 : f.S * f.L ≤ 2000 * 2000 := Int.mul_le_mul h0.2 h1.2 (by omega) (by omega)
  omega

set_option maxHeartbeats 400000 in
/-- (genlock/timing.Format).at -/
theorem at_c (f : Fmt) (t : Int) (h0 : 1 ≤ f.S ∧ f.S ≤ 2000) (h1 : 1 ≤ f.L ∧ f.L ≤ 2000) (ht : 0 ≤ t ∧ t ≤ 20000000) (w : World) (hE : Ex w) : Calls Tryz.prog 82 #[.agg #[.int .i64 f.S, .int .i64 f.L, .int .i64 f.F, .int .i64 f.B, .int .i64 f.Y, .int .i64 f.V, .int .i64 f.C], .int .i64 t] w fun r w' => r = .returned (posV (atF f t)) ∧ Below w.heap.size w w' := by
  have hm := frame_bd f h0 h1
  have hl := linesF_bd f 0 ⟨by omega, h1.2⟩
  have hr0 := Int.emod_nonneg t (show f.S * f.L ≠ 0 by omega)
  have hr1 := Int.emod_lt_of_pos t (show 0 < f.S * f.L by omega)
  have hd0 := Int.ediv_nonneg hr0 (show 0 ≤ f.S by omega)
  have hd1 := Int.ediv_le_self f.S hr0
  refine calls_of (args := [.agg #[.int .i64 f.S, .int .i64 f.L, .int .i64 f.F, .int .i64 f.B, .int .i64 f.Y, .int .i64 f.V, .int .i64 f.C], .int .i64 t]) T_ok Tryz.func82 rfl Tryz.ntmps82 (Nat.le_of_ble_eq_true rfl) rfl ?_
  repeat' (first
 | (refine C_id ?_; first
 | refine C_seq ?_
 | refine C_region rfl ?_
 | refine C_skip ?_
 | refine C_ret0 ?_
 | refine C_draw (id := 2) rfl mixed (by kernel_rfl) ?_
 | (refine C_cond rfl obQ (fun h => ?_) (fun h => ?_) <;> (try simp only [Bool.or_eq_true, Bool.and_eq_true, Bool.or_eq_false_iff, Bool.and_eq_false_iff, decide_eq_true_eq, decide_eq_false_iff_not, beq_iff_eq, bne_iff_ne, beq_eq_false_iff_ne, bne_eq_false_iff_eq, ne_eq, Decidable.not_not, List.cons.injEq, and_true, Bool.not_eq_true', Bool.not_eq_false', Int.not_lt, Int.not_le] at h))
 )
 | (refine S_id ?_; first
 | refine S_nil ?_
 | refine S_run rfl rfl obQ obQ ?_
 | refine S_box (fun b => ⟨_, _, rfl, obQ, ?_⟩)
 | refine S_call (f := 97) rfl obQ (by kernel_rfl) (fun w hw => frame_c f ⟨by omega, h0.2⟩ ⟨by omega, h1.2⟩ w) ?_
 | refine S_call (f := 98) rfl obQ (by kernel_rfl) (fun w hw => lines_c f 0 ⟨by omega, h1.2⟩ (.inl rfl) w (hw.rd memQ hE.toS)) ?_
 )
 | (refine D_id ?_; first
 | refine D_nil ?_
 | refine D_run rfl rfl obQ obQ ?_
 | refine D_call (f := 97) rfl obQ (by kernel_rfl) (fun w hw => frame_c f ⟨by omega, h0.2⟩ ⟨by omega, h1.2⟩ w) ?_
 )
 | (refine G_id ?_; first
 | refine G_then ?_
 | refine G_ret rfl obQ (fun w hw => ⟨?_, hw.below⟩)
 )
 )
  · simp [posV, atF, h]
  · simp [posV, atF, Int.not_le.2 h]

end Go.Proofs.YtmfophoejjcnlaaGreatDoor
