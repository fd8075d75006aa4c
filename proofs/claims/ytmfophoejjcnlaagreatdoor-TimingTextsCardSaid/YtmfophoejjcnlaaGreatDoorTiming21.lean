/- Edges of a net, names. -/
import Derived.Test.YtmfophoejjcnlaaGreatDoorTiming20
import Derived.Test.YtmfophoejjcnlaaGreatDoorEng3
namespace Go.Proofs.YtmfophoejjcnlaaGreatDoor
open Go.E Go.RowKit
attribute [local irreducible] G C S D Calls
set_option maxRecDepth 100000
set_option linter.unusedSimpArgs false
set_option linter.unusedVariables false

/-- The first error of an edge in a net of n nodes. -/
def edgeL (n : Nat) (e : Edg) : List Int := [wh (decide (e.F < 0) || decide ((n : Int) ≤ e.F)) 10, wh (decide (e.T < 0) || decide ((n : Int) ≤ e.T)) 10, wh (decide (e.F = e.T) && decide (e.T = e.F)) 24, wi e.L 0 100000, wi e.H 0 100000, wh (decide (e.H < e.L)) 11]
def edgeF (n : Nat) (e : Edg) : Int := firstL (edgeL n e)

set_option maxHeartbeats 400000 in
/-- (genlock/timing.Edge).check$1 -/
theorem ck1_c (n : Nat) (x : Int) (a : Addr) (w : World) (hr : Rd w (some a) [.int .i64 n]) : Calls Tryz.prog 151 #[.int .i64 x, .pointer (some a)] w fun r w' => r = .returned (.int .i64 (wh (decide (x < 0) || decide ((n : Int) ≤ x)) 10)) ∧ Below w.heap.size w w' := by
  refine calls_of (args := [.int .i64 x, .pointer (some a)]) T_ok Tryz.func151 rfl Tryz.ntmps151 (Nat.le_of_ble_eq_true rfl) rfl ?_
  repeat' (first
 | (refine C_id ?_; first
 | refine C_seq ?_
 | refine C_region rfl ?_
 | refine C_ret0 ?_
 )
 | (refine S_id ?_; first
 | refine S_loadG rfl rfl (fun hg => obQ) rfl [.int .i64 n] (fun hg => .past _ memQ _ _ hr.toS 0 a rfl rfl (by intro j u hu; rwa [Nat.zero_add])) rfl (.inr ⟨rfl, rfl⟩) ?_
 | refine S_nil ?_
 | refine S_run rfl rfl obQ obQ ?_
 | refine S_call (f := 99) rfl obQ (by kernel_rfl) (fun w hw => when_c _ _ _) ?_
 )
 | (refine G_id ?_; first
 | refine G_then ?_
 | refine G_ret rfl obQ (fun w hw => ⟨?_, hw.below⟩)
 )
 )
  rfl

set_option maxHeartbeats 400000 in
/-- (genlock/timing.Edge).check -/
theorem echeck_c (n : Nat) (e : Edg) (w : World) : Calls Tryz.prog 113 #[.agg #[.int .i64 e.F, .int .i64 e.T, .int .i64 e.L, .int .i64 e.H], .int .i64 n] w fun r w' => r = .returned (.int .i64 (edgeF n e)) ∧ Below w.heap.size w w' := by
  refine calls_of (args := [.agg #[.int .i64 e.F, .int .i64 e.T, .int .i64 e.L, .int .i64 e.H], .int .i64 n]) T_ok Tryz.func113 rfl Tryz.ntmps113 (Nat.le_of_ble_eq_true rfl) rfl ?_
  repeat' (first
 | (refine C_id ?_; first
 | refine C_seq ?_
 | refine C_region rfl ?_
 | refine C_ret0 ?_
 | refine C_drawT (id := 3) 22 rfl mixed (by kernel_rfl) rfl rfl ?_
 )
 | (refine S_id ?_; first
 | refine S_pure (binX_pure rfl obQ (fun w => eq_arr2 (t := 62) (by kernel_rfl) _ _ w)) ?_
 | refine S_nil ?_
 | refine S_run rfl rfl obQ obQ ?_
 | refine S_box (fun b => ⟨_, _, rfl, obQ, ?_⟩)
 | refine S_slice (fun b => ⟨_, _, rfl, obQ, ?_⟩)
 | refine S_call (f := 87) rfl obQ (by kernel_rfl) (fun w hw => first_c _ _ (edgeL n e) (by simp [edgeL]) w (.inr ⟨_, rfl, hw.src (i := 2) rfl rfl⟩)) ?_
 )
 | (refine D_id ?_; first
 | refine D_tail ?_
 | refine D_run rfl rfl obQ obQ ?_
 | refine D_call (f := 99) rfl obQ (by kernel_rfl) (fun w hw => when_c _ _ w) ?_
 | refine D_call (f := 91) rfl obQ (by kernel_rfl) (fun w hw => within_c _ _ _ w) ?_
 | refine D_call (f := 151) rfl obQ (by kernel_rfl) (fun w hw => ck1_c n _ _ w (hw.rdBox (i := 1) rfl rfl)) ?_
 )
 | (refine G_id ?_; first
 | refine G_then ?_
 | refine G_ret rfl obQ (fun w hw => ⟨?_, hw.below⟩)
 )
 )
  rfl

end Go.Proofs.YtmfophoejjcnlaaGreatDoor
