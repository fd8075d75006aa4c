/- The planes of an interval; parts of colours. -/
import Derived.Test.YtedlaominconaaaTops10
import Derived.Test.YtedlaominconaaaEngZ
namespace Go.Proofs.Ytedlaominconaaa
open Go.E Go.RowKit Go.Fl
attribute [local irreducible] G C S D DY DS V VT Yl QV QT Calls
set_option maxRecDepth 100000
set_option linter.unusedSimpArgs false
set_option linter.unusedVariables false

set_option maxHeartbeats 4000000 in
/-- genlocktop.dollyPlanes -/
theorem dplanes_c (lo hi : Int) (hl : -1000 ≤ lo ∧ lo ≤ 1000) (hh : -1000 ≤ hi ∧ hi ≤ 1000) (w : World) : Calls Try.prog 9 #[.int .i64 lo, .int .i64 hi] w fun r w' => ∃ v, r = .returned v ∧ Below w.heap.size w w' ∧ Sl w w' v 8 ((dpl lo hi).flatMap plC) := by
  refine calls_of (args := [.int .i64 lo, .int .i64 hi]) T_ok Try.func9 rfl Try.ntmps9 (Nat.le_of_ble_eq_true rfl) rfl ?_
  repeat' (first
   | (refine C_id ?_; first
   | refine C_seq ?_
   | refine C_regionNe 2 rfl rfl ?_
   )
   | (refine S_id ?_; first
   | refine S_nil ?_
   | refine S_run rfl rfl obQ obQ ?_
   | refine S_box (fun b => ⟨_, _, rfl, obQ, ?_⟩)
   )
   | (refine G_id ?_; first
   | refine G_then ?_
   )
   )
  refine C_row0 5 97 4 rfl ?_
  repeat' (first
   | (refine C_id ?_; first
   | refine C_rounds 4 ?_
   | refine C_seq ?_
   | refine C_region rfl ?_
   | refine C_block ?_
   | refine C_skip ?_
   | refine C_exit ?_
   | refine C_ret0 ?_
   | refine C_condT rfl obQ ?_
   | refine C_condF rfl obQ ?_
   )
   | (refine S_id ?_; first
   | refine S_append rfl obQ rfl rfl rfl ⟨by decide, rfl⟩ rfl ⟨rfl, rfl, rfl, rfl⟩ [.int .i64 (1 * 1), .int .i64 (1 * 1), .int .i64 (1 * 0), .int .i64 hi] ⟨by decide, rfl⟩ (by simp [Value.oneCell']) (fun w hw => by first | exact hw.src (i := 0) rfl rfl | exact hw.src (i := 1) rfl rfl | exact hw.src (i := 2) rfl rfl | exact hw.src (i := 3) rfl rfl | exact hw.src (i := 4) rfl rfl | exact hw.src (i := 5) rfl rfl | exact hw.src (i := 6) rfl rfl | exact hw.src (i := 7) rfl rfl | exact hw.src (i := 8) rfl rfl) (by unfold maxLen; dsimp only; omega) (fun gb cap' => ⟨_, rfl, ?_⟩)
   | refine S_append rfl obQ rfl rfl rfl ⟨by decide, rfl⟩ rfl ⟨rfl, rfl, rfl, rfl⟩ [.int .i64 (1 * 1), .int .i64 (1 * 0), .int .i64 (1 * 1), .int .i64 hi] ⟨by decide, rfl⟩ (by simp [Value.oneCell']) (fun w hw => by first | exact hw.src (i := 0) rfl rfl | exact hw.src (i := 1) rfl rfl | exact hw.src (i := 2) rfl rfl | exact hw.src (i := 3) rfl rfl | exact hw.src (i := 4) rfl rfl | exact hw.src (i := 5) rfl rfl | exact hw.src (i := 6) rfl rfl | exact hw.src (i := 7) rfl rfl | exact hw.src (i := 8) rfl rfl) (by unfold maxLen; dsimp only; omega) (fun gb cap' => ⟨_, rfl, ?_⟩)
   | refine S_append rfl obQ rfl rfl rfl ⟨by decide, rfl⟩ rfl ⟨rfl, rfl, rfl, rfl⟩ [.int .i64 (1 * 1), .int .i64 (1 * (-1)), .int .i64 (1 * 0), .int .i64 hi] ⟨by decide, rfl⟩ (by simp [Value.oneCell']) (fun w hw => by first | exact hw.src (i := 0) rfl rfl | exact hw.src (i := 1) rfl rfl | exact hw.src (i := 2) rfl rfl | exact hw.src (i := 3) rfl rfl | exact hw.src (i := 4) rfl rfl | exact hw.src (i := 5) rfl rfl | exact hw.src (i := 6) rfl rfl | exact hw.src (i := 7) rfl rfl | exact hw.src (i := 8) rfl rfl) (by unfold maxLen; dsimp only; omega) (fun gb cap' => ⟨_, rfl, ?_⟩)
   | refine S_append rfl obQ rfl rfl rfl ⟨by decide, rfl⟩ rfl ⟨rfl, rfl, rfl, rfl⟩ [.int .i64 (1 * 1), .int .i64 (1 * 0), .int .i64 (1 * (-1)), .int .i64 hi] ⟨by decide, rfl⟩ (by simp [Value.oneCell']) (fun w hw => by first | exact hw.src (i := 0) rfl rfl | exact hw.src (i := 1) rfl rfl | exact hw.src (i := 2) rfl rfl | exact hw.src (i := 3) rfl rfl | exact hw.src (i := 4) rfl rfl | exact hw.src (i := 5) rfl rfl | exact hw.src (i := 6) rfl rfl | exact hw.src (i := 7) rfl rfl | exact hw.src (i := 8) rfl rfl) (by unfold maxLen; dsimp only; omega) (fun gb cap' => ⟨_, rfl, ?_⟩)
   | refine S_append rfl obQ rfl rfl rfl ⟨by decide, rfl⟩ rfl ⟨rfl, rfl, rfl, rfl⟩ [.int .i64 ((-1) * 1), .int .i64 ((-1) * 1), .int .i64 ((-1) * 0), .int .i64 (0 - lo)] ⟨by decide, rfl⟩ (by simp [Value.oneCell']) (fun w hw => by first | exact hw.src (i := 0) rfl rfl | exact hw.src (i := 1) rfl rfl | exact hw.src (i := 2) rfl rfl | exact hw.src (i := 3) rfl rfl | exact hw.src (i := 4) rfl rfl | exact hw.src (i := 5) rfl rfl | exact hw.src (i := 6) rfl rfl | exact hw.src (i := 7) rfl rfl | exact hw.src (i := 8) rfl rfl) (by unfold maxLen; dsimp only; omega) (fun gb cap' => ⟨_, rfl, ?_⟩)
   | refine S_append rfl obQ rfl rfl rfl ⟨by decide, rfl⟩ rfl ⟨rfl, rfl, rfl, rfl⟩ [.int .i64 ((-1) * 1), .int .i64 ((-1) * 0), .int .i64 ((-1) * 1), .int .i64 (0 - lo)] ⟨by decide, rfl⟩ (by simp [Value.oneCell']) (fun w hw => by first | exact hw.src (i := 0) rfl rfl | exact hw.src (i := 1) rfl rfl | exact hw.src (i := 2) rfl rfl | exact hw.src (i := 3) rfl rfl | exact hw.src (i := 4) rfl rfl | exact hw.src (i := 5) rfl rfl | exact hw.src (i := 6) rfl rfl | exact hw.src (i := 7) rfl rfl | exact hw.src (i := 8) rfl rfl) (by unfold maxLen; dsimp only; omega) (fun gb cap' => ⟨_, rfl, ?_⟩)
   | refine S_append rfl obQ rfl rfl rfl ⟨by decide, rfl⟩ rfl ⟨rfl, rfl, rfl, rfl⟩ [.int .i64 ((-1) * 1), .int .i64 ((-1) * (-1)), .int .i64 ((-1) * 0), .int .i64 (0 - lo)] ⟨by decide, rfl⟩ (by simp [Value.oneCell']) (fun w hw => by first | exact hw.src (i := 0) rfl rfl | exact hw.src (i := 1) rfl rfl | exact hw.src (i := 2) rfl rfl | exact hw.src (i := 3) rfl rfl | exact hw.src (i := 4) rfl rfl | exact hw.src (i := 5) rfl rfl | exact hw.src (i := 6) rfl rfl | exact hw.src (i := 7) rfl rfl | exact hw.src (i := 8) rfl rfl) (by unfold maxLen; dsimp only; omega) (fun gb cap' => ⟨_, rfl, ?_⟩)
   | refine S_append rfl obQ rfl rfl rfl ⟨by decide, rfl⟩ rfl ⟨rfl, rfl, rfl, rfl⟩ [.int .i64 ((-1) * 1), .int .i64 ((-1) * 0), .int .i64 ((-1) * (-1)), .int .i64 (0 - lo)] ⟨by decide, rfl⟩ (by simp [Value.oneCell']) (fun w hw => by first | exact hw.src (i := 0) rfl rfl | exact hw.src (i := 1) rfl rfl | exact hw.src (i := 2) rfl rfl | exact hw.src (i := 3) rfl rfl | exact hw.src (i := 4) rfl rfl | exact hw.src (i := 5) rfl rfl | exact hw.src (i := 6) rfl rfl | exact hw.src (i := 7) rfl rfl | exact hw.src (i := 8) rfl rfl) (by unfold maxLen; dsimp only; omega) (fun gb cap' => ⟨_, rfl, ?_⟩)
   | refine S_nil ?_
   | refine S_run rfl rfl obQ obQ ?_
   | refine S_box (fun b10 => ⟨_, _, rfl, obQ, ?_⟩)
   | refine S_slice (fun b => ⟨_, _, rfl, obQ, ?_⟩)
   )
   | (refine G_id ?_; first
   | refine G_rounds (C_trim [0, 1, 5, 7, 8, 11, 12, 24, 25] 0 rfl rfl ?_)
   | refine G_then ?_
   | refine G_block ?_
   | refine G_blockX ?_
   | refine G_thenX ?_
   | refine G_ret rfl obQ (fun w2 hw => ⟨_, rfl, hw.below, HW.rowSl (i := 0) hw rfl rfl rfl (by simp [dpl, plC])⟩)
   )
   )

end Go.Proofs.Ytedlaominconaaa
