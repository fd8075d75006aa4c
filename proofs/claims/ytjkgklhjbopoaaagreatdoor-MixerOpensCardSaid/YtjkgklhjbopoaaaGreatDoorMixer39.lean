/- Mixer: wipes, chroma keys: contracts of the reference. -/
import Derived.Test.YtjkgklhjbopoaaaGreatDoorMixer38
namespace Go.Proofs.YtjkgklhjbopoaaaGreatDoor
open Go.E Go.RowKit Go.Fl
attribute [local irreducible] G C S D Calls
set_option maxRecDepth 100000
set_option linter.all false
set_option maxHeartbeats 8000000
theorem xValue_c (x : Wip) (hx : WpOk x) (X Y : Int) (hX : 0 ≤ X ∧ X ≤ 64) (hY : 0 ≤ Y ∧ Y ≤ 64) (w : World) : Calls Tryz.prog 38 #[.agg #[.string x.sh, .int .i64 x.a, .int .i64 x.b, .int .i64 x.at_, .int .i64 x.soft], .int .i64 X, .int .i64 Y] w fun r w' => r = .returned (.int .i64 (wvF x X Y)) ∧ Below w.heap.size w w' := by
  have ha := hx.a
  have hb := hx.b
  have m1 := mul_ab ha (show -64 ≤ X ∧ X ≤ 64 by omega)
  have m2 := mul_ab hb (show -64 ≤ Y ∧ Y ≤ 64 by omega)
  refine calls_of T_ok Tryz.func38 rfl Tryz.ntmps38 (Nat.le_of_ble_eq_true rfl) rfl ?_
  repeat' (first
|(refine C_id ?_; first
|refine C_seq ?_
|refine C_region rfl ?_
|refine C_skip ?_
|refine C_ret0 ?_
|refine C_drawV (id := 3) 11 [(0, true), (1, true), (2, true), (3, true), (4, true), (6, true), (7, true), (8, true), (9, true), (10, true), (5, false)] rfl mixed (by kernel_rfl) rfl ?_
|(refine C_cond rfl obQ ?_ ?_ <;> intro h <;> (try simp only [cdS] at h)))
|(refine S_id ?_; first
|refine S_nil ?_
|refine S_run rfl rfl obQ obQ ?_
|refine S_box (fun b => ⟨_, _, rfl, obQ, ?_⟩)
|refine S_call (f := 126) rfl obQ (by kernel_rfl) (fun w hw => xabs_c (2 * X - x.a) (by omega) w) ?_
|refine S_call (f := 126) rfl obQ (by kernel_rfl) (fun w hw => xabs_c (2 * Y - x.b) (by omega) w) ?_)
|refine V_nil ?_
|refine V_q rfl (Yl_step rfl obQ) ?_
|refine V_n rfl ?_
|(refine G_id ?_; first
|refine G_V ⟨⟨_, rfl, trivial⟩, ⟨_, rfl⟩, rfl, pstQ⟩ rfl ?_
|refine G_then ?_
|refine G_thenR ?_
|refine G_ret rfl obQ (fun w hw => ⟨?_, hw.below⟩)))
  · exact rI (by unfold wvF; rw [if_pos (show x.sh = bHalf from toL h)])
  · rename_i h1
    exact rI (by unfold wvF abZ; rw [if_neg (show ¬ x.sh = bHalf from toL_n h1), if_pos (show x.sh = bBox from toL h)]; omega)
  · rename_i h1
    exact rI (by unfold wvF abZ; rw [if_neg (show ¬ x.sh = bHalf from toL_n h1), if_neg (show ¬ x.sh = bBox from toL_n h)]; omega)
end Go.Proofs.YtjkgklhjbopoaaaGreatDoor
