/- Mixer: wipes are checked: contracts of the reference. -/
import Derived.Test.YtjkgklhjbopoaaaGreatDoorMixer39
namespace Go.Proofs.YtjkgklhjbopoaaaGreatDoor
open Go.E Go.RowKit Go.Fl
attribute [local irreducible] G C S D Calls
set_option maxRecDepth 100000
set_option linter.all false
set_option maxHeartbeats 8000000
theorem tle_t {a b : ByteArray} (h : a = b) : (a.toList == b.toList) = true := by rw [h]; exact beq_self_eq_true _
theorem tle_f {a b : ByteArray} (h : ¬ a = b) : (a.toList == b.toList) = false := by
  cases e : (a.toList == b.toList)
  · rfl
  · exact absurd (toL (beq_iff_eq.1 e)) h
def shX (s : ByteArray) : Bool := (!(s.toList == bHalf.toList) && !(s.toList == bBox.toList)) && !(s.toList == bDia.toList)
theorem shX_eq (s : ByteArray) : shX s = !shB s := by
  unfold shX
  by_cases h1 : s = bHalf
  · rw [tle_t h1, h1, sh_1]; rfl
  · by_cases h2 : s = bBox
    · rw [tle_f h1, tle_t h2, h2, sh_2]; rfl
    · by_cases h3 : s = bDia
      · rw [tle_f h1, tle_f h2, tle_t h3, h3, sh_3]; rfl
      · rw [tle_f h1, tle_f h2, tle_f h3, sh_no (Ne.symm h1) (Ne.symm h2) (Ne.symm h3)]; rfl
theorem wp_x (x : Wip) : wpE x = firstL [wh (shX x.sh) 13, wi x.a (-100) 100, wi x.b (-100) 100, wi x.at_ (-100000) 100000, wi x.soft 0 100000] := by
  rw [shX_eq]
  rfl
theorem xCheckWipe_c (x : Wip) (w : World) : Calls Tryz.prog 21 #[.agg #[.string x.sh, .int .i64 x.a, .int .i64 x.b, .int .i64 x.at_, .int .i64 x.soft]] w fun r w' => r = .returned (.int .i64 (wpE x)) ∧ Below w.heap.size w w' := by
  rw [wp_x x]
  refine calls_of T_ok Tryz.func21 rfl Tryz.ntmps21 (Nat.le_of_ble_eq_true rfl) rfl ?_
  repeat' (first
|(refine C_id ?_; first
|refine C_seq ?_
|refine C_region rfl ?_
|refine C_ret0 ?_
|refine C_drawV (id := 1) 25 [(0, true), (1, true), (2, true), (3, true), (4, true), (5, true), (6, true), (7, true), (8, true), (9, true), (10, true), (11, true), (12, true), (14, true), (15, true), (17, true), (18, true), (20, true), (21, true), (23, true), (24, true), (13, false), (16, false), (19, false), (22, false)] rfl mixed (by kernel_rfl) rfl ?_)
|(refine S_id ?_; first
|refine S_nil ?_
|refine S_run rfl rfl obQ obQ ?_
|refine S_box (fun b => ⟨_, _, rfl, obQ, ?_⟩)
|refine S_slice (fun b => ⟨_, _, rfl, obQ, ?_⟩)
|refine S_call (f := 81) rfl obQ (by kernel_rfl) (fun w hw => rWhen_c _ _ w) ?_
|refine S_call (f := 114) rfl obQ (by kernel_rfl) (fun w hw => rRange_c _ _ _ w) ?_
|refine S_call (f := 113) rfl obQ (by kernel_rfl) (fun w hw => rFirst_c _ _ [wh (shX x.sh) 13, wi x.a (-100) 100, wi x.b (-100) 100, wi x.at_ (-100000) 100000, wi x.soft 0 100000] (by simp) w (.inr ⟨_, rfl, hw.src (i := 1) rfl rfl⟩)) ?_)
|refine V_nil ?_
|refine V_q rfl (Yl_step rfl obQ) ?_
|refine V_n rfl ?_
|refine G_V ⟨⟨_, rfl, trivial⟩, ⟨_, rfl⟩, rfl, pstQ⟩ rfl ?_
|refine G_then ?_
|refine G_ret rfl obQ (fun w hw => ⟨?_, hw.below⟩))
  rfl
end Go.Proofs.YtjkgklhjbopoaaaGreatDoor
