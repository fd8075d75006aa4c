/- Mixer: wipes are checked: contracts of the reference. -/
import Derived.Test.YtjkgklhjbopoaaaGreatDoorMixer39
namespace Go.Proofs.YtjkgklhjbopoaaaGreatDoor
open Go.E Go.RowKit Go.Fl
attribute [local irreducible] G C S D Calls
set_option maxRecDepth 100000
set_option linter.unusedSimpArgs false
set_option linter.unusedVariables false
set_option maxHeartbeats 8000000
theorem tle_t {a b : ByteArray} (h : a = b) : (a.toList == b.toList) = true := by rw [h]; exact beq_self_eq_true _
theorem tle_f {a b : ByteArray} (h : ¬ a = b) : (a.toList == b.toList) = false := by
  cases e : (a.toList == b.toList)
  · rfl
  · exact absurd (toL (beq_iff_eq.1 e)) h
def shX (s : ByteArray) : Bool := (!(s.toList == bHalf.toList) && !(s.toList == bBox.toList)) && !(s.toList == bDia.toList)
theorem shX_eq (s : ByteArray) : shX s = !shB s := by
  unfold shX
  by_cases h1 : s = bHalf
  · rw [tle_t h1, h1, sh_1]; rfl
  · by_cases h2 : s = bBox
    · rw [tle_f h1, tle_t h2, h2, sh_2]; rfl
    · by_cases h3 : s = bDia
      · rw [tle_f h1, tle_f h2, tle_t h3, h3, sh_3]; rfl
      · rw [tle_f h1, tle_f h2, tle_f h3, sh_no (Ne.symm h1) (Ne.symm h2) (Ne.symm h3)]; rfl
theorem wp_x (x : Wip) : wpE x = firstL [wh (shX x.sh) 13, wi x.a (-100) 100, wi x.b (-100) 100, wi x.at_ (-100000) 100000, wi x.soft 0 100000] := by
  rw [shX_eq]
  rfl
theorem xCheckWipe_c (x : Wip) (w : World) : Calls Tryz.prog 21 #[.agg #[.string x.sh, .int .i64 x.a, .int .i64 x.b, .int .i64 x.at_, .int .i64 x.soft]] w fun r w' => r = .returned (.int .i64 (wpE x)) ∧ Below w.heap.size w w' := by
  rw [wp_x x]
  refine calls_of T_ok Tryz.func21 rfl Tryz.ntmps21 (Nat.le_of_ble_eq_true rfl) rfl ?_
  repeat' (first
 | (refine C_id ?_; first
 | refine C_seq ?_
 | refine C_region rfl ?_
 | refine C_ret0 ?_
 | refine C_drawV (id := 1) 25 [(0, true), (1, true), (2, true), (3, true), (4, true), (5, true), (6, true), (7, true), (8, true), (9, true), (10, true), (11, true), (12, true), (14, true), (15, true), (17, true), (18, true), (20, true), (21, true), (23, true), (24, true), (13, false), (16, false), (19, false), (22, false)] rfl mixed (by kernel_rfl) rfl ?_
 )
 | (refine S_id ?_; first
 | refine S_nil ?_
 | refine S_run rfl rfl obQ obQ ?_
 | refine S_box (fun b => ⟨_, _, rfl, obQ, ?_⟩)
 | refine S_slice (fun b => ⟨_, _, rfl, obQ, ?_⟩)
 | refine S_call (f := 81) rfl obQ (by kernel_rfl) (fun w hw => rWhen_c _ _ w) ?_
 | refine S_call (f := 114) rfl obQ (by kernel_rfl) (fun w hw => rRange_c _ _ _ w) ?_
 | refine S_call (f := 113) rfl obQ (by kernel_rfl) (fun w hw => rFirst_c _ _ [wh (shX x.sh) 13, wi x.a (-100) 100, wi x.b (-100) 100, wi x.at_ (-100000) 100000, wi x.soft 0 100000] (by simp) w (.inr ⟨_, rfl, hw.src (i := 1) rfl rfl⟩)) ?_
 )
 | refine V_nil ?_
 | refine V_q rfl (Yl_step rfl obQ) ?_
 | refine V_n rfl ?_
 | refine G_V ⟨⟨_, rfl, trivial⟩, ⟨_, rfl⟩, rfl, pstQ⟩ rfl ?_
 | refine G_then ?_
 | refine G_ret rfl obQ (fun w hw => ⟨?_, hw.below⟩)
 )
  rfl
theorem first4 {a b c e : Int} : firstL [a, b, c, e] = if firstL [a, b, c] = 0 then firstL [e] else firstL [a, b, c] := by
  simp only [firstL]
  by_cases h1 : a = 0
  · by_cases h2 : b = 0
    · by_cases h3 : c = 0
      · simp [h1, h2, h3]
      · simp [h1, h2, h3]
    · simp [h1, h2]
  · simp [h1]
theorem first1 {e : Int} : firstL [e] = e := by
  simp only [firstL]
  by_cases h : e = 0 <;> simp [h]
theorem xCheckBorder_c (x : Wip) (by_ u z : Int) (w : World) : Calls Tryz.prog 23 #[.agg #[.string x.sh, .int .i64 x.a, .int .i64 x.b, .int .i64 x.at_, .int .i64 x.soft], .int .i64 by_, .int .i64 u, .int .i64 z] w fun r w' => r = .returned (.int .i64 (bdE x by_ u z)) ∧ Below w.heap.size w w' := by
  refine calls_of T_ok Tryz.func23 rfl Tryz.ntmps23 (Nat.le_of_ble_eq_true rfl) rfl ?_
  unfold bdE
  rw [first4]
  by_cases hE : firstL [wpE x, wi by_ 0 100000, firstL [wi u 1 64, wi z 1 64]] = 0
  · rw [if_pos hE, first1]
    have h3 := hE
    rw [firstL_zero] at h3
    simp only [List.mem_cons, List.mem_nil_iff, or_false, forall_eq_or_imp, forall_eq, wp_ok, wi_eq] at h3
    have h4 := h3.1.at_
    have h5 := h3.2.1
    repeat' (first
 | (refine C_id ?_; first
 | refine C_seq ?_
 | refine C_region rfl ?_
 | refine C_skip ?_
 | refine C_ret0 ?_
 | (refine C_cond rfl obQ (fun h => ?_) (fun h => ?_) <;> (try simp only [cdS] at h) <;> (try (exfalso; omega)) <;> (try exact cdF h) <;> (try contradiction))
     )
 | (refine S_id ?_; first
 | refine S_nil ?_
 | refine S_run rfl rfl obQ obQ ?_
 | refine S_box (fun b => ⟨_, _, rfl, obQ, ?_⟩)
 | refine S_slice (fun b => ⟨_, _, rfl, obQ, ?_⟩)
 | refine S_call (f := 21) rfl obQ (by kernel_rfl) (fun w hw => xCheckWipe_c x w) ?_
 | refine S_call (f := 114) rfl obQ (by kernel_rfl) (fun w hw => rRange_c _ _ _ w) ?_
 | refine S_call (f := 22) rfl obQ (by kernel_rfl) (fun w hw => xCheckSide_c u z w) ?_
 | refine S_call (f := 81) rfl obQ (by kernel_rfl) (fun w hw => rWhen_c _ _ w) ?_
 | refine S_call (f := 113) rfl obQ (by kernel_rfl) (fun w hw => rFirst_c _ _ [wpE x, wi by_ 0 100000, firstL [wi u 1 64, wi z 1 64]] (by simp) w (.inr ⟨_, rfl, hw.src (i := 1) rfl rfl⟩)) ?_
     )
 | refine G_then ?_
 | refine G_thenR ?_
 | refine G_ret rfl obQ (fun w hw => ⟨?_, hw.below⟩)
     )
    all_goals rfl
  · rw [if_neg hE]
    repeat' (first
 | (refine C_id ?_; first
 | refine C_seq ?_
 | refine C_region rfl ?_
 | refine C_skip ?_
 | refine C_ret0 ?_
 | (refine C_cond rfl obQ (fun h => ?_) (fun h => ?_) <;> (try simp only [cdS] at h) <;> (try (exfalso; omega)) <;> (try exact cdF h) <;> (try contradiction))
     )
 | (refine S_id ?_; first
 | refine S_nil ?_
 | refine S_run rfl rfl obQ obQ ?_
 | refine S_box (fun b => ⟨_, _, rfl, obQ, ?_⟩)
 | refine S_slice (fun b => ⟨_, _, rfl, obQ, ?_⟩)
 | refine S_call (f := 21) rfl obQ (by kernel_rfl) (fun w hw => xCheckWipe_c x w) ?_
 | refine S_call (f := 114) rfl obQ (by kernel_rfl) (fun w hw => rRange_c _ _ _ w) ?_
 | refine S_call (f := 22) rfl obQ (by kernel_rfl) (fun w hw => xCheckSide_c u z w) ?_
 | refine S_call (f := 81) rfl obQ (by kernel_rfl) (fun w hw => rWhen_c _ _ w) ?_
 | refine S_call (f := 113) rfl obQ (by kernel_rfl) (fun w hw => rFirst_c _ _ [wpE x, wi by_ 0 100000, firstL [wi u 1 64, wi z 1 64]] (by simp) w (.inr ⟨_, rfl, hw.src (i := 1) rfl rfl⟩)) ?_
     )
 | refine G_then ?_
 | refine G_thenR ?_
 | refine G_ret rfl obQ (fun w hw => ⟨?_, hw.below⟩)
     )
    all_goals rfl
end Go.Proofs.YtjkgklhjbopoaaaGreatDoor
