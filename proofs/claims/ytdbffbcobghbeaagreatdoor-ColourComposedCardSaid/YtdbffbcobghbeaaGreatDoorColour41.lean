/- The law of the composed matrices: the walk. -/
import Derived.Test.YtdbffbcobghbeaaGreatDoorColour28
import Derived.Test.YtdbffbcobghbeaaGreatDoorColour38
import Derived.Test.YtdbffbcobghbeaaGreatDoorColour40
namespace Go.Proofs.YtdbffbcobghbeaaGreatDoor
open Go.E Go.RowKit Go.Fl
attribute [local irreducible] G C S D Calls
set_option maxRecDepth 100000
set_option linter.unusedSimpArgs false
set_option linter.unusedVariables false

theorem lost2_len {m : Mat} {lo hi : Int} (hI : ivE lo hi = 0) : (lost2 m lo hi).1.length ≤ 1000000 := by
  have hi2 := ivE_ok hI
  by_cases h6 : 6 < hi - lo + 1
  · rw [show lost2 m lo hi = ([], 20) from if_pos h6]
    exact Nat.zero_le _
  · rw [show lost2 m lo hi = (lostF m lo hi, 0) from if_neg h6]
    have hc : CuOk lo hi := ⟨hi2.1.1, hi2.2.1.2, by omega⟩
    have h1 : (lostF m lo hi).length ≤ (cubeL lo hi).length := List.length_filter_le _ _
    have h2 := cube_bd hc
    simp only [cubeL, List.length_map, List.length_range, cubeN] at h1
    show (lostF m lo hi).length ≤ 1000000
    omega
section
variable {ma mb : Mat} {lo hi : Int} {w : World}
theorem lfirstE_c {A : Option Addr} {n : Nat} {l : List Int} {e : Int} (he : firstL l = e) (h6 : l.length ≤ 1000000) (hl : l.length = n) (c : Nat) (w : World) (hr : Rd w A (l.map (.int .i64))) : Calls Tryz.prog 27 #[.slice A n c] w fun r w' => r = .returned (.int .i64 e) ∧ Below w.heap.size w w' := by
  subst hl he
  exact lfirst_c A c l h6 w hr
theorem comp_as {q : Mat} {e : Int} (h : cmR ma mb = (q, e)) : Calls Tryz.prog 47 #[.agg #[.int .i64 ma.a, .int .i64 ma.b, .int .i64 ma.c, .int .i64 ma.d, .int .i64 ma.e, .int .i64 ma.f, .int .i64 ma.g, .int .i64 ma.h, .int .i64 ma.i, .int .i64 ma.n], .agg #[.int .i64 mb.a, .int .i64 mb.b, .int .i64 mb.c, .int .i64 mb.d, .int .i64 mb.e, .int .i64 mb.f, .int .i64 mb.g, .int .i64 mb.h, .int .i64 mb.i, .int .i64 mb.n]] w fun r w' => r = .returned (.tuple #[.agg #[.int .i64 q.a, .int .i64 q.b, .int .i64 q.c, .int .i64 q.d, .int .i64 q.e, .int .i64 q.f, .int .i64 q.g, .int .i64 q.h, .int .i64 q.i, .int .i64 q.n], .int .i64 e]) ∧ Below w.heap.size w w' := by
  have := Composed_c ma mb w
  rw [h] at this
  exact this
theorem rcomp_as {q : Mat} {e : Int} (h : cm2 ma mb = (q, e)) (ha : MatOk ma) (hb : MatOk mb) : Calls Tryz.prog 50 #[.agg #[.int .i64 ma.a, .int .i64 ma.b, .int .i64 ma.c, .int .i64 ma.d, .int .i64 ma.e, .int .i64 ma.f, .int .i64 ma.g, .int .i64 ma.h, .int .i64 ma.i, .int .i64 ma.n], .agg #[.int .i64 mb.a, .int .i64 mb.b, .int .i64 mb.c, .int .i64 mb.d, .int .i64 mb.e, .int .i64 mb.f, .int .i64 mb.g, .int .i64 mb.h, .int .i64 mb.i, .int .i64 mb.n]] w fun r w' => r = .returned (.tuple #[.agg #[.int .i64 q.a, .int .i64 q.b, .int .i64 q.c, .int .i64 q.d, .int .i64 q.e, .int .i64 q.f, .int .i64 q.g, .int .i64 q.h, .int .i64 q.i, .int .i64 q.n], .int .i64 e]) ∧ Below w.heap.size w w' := by
  have := rComposed_c ma mb ha hb w
  rw [h] at this
  exact this
theorem lost_as {xs : List Col} {e : Int} {n : Nat} (h : lostR ma lo hi = (xs, e)) (hn : xs.length = n) : Calls Tryz.prog 48 #[.agg #[.int .i64 ma.a, .int .i64 ma.b, .int .i64 ma.c, .int .i64 ma.d, .int .i64 ma.e, .int .i64 ma.f, .int .i64 ma.g, .int .i64 ma.h, .int .i64 ma.i, .int .i64 ma.n], .agg #[.int .i64 lo, .int .i64 hi]] w fun r w' => ∃ v, r = .returned v ∧ Below w.heap.size w w' ∧ Sl2 w w' v n (xs.flatMap coC) (.int .i64 e) := by
  subst hn
  have := Lost_c ma lo hi w
  rw [h] at this
  exact this
theorem rlost_as {xs : List Col} {e : Int} {n : Nat} (h : lost2 ma lo hi = (xs, e)) (hn : xs.length = n) (hm : MatOk ma) (hI : ivE lo hi = 0) : Calls Tryz.prog 51 #[.agg #[.int .i64 ma.a, .int .i64 ma.b, .int .i64 ma.c, .int .i64 ma.d, .int .i64 ma.e, .int .i64 ma.f, .int .i64 ma.g, .int .i64 ma.h, .int .i64 ma.i, .int .i64 ma.n], .agg #[.int .i64 lo, .int .i64 hi]] w fun r w' => ∃ v, r = .returned v ∧ Below w.heap.size w w' ∧ Sl2 w w' v n (xs.flatMap coC) (.int .i64 e) := by
  subst hn
  have := rLost_c ma lo hi hm hI w
  rw [h] at this
  exact this
end

set_option maxHeartbeats 8000000 in
/-- genlocklaw02.ColourComposed -/
theorem lComposed_c (ma mb : Mat) (lo hi : Int) (w : World) (hO : Ot w) (hP : Pw w) : Calls Tryz.prog 5 #[.agg #[.int .i64 ma.a, .int .i64 ma.b, .int .i64 ma.c, .int .i64 ma.d, .int .i64 ma.e, .int .i64 ma.f, .int .i64 ma.g, .int .i64 ma.h, .int .i64 ma.i, .int .i64 ma.n], .agg #[.int .i64 mb.a, .int .i64 mb.b, .int .i64 mb.c, .int .i64 mb.d, .int .i64 mb.e, .int .i64 mb.f, .int .i64 mb.g, .int .i64 mb.h, .int .i64 mb.i, .int .i64 mb.n], .agg #[.int .i64 lo, .int .i64 hi]] w fun r w' => r = .returned (.bool true) ∧ Below w.heap.size w w' := by
  refine calls_of (args := [.agg #[.int .i64 ma.a, .int .i64 ma.b, .int .i64 ma.c, .int .i64 ma.d, .int .i64 ma.e, .int .i64 ma.f, .int .i64 ma.g, .int .i64 ma.h, .int .i64 ma.i, .int .i64 ma.n], .agg #[.int .i64 mb.a, .int .i64 mb.b, .int .i64 mb.c, .int .i64 mb.d, .int .i64 mb.e, .int .i64 mb.f, .int .i64 mb.g, .int .i64 mb.h, .int .i64 mb.i, .int .i64 mb.n], .agg #[.int .i64 lo, .int .i64 hi]]) T_ok Tryz.func5 rfl Tryz.ntmps5 (Nat.le_of_ble_eq_true rfl) rfl ?_
  by_cases ha : cmE ma mb = 0
  · have hT : firstL [matE ma, matE mb] = 0 := ha
    have hC : cmR ma mb = ((cm2 ma mb).1, (cm2 ma mb).2) := by rw [cmR_eq, if_pos ha]
    obtain ⟨hma, hmb⟩ := cmE_ok ha
    have hC2 : cm2 ma mb = ((cm2 ma mb).1, (cm2 ma mb).2) := rfl
    by_cases hb : lsE ma lo hi = 0
    · have hU : firstL [matE ma, ivE lo hi] = 0 := hb
      have hL : lostR ma lo hi = ((lost2 ma lo hi).1, (lost2 ma lo hi).2) := by rw [lostR_eq, if_pos hb]
      obtain ⟨hma2, hiv⟩ := lsE_ok hb
      have hL2 : lost2 ma lo hi = ((lost2 ma lo hi).1, (lost2 ma lo hi).2) := rfl
      have hnl : (lost2 ma lo hi).1.length ≤ 1000000 := lost2_len hiv
      have hn : (lost2 ma lo hi).1.length = (lost2 ma lo hi).1.length := rfl
      repeat' (first
 | (refine C_id ?_; first
 | refine C_seq ?_
 | refine C_region rfl ?_
 | refine C_ret0 ?_
 | refine C_drawV (id := 3) 9 [(0, true), (2, true), (6, true), (8, true), (1, false), (3, false), (4, false), (5, false), (7, false)] rfl mixed (by kernel_rfl) rfl ?_
 | refine C_condT rfl obQ ?_
       )
 | (refine S_id ?_; first
 | ((with_reducible (first | refine S_trueE ?_ ?_ | refine S_trueB ?_ ?_ | refine S_trueL ?_ ?_ | refine S_trueD ?_ ?_ | refine S_trueN ?_ ?_)); · (first | exact beq_self_eq_true _ | rfl))
 | ((with_reducible refine S_trueA ?_ ?_ ?_); (· rfl); (· first | rfl | (first | exact beq_self_eq_true _ | rfl)))
 | refine S_unG rfl rfl rfl rfl ?_
 | (refine S_callM (f := 48) rfl obQ (by kernel_rfl) (fun w hw => lost_as hL hn) (fun w1L w2L vL hw1L hbL hRL => ?_); obtain ⟨AL, cL, rfl, hSL⟩ := hRL)
 | (refine S_callM (f := 51) rfl obQ (by kernel_rfl) (fun w hw => rlost_as hL2 hn hma2 hiv) (fun w1M w2M vM hw1M hbM hRM => ?_); obtain ⟨AM, cM, rfl, hSM⟩ := hRM)
 | refine S_pure (binX_pure rfl obQ (fun w => eq_deep (k := .i64) (n := 10) (xs := [(cm2 ma mb).1.a, (cm2 ma mb).1.b, (cm2 ma mb).1.c, (cm2 ma mb).1.d, (cm2 ma mb).1.e, (cm2 ma mb).1.f, (cm2 ma mb).1.g, (cm2 ma mb).1.h, (cm2 ma mb).1.i, (cm2 ma mb).1.n]) (ys := [(cm2 ma mb).1.a, (cm2 ma mb).1.b, (cm2 ma mb).1.c, (cm2 ma mb).1.d, (cm2 ma mb).1.e, (cm2 ma mb).1.f, (cm2 ma mb).1.g, (cm2 ma mb).1.h, (cm2 ma mb).1.i, (cm2 ma mb).1.n]) (by kernel_rfl) rfl rfl _ _ w)) ?_
 | refine S_nil ?_
 | refine S_runN rfl rfl obQ obQ ?_
 | refine S_box (fun b => ⟨_, _, rfl, obQ, ?_⟩)
 | refine S_slice (fun b => ⟨_, _, rfl, obQ, ?_⟩)
 | refine S_call (f := 47) rfl obQ (by kernel_rfl) (fun w hw => comp_as hC) ?_
 | refine S_call (f := 41) rfl obQ (by kernel_rfl) (fun w hw => rCheckMatrix_c ma w) ?_
 | refine S_call (f := 41) rfl obQ (by kernel_rfl) (fun w hw => rCheckMatrix_c mb w) ?_
 | refine S_call (f := 49) rfl obQ (by kernel_rfl) (fun w hw => rCheckInterval_c lo hi w) ?_
 | refine S_call (f := 27) rfl obQ (by kernel_rfl) (fun w hw => lfirstE_c (l := [matE ma, matE mb]) hT (by simp) rfl _ w (.inr ⟨_, rfl, hw.src (i := 4) rfl rfl⟩)) ?_
 | refine S_call (f := 27) rfl obQ (by kernel_rfl) (fun w hw => lfirstE_c (l := [matE ma, ivE lo hi]) hU (by simp) rfl _ w (.inr ⟨_, rfl, hw.src (i := 5) rfl rfl⟩)) ?_
 | refine S_call (f := 52) rfl obQ (by kernel_rfl) (fun w hw => sameColoursT_c _ _ _ _ _ _ hn hnl w (hw.rdm hSL memQ) (hw.rdm hSM memQ)) ?_
 | refine S_call (f := 20) rfl obQ (by kernel_rfl) (fun w hw => awake_c w (hw.rdm hO.toS memQ) (Pw_at hP hw memQ)) ?_
 | refine S_call (f := 50) rfl obQ (by kernel_rfl) (fun w hw => rcomp_as hC2 hma hmb) ?_
       )
 | (refine V_id ?_; first
 | refine V_nil ?_
 | refine V_q rfl (Yl_step rfl obQ) ?_
 | refine V_n rfl ?_
       )
 | (refine G_id ?_; first
 | refine G_V ⟨⟨_, rfl, trivial⟩, ⟨_, rfl⟩, rfl, pstQ⟩ rfl ?_
 | refine G_then ?_
 | refine G_ret rfl obQ (fun w2 hw => ⟨?_, hw.below⟩)
       )
       )
      all_goals rfl
    · have hU : firstL [matE ma, ivE lo hi] = lsE ma lo hi := rfl
      have hL : lostR ma lo hi = ([], lsE ma lo hi) := by rw [lostR_eq, if_neg hb]
      have hn : ([] : List Col).length = 0 := rfl
      have hnl : 0 ≤ 1000000 := by omega
      repeat' (first
 | (refine C_id ?_; first
 | refine C_seq ?_
 | refine C_region rfl ?_
 | refine C_skip ?_
 | refine C_ret0 ?_
 | refine C_drawV (id := 3) 9 [(0, true), (2, true), (6, true), (8, true), (1, false), (3, false), (4, false), (5, false), (7, false)] rfl mixed (by kernel_rfl) rfl ?_
 | refine C_condT rfl obQ ?_
 | (refine C_cond rfl obQ (fun h => ?_) (fun h => ?_) <;> (try simp only [Bool.or_eq_true, Bool.and_eq_true, Bool.or_eq_false_iff, Bool.and_eq_false_iff, decide_eq_true_eq, decide_eq_false_iff_not, beq_iff_eq, bne_iff_ne, beq_eq_false_iff_ne, bne_eq_false_iff_eq, ne_eq, Decidable.not_not, List.cons.injEq, and_true, Bool.not_eq_true', Bool.not_eq_false', Int.not_lt, Int.not_le] at h) <;> (try (exfalso; omega)) <;> (try (exfalso; simp at h; done)) <;> (try (exfalso; simp only [not_true_eq_false, false_or, or_false] at h; omega)) <;> (try contradiction))
       )
 | (refine S_id ?_; first
 | ((with_reducible (first | refine S_trueE ?_ ?_ | refine S_trueB ?_ ?_ | refine S_trueL ?_ ?_ | refine S_trueD ?_ ?_ | refine S_trueN ?_ ?_)); · (first | exact beq_self_eq_true _ | rfl))
 | ((with_reducible refine S_trueA ?_ ?_ ?_); (· rfl); (· first | rfl | (first | exact beq_self_eq_true _ | rfl)))
 | refine S_unG rfl rfl rfl rfl ?_
 | (refine S_callM (f := 48) rfl obQ (by kernel_rfl) (fun w hw => lost_as hL hn) (fun w1L w2L vL hw1L hbL hRL => ?_); obtain ⟨AL, cL, rfl, hSL⟩ := hRL)
 | refine S_pure (binX_pure rfl obQ (fun w => eq_deep (k := .i64) (n := 10) (xs := [(cm2 ma mb).1.a, (cm2 ma mb).1.b, (cm2 ma mb).1.c, (cm2 ma mb).1.d, (cm2 ma mb).1.e, (cm2 ma mb).1.f, (cm2 ma mb).1.g, (cm2 ma mb).1.h, (cm2 ma mb).1.i, (cm2 ma mb).1.n]) (ys := [(cm2 ma mb).1.a, (cm2 ma mb).1.b, (cm2 ma mb).1.c, (cm2 ma mb).1.d, (cm2 ma mb).1.e, (cm2 ma mb).1.f, (cm2 ma mb).1.g, (cm2 ma mb).1.h, (cm2 ma mb).1.i, (cm2 ma mb).1.n]) (by kernel_rfl) rfl rfl _ _ w)) ?_
 | refine S_nil ?_
 | refine S_runN rfl rfl obQ obQ ?_
 | refine S_box (fun b => ⟨_, _, rfl, obQ, ?_⟩)
 | refine S_slice (fun b => ⟨_, _, rfl, obQ, ?_⟩)
 | refine S_call (f := 47) rfl obQ (by kernel_rfl) (fun w hw => comp_as hC) ?_
 | refine S_call (f := 41) rfl obQ (by kernel_rfl) (fun w hw => rCheckMatrix_c ma w) ?_
 | refine S_call (f := 41) rfl obQ (by kernel_rfl) (fun w hw => rCheckMatrix_c mb w) ?_
 | refine S_call (f := 49) rfl obQ (by kernel_rfl) (fun w hw => rCheckInterval_c lo hi w) ?_
 | refine S_call (f := 27) rfl obQ (by kernel_rfl) (fun w hw => lfirstE_c (l := [matE ma, matE mb]) hT (by simp) rfl _ w (.inr ⟨_, rfl, hw.src (i := 4) rfl rfl⟩)) ?_
 | refine S_call (f := 27) rfl obQ (by kernel_rfl) (fun w hw => lfirstE_c (l := [matE ma, ivE lo hi]) hU (by simp) rfl _ w (.inr ⟨_, rfl, hw.src (i := 5) rfl rfl⟩)) ?_
 | refine S_call (f := 52) rfl obQ (by kernel_rfl) (fun w hw => sameColoursT_c _ _ _ _ _ _ hn hnl w (hw.rdm hSL memQ) (.inl rfl)) ?_
 | refine S_call (f := 20) rfl obQ (by kernel_rfl) (fun w hw => awake_c w (hw.rdm hO.toS memQ) (Pw_at hP hw memQ)) ?_
 | refine S_call (f := 50) rfl obQ (by kernel_rfl) (fun w hw => rcomp_as hC2 hma hmb) ?_
       )
 | (refine V_id ?_; first
 | refine V_nil ?_
 | refine V_q rfl (Yl_step rfl obQ) ?_
 | refine V_n rfl ?_
       )
 | (refine G_id ?_; first
 | refine G_V ⟨⟨_, rfl, trivial⟩, ⟨_, rfl⟩, rfl, pstQ⟩ rfl ?_
 | refine G_then ?_
 | refine G_ret rfl obQ (fun w2 hw => ⟨?_, hw.below⟩)
       )
       )
      all_goals rfl
  · have hT : firstL [matE ma, matE mb] = cmE ma mb := rfl
    have hC : cmR ma mb = (zM, cmE ma mb) := cmR_1 ha
    by_cases hb : lsE ma lo hi = 0
    · have hU : firstL [matE ma, ivE lo hi] = 0 := hb
      have hL : lostR ma lo hi = ((lost2 ma lo hi).1, (lost2 ma lo hi).2) := by rw [lostR_eq, if_pos hb]
      obtain ⟨hma2, hiv⟩ := lsE_ok hb
      have hL2 : lost2 ma lo hi = ((lost2 ma lo hi).1, (lost2 ma lo hi).2) := rfl
      have hnl : (lost2 ma lo hi).1.length ≤ 1000000 := lost2_len hiv
      have hn : (lost2 ma lo hi).1.length = (lost2 ma lo hi).1.length := rfl
      repeat' (first
 | (refine C_id ?_; first
 | refine C_seq ?_
 | refine C_region rfl ?_
 | refine C_skip ?_
 | refine C_ret0 ?_
 | refine C_drawV (id := 3) 9 [(0, true), (2, true), (6, true), (8, true), (1, false), (3, false), (4, false), (5, false), (7, false)] rfl mixed (by kernel_rfl) rfl ?_
 | refine C_condT rfl obQ ?_
 | (refine C_cond rfl obQ (fun h => ?_) (fun h => ?_) <;> (try simp only [Bool.or_eq_true, Bool.and_eq_true, Bool.or_eq_false_iff, Bool.and_eq_false_iff, decide_eq_true_eq, decide_eq_false_iff_not, beq_iff_eq, bne_iff_ne, beq_eq_false_iff_ne, bne_eq_false_iff_eq, ne_eq, Decidable.not_not, List.cons.injEq, and_true, Bool.not_eq_true', Bool.not_eq_false', Int.not_lt, Int.not_le] at h) <;> (try (exfalso; omega)) <;> (try (exfalso; simp at h; done)) <;> (try (exfalso; simp only [not_true_eq_false, false_or, or_false] at h; omega)) <;> (try contradiction))
       )
 | (refine S_id ?_; first
 | ((with_reducible (first | refine S_trueE ?_ ?_ | refine S_trueB ?_ ?_ | refine S_trueL ?_ ?_ | refine S_trueD ?_ ?_ | refine S_trueN ?_ ?_)); · (first | exact beq_self_eq_true _ | rfl))
 | ((with_reducible refine S_trueA ?_ ?_ ?_); (· rfl); (· first | rfl | (first | exact beq_self_eq_true _ | rfl)))
 | refine S_unG rfl rfl rfl rfl ?_
 | (refine S_callM (f := 48) rfl obQ (by kernel_rfl) (fun w hw => lost_as hL hn) (fun w1L w2L vL hw1L hbL hRL => ?_); obtain ⟨AL, cL, rfl, hSL⟩ := hRL)
 | (refine S_callM (f := 51) rfl obQ (by kernel_rfl) (fun w hw => rlost_as hL2 hn hma2 hiv) (fun w1M w2M vM hw1M hbM hRM => ?_); obtain ⟨AM, cM, rfl, hSM⟩ := hRM)
 | refine S_pure (binX_pure rfl obQ (fun w => eq_deep (k := .i64) (n := 10) (xs := [0, 0, 0, 0, 0, 0, 0, 0, 0, 0]) (ys := [0, 0, 0, 0, 0, 0, 0, 0, 0, 0]) (by kernel_rfl) rfl rfl _ _ w)) ?_
 | refine S_nil ?_
 | refine S_runN rfl rfl obQ obQ ?_
 | refine S_box (fun b => ⟨_, _, rfl, obQ, ?_⟩)
 | refine S_slice (fun b => ⟨_, _, rfl, obQ, ?_⟩)
 | refine S_call (f := 47) rfl obQ (by kernel_rfl) (fun w hw => comp_as hC) ?_
 | refine S_call (f := 41) rfl obQ (by kernel_rfl) (fun w hw => rCheckMatrix_c ma w) ?_
 | refine S_call (f := 41) rfl obQ (by kernel_rfl) (fun w hw => rCheckMatrix_c mb w) ?_
 | refine S_call (f := 49) rfl obQ (by kernel_rfl) (fun w hw => rCheckInterval_c lo hi w) ?_
 | refine S_call (f := 27) rfl obQ (by kernel_rfl) (fun w hw => lfirstE_c (l := [matE ma, matE mb]) hT (by simp) rfl _ w (.inr ⟨_, rfl, hw.src (i := 4) rfl rfl⟩)) ?_
 | refine S_call (f := 27) rfl obQ (by kernel_rfl) (fun w hw => lfirstE_c (l := [matE ma, ivE lo hi]) hU (by simp) rfl _ w (.inr ⟨_, rfl, hw.src (i := 5) rfl rfl⟩)) ?_
 | refine S_call (f := 52) rfl obQ (by kernel_rfl) (fun w hw => sameColoursT_c _ _ _ _ _ _ hn hnl w (hw.rdm hSL memQ) (hw.rdm hSM memQ)) ?_
 | refine S_call (f := 20) rfl obQ (by kernel_rfl) (fun w hw => awake_c w (hw.rdm hO.toS memQ) (Pw_at hP hw memQ)) ?_
       )
 | (refine V_id ?_; first
 | refine V_nil ?_
 | refine V_q rfl (Yl_step rfl obQ) ?_
 | refine V_n rfl ?_
       )
 | (refine G_id ?_; first
 | refine G_V ⟨⟨_, rfl, trivial⟩, ⟨_, rfl⟩, rfl, pstQ⟩ rfl ?_
 | refine G_then ?_
 | refine G_ret rfl obQ (fun w2 hw => ⟨?_, hw.below⟩)
       )
       )
      all_goals rfl
    · have hU : firstL [matE ma, ivE lo hi] = lsE ma lo hi := rfl
      have hL : lostR ma lo hi = ([], lsE ma lo hi) := by rw [lostR_eq, if_neg hb]
      have hn : ([] : List Col).length = 0 := rfl
      have hnl : 0 ≤ 1000000 := by omega
      repeat' (first
 | (refine C_id ?_; first
 | refine C_seq ?_
 | refine C_region rfl ?_
 | refine C_skip ?_
 | refine C_ret0 ?_
 | refine C_drawV (id := 3) 9 [(0, true), (2, true), (6, true), (8, true), (1, false), (3, false), (4, false), (5, false), (7, false)] rfl mixed (by kernel_rfl) rfl ?_
 | (refine C_cond rfl obQ (fun h => ?_) (fun h => ?_) <;> (try simp only [Bool.or_eq_true, Bool.and_eq_true, Bool.or_eq_false_iff, Bool.and_eq_false_iff, decide_eq_true_eq, decide_eq_false_iff_not, beq_iff_eq, bne_iff_ne, beq_eq_false_iff_ne, bne_eq_false_iff_eq, ne_eq, Decidable.not_not, List.cons.injEq, and_true, Bool.not_eq_true', Bool.not_eq_false', Int.not_lt, Int.not_le] at h) <;> (try (exfalso; omega)) <;> (try (exfalso; simp at h; done)) <;> (try (exfalso; simp only [not_true_eq_false, false_or, or_false] at h; omega)) <;> (try contradiction))
       )
 | (refine S_id ?_; first
 | ((with_reducible (first | refine S_trueE ?_ ?_ | refine S_trueB ?_ ?_ | refine S_trueL ?_ ?_ | refine S_trueD ?_ ?_ | refine S_trueN ?_ ?_)); · (first | exact beq_self_eq_true _ | rfl))
 | ((with_reducible refine S_trueA ?_ ?_ ?_); (· rfl); (· first | rfl | (first | exact beq_self_eq_true _ | rfl)))
 | refine S_unG rfl rfl rfl rfl ?_
 | (refine S_callM (f := 48) rfl obQ (by kernel_rfl) (fun w hw => lost_as hL hn) (fun w1L w2L vL hw1L hbL hRL => ?_); obtain ⟨AL, cL, rfl, hSL⟩ := hRL)
 | refine S_pure (binX_pure rfl obQ (fun w => eq_deep (k := .i64) (n := 10) (xs := [0, 0, 0, 0, 0, 0, 0, 0, 0, 0]) (ys := [0, 0, 0, 0, 0, 0, 0, 0, 0, 0]) (by kernel_rfl) rfl rfl _ _ w)) ?_
 | refine S_nil ?_
 | refine S_runN rfl rfl obQ obQ ?_
 | refine S_box (fun b => ⟨_, _, rfl, obQ, ?_⟩)
 | refine S_slice (fun b => ⟨_, _, rfl, obQ, ?_⟩)
 | refine S_call (f := 47) rfl obQ (by kernel_rfl) (fun w hw => comp_as hC) ?_
 | refine S_call (f := 41) rfl obQ (by kernel_rfl) (fun w hw => rCheckMatrix_c ma w) ?_
 | refine S_call (f := 41) rfl obQ (by kernel_rfl) (fun w hw => rCheckMatrix_c mb w) ?_
 | refine S_call (f := 49) rfl obQ (by kernel_rfl) (fun w hw => rCheckInterval_c lo hi w) ?_
 | refine S_call (f := 27) rfl obQ (by kernel_rfl) (fun w hw => lfirstE_c (l := [matE ma, matE mb]) hT (by simp) rfl _ w (.inr ⟨_, rfl, hw.src (i := 4) rfl rfl⟩)) ?_
 | refine S_call (f := 27) rfl obQ (by kernel_rfl) (fun w hw => lfirstE_c (l := [matE ma, ivE lo hi]) hU (by simp) rfl _ w (.inr ⟨_, rfl, hw.src (i := 5) rfl rfl⟩)) ?_
 | refine S_call (f := 52) rfl obQ (by kernel_rfl) (fun w hw => sameColoursT_c _ _ _ _ _ _ hn hnl w (hw.rdm hSL memQ) (.inl rfl)) ?_
 | refine S_call (f := 20) rfl obQ (by kernel_rfl) (fun w hw => awake_c w (hw.rdm hO.toS memQ) (Pw_at hP hw memQ)) ?_
       )
 | (refine V_id ?_; first
 | refine V_nil ?_
 | refine V_q rfl (Yl_step rfl obQ) ?_
 | refine V_n rfl ?_
       )
 | (refine G_id ?_; first
 | refine G_V ⟨⟨_, rfl, trivial⟩, ⟨_, rfl⟩, rfl, pstQ⟩ rfl ?_
 | refine G_then ?_
 | refine G_ret rfl obQ (fun w2 hw => ⟨?_, hw.below⟩)
       )
       )
      all_goals rfl

end Go.Proofs.YtdbffbcobghbeaaGreatDoor
