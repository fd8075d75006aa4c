/- The law of the matrices: the walk. -/
import Derived.Test.YtdbffbcobghbeaaGreatDoorColour28
import Derived.Test.YtdbffbcobghbeaaGreatDoorColour33
namespace Go.Proofs.YtdbffbcobghbeaaGreatDoor
open Go.E Go.RowKit Go.Fl
attribute [local irreducible] G C S D Calls
set_option maxRecDepth 100000
set_option linter.unusedSimpArgs false
set_option linter.unusedVariables false

section
variable {m : Mat} {c : Col} {w : World}
theorem lfirstE_c {A : Option Addr} {n : Nat} {l : List Int} {e : Int} (he : firstL l = e) (h6 : l.length ≤ 1000000) (hl : l.length = n) (c : Nat) (w : World) (hr : Rd w A (l.map (.int .i64))) : Calls Tryz.prog 27 #[.slice A n c] w fun r w' => r = .returned (.int .i64 e) ∧ Below w.heap.size w w' := by
  subst hl he
  exact lfirst_c A c l h6 w hr
theorem number_as {x e b z : Int} (h1 : x = if b = 0 then z else 0) (h2 : e = b) : Calls Tryz.prog 35 #[.int .i64 x, .int .i64 e, .int .i64 b, .int .i64 z] w fun r w' => r = .returned (.bool true) ∧ Below w.heap.size w w' := by
  have := lnumber_c x e b z w
  rw [decide_eq_true h1, decide_eq_true h2] at this
  exact this
theorem conv_as {q : Col} {e : Int} (h : cvR m c = (q, e)) : Calls Tryz.prog 38 #[.agg #[.int .i64 m.a, .int .i64 m.b, .int .i64 m.c, .int .i64 m.d, .int .i64 m.e, .int .i64 m.f, .int .i64 m.g, .int .i64 m.h, .int .i64 m.i, .int .i64 m.n], .agg #[.int .i64 c.1, .int .i64 c.2.1, .int .i64 c.2.2]] w fun r w' => r = .returned (.tuple #[.agg #[.int .i64 q.1, .int .i64 q.2.1, .int .i64 q.2.2], .int .i64 e]) ∧ Below w.heap.size w w' := by
  have := Converted_c m c w
  rw [h] at this
  exact this
theorem det_as {d e : Int} (h : detR m = (d, e)) (hO : Ot w) : Calls Tryz.prog 39 #[.agg #[.int .i64 m.a, .int .i64 m.b, .int .i64 m.c, .int .i64 m.d, .int .i64 m.e, .int .i64 m.f, .int .i64 m.g, .int .i64 m.h, .int .i64 m.i, .int .i64 m.n]] w fun r w' => r = .returned (.tuple #[.int .i64 d, .int .i64 e]) ∧ Below w.heap.size w w' := by
  have := Determinant_c m w hO
  rw [h] at this
  exact this
theorem inv_as0 {e : Int} (h : ivR m = (z9, e)) (hO : Ot w) : Calls Tryz.prog 40 #[.agg #[.int .i64 m.a, .int .i64 m.b, .int .i64 m.c, .int .i64 m.d, .int .i64 m.e, .int .i64 m.f, .int .i64 m.g, .int .i64 m.h, .int .i64 m.i, .int .i64 m.n]] w fun r w' => r = .returned (.tuple #[.agg #[.int .i64 0, .int .i64 0, .int .i64 0, .int .i64 0, .int .i64 0, .int .i64 0, .int .i64 0, .int .i64 0, .int .i64 0, .int .i64 0, .int .i64 0, .int .i64 0, .int .i64 0, .int .i64 0, .int .i64 0, .int .i64 0, .int .i64 0, .int .i64 0], .int .i64 e]) ∧ Below w.heap.size w w' := by
  have := Inverted_c m w hO
  rw [h] at this
  exact this
theorem inv_as1 {e : Int} (h : ivR m = (iv9 m, e)) (hO : Ot w) : Calls Tryz.prog 40 #[.agg #[.int .i64 m.a, .int .i64 m.b, .int .i64 m.c, .int .i64 m.d, .int .i64 m.e, .int .i64 m.f, .int .i64 m.g, .int .i64 m.h, .int .i64 m.i, .int .i64 m.n]] w fun r w' => r = .returned (.tuple #[.agg #[.int .i64 (ivF m 0 0).1, .int .i64 (ivF m 0 0).2, .int .i64 (ivF m 0 1).1, .int .i64 (ivF m 0 1).2, .int .i64 (ivF m 0 2).1, .int .i64 (ivF m 0 2).2, .int .i64 (ivF m 1 0).1, .int .i64 (ivF m 1 0).2, .int .i64 (ivF m 1 1).1, .int .i64 (ivF m 1 1).2, .int .i64 (ivF m 1 2).1, .int .i64 (ivF m 1 2).2, .int .i64 (ivF m 2 0).1, .int .i64 (ivF m 2 0).2, .int .i64 (ivF m 2 1).1, .int .i64 (ivF m 2 1).2, .int .i64 (ivF m 2 2).1, .int .i64 (ivF m 2 2).2], .int .i64 e]) ∧ Below w.heap.size w w' := by
  have := Inverted_c m w hO
  rw [h] at this
  exact this
theorem rinv_as0 {e : Int} (h : iv2 m = (z9, e)) (hm : MatOk m) : Calls Tryz.prog 45 #[.agg #[.int .i64 m.a, .int .i64 m.b, .int .i64 m.c, .int .i64 m.d, .int .i64 m.e, .int .i64 m.f, .int .i64 m.g, .int .i64 m.h, .int .i64 m.i, .int .i64 m.n]] w fun r w' => r = .returned (.tuple #[.agg #[.int .i64 0, .int .i64 0, .int .i64 0, .int .i64 0, .int .i64 0, .int .i64 0, .int .i64 0, .int .i64 0, .int .i64 0, .int .i64 0, .int .i64 0, .int .i64 0, .int .i64 0, .int .i64 0, .int .i64 0, .int .i64 0, .int .i64 0, .int .i64 0], .int .i64 e]) ∧ Below w.heap.size w w' := by
  have := rInverted_c m hm w
  rw [h] at this
  exact this
theorem rinv_as1 {e : Int} (h : iv2 m = (iv9 m, e)) (hm : MatOk m) : Calls Tryz.prog 45 #[.agg #[.int .i64 m.a, .int .i64 m.b, .int .i64 m.c, .int .i64 m.d, .int .i64 m.e, .int .i64 m.f, .int .i64 m.g, .int .i64 m.h, .int .i64 m.i, .int .i64 m.n]] w fun r w' => r = .returned (.tuple #[.agg #[.int .i64 (ivF m 0 0).1, .int .i64 (ivF m 0 0).2, .int .i64 (ivF m 0 1).1, .int .i64 (ivF m 0 1).2, .int .i64 (ivF m 0 2).1, .int .i64 (ivF m 0 2).2, .int .i64 (ivF m 1 0).1, .int .i64 (ivF m 1 0).2, .int .i64 (ivF m 1 1).1, .int .i64 (ivF m 1 1).2, .int .i64 (ivF m 1 2).1, .int .i64 (ivF m 1 2).2, .int .i64 (ivF m 2 0).1, .int .i64 (ivF m 2 0).2, .int .i64 (ivF m 2 1).1, .int .i64 (ivF m 2 1).2, .int .i64 (ivF m 2 2).1, .int .i64 (ivF m 2 2).2], .int .i64 e]) ∧ Below w.heap.size w w' := by
  have := rInverted_c m hm w
  rw [h] at this
  exact this
theorem rmat_as {e : Int} (h : matE m = e) : Calls Tryz.prog 41 #[.agg #[.int .i64 m.a, .int .i64 m.b, .int .i64 m.c, .int .i64 m.d, .int .i64 m.e, .int .i64 m.f, .int .i64 m.g, .int .i64 m.h, .int .i64 m.i, .int .i64 m.n]] w fun r w' => r = .returned (.int .i64 e) ∧ Below w.heap.size w w' := by
  subst h
  exact rCheckMatrix_c m w
theorem mat_as {e : Int} (h : matE m = e) : Calls Tryz.prog 46 #[.agg #[.int .i64 m.a, .int .i64 m.b, .int .i64 m.c, .int .i64 m.d, .int .i64 m.e, .int .i64 m.f, .int .i64 m.g, .int .i64 m.h, .int .i64 m.i, .int .i64 m.n]] w fun r w' => r = .returned (.int .i64 e) ∧ Below w.heap.size w w' := by
  subst h
  exact checkMatrix_c m w
end

set_option maxHeartbeats 8000000 in
/-- genlocklaw02.ColourMatrices -/
theorem lMatrices_c (m : Mat) (c : Col) (w : World) (hO : Ot w) (hP : Pw w) : Calls Tryz.prog 4 #[.agg #[.int .i64 m.a, .int .i64 m.b, .int .i64 m.c, .int .i64 m.d, .int .i64 m.e, .int .i64 m.f, .int .i64 m.g, .int .i64 m.h, .int .i64 m.i, .int .i64 m.n], .agg #[.int .i64 c.1, .int .i64 c.2.1, .int .i64 c.2.2]] w fun r w' => r = .returned (.bool true) ∧ Below w.heap.size w w' := by
  refine calls_of (args := [.agg #[.int .i64 m.a, .int .i64 m.b, .int .i64 m.c, .int .i64 m.d, .int .i64 m.e, .int .i64 m.f, .int .i64 m.g, .int .i64 m.h, .int .i64 m.i, .int .i64 m.n], .agg #[.int .i64 c.1, .int .i64 c.2.1, .int .i64 c.2.2]]) T_ok Tryz.func4 rfl Tryz.ntmps4 (Nat.le_of_ble_eq_true rfl) rfl ?_
  have h5 : (matE m = 0 ∧ cvE m c = 0 ∧ ¬ detF m = 0) ∨ (matE m = 0 ∧ cvE m c = 0 ∧ detF m = 0) ∨ (matE m = 0 ∧ ¬ cvE m c = 0 ∧ ¬ detF m = 0) ∨ (matE m = 0 ∧ ¬ cvE m c = 0 ∧ detF m = 0) ∨ (¬ matE m = 0 ∧ ¬ cvE m c = 0) := by
    by_cases hb : matE m = 0
    · by_cases ht : cvE m c = 0 <;> by_cases hz : detF m = 0 <;> simp [hb, ht, hz]
    · have : ¬ cvE m c = 0 := fun ht => hb (mat_ok.2 (cvE_ok ht).1)
      simp [hb, this]
  rcases h5 with ⟨hb, ht, hz⟩ | ⟨hb, ht, hz⟩ | ⟨hb, ht, hz⟩ | ⟨hb, ht, hz⟩ | ⟨hb, ht⟩
  · have hB : matE m = 0 := hb
    have hok := mat_ok.1 hb
    have hcol := (cvE_ok ht).2
    have hT : firstL [0, colE c] = 0 := by have := ht; unfold cvE at this; rwa [hb] at this
    have hV : cvR m c = ((cv2 m c).1, (cv2 m c).2) := by rw [cvR_eq, if_pos ht]
    have hD : detR m = (detF m, 0) := if_pos hb
    have hN : (detF m : Int) = if (0 : Int) = 0 then detF m else 0 := by simp
    have hJ : iv2 m = (iv9 m, 0) := iv2_2 hz
    have hI : ivR m = (iv9 m, 0) := by rw [ivR_eq, if_pos hb, hJ]
    repeat' (first
 | (refine C_id ?_; first
 | refine C_seq ?_
 | refine C_region rfl ?_
 | refine C_block ?_
 | refine C_skip ?_
 | refine C_exit ?_
 | refine C_ret0 ?_
 | refine C_condT rfl obQ ?_
 | refine C_condF rfl obQ ?_
 | (refine C_cond rfl obQ (fun h => ?_) (fun h => ?_) <;> (try simp only [Bool.or_eq_true, Bool.and_eq_true, Bool.or_eq_false_iff, Bool.and_eq_false_iff, decide_eq_true_eq, decide_eq_false_iff_not, beq_iff_eq, bne_iff_ne, beq_eq_false_iff_ne, bne_eq_false_iff_eq, ne_eq, Decidable.not_not, List.cons.injEq, and_true, Bool.not_eq_true', Bool.not_eq_false', Int.not_lt, Int.not_le] at h) <;> (try (exfalso; omega)) <;> (try (exfalso; simp at h; done)) <;> (try (exfalso; simp only [not_true_eq_false, false_or, or_false] at h; omega)) <;> (try contradiction))
          )
 | (refine S_id ?_; first
 | ((with_reducible (first | refine S_trueE ?_ ?_ | refine S_trueB ?_ ?_ | refine S_trueL ?_ ?_ | refine S_trueD ?_ ?_ | refine S_trueN ?_ ?_)); · (first | exact beq_self_eq_true _ | rfl))
 | ((with_reducible refine S_trueA ?_ ?_ ?_); (· rfl); (· first | rfl | (first | exact beq_self_eq_true _ | rfl)))
 | refine S_unG rfl rfl rfl rfl ?_
 | refine S_pure (binX_pure rfl obQ (fun w => eq_deep (k := .i64) (n := 3) (xs := [(cv2 m c).1.1, (cv2 m c).1.2.1, (cv2 m c).1.2.2]) (ys := [(cv2 m c).1.1, (cv2 m c).1.2.1, (cv2 m c).1.2.2]) (by kernel_rfl) rfl rfl _ _ w)) ?_
 | refine S_pure (binX_pure rfl obQ (fun w => eq_deep (k := .i64) (n := 18) (xs := [(ivF m 0 0).1, (ivF m 0 0).2, (ivF m 0 1).1, (ivF m 0 1).2, (ivF m 0 2).1, (ivF m 0 2).2, (ivF m 1 0).1, (ivF m 1 0).2, (ivF m 1 1).1, (ivF m 1 1).2, (ivF m 1 2).1, (ivF m 1 2).2, (ivF m 2 0).1, (ivF m 2 0).2, (ivF m 2 1).1, (ivF m 2 1).2, (ivF m 2 2).1, (ivF m 2 2).2]) (ys := [(ivF m 0 0).1, (ivF m 0 0).2, (ivF m 0 1).1, (ivF m 0 1).2, (ivF m 0 2).1, (ivF m 0 2).2, (ivF m 1 0).1, (ivF m 1 0).2, (ivF m 1 1).1, (ivF m 1 1).2, (ivF m 1 2).1, (ivF m 1 2).2, (ivF m 2 0).1, (ivF m 2 0).2, (ivF m 2 1).1, (ivF m 2 1).2, (ivF m 2 2).1, (ivF m 2 2).2]) (by kernel_rfl) rfl rfl _ _ w)) ?_
 | refine S_nil ?_
 | refine S_runN rfl rfl obQ obQ ?_
 | refine S_box (fun b => ⟨_, _, rfl, obQ, ?_⟩)
 | refine S_slice (fun b => ⟨_, _, rfl, obQ, ?_⟩)
 | refine S_call (f := 38) rfl obQ (by kernel_rfl) (fun w hw => conv_as hV) ?_
 | refine S_call (f := 39) rfl obQ (by kernel_rfl) (fun w hw => det_as hD (hw.rdm hO.toS memQ)) ?_
 | refine S_call (f := 40) rfl obQ (by kernel_rfl) (fun w hw => inv_as1 hI (hw.rdm hO.toS memQ)) ?_
 | refine S_call (f := 41) rfl obQ (by kernel_rfl) (fun w hw => rmat_as hB) ?_
 | refine S_call (f := 42) rfl obQ (by kernel_rfl) (fun w hw => rCheckColour_c c w) ?_
 | refine S_call (f := 27) rfl obQ (by kernel_rfl) (fun w hw => lfirstE_c (l := [_, colE c]) hT (by simp) rfl _ w (.inr ⟨_, rfl, hw.src (i := 4) rfl rfl⟩)) ?_
 | refine S_call (f := 46) rfl obQ (by kernel_rfl) (fun w hw => mat_as hB) ?_
 | refine S_call (f := 35) rfl obQ (by kernel_rfl) (fun w hw => number_as hN rfl) ?_
 | refine S_call (f := 20) rfl obQ (by kernel_rfl) (fun w hw => awake_c w (hw.rdm hO.toS memQ) (Pw_at hP hw memQ)) ?_
 | refine S_call (f := 43) rfl obQ (by kernel_rfl) (fun w hw => rConverted_c m c hok hcol w) ?_
 | refine S_call (f := 44) rfl obQ (by kernel_rfl) (fun w hw => rDeterminant_c m hok w) ?_
 | refine S_call (f := 45) rfl obQ (by kernel_rfl) (fun w hw => rinv_as1 hJ hok) ?_
          )
 | (refine G_id ?_; first
 | refine G_then ?_
 | refine G_block ?_
 | refine G_blockX ?_
 | refine G_blockN rfl ?_
 | refine G_blockR ?_
 | refine G_thenR ?_
 | refine G_thenX ?_
 | refine G_ret rfl obQ (fun w hw => ⟨?_, hw.below⟩)
          )
        )
    all_goals rfl
  · have hB : matE m = 0 := hb
    have hok := mat_ok.1 hb
    have hcol := (cvE_ok ht).2
    have hT : firstL [0, colE c] = 0 := by have := ht; unfold cvE at this; rwa [hb] at this
    have hV : cvR m c = ((cv2 m c).1, (cv2 m c).2) := by rw [cvR_eq, if_pos ht]
    have hD : detR m = (detF m, 0) := if_pos hb
    have hN : (detF m : Int) = if (0 : Int) = 0 then detF m else 0 := by simp
    have hJ : iv2 m = (z9, 17) := iv2_1 hz
    have hI : ivR m = (z9, 17) := by rw [ivR_eq, if_pos hb, hJ]
    repeat' (first
 | (refine C_id ?_; first
 | refine C_seq ?_
 | refine C_region rfl ?_
 | refine C_block ?_
 | refine C_skip ?_
 | refine C_exit ?_
 | refine C_ret0 ?_
 | refine C_condT rfl obQ ?_
 | refine C_condF rfl obQ ?_
 | (refine C_cond rfl obQ (fun h => ?_) (fun h => ?_) <;> (try simp only [Bool.or_eq_true, Bool.and_eq_true, Bool.or_eq_false_iff, Bool.and_eq_false_iff, decide_eq_true_eq, decide_eq_false_iff_not, beq_iff_eq, bne_iff_ne, beq_eq_false_iff_ne, bne_eq_false_iff_eq, ne_eq, Decidable.not_not, List.cons.injEq, and_true, Bool.not_eq_true', Bool.not_eq_false', Int.not_lt, Int.not_le] at h) <;> (try (exfalso; omega)) <;> (try (exfalso; simp at h; done)) <;> (try (exfalso; simp only [not_true_eq_false, false_or, or_false] at h; omega)) <;> (try contradiction))
          )
 | (refine S_id ?_; first
 | ((with_reducible (first | refine S_trueE ?_ ?_ | refine S_trueB ?_ ?_ | refine S_trueL ?_ ?_ | refine S_trueD ?_ ?_ | refine S_trueN ?_ ?_)); · (first | exact beq_self_eq_true _ | rfl))
 | ((with_reducible refine S_trueA ?_ ?_ ?_); (· rfl); (· first | rfl | (first | exact beq_self_eq_true _ | rfl)))
 | refine S_unG rfl rfl rfl rfl ?_
 | refine S_pure (binX_pure rfl obQ (fun w => eq_deep (k := .i64) (n := 3) (xs := [(cv2 m c).1.1, (cv2 m c).1.2.1, (cv2 m c).1.2.2]) (ys := [(cv2 m c).1.1, (cv2 m c).1.2.1, (cv2 m c).1.2.2]) (by kernel_rfl) rfl rfl _ _ w)) ?_
 | refine S_pure (binX_pure rfl obQ (fun w => eq_deep (k := .i64) (n := 18) (xs := [0, 0, 0, 0, 0, 0, 0, 0, 0, 0, 0, 0, 0, 0, 0, 0, 0, 0]) (ys := [0, 0, 0, 0, 0, 0, 0, 0, 0, 0, 0, 0, 0, 0, 0, 0, 0, 0]) (by kernel_rfl) rfl rfl _ _ w)) ?_
 | refine S_nil ?_
 | refine S_runN rfl rfl obQ obQ ?_
 | refine S_box (fun b => ⟨_, _, rfl, obQ, ?_⟩)
 | refine S_slice (fun b => ⟨_, _, rfl, obQ, ?_⟩)
 | refine S_call (f := 38) rfl obQ (by kernel_rfl) (fun w hw => conv_as hV) ?_
 | refine S_call (f := 39) rfl obQ (by kernel_rfl) (fun w hw => det_as hD (hw.rdm hO.toS memQ)) ?_
 | refine S_call (f := 40) rfl obQ (by kernel_rfl) (fun w hw => inv_as0 hI (hw.rdm hO.toS memQ)) ?_
 | refine S_call (f := 41) rfl obQ (by kernel_rfl) (fun w hw => rmat_as hB) ?_
 | refine S_call (f := 42) rfl obQ (by kernel_rfl) (fun w hw => rCheckColour_c c w) ?_
 | refine S_call (f := 27) rfl obQ (by kernel_rfl) (fun w hw => lfirstE_c (l := [_, colE c]) hT (by simp) rfl _ w (.inr ⟨_, rfl, hw.src (i := 4) rfl rfl⟩)) ?_
 | refine S_call (f := 46) rfl obQ (by kernel_rfl) (fun w hw => mat_as hB) ?_
 | refine S_call (f := 35) rfl obQ (by kernel_rfl) (fun w hw => number_as hN rfl) ?_
 | refine S_call (f := 20) rfl obQ (by kernel_rfl) (fun w hw => awake_c w (hw.rdm hO.toS memQ) (Pw_at hP hw memQ)) ?_
 | refine S_call (f := 43) rfl obQ (by kernel_rfl) (fun w hw => rConverted_c m c hok hcol w) ?_
 | refine S_call (f := 44) rfl obQ (by kernel_rfl) (fun w hw => rDeterminant_c m hok w) ?_
 | refine S_call (f := 45) rfl obQ (by kernel_rfl) (fun w hw => rinv_as0 hJ hok) ?_
          )
 | (refine G_id ?_; first
 | refine G_then ?_
 | refine G_block ?_
 | refine G_blockX ?_
 | refine G_blockN rfl ?_
 | refine G_blockR ?_
 | refine G_thenR ?_
 | refine G_thenX ?_
 | refine G_ret rfl obQ (fun w hw => ⟨?_, hw.below⟩)
          )
        )
    all_goals rfl
  · have hB : matE m = 0 := hb
    have hok := mat_ok.1 hb
    have hT : firstL [0, colE c] = cvE m c := by unfold cvE; rw [hb]
    have hV : cvR m c = ((0, 0, 0), cvE m c) := by rw [cvR_eq, if_neg ht]
    have hD : detR m = (detF m, 0) := if_pos hb
    have hN : (detF m : Int) = if (0 : Int) = 0 then detF m else 0 := by simp
    have hJ : iv2 m = (iv9 m, 0) := iv2_2 hz
    have hI : ivR m = (iv9 m, 0) := by rw [ivR_eq, if_pos hb, hJ]
    repeat' (first
 | (refine C_id ?_; first
 | refine C_seq ?_
 | refine C_region rfl ?_
 | refine C_block ?_
 | refine C_skip ?_
 | refine C_exit ?_
 | refine C_ret0 ?_
 | refine C_condT rfl obQ ?_
 | refine C_condF rfl obQ ?_
 | (refine C_cond rfl obQ (fun h => ?_) (fun h => ?_) <;> (try simp only [Bool.or_eq_true, Bool.and_eq_true, Bool.or_eq_false_iff, Bool.and_eq_false_iff, decide_eq_true_eq, decide_eq_false_iff_not, beq_iff_eq, bne_iff_ne, beq_eq_false_iff_ne, bne_eq_false_iff_eq, ne_eq, Decidable.not_not, List.cons.injEq, and_true, Bool.not_eq_true', Bool.not_eq_false', Int.not_lt, Int.not_le] at h) <;> (try (exfalso; omega)) <;> (try (exfalso; simp at h; done)) <;> (try (exfalso; simp only [not_true_eq_false, false_or, or_false] at h; omega)) <;> (try contradiction))
          )
 | (refine S_id ?_; first
 | ((with_reducible (first | refine S_trueE ?_ ?_ | refine S_trueB ?_ ?_ | refine S_trueL ?_ ?_ | refine S_trueD ?_ ?_ | refine S_trueN ?_ ?_)); · (first | exact beq_self_eq_true _ | rfl))
 | ((with_reducible refine S_trueA ?_ ?_ ?_); (· rfl); (· first | rfl | (first | exact beq_self_eq_true _ | rfl)))
 | refine S_unG rfl rfl rfl rfl ?_
 | refine S_pure (binX_pure rfl obQ (fun w => eq_deep (k := .i64) (n := 3) (xs := [0, 0, 0]) (ys := [0, 0, 0]) (by kernel_rfl) rfl rfl _ _ w)) ?_
 | refine S_pure (binX_pure rfl obQ (fun w => eq_deep (k := .i64) (n := 18) (xs := [(ivF m 0 0).1, (ivF m 0 0).2, (ivF m 0 1).1, (ivF m 0 1).2, (ivF m 0 2).1, (ivF m 0 2).2, (ivF m 1 0).1, (ivF m 1 0).2, (ivF m 1 1).1, (ivF m 1 1).2, (ivF m 1 2).1, (ivF m 1 2).2, (ivF m 2 0).1, (ivF m 2 0).2, (ivF m 2 1).1, (ivF m 2 1).2, (ivF m 2 2).1, (ivF m 2 2).2]) (ys := [(ivF m 0 0).1, (ivF m 0 0).2, (ivF m 0 1).1, (ivF m 0 1).2, (ivF m 0 2).1, (ivF m 0 2).2, (ivF m 1 0).1, (ivF m 1 0).2, (ivF m 1 1).1, (ivF m 1 1).2, (ivF m 1 2).1, (ivF m 1 2).2, (ivF m 2 0).1, (ivF m 2 0).2, (ivF m 2 1).1, (ivF m 2 1).2, (ivF m 2 2).1, (ivF m 2 2).2]) (by kernel_rfl) rfl rfl _ _ w)) ?_
 | refine S_nil ?_
 | refine S_runN rfl rfl obQ obQ ?_
 | refine S_box (fun b => ⟨_, _, rfl, obQ, ?_⟩)
 | refine S_slice (fun b => ⟨_, _, rfl, obQ, ?_⟩)
 | refine S_call (f := 38) rfl obQ (by kernel_rfl) (fun w hw => conv_as hV) ?_
 | refine S_call (f := 39) rfl obQ (by kernel_rfl) (fun w hw => det_as hD (hw.rdm hO.toS memQ)) ?_
 | refine S_call (f := 40) rfl obQ (by kernel_rfl) (fun w hw => inv_as1 hI (hw.rdm hO.toS memQ)) ?_
 | refine S_call (f := 41) rfl obQ (by kernel_rfl) (fun w hw => rmat_as hB) ?_
 | refine S_call (f := 42) rfl obQ (by kernel_rfl) (fun w hw => rCheckColour_c c w) ?_
 | refine S_call (f := 27) rfl obQ (by kernel_rfl) (fun w hw => lfirstE_c (l := [_, colE c]) hT (by simp) rfl _ w (.inr ⟨_, rfl, hw.src (i := 4) rfl rfl⟩)) ?_
 | refine S_call (f := 46) rfl obQ (by kernel_rfl) (fun w hw => mat_as hB) ?_
 | refine S_call (f := 35) rfl obQ (by kernel_rfl) (fun w hw => number_as hN rfl) ?_
 | refine S_call (f := 20) rfl obQ (by kernel_rfl) (fun w hw => awake_c w (hw.rdm hO.toS memQ) (Pw_at hP hw memQ)) ?_
 | refine S_call (f := 44) rfl obQ (by kernel_rfl) (fun w hw => rDeterminant_c m hok w) ?_
 | refine S_call (f := 45) rfl obQ (by kernel_rfl) (fun w hw => rinv_as1 hJ hok) ?_
          )
 | (refine G_id ?_; first
 | refine G_then ?_
 | refine G_block ?_
 | refine G_blockX ?_
 | refine G_blockN rfl ?_
 | refine G_blockR ?_
 | refine G_thenR ?_
 | refine G_thenX ?_
 | refine G_ret rfl obQ (fun w hw => ⟨?_, hw.below⟩)
          )
        )
    all_goals rfl
  · have hB : matE m = 0 := hb
    have hok := mat_ok.1 hb
    have hT : firstL [0, colE c] = cvE m c := by unfold cvE; rw [hb]
    have hV : cvR m c = ((0, 0, 0), cvE m c) := by rw [cvR_eq, if_neg ht]
    have hD : detR m = (detF m, 0) := if_pos hb
    have hN : (detF m : Int) = if (0 : Int) = 0 then detF m else 0 := by simp
    have hJ : iv2 m = (z9, 17) := iv2_1 hz
    have hI : ivR m = (z9, 17) := by rw [ivR_eq, if_pos hb, hJ]
    repeat' (first
 | (refine C_id ?_; first
 | refine C_seq ?_
 | refine C_region rfl ?_
 | refine C_block ?_
 | refine C_skip ?_
 | refine C_exit ?_
 | refine C_ret0 ?_
 | refine C_condT rfl obQ ?_
 | refine C_condF rfl obQ ?_
 | (refine C_cond rfl obQ (fun h => ?_) (fun h => ?_) <;> (try simp only [Bool.or_eq_true, Bool.and_eq_true, Bool.or_eq_false_iff, Bool.and_eq_false_iff, decide_eq_true_eq, decide_eq_false_iff_not, beq_iff_eq, bne_iff_ne, beq_eq_false_iff_ne, bne_eq_false_iff_eq, ne_eq, Decidable.not_not, List.cons.injEq, and_true, Bool.not_eq_true', Bool.not_eq_false', Int.not_lt, Int.not_le] at h) <;> (try (exfalso; omega)) <;> (try (exfalso; simp at h; done)) <;> (try (exfalso; simp only [not_true_eq_false, false_or, or_false] at h; omega)) <;> (try contradiction))
          )
 | (refine S_id ?_; first
 | ((with_reducible (first | refine S_trueE ?_ ?_ | refine S_trueB ?_ ?_ | refine S_trueL ?_ ?_ | refine S_trueD ?_ ?_ | refine S_trueN ?_ ?_)); · (first | exact beq_self_eq_true _ | rfl))
 | ((with_reducible refine S_trueA ?_ ?_ ?_); (· rfl); (· first | rfl | (first | exact beq_self_eq_true _ | rfl)))
 | refine S_unG rfl rfl rfl rfl ?_
 | refine S_pure (binX_pure rfl obQ (fun w => eq_deep (k := .i64) (n := 3) (xs := [0, 0, 0]) (ys := [0, 0, 0]) (by kernel_rfl) rfl rfl _ _ w)) ?_
 | refine S_pure (binX_pure rfl obQ (fun w => eq_deep (k := .i64) (n := 18) (xs := [0, 0, 0, 0, 0, 0, 0, 0, 0, 0, 0, 0, 0, 0, 0, 0, 0, 0]) (ys := [0, 0, 0, 0, 0, 0, 0, 0, 0, 0, 0, 0, 0, 0, 0, 0, 0, 0]) (by kernel_rfl) rfl rfl _ _ w)) ?_
 | refine S_nil ?_
 | refine S_runN rfl rfl obQ obQ ?_
 | refine S_box (fun b => ⟨_, _, rfl, obQ, ?_⟩)
 | refine S_slice (fun b => ⟨_, _, rfl, obQ, ?_⟩)
 | refine S_call (f := 38) rfl obQ (by kernel_rfl) (fun w hw => conv_as hV) ?_
 | refine S_call (f := 39) rfl obQ (by kernel_rfl) (fun w hw => det_as hD (hw.rdm hO.toS memQ)) ?_
 | refine S_call (f := 40) rfl obQ (by kernel_rfl) (fun w hw => inv_as0 hI (hw.rdm hO.toS memQ)) ?_
 | refine S_call (f := 41) rfl obQ (by kernel_rfl) (fun w hw => rmat_as hB) ?_
 | refine S_call (f := 42) rfl obQ (by kernel_rfl) (fun w hw => rCheckColour_c c w) ?_
 | refine S_call (f := 27) rfl obQ (by kernel_rfl) (fun w hw => lfirstE_c (l := [_, colE c]) hT (by simp) rfl _ w (.inr ⟨_, rfl, hw.src (i := 4) rfl rfl⟩)) ?_
 | refine S_call (f := 46) rfl obQ (by kernel_rfl) (fun w hw => mat_as hB) ?_
 | refine S_call (f := 35) rfl obQ (by kernel_rfl) (fun w hw => number_as hN rfl) ?_
 | refine S_call (f := 20) rfl obQ (by kernel_rfl) (fun w hw => awake_c w (hw.rdm hO.toS memQ) (Pw_at hP hw memQ)) ?_
 | refine S_call (f := 44) rfl obQ (by kernel_rfl) (fun w hw => rDeterminant_c m hok w) ?_
 | refine S_call (f := 45) rfl obQ (by kernel_rfl) (fun w hw => rinv_as0 hJ hok) ?_
          )
 | (refine G_id ?_; first
 | refine G_then ?_
 | refine G_block ?_
 | refine G_blockX ?_
 | refine G_blockN rfl ?_
 | refine G_blockR ?_
 | refine G_thenR ?_
 | refine G_thenX ?_
 | refine G_ret rfl obQ (fun w hw => ⟨?_, hw.below⟩)
          )
        )
    all_goals rfl
  · have hB : matE m = matE m := rfl
    have hT : firstL [matE m, colE c] = cvE m c := rfl
    have hV : cvR m c = ((0, 0, 0), cvE m c) := by rw [cvR_eq, if_neg ht]
    have hD : detR m = (0, matE m) := if_neg hb
    have hN : (0 : Int) = if matE m = 0 then 0 else 0 := by simp
    have hI : ivR m = (z9, matE m) := ivR_1 hb
    repeat' (first
 | (refine C_id ?_; first
 | refine C_seq ?_
 | refine C_region rfl ?_
 | refine C_block ?_
 | refine C_skip ?_
 | refine C_exit ?_
 | refine C_ret0 ?_
 | refine C_condT rfl obQ ?_
 | refine C_condF rfl obQ ?_
 | (refine C_cond rfl obQ (fun h => ?_) (fun h => ?_) <;> (try simp only [Bool.or_eq_true, Bool.and_eq_true, Bool.or_eq_false_iff, Bool.and_eq_false_iff, decide_eq_true_eq, decide_eq_false_iff_not, beq_iff_eq, bne_iff_ne, beq_eq_false_iff_ne, bne_eq_false_iff_eq, ne_eq, Decidable.not_not, List.cons.injEq, and_true, Bool.not_eq_true', Bool.not_eq_false', Int.not_lt, Int.not_le] at h) <;> (try (exfalso; omega)) <;> (try (exfalso; simp at h; done)) <;> (try (exfalso; simp only [not_true_eq_false, false_or, or_false] at h; omega)) <;> (try contradiction))
          )
 | (refine S_id ?_; first
 | ((with_reducible (first | refine S_trueE ?_ ?_ | refine S_trueB ?_ ?_ | refine S_trueL ?_ ?_ | refine S_trueD ?_ ?_ | refine S_trueN ?_ ?_)); · (first | exact beq_self_eq_true _ | rfl))
 | ((with_reducible refine S_trueA ?_ ?_ ?_); (· rfl); (· first | rfl | (first | exact beq_self_eq_true _ | rfl)))
 | refine S_unG rfl rfl rfl rfl ?_
 | refine S_pure (binX_pure rfl obQ (fun w => eq_deep (k := .i64) (n := 3) (xs := [0, 0, 0]) (ys := [0, 0, 0]) (by kernel_rfl) rfl rfl _ _ w)) ?_
 | refine S_pure (binX_pure rfl obQ (fun w => eq_deep (k := .i64) (n := 18) (xs := [0, 0, 0, 0, 0, 0, 0, 0, 0, 0, 0, 0, 0, 0, 0, 0, 0, 0]) (ys := [0, 0, 0, 0, 0, 0, 0, 0, 0, 0, 0, 0, 0, 0, 0, 0, 0, 0]) (by kernel_rfl) rfl rfl _ _ w)) ?_
 | refine S_nil ?_
 | refine S_runN rfl rfl obQ obQ ?_
 | refine S_box (fun b => ⟨_, _, rfl, obQ, ?_⟩)
 | refine S_slice (fun b => ⟨_, _, rfl, obQ, ?_⟩)
 | refine S_call (f := 38) rfl obQ (by kernel_rfl) (fun w hw => conv_as hV) ?_
 | refine S_call (f := 39) rfl obQ (by kernel_rfl) (fun w hw => det_as hD (hw.rdm hO.toS memQ)) ?_
 | refine S_call (f := 40) rfl obQ (by kernel_rfl) (fun w hw => inv_as0 hI (hw.rdm hO.toS memQ)) ?_
 | refine S_call (f := 41) rfl obQ (by kernel_rfl) (fun w hw => rmat_as hB) ?_
 | refine S_call (f := 42) rfl obQ (by kernel_rfl) (fun w hw => rCheckColour_c c w) ?_
 | refine S_call (f := 27) rfl obQ (by kernel_rfl) (fun w hw => lfirstE_c (l := [_, colE c]) hT (by simp) rfl _ w (.inr ⟨_, rfl, hw.src (i := 4) rfl rfl⟩)) ?_
 | refine S_call (f := 46) rfl obQ (by kernel_rfl) (fun w hw => mat_as hB) ?_
 | refine S_call (f := 35) rfl obQ (by kernel_rfl) (fun w hw => number_as hN rfl) ?_
 | refine S_call (f := 20) rfl obQ (by kernel_rfl) (fun w hw => awake_c w (hw.rdm hO.toS memQ) (Pw_at hP hw memQ)) ?_
          )
 | (refine G_id ?_; first
 | refine G_then ?_
 | refine G_block ?_
 | refine G_blockX ?_
 | refine G_blockN rfl ?_
 | refine G_blockR ?_
 | refine G_thenR ?_
 | refine G_thenX ?_
 | refine G_ret rfl obQ (fun w hw => ⟨?_, hw.below⟩)
          )
        )
    all_goals rfl

end Go.Proofs.YtdbffbcobghbeaaGreatDoor
