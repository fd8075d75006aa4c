/- Matrices: determinants, inverses, products: the program. -/
import Derived.Test.YtedlaominconaaaDoorColour8
namespace Go.Proofs.YtedlaominconaaaDoor
open Go.E Go.RowKit Go.Fl
attribute [local irreducible] G C S D Calls
set_option maxRecDepth 100000
set_option linter.unusedSimpArgs false
set_option linter.unusedVariables false

set_option maxHeartbeats 400000 in
/-- (genlock/colour.Matrix).determinant -/
theorem determinant_c (m : Mat) (hm : MatOk m) (w : World) (hO : Ot w) : Calls Tryd.prog 25 #[.agg #[.int .i64 m.a, .int .i64 m.b, .int .i64 m.c, .int .i64 m.d, .int .i64 m.e, .int .i64 m.f, .int .i64 m.g, .int .i64 m.h, .int .i64 m.i, .int .i64 m.n]] w fun r w' => r = .returned (.int .i64 (detF m)) ∧ Below w.heap.size w w' := by
  refine calls_of (args := [.agg #[.int .i64 m.a, .int .i64 m.b, .int .i64 m.c, .int .i64 m.d, .int .i64 m.e, .int .i64 m.f, .int .i64 m.g, .int .i64 m.h, .int .i64 m.i, .int .i64 m.n]]) T_ok Tryd.func25 rfl Tryd.ntmps25 (Nat.le_of_ble_eq_true rfl) rfl ?_
  repeat' (first
 | (refine C_id ?_; first
 | refine C_seq ?_
 | refine C_region rfl ?_
 | refine C_block ?_
 | refine C_skip ?_
 | refine C_exit ?_
 | refine C_ret0 ?_
 | refine C_draw (id := 1) rfl mixed (by kernel_rfl) ?_
 | refine C_condT rfl obQ ?_
 | refine C_condF rfl obQ ?_
 | (refine C_cond rfl obQ (fun h => ?_) (fun h => ?_) <;> (try simp only [Bool.or_eq_true, Bool.and_eq_true, Bool.or_eq_false_iff, Bool.and_eq_false_iff, decide_eq_true_eq, decide_eq_false_iff_not, beq_iff_eq, bne_iff_ne, beq_eq_false_iff_ne, bne_eq_false_iff_eq, ne_eq, Decidable.not_not, List.cons.injEq, and_true, Bool.not_eq_true', Bool.not_eq_false', Int.not_lt, Int.not_le] at h))
 )
 | (refine S_id ?_; first
 | refine S_nil ?_
 | refine S_run rfl rfl obQ obQ ?_
 | refine S_box (fun b => ⟨_, _, rfl, obQ, ?_⟩)
 | refine S_call (f := 27) rfl obQ (by kernel_rfl) (fun w hw => cof00_c m hm w (hw.rdm hO.toS memQ)) ?_
 | refine S_call (f := 27) rfl obQ (by kernel_rfl) (fun w hw => cof01_c m hm w (hw.rdm hO.toS memQ)) ?_
 | refine S_call (f := 27) rfl obQ (by kernel_rfl) (fun w hw => cof02_c m hm w (hw.rdm hO.toS memQ)) ?_
 | refine S_call (f := 23) rfl obQ (by kernel_rfl) (fun w hw => dot_c _ _ _ _ _ _ (by have := hm.a; omega) (by have := hm.b; omega) (by have := hm.c; omega) (by have := cof_bd hm 0 0; omega) (by have := cof_bd hm 0 1; omega) (by have := cof_bd hm 0 2; omega) w) ?_
 )
 | (refine D_id ?_; first
 | refine D_nil ?_
 | refine D_tail ?_
 | refine D_run rfl rfl obQ obQ ?_
 | refine D_call (f := 27) rfl obQ (by kernel_rfl) (fun w hw => cof00_c m hm w (hw.rdm hO.toS memQ)) ?_
 | refine D_call (f := 27) rfl obQ (by kernel_rfl) (fun w hw => cof01_c m hm w (hw.rdm hO.toS memQ)) ?_
 | refine D_call (f := 27) rfl obQ (by kernel_rfl) (fun w hw => cof02_c m hm w (hw.rdm hO.toS memQ)) ?_
 | refine D_call (f := 23) rfl obQ (by kernel_rfl) (fun w hw => dot_c _ _ _ _ _ _ (by have := hm.a; omega) (by have := hm.b; omega) (by have := hm.c; omega) (by have := cof_bd hm 0 0; omega) (by have := cof_bd hm 0 1; omega) (by have := cof_bd hm 0 2; omega) w) ?_
 )
 | (refine G_id ?_; first
 | refine G_then ?_
 | refine G_block ?_
 | refine G_blockX ?_
 | refine G_blockN rfl ?_
 | refine G_blockR ?_
 | refine G_thenR ?_
 | refine G_thenX ?_
 | refine G_ret rfl obQ (fun w hw => ⟨?_, hw.below⟩)
 )
 )
  rfl

theorem det_bd {m : Mat} (hm : MatOk m) : -824633720832 ≤ detF m ∧ detF m ≤ 824633720832 := dot_bd (m := m) hm.a hm.b hm.c (by have := cof_bd hm 0 0; omega) (by have := cof_bd hm 0 1; omega) (by have := cof_bd hm 0 2; omega)
-- Determinant

theorem ratF_neg {x y : Int} (h : y < 0) : ratF x y = (x.tdiv (0 - (Int.gcd x y : Nat)), y.tdiv (0 - (Int.gcd x y : Nat))) := by rw [ratF, if_pos h, Int.zero_sub]
theorem ratF_pos {x y : Int} (h : ¬ y < 0) : ratF x y = (x.tdiv (Int.gcd x y : Nat), y.tdiv (Int.gcd x y : Nat)) := by rw [ratF, if_neg h]
theorem rPt {q p : Int × Int} (h : q = p) : Ending.returned (.agg #[.int .i64 p.1, .int .i64 p.2]) = Ending.returned (.agg #[.int .i64 q.1, .int .i64 q.2]) := by rw [h]

set_option maxHeartbeats 400000 in
/-- colour.ratio -/
theorem ratio_c (x y : Int) (hx : -1125899906842624 ≤ x ∧ x ≤ 1125899906842624) (hy : -1125899906842624 ≤ y ∧ y ≤ 1125899906842624) (h0 : y ≠ 0) (w : World) : Calls Tryd.prog 26 #[.int .i64 x, .int .i64 y] w fun r w' => r = .returned (.agg #[.int .i64 (ratF x y).1, .int .i64 (ratF x y).2]) ∧ Below w.heap.size w w' := by
  have hg := gcd_pos (x := x) h0
  have hg2 := gcd_le (x := x) h0
  refine calls_of (args := [.int .i64 x, .int .i64 y]) T_ok Tryd.func26 rfl Tryd.ntmps26 (Nat.le_of_ble_eq_true rfl) rfl ?_
  repeat' (first
 | (refine C_id ?_; first
 | refine C_seq ?_
 | refine C_region rfl ?_
 | refine C_block ?_
 | refine C_skip ?_
 | refine C_exit ?_
 | refine C_ret0 ?_
 | refine C_drawT (id := 4) 7 rfl mixed (by kernel_rfl) rfl rfl ?_
 | refine C_condT rfl obQ ?_
 | refine C_condF rfl obQ ?_
 | (refine C_cond rfl obQ (fun h => ?_) (fun h => ?_) <;> (try simp only [Bool.or_eq_true, Bool.and_eq_true, Bool.or_eq_false_iff, Bool.and_eq_false_iff, decide_eq_true_eq, decide_eq_false_iff_not, beq_iff_eq, bne_iff_ne, beq_eq_false_iff_ne, bne_eq_false_iff_eq, ne_eq, Decidable.not_not, List.cons.injEq, and_true, Bool.not_eq_true', Bool.not_eq_false', Int.not_lt, Int.not_le] at h))
 )
 | (refine S_id ?_; first
 | refine S_pure (binX_pure rfl obQ (fun w => quo_any _ _ _ (by omega) (by omega) w)) ?_
 | refine S_nil ?_
 | refine S_run rfl rfl obQ obQ ?_
 | refine S_box (fun b => ⟨_, _, rfl, obQ, ?_⟩)
 | refine S_one rfl obQ ?_
 | refine S_call (f := 24) rfl obQ (by kernel_rfl) (fun w hw => divisor_c x y hx hy w) ?_
 )
 | (refine D_id ?_; first
 | refine D_pure (binX_pure rfl obQ (fun w => quo_any _ _ _ (by omega) (by omega) w)) ?_
 | refine D_nil ?_
 | refine D_tail ?_
 | refine D_run rfl rfl obQ obQ ?_
 | refine D_one rfl obQ ?_
 | refine D_call (f := 24) rfl obQ (by kernel_rfl) (fun w hw => divisor_c x y hx hy w) ?_
 )
 | (refine G_id ?_; first
 | refine G_then ?_
 | refine G_block ?_
 | refine G_blockX ?_
 | refine G_blockN rfl ?_
 | refine G_blockR ?_
 | refine G_thenR ?_
 | refine G_thenX ?_
 | refine G_ret rfl obQ (fun w hw => ⟨?_, hw.below⟩)
 )
 )
  · exact rPt (ratF_neg h)
  · exact rPt (q := ratF x y) (p := (x.tdiv (Int.gcd x y : Nat), y / (Int.gcd x y : Nat))) (by rw [ratF_pos (by omega), Int.tdiv_eq_ediv_of_nonneg (a := y) (by omega)])

/-- An entry of the inverse. -/
def ivF (m : Mat) (i k : Nat) : Int × Int := ratF (m.n * cofF m k i) (detF m)
def iv9 (m : Mat) : List (Int × Int) := [ivF m 0 0, ivF m 0 1, ivF m 0 2, ivF m 1 0, ivF m 1 1, ivF m 1 2, ivF m 2 0, ivF m 2 1, ivF m 2 2]
def z9 : List (Int × Int) := [(0, 0), (0, 0), (0, 0), (0, 0), (0, 0), (0, 0), (0, 0), (0, 0), (0, 0)]
def v9 (l : List (Int × Int)) : Value := .agg (l.flatMap ptC).toArray
def ivR (m : Mat) : List (Int × Int) × Int := if matE m = 0 then (if detF m = 0 then (z9, 17) else (iv9 m, 0)) else (z9, matE m)
theorem ivR_1 {m : Mat} (h : ¬ matE m = 0) : ivR m = (z9, matE m) := if_neg h
theorem ivR_2 {m : Mat} (h : matE m = 0) (h2 : detF m = 0) : ivR m = (z9, 17) := by rw [ivR, if_pos h, if_pos h2]
theorem ivR_3 {m : Mat} (h : matE m = 0) (h2 : ¬ detF m = 0) : ivR m = (iv9 m, 0) := by rw [ivR, if_pos h, if_neg h2]
theorem rV9 {q p : List (Int × Int) × Int} (h : q = p) : Ending.returned (.tuple #[v9 p.1, .int .i64 p.2]) = Ending.returned (.tuple #[v9 q.1, .int .i64 q.2]) := by rw [h]
theorem nc_bd {m : Mat} (hm : MatOk m) (i k : Nat) : -137438953472 ≤ m.n * cofF m i k ∧ m.n * cofF m i k ≤ 137438953472 := by
  have h := mul_ab (a := m.n) (A := 4096) (by have := hm.n; omega) (cof_bd hm i k)
  omega

set_option maxHeartbeats 1000000 in
/-- colour.Inverted -/
theorem Inverted_c (m : Mat) (w : World) (hO : Ot w) : Calls Tryd.prog 7 #[.agg #[.int .i64 m.a, .int .i64 m.b, .int .i64 m.c, .int .i64 m.d, .int .i64 m.e, .int .i64 m.f, .int .i64 m.g, .int .i64 m.h, .int .i64 m.i, .int .i64 m.n]] w fun r w' => r = .returned (.tuple #[v9 (ivR m).1, .int .i64 (ivR m).2]) ∧ Below w.heap.size w w' := by
  refine calls_of (args := [.agg #[.int .i64 m.a, .int .i64 m.b, .int .i64 m.c, .int .i64 m.d, .int .i64 m.e, .int .i64 m.f, .int .i64 m.g, .int .i64 m.h, .int .i64 m.i, .int .i64 m.n]]) T_ok Tryd.func7 rfl Tryd.ntmps7 (Nat.le_of_ble_eq_true rfl) rfl ?_
  by_cases hE : matE m = 0
  · have hm := mat_ok.1 hE
    have hn := hm.n
    have hd := det_bd hm
    by_cases h0 : detF m = 0
    · repeat' (first
 | (refine C_id ?_; first
 | refine C_seq ?_
 | refine C_region rfl ?_
 | refine C_block ?_
 | refine C_skip ?_
 | refine C_exit ?_
 | refine C_ret0 ?_
 | refine C_drawT (id := 14) 13 rfl mixed (by kernel_rfl) rfl rfl ?_
 | refine C_condT rfl obQ ?_
 | refine C_condF rfl obQ ?_
 | (refine C_cond rfl obQ (fun h => ?_) (fun h => ?_) <;> (try simp only [Bool.or_eq_true, Bool.and_eq_true, Bool.or_eq_false_iff, Bool.and_eq_false_iff, decide_eq_true_eq, decide_eq_false_iff_not, beq_iff_eq, bne_iff_ne, beq_eq_false_iff_ne, bne_eq_false_iff_eq, ne_eq, Decidable.not_not, List.cons.injEq, and_true, Bool.not_eq_true', Bool.not_eq_false', Int.not_lt, Int.not_le] at h) <;> (try (exfalso; omega)) <;> (try (exfalso; simp at h; done)) <;> (try (exfalso; simp only [not_true_eq_false, false_or, or_false] at h; omega)) <;> (try contradiction))
       )
 | (refine S_id ?_; first
 | refine S_nil ?_
 | refine S_run rfl rfl obQ obQ ?_
 | refine S_box (fun b => ⟨_, _, rfl, obQ, ?_⟩)
 | refine S_call (f := 22) rfl obQ (by kernel_rfl) (fun w hw => checkMatrix_c m w) ?_
 | refine S_call (f := 25) rfl obQ (by kernel_rfl) (fun w hw => determinant_c m hm w (hw.rdm hO.toS memQ)) ?_
       )
 | (refine D_id ?_; first
 | refine D_nil ?_
 | refine D_tail ?_
 | refine D_run rfl rfl obQ obQ ?_
 | refine D_call (f := 22) rfl obQ (by kernel_rfl) (fun w hw => checkMatrix_c m w) ?_
 | refine D_call (f := 25) rfl obQ (by kernel_rfl) (fun w hw => determinant_c m hm w (hw.rdm hO.toS memQ)) ?_
       )
 | (refine G_id ?_; first
 | refine G_then ?_
 | refine G_block ?_
 | refine G_blockX ?_
 | refine G_blockN rfl ?_
 | refine G_blockR ?_
 | refine G_thenR ?_
 | refine G_thenX ?_
 | refine G_ret rfl obQ (fun w hw => ⟨?_, hw.below⟩)
       )
       )
      exact rV9 (ivR_2 hE h0)
    · have hb00 := nc_bd hm 0 0
      have hc00 := cof_bd hm 0 0
      have hb01 := nc_bd hm 0 1
      have hc01 := cof_bd hm 0 1
      have hb02 := nc_bd hm 0 2
      have hc02 := cof_bd hm 0 2
      have hb10 := nc_bd hm 1 0
      have hc10 := cof_bd hm 1 0
      have hb11 := nc_bd hm 1 1
      have hc11 := cof_bd hm 1 1
      have hb12 := nc_bd hm 1 2
      have hc12 := cof_bd hm 1 2
      have hb20 := nc_bd hm 2 0
      have hc20 := cof_bd hm 2 0
      have hb21 := nc_bd hm 2 1
      have hc21 := cof_bd hm 2 1
      have hb22 := nc_bd hm 2 2
      have hc22 := cof_bd hm 2 2
      repeat' (first
 | (refine C_id ?_; first
 | refine C_rounds 3 ?_
 | refine C_seq ?_
 | refine C_region rfl ?_
 | refine C_block ?_
 | refine C_skip ?_
 | refine C_exit ?_
 | refine C_ret0 ?_
 | refine C_drawT (id := 14) 13 rfl mixed (by kernel_rfl) rfl rfl ?_
 | refine C_condT rfl obQ ?_
 | refine C_condF rfl obQ ?_
 | (refine C_cond rfl obQ (fun h => ?_) (fun h => ?_) <;> (try simp only [Bool.or_eq_true, Bool.and_eq_true, Bool.or_eq_false_iff, Bool.and_eq_false_iff, decide_eq_true_eq, decide_eq_false_iff_not, beq_iff_eq, bne_iff_ne, beq_eq_false_iff_ne, bne_eq_false_iff_eq, ne_eq, Decidable.not_not, List.cons.injEq, and_true, Bool.not_eq_true', Bool.not_eq_false', Int.not_lt, Int.not_le] at h) <;> (try (exfalso; omega)) <;> (try (exfalso; simp at h; done)) <;> (try (exfalso; simp only [not_true_eq_false, false_or, or_false] at h; omega)) <;> (try contradiction))
       )
 | (refine S_id ?_; first
 | refine S_nil ?_
 | refine S_run rfl rfl obQ obQ ?_
 | refine S_box (fun b => ⟨_, _, rfl, obQ, ?_⟩)
 | refine S_call (f := 22) rfl obQ (by kernel_rfl) (fun w hw => checkMatrix_c m w) ?_
 | refine S_call (f := 25) rfl obQ (by kernel_rfl) (fun w hw => determinant_c m hm w (hw.rdm hO.toS memQ)) ?_
 | refine S_call (f := 27) rfl obQ (by kernel_rfl) (fun w hw => cof00_c m hm w (hw.rdm hO.toS memQ)) ?_
 | refine S_call (f := 27) rfl obQ (by kernel_rfl) (fun w hw => cof01_c m hm w (hw.rdm hO.toS memQ)) ?_
 | refine S_call (f := 27) rfl obQ (by kernel_rfl) (fun w hw => cof02_c m hm w (hw.rdm hO.toS memQ)) ?_
 | refine S_call (f := 27) rfl obQ (by kernel_rfl) (fun w hw => cof10_c m hm w (hw.rdm hO.toS memQ)) ?_
 | refine S_call (f := 27) rfl obQ (by kernel_rfl) (fun w hw => cof11_c m hm w (hw.rdm hO.toS memQ)) ?_
 | refine S_call (f := 27) rfl obQ (by kernel_rfl) (fun w hw => cof12_c m hm w (hw.rdm hO.toS memQ)) ?_
 | refine S_call (f := 27) rfl obQ (by kernel_rfl) (fun w hw => cof20_c m hm w (hw.rdm hO.toS memQ)) ?_
 | refine S_call (f := 27) rfl obQ (by kernel_rfl) (fun w hw => cof21_c m hm w (hw.rdm hO.toS memQ)) ?_
 | refine S_call (f := 27) rfl obQ (by kernel_rfl) (fun w hw => cof22_c m hm w (hw.rdm hO.toS memQ)) ?_
 | refine S_call (f := 26) rfl obQ (by kernel_rfl) (fun w hw => ratio_c _ _ (by omega) (by omega) h0 w) ?_
       )
 | (refine D_id ?_; first
 | refine D_nil ?_
 | refine D_tail ?_
 | refine D_run rfl rfl obQ obQ ?_
 | refine D_call (f := 22) rfl obQ (by kernel_rfl) (fun w hw => checkMatrix_c m w) ?_
 | refine D_call (f := 25) rfl obQ (by kernel_rfl) (fun w hw => determinant_c m hm w (hw.rdm hO.toS memQ)) ?_
 | refine D_call (f := 27) rfl obQ (by kernel_rfl) (fun w hw => cof00_c m hm w (hw.rdm hO.toS memQ)) ?_
 | refine D_call (f := 27) rfl obQ (by kernel_rfl) (fun w hw => cof01_c m hm w (hw.rdm hO.toS memQ)) ?_
 | refine D_call (f := 27) rfl obQ (by kernel_rfl) (fun w hw => cof02_c m hm w (hw.rdm hO.toS memQ)) ?_
 | refine D_call (f := 27) rfl obQ (by kernel_rfl) (fun w hw => cof10_c m hm w (hw.rdm hO.toS memQ)) ?_
 | refine D_call (f := 27) rfl obQ (by kernel_rfl) (fun w hw => cof11_c m hm w (hw.rdm hO.toS memQ)) ?_
 | refine D_call (f := 27) rfl obQ (by kernel_rfl) (fun w hw => cof12_c m hm w (hw.rdm hO.toS memQ)) ?_
 | refine D_call (f := 27) rfl obQ (by kernel_rfl) (fun w hw => cof20_c m hm w (hw.rdm hO.toS memQ)) ?_
 | refine D_call (f := 27) rfl obQ (by kernel_rfl) (fun w hw => cof21_c m hm w (hw.rdm hO.toS memQ)) ?_
 | refine D_call (f := 27) rfl obQ (by kernel_rfl) (fun w hw => cof22_c m hm w (hw.rdm hO.toS memQ)) ?_
 | refine D_call (f := 26) rfl obQ (by kernel_rfl) (fun w hw => ratio_c _ _ (by omega) (by omega) h0 w) ?_
       )
 | (refine G_id ?_; first
 | refine G_rounds (C_trim [1, 2, 3, 4, 6, 7, 20, 23] 3 rfl rfl ?_)
 | refine G_rounds (C_trim [1, 2, 3, 4, 6, 7, 20] 3 rfl rfl ?_)
 | refine G_then ?_
 | refine G_block ?_
 | refine G_blockX ?_
 | refine G_blockN rfl ?_
 | refine G_blockR ?_
 | refine G_thenR ?_
 | refine G_thenX ?_
 | refine G_ret rfl obQ (fun w hw => ⟨?_, hw.below⟩)
       )
       )
      exact rV9 (ivR_3 hE h0)
  · repeat' (first
 | (refine C_id ?_; first
 | refine C_seq ?_
 | refine C_region rfl ?_
 | refine C_block ?_
 | refine C_skip ?_
 | refine C_exit ?_
 | refine C_ret0 ?_
 | refine C_drawT (id := 14) 13 rfl mixed (by kernel_rfl) rfl rfl ?_
 | refine C_condT rfl obQ ?_
 | refine C_condF rfl obQ ?_
 | (refine C_cond rfl obQ (fun h => ?_) (fun h => ?_) <;> (try simp only [Bool.or_eq_true, Bool.and_eq_true, Bool.or_eq_false_iff, Bool.and_eq_false_iff, decide_eq_true_eq, decide_eq_false_iff_not, beq_iff_eq, bne_iff_ne, beq_eq_false_iff_ne, bne_eq_false_iff_eq, ne_eq, Decidable.not_not, List.cons.injEq, and_true, Bool.not_eq_true', Bool.not_eq_false', Int.not_lt, Int.not_le] at h) <;> (try (exfalso; omega)) <;> (try (exfalso; simp at h; done)) <;> (try (exfalso; simp only [not_true_eq_false, false_or, or_false] at h; omega)) <;> (try contradiction))
     )
 | (refine S_id ?_; first
 | refine S_nil ?_
 | refine S_run rfl rfl obQ obQ ?_
 | refine S_box (fun b => ⟨_, _, rfl, obQ, ?_⟩)
 | refine S_call (f := 22) rfl obQ (by kernel_rfl) (fun w hw => checkMatrix_c m w) ?_
     )
 | (refine D_id ?_; first
 | refine D_nil ?_
 | refine D_tail ?_
 | refine D_run rfl rfl obQ obQ ?_
 | refine D_call (f := 22) rfl obQ (by kernel_rfl) (fun w hw => checkMatrix_c m w) ?_
     )
 | (refine G_id ?_; first
 | refine G_then ?_
 | refine G_block ?_
 | refine G_blockX ?_
 | refine G_blockN rfl ?_
 | refine G_blockR ?_
 | refine G_thenR ?_
 | refine G_thenX ?_
 | refine G_ret rfl obQ (fun w hw => ⟨?_, hw.below⟩)
     )
     )
    exact rV9 (ivR_1 hE)

end Go.Proofs.YtedlaominconaaaDoor
