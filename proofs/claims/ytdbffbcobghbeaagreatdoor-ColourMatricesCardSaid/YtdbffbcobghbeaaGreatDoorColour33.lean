/- Determinants and inverses: the reference. -/
import Derived.Test.YtdbffbcobghbeaaGreatDoorColour32
namespace Go.Proofs.YtdbffbcobghbeaaGreatDoor
open Go.E Go.RowKit Go.Fl
attribute [local irreducible] G C S D Calls
set_option maxRecDepth 100000
set_option linter.unusedSimpArgs false
set_option linter.unusedVariables false

set_option maxHeartbeats 400000 in
/-- genlockref02.Determinant -/
theorem rDeterminant_c (m : Mat) (hm : MatOk m) (w : World) : Calls Tryz.prog 44 #[.agg #[.int .i64 m.a, .int .i64 m.b, .int .i64 m.c, .int .i64 m.d, .int .i64 m.e, .int .i64 m.f, .int .i64 m.g, .int .i64 m.h, .int .i64 m.i, .int .i64 m.n]] w fun r w' => r = .returned (.int .i64 (detF m)) ∧ Below w.heap.size w w' := by
  have p0 := mul_ab hm.a (cof_bd hm 0 0)
  have p1 := mul_ab hm.b (cof_bd hm 0 1)
  have p2 := mul_ab hm.c (cof_bd hm 0 2)
  refine calls_of (args := [.agg #[.int .i64 m.a, .int .i64 m.b, .int .i64 m.c, .int .i64 m.d, .int .i64 m.e, .int .i64 m.f, .int .i64 m.g, .int .i64 m.h, .int .i64 m.i, .int .i64 m.n]]) T_ok Tryz.func44 rfl Tryz.ntmps44 (Nat.le_of_ble_eq_true rfl) rfl ?_
  repeat' (first
 | (refine C_id ?_; first
 | refine C_rounds 3 ?_
 | refine C_seq ?_
 | refine C_region rfl ?_
 | refine C_block ?_
 | refine C_skip ?_
 | refine C_exit ?_
 | refine C_ret0 ?_
 | refine C_draw (id := 5) rfl mixed (by kernel_rfl) ?_
 | refine C_condT rfl obQ ?_
 | refine C_condF rfl obQ ?_
 | (refine C_cond rfl obQ (fun h => ?_) (fun h => ?_) <;> (try simp only [Bool.or_eq_true, Bool.and_eq_true, Bool.or_eq_false_iff, Bool.and_eq_false_iff, decide_eq_true_eq, decide_eq_false_iff_not, beq_iff_eq, bne_iff_ne, beq_eq_false_iff_ne, bne_eq_false_iff_eq, ne_eq, Decidable.not_not, List.cons.injEq, and_true, Bool.not_eq_true', Bool.not_eq_false', Int.not_lt, Int.not_le] at h))
      )
 | (refine S_id ?_; first
 | refine S_nil ?_
 | refine S_run rfl rfl obQ obQ ?_
 | refine S_box (fun b => ⟨_, _, rfl, obQ, ?_⟩)
 | refine S_call (f := 127) rfl obQ (by kernel_rfl) (fun w hw => rcof00_c m hm w) ?_
 | refine S_call (f := 127) rfl obQ (by kernel_rfl) (fun w hw => rcof01_c m hm w) ?_
 | refine S_call (f := 127) rfl obQ (by kernel_rfl) (fun w hw => rcof02_c m hm w) ?_
      )
 | (refine D_id ?_; first
 | refine D_nil ?_
 | refine D_tail ?_
 | refine D_run rfl rfl obQ obQ ?_
 | refine D_call (f := 127) rfl obQ (by kernel_rfl) (fun w hw => rcof00_c m hm w) ?_
 | refine D_call (f := 127) rfl obQ (by kernel_rfl) (fun w hw => rcof01_c m hm w) ?_
 | refine D_call (f := 127) rfl obQ (by kernel_rfl) (fun w hw => rcof02_c m hm w) ?_
      )
 | (refine G_id ?_; first
 | refine G_rounds (C_trim [1, 2, 3, 4] 1 rfl rfl ?_)
 | refine G_then ?_
 | refine G_block ?_
 | refine G_blockX ?_
 | refine G_blockN rfl ?_
 | refine G_blockR ?_
 | refine G_thenR ?_
 | refine G_thenX ?_
 | refine G_ret rfl obQ (fun w hw => ⟨?_, hw.below⟩)
      )
    )
  exact rI (by unfold detF dotF; omega)

theorem gcd_neg2 (x y : Int) : Int.gcd (0 - x) (0 - y) = Int.gcd x y := by rw [Int.zero_sub, Int.zero_sub, Int.neg_gcd, Int.gcd_neg]
theorem tdiv_neg2 (x g : Int) : (0 - x).tdiv g = x.tdiv (0 - g) := by rw [Int.zero_sub, Int.zero_sub, Int.neg_tdiv, Int.tdiv_neg]

set_option maxHeartbeats 400000 in
/-- genlockref01.Lowest -/
theorem rLowest_c (x y : Int) (hx : -1125899906842624 ≤ x ∧ x ≤ 1125899906842624) (hy : -1125899906842624 ≤ y ∧ y ≤ 1125899906842624) (h0 : y ≠ 0) (w : World) : Calls Tryz.prog 128 #[.int .i64 x, .int .i64 y] w fun r w' => r = .returned (.agg #[.int .i64 (ratF x y).1, .int .i64 (ratF x y).2]) ∧ Below w.heap.size w w' := by
  have hg := gcd_pos (x := x) h0
  have hg2 := gcd_le (x := x) h0
  have hgn := gcd_neg2 x y
  refine calls_of (args := [.int .i64 x, .int .i64 y]) T_ok Tryz.func128 rfl Tryz.ntmps128 (Nat.le_of_ble_eq_true rfl) rfl ?_
  repeat' (first
 | (refine C_id ?_; first
 | refine C_seq ?_
 | refine C_region rfl ?_
 | refine C_block ?_
 | refine C_skip ?_
 | refine C_exit ?_
 | refine C_ret0 ?_
 | refine C_drawV (id := 4) 6 [(0, true), (1, true), (2, true), (3, true), (4, true), (5, true)] rfl mixed (by kernel_rfl) rfl ?_
 | refine C_condT rfl obQ ?_
 | refine C_condF rfl obQ ?_
 | (refine C_cond rfl obQ (fun h => ?_) (fun h => ?_) <;> (try simp only [Bool.or_eq_true, Bool.and_eq_true, Bool.or_eq_false_iff, Bool.and_eq_false_iff, decide_eq_true_eq, decide_eq_false_iff_not, beq_iff_eq, bne_iff_ne, beq_eq_false_iff_ne, bne_eq_false_iff_eq, ne_eq, Decidable.not_not, List.cons.injEq, and_true, Bool.not_eq_true', Bool.not_eq_false', Int.not_lt, Int.not_le] at h))
      )
 | (refine S_id ?_; first
 | refine S_pure (binX_pure rfl obQ (fun w => quo_any _ _ _ (by omega) (by omega) w)) ?_
 | refine S_nil ?_
 | refine S_run rfl rfl obQ obQ ?_
 | refine S_box (fun b => ⟨_, _, rfl, obQ, ?_⟩)
 | refine S_one rfl obQ ?_
 | refine S_call (f := 135) rfl obQ (by kernel_rfl) (fun w hw => rDivisor_c x y hx hy w) ?_
 | refine S_call (f := 135) rfl obQ (by kernel_rfl) (fun w hw => (by have := rDivisor_c (0 - x) (0 - y) (by omega) (by omega) w; rw [hgn] at this; exact this)) ?_
      )
 | (refine D_id ?_; first
 | refine D_pure (binX_pure rfl obQ (fun w => quo_any _ _ _ (by omega) (by omega) w)) ?_
 | refine D_nil ?_
 | refine D_tail ?_
 | refine D_run rfl rfl obQ obQ ?_
 | refine D_one rfl obQ ?_
 | refine D_call (f := 135) rfl obQ (by kernel_rfl) (fun w hw => rDivisor_c x y hx hy w) ?_
 | refine D_call (f := 135) rfl obQ (by kernel_rfl) (fun w hw => (by have := rDivisor_c (0 - x) (0 - y) (by omega) (by omega) w; rw [hgn] at this; exact this)) ?_
      )
 | (refine V_id ?_; first
 | refine V_nil ?_
 | refine V_q rfl (Yl_pure (binX_pure rfl obQ (fun w => quo_any _ _ _ (by omega) (by omega) w))) ?_
 | refine V_q rfl (Yl_step rfl obQ) ?_
 | refine V_n rfl ?_
      )
 | (refine G_id ?_; first
 | refine G_V ⟨⟨_, rfl, trivial⟩, ⟨_, rfl⟩, rfl, pstQ⟩ rfl ?_
 | refine G_then ?_
 | refine G_block ?_
 | refine G_blockX ?_
 | refine G_blockN rfl ?_
 | refine G_blockR ?_
 | refine G_thenR ?_
 | refine G_thenX ?_
 | refine G_ret rfl obQ (fun w hw => ⟨?_, hw.below⟩)
      )
    )
  · exact rPt (q := ratF x y) (p := ((0 - x).tdiv (Int.gcd x y : Nat), (0 - y).tdiv (Int.gcd x y : Nat))) (by rw [ratF_neg h, tdiv_neg2, tdiv_neg2])
  · exact rPt (q := ratF x y) (p := (x.tdiv (Int.gcd x y : Nat), y.tdiv (Int.gcd x y : Nat))) (ratF_pos (by omega))

/-- What the reference inverts a matrix to, and its error. -/
def iv2 (m : Mat) : List (Int × Int) × Int := if detF m = 0 then (z9, 17) else (iv9 m, 0)
theorem ivR_eq (m : Mat) : ivR m = if matE m = 0 then iv2 m else (z9, matE m) := rfl
theorem iv2_1 {m : Mat} (h : detF m = 0) : iv2 m = (z9, 17) := if_pos h
theorem iv2_2 {m : Mat} (h : ¬ detF m = 0) : iv2 m = (iv9 m, 0) := if_neg h

set_option maxHeartbeats 1000000 in
/-- genlockref02.Inverted -/
theorem rInverted_c (m : Mat) (hm : MatOk m) (w : World) : Calls Tryz.prog 45 #[.agg #[.int .i64 m.a, .int .i64 m.b, .int .i64 m.c, .int .i64 m.d, .int .i64 m.e, .int .i64 m.f, .int .i64 m.g, .int .i64 m.h, .int .i64 m.i, .int .i64 m.n]] w fun r w' => r = .returned (.tuple #[v9 (iv2 m).1, .int .i64 (iv2 m).2]) ∧ Below w.heap.size w w' := by
  refine calls_of (args := [.agg #[.int .i64 m.a, .int .i64 m.b, .int .i64 m.c, .int .i64 m.d, .int .i64 m.e, .int .i64 m.f, .int .i64 m.g, .int .i64 m.h, .int .i64 m.i, .int .i64 m.n]]) T_ok Tryz.func45 rfl Tryz.ntmps45 (Nat.le_of_ble_eq_true rfl) rfl ?_
  have hn := hm.n
  have hd := det_bd hm
  by_cases h0 : detF m = 0
  · repeat' (first
 | (refine C_id ?_; first
 | refine C_seq ?_
 | refine C_region rfl ?_
 | refine C_block ?_
 | refine C_skip ?_
 | refine C_exit ?_
 | refine C_ret0 ?_
 | refine C_drawT (id := 11) 13 rfl mixed (by kernel_rfl) rfl rfl ?_
 | refine C_condT rfl obQ ?_
 | refine C_condF rfl obQ ?_
 | (refine C_cond rfl obQ (fun h => ?_) (fun h => ?_) <;> (try simp only [Bool.or_eq_true, Bool.and_eq_true, Bool.or_eq_false_iff, Bool.and_eq_false_iff, decide_eq_true_eq, decide_eq_false_iff_not, beq_iff_eq, bne_iff_ne, beq_eq_false_iff_ne, bne_eq_false_iff_eq, ne_eq, Decidable.not_not, List.cons.injEq, and_true, Bool.not_eq_true', Bool.not_eq_false', Int.not_lt, Int.not_le] at h) <;> (try (exfalso; omega)) <;> (try (exfalso; simp at h; done)) <;> (try (exfalso; simp only [not_true_eq_false, false_or, or_false] at h; omega)) <;> (try contradiction))
          )
 | (refine S_id ?_; first
 | refine S_nil ?_
 | refine S_run rfl rfl obQ obQ ?_
 | refine S_box (fun b => ⟨_, _, rfl, obQ, ?_⟩)
 | refine S_call (f := 44) rfl obQ (by kernel_rfl) (fun w hw => rDeterminant_c m hm w) ?_
          )
 | (refine D_id ?_; first
 | refine D_nil ?_
 | refine D_tail ?_
 | refine D_run rfl rfl obQ obQ ?_
 | refine D_call (f := 44) rfl obQ (by kernel_rfl) (fun w hw => rDeterminant_c m hm w) ?_
          )
 | (refine G_id ?_; first
 | refine G_then ?_
 | refine G_block ?_
 | refine G_blockX ?_
 | refine G_blockN rfl ?_
 | refine G_blockR ?_
 | refine G_thenR ?_
 | refine G_thenX ?_
 | refine G_ret rfl obQ (fun w hw => ⟨?_, hw.below⟩)
          )
        )
    exact rV9 (iv2_1 h0)
  · have hb00 := nc_bd hm 0 0
    have hc00 := cof_bd hm 0 0
    have hb01 := nc_bd hm 0 1
    have hc01 := cof_bd hm 0 1
    have hb02 := nc_bd hm 0 2
    have hc02 := cof_bd hm 0 2
    have hb10 := nc_bd hm 1 0
    have hc10 := cof_bd hm 1 0
    have hb11 := nc_bd hm 1 1
    have hc11 := cof_bd hm 1 1
    have hb12 := nc_bd hm 1 2
    have hc12 := cof_bd hm 1 2
    have hb20 := nc_bd hm 2 0
    have hc20 := cof_bd hm 2 0
    have hb21 := nc_bd hm 2 1
    have hc21 := cof_bd hm 2 1
    have hb22 := nc_bd hm 2 2
    have hc22 := cof_bd hm 2 2
    repeat' (first
 | (refine C_id ?_; first
 | refine C_rounds 3 ?_
 | refine C_seq ?_
 | refine C_region rfl ?_
 | refine C_block ?_
 | refine C_skip ?_
 | refine C_exit ?_
 | refine C_ret0 ?_
 | refine C_drawV (id := 11) 12 [(0, true), (1, true), (2, true), (3, true), (4, true), (5, true), (6, true), (9, true), (11, true), (7, false), (8, true), (10, false)] rfl mixed (by kernel_rfl) rfl ?_
 | refine C_condT rfl obQ ?_
 | refine C_condF rfl obQ ?_
 | (refine C_cond rfl obQ (fun h => ?_) (fun h => ?_) <;> (try simp only [Bool.or_eq_true, Bool.and_eq_true, Bool.or_eq_false_iff, Bool.and_eq_false_iff, decide_eq_true_eq, decide_eq_false_iff_not, beq_iff_eq, bne_iff_ne, beq_eq_false_iff_ne, bne_eq_false_iff_eq, ne_eq, Decidable.not_not, List.cons.injEq, and_true, Bool.not_eq_true', Bool.not_eq_false', Int.not_lt, Int.not_le] at h) <;> (try (exfalso; omega)) <;> (try (exfalso; simp at h; done)) <;> (try (exfalso; simp only [not_true_eq_false, false_or, or_false] at h; omega)) <;> (try contradiction))
          )
 | (refine S_id ?_; first
 | refine S_nil ?_
 | refine S_run rfl rfl obQ obQ ?_
 | refine S_box (fun b => ⟨_, _, rfl, obQ, ?_⟩)
 | refine S_call (f := 44) rfl obQ (by kernel_rfl) (fun w hw => rDeterminant_c m hm w) ?_
 | refine S_call (f := 127) rfl obQ (by kernel_rfl) (fun w hw => rcof00_c m hm w) ?_
 | refine S_call (f := 127) rfl obQ (by kernel_rfl) (fun w hw => rcof01_c m hm w) ?_
 | refine S_call (f := 127) rfl obQ (by kernel_rfl) (fun w hw => rcof02_c m hm w) ?_
 | refine S_call (f := 127) rfl obQ (by kernel_rfl) (fun w hw => rcof10_c m hm w) ?_
 | refine S_call (f := 127) rfl obQ (by kernel_rfl) (fun w hw => rcof11_c m hm w) ?_
 | refine S_call (f := 127) rfl obQ (by kernel_rfl) (fun w hw => rcof12_c m hm w) ?_
 | refine S_call (f := 127) rfl obQ (by kernel_rfl) (fun w hw => rcof20_c m hm w) ?_
 | refine S_call (f := 127) rfl obQ (by kernel_rfl) (fun w hw => rcof21_c m hm w) ?_
 | refine S_call (f := 127) rfl obQ (by kernel_rfl) (fun w hw => rcof22_c m hm w) ?_
 | refine S_call (f := 128) rfl obQ (by kernel_rfl) (fun w hw => rLowest_c _ _ (by omega) (by omega) h0 w) ?_
          )
 | (refine D_id ?_; first
 | refine D_nil ?_
 | refine D_tail ?_
 | refine D_run rfl rfl obQ obQ ?_
 | refine D_call (f := 44) rfl obQ (by kernel_rfl) (fun w hw => rDeterminant_c m hm w) ?_
 | refine D_call (f := 127) rfl obQ (by kernel_rfl) (fun w hw => rcof00_c m hm w) ?_
 | refine D_call (f := 127) rfl obQ (by kernel_rfl) (fun w hw => rcof01_c m hm w) ?_
 | refine D_call (f := 127) rfl obQ (by kernel_rfl) (fun w hw => rcof02_c m hm w) ?_
 | refine D_call (f := 127) rfl obQ (by kernel_rfl) (fun w hw => rcof10_c m hm w) ?_
 | refine D_call (f := 127) rfl obQ (by kernel_rfl) (fun w hw => rcof11_c m hm w) ?_
 | refine D_call (f := 127) rfl obQ (by kernel_rfl) (fun w hw => rcof12_c m hm w) ?_
 | refine D_call (f := 127) rfl obQ (by kernel_rfl) (fun w hw => rcof20_c m hm w) ?_
 | refine D_call (f := 127) rfl obQ (by kernel_rfl) (fun w hw => rcof21_c m hm w) ?_
 | refine D_call (f := 127) rfl obQ (by kernel_rfl) (fun w hw => rcof22_c m hm w) ?_
 | refine D_call (f := 128) rfl obQ (by kernel_rfl) (fun w hw => rLowest_c _ _ (by omega) (by omega) h0 w) ?_
          )
 | (refine V_id ?_; first
 | refine V_nil ?_
 | refine V_q rfl (Yl_step rfl obQ) ?_
 | refine V_n rfl ?_
          )
 | (refine G_id ?_; first
 | refine G_V ⟨⟨_, rfl, trivial⟩, ⟨_, rfl⟩, rfl, pstQ⟩ rfl ?_
 | refine G_rounds (C_trim [1, 2, 3, 4, 5, 6, 7] 3 rfl rfl ?_)
 | refine G_then ?_
 | refine G_block ?_
 | refine G_blockX ?_
 | refine G_blockN rfl ?_
 | refine G_blockR ?_
 | refine G_thenR ?_
 | refine G_thenX ?_
 | refine G_ret rfl obQ (fun w hw => ⟨?_, hw.below⟩)
          )
        )
    exact rV9 (iv2_2 h0)

end Go.Proofs.YtdbffbcobghbeaaGreatDoor
