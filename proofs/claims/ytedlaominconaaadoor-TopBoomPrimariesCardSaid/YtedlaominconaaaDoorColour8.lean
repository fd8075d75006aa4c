/- Matrices: conversions, determinants, inverses: the program. -/
import Derived.Test.YtedlaominconaaaDoorColour7
import Derived.Test.YtedlaominconaaaDoorEng4
namespace Go.Proofs.YtedlaominconaaaDoor
open Go.E Go.RowKit Go.Fl
attribute [local irreducible] G C S D DY DS V VT Yl QV QT Calls
set_option maxRecDepth 100000
set_option linter.unusedSimpArgs false
set_option linter.unusedVariables false

def cvE (m : Mat) (c : Col) : Int := firstL [matE m, colE c]
theorem cvE_ok {m : Mat} {c : Col} (h : cvE m c = 0) : MatOk m ∧ ColOk c := by
  unfold cvE at h
  rw [firstL_zero] at h
  simp only [List.mem_cons, List.mem_nil_iff, or_false, forall_eq_or_imp, forall_eq, mat_ok, col_ok] at h
  exact h
/-- The colour that Converted returns, and its error. -/
def cvR (m : Mat) (c : Col) : Col × Int := if cvE m c = 0 then (if colE (convF m c) = 0 then (convF m c, 0) else ((0, 0, 0), 4)) else ((0, 0, 0), cvE m c)
theorem cvR_1 {m : Mat} {c : Col} (h : ¬ cvE m c = 0) : cvR m c = ((0, 0, 0), cvE m c) := if_neg h
theorem cvR_2 {m : Mat} {c : Col} (h : cvE m c = 0) (h2 : ¬ colE (convF m c) = 0) : cvR m c = ((0, 0, 0), 4) := by rw [cvR, if_pos h, if_neg h2]
theorem cvR_3 {m : Mat} {c : Col} (h : cvE m c = 0) (h2 : colE (convF m c) = 0) : cvR m c = (convF m c, 0) := by rw [cvR, if_pos h, if_pos h2]
theorem rCv {q p : Col × Int} (h : q = p) : Ending.returned (.tuple #[.agg #[.int .i64 p.1.1, .int .i64 p.1.2.1, .int .i64 p.1.2.2], .int .i64 p.2]) = Ending.returned (.tuple #[.agg #[.int .i64 q.1.1, .int .i64 q.1.2.1, .int .i64 q.1.2.2], .int .i64 q.2]) := by rw [h]
def Mat.at (m : Mat) : Nat → Nat → Int
  | 0, 0 => m.a
  | 0, 1 => m.b
  | 0, _ => m.c
  | 1, 0 => m.d
  | 1, 1 => m.e
  | 1, _ => m.f
  | _, 0 => m.g
  | _, 1 => m.h
  | _, _ => m.i
theorem at_bd {m : Mat} (hm : MatOk m) (i j : Nat) : -4096 ≤ m.at i j ∧ m.at i j ≤ 4096 := by
  unfold Mat.at
  split
  · exact hm.a
  · exact hm.b
  · exact hm.c
  · exact hm.d
  · exact hm.e
  · exact hm.f
  · exact hm.g
  · exact hm.h
  · exact hm.i
/-- The cofactor of an entry. -/
def cofF (m : Mat) (r k : Nat) : Int := m.at ((r + 1) % 3) ((k + 1) % 3) * m.at ((r + 2) % 3) ((k + 2) % 3) - m.at ((r + 1) % 3) ((k + 2) % 3) * m.at ((r + 2) % 3) ((k + 1) % 3)
theorem cof_bd {m : Mat} (hm : MatOk m) (r k : Nat) : -33554432 ≤ cofF m r k ∧ cofF m r k ≤ 33554432 := by
  have h1 := mul_ab (at_bd hm ((r + 1) % 3) ((k + 1) % 3)) (at_bd hm ((r + 2) % 3) ((k + 2) % 3))
  have h2 := mul_ab (at_bd hm ((r + 1) % 3) ((k + 2) % 3)) (at_bd hm ((r + 2) % 3) ((k + 1) % 3))
  unfold cofF
  omega
def detF (m : Mat) : Int := dotF m.a m.b m.c (cofF m 0 0) (cofF m 0 1) (cofF m 0 2)
/-- The table of package colour, as it was laid. -/
def Ot (w : World) : Prop := Rd w (some ⟨0, 0, none⟩) [.int .i64 1, .int .i64 2, .int .i64 2, .int .i64 0, .int .i64 0, .int .i64 1]
abbrev otL : List Value := [.int .i64 1, .int .i64 2, .int .i64 2, .int .i64 0, .int .i64 0, .int .i64 1]
theorem ot0 : ∀ (j : Nat) (u : Value), ([.int .i64 1, .int .i64 2] : List Value)[j]? = some u → otL[Int.toNat 0 * 2 + j]? = some u := by
  intro j u hu; rcases j with _ | _ | j <;> simp at hu <;> subst hu <;> rfl
theorem ot1 : ∀ (j : Nat) (u : Value), ([.int .i64 2, .int .i64 0] : List Value)[j]? = some u → otL[Int.toNat 1 * 2 + j]? = some u := by
  intro j u hu; rcases j with _ | _ | j <;> simp at hu <;> subst hu <;> rfl
theorem ot2 : ∀ (j : Nat) (u : Value), ([.int .i64 0, .int .i64 1] : List Value)[j]? = some u → otL[Int.toNat 2 * 2 + j]? = some u := by
  intro j u hu; rcases j with _ | _ | j <;> simp at hu <;> subst hu <;> rfl
def ratF (x y : Int) : Int × Int := if y < 0 then (x.tdiv (-(Int.gcd x y : Nat)), y.tdiv (-(Int.gcd x y : Nat))) else (x.tdiv (Int.gcd x y : Nat), y.tdiv (Int.gcd x y : Nat))
theorem quo_any (t : TypeId) (x y : Operand) {P : Program} {a b : Int} (hb : b ≠ 0) (ha : -4611686018427387904 ≤ a ∧ a ≤ 4611686018427387904) (w : World) : (do eqGuard .quo t x y (.int .i64 a) (.int .i64 b); binOp .quo t (.int .i64 a) (.int .i64 b) : Sem Value).run P w = .ok (.int .i64 (a.tdiv b)) w := by
  have h1 : (a.tdiv b).natAbs ≤ a.natAbs := by rw [Int.natAbs_tdiv]; exact Nat.div_le_self _ _
  have hr : inR .i64 (a.tdiv b) := by simp only [inR]; omega
  simp [eqGuard_int, binOp, Op.intDiv, inR_wrap hr, hb]
theorem gcd_pos {x y : Int} (h : y ≠ 0) : 0 < (Int.gcd x y : Nat) := Int.gcd_pos_of_ne_zero_right x h
theorem gcd_le {x y : Int} (h : y ≠ 0) : ((Int.gcd x y : Nat) : Int) ≤ y.natAbs := by
  have := Nat.le_of_dvd (by omega) (Int.gcd_dvd_natAbs_right x y)
  omega

set_option maxHeartbeats 400000 in
/-- colour.Converted -/
theorem Converted_c (m : Mat) (c : Col) (w : World) : Calls Tryd.prog 13 #[.agg #[.int .i64 m.a, .int .i64 m.b, .int .i64 m.c, .int .i64 m.d, .int .i64 m.e, .int .i64 m.f, .int .i64 m.g, .int .i64 m.h, .int .i64 m.i, .int .i64 m.n], .agg #[.int .i64 c.1, .int .i64 c.2.1, .int .i64 c.2.2]] w fun r w' => r = .returned (.tuple #[.agg #[.int .i64 (cvR m c).1.1, .int .i64 (cvR m c).1.2.1, .int .i64 (cvR m c).1.2.2], .int .i64 (cvR m c).2]) ∧ Below w.heap.size w w' := by
  refine calls_of (args := [.agg #[.int .i64 m.a, .int .i64 m.b, .int .i64 m.c, .int .i64 m.d, .int .i64 m.e, .int .i64 m.f, .int .i64 m.g, .int .i64 m.h, .int .i64 m.i, .int .i64 m.n], .agg #[.int .i64 c.1, .int .i64 c.2.1, .int .i64 c.2.2]]) T_ok Tryd.func13 rfl Tryd.ntmps13 (Nat.le_of_ble_eq_true rfl) rfl ?_
  repeat' (first
 | (refine C_id ?_; first
 | refine C_seq ?_
 | refine C_region rfl ?_
 | refine C_block ?_
 | refine C_skip ?_
 | refine C_exit ?_
 | refine C_ret0 ?_
 | refine C_drawT (id := 1) 4 rfl mixed (by kernel_rfl) rfl rfl ?_
 | refine C_condT rfl obQ ?_
 | refine C_condF rfl obQ ?_
 | (refine C_cond rfl obQ (fun h => ?_) (fun h => ?_) <;> (try simp only [Bool.or_eq_true, Bool.and_eq_true, Bool.or_eq_false_iff, Bool.and_eq_false_iff, decide_eq_true_eq, decide_eq_false_iff_not, beq_iff_eq, bne_iff_ne, beq_eq_false_iff_ne, bne_eq_false_iff_eq, ne_eq, Decidable.not_not, List.cons.injEq, and_true, Bool.not_eq_true', Bool.not_eq_false', Int.not_lt, Int.not_le] at h))
 )
 | (refine S_id ?_; first
 | refine S_nil ?_
 | refine S_run rfl rfl obQ obQ ?_
 | refine S_box (fun b => ⟨_, _, rfl, obQ, ?_⟩)
 | refine S_slice (fun b => ⟨_, _, rfl, obQ, ?_⟩)
 | refine S_call (f := 22) rfl obQ (by kernel_rfl) (fun w hw => checkMatrix_c m w) ?_
 | refine S_call (f := 40) rfl obQ (by kernel_rfl) (fun w hw => checkColour_c c w) ?_
 | refine S_call (f := 40) rfl obQ (by kernel_rfl) (fun w hw => checkColour_c (convF m c) w) ?_
 | refine S_call (f := 21) rfl obQ (by kernel_rfl) (fun w hw => cfirst_c _ _ [matE m, colE c] (by simp) w (.inr ⟨_, rfl, hw.src (i := 3) rfl rfl⟩)) ?_
 | refine S_call (f := 41) rfl obQ (by kernel_rfl) (fun w hw => converted_c m c (cvE_ok h).1 (cvE_ok h).2 w) ?_
 )
 | (refine D_id ?_; first
 | refine D_nil ?_
 | refine D_tail ?_
 | refine D_run rfl rfl obQ obQ ?_
 | refine D_call (f := 22) rfl obQ (by kernel_rfl) (fun w hw => checkMatrix_c m w) ?_
 | refine D_call (f := 40) rfl obQ (by kernel_rfl) (fun w hw => checkColour_c c w) ?_
 | refine D_call (f := 40) rfl obQ (by kernel_rfl) (fun w hw => checkColour_c (convF m c) w) ?_
 | refine D_call (f := 21) rfl obQ (by kernel_rfl) (fun w hw => cfirst_c _ _ [matE m, colE c] (by simp) w (.inr ⟨_, rfl, hw.src (i := 3) rfl rfl⟩)) ?_
 | refine D_call (f := 41) rfl obQ (by kernel_rfl) (fun w hw => converted_c m c (cvE_ok h).1 (cvE_ok h).2 w) ?_
 )
 | (refine G_id ?_; first
 | refine G_then ?_
 | refine G_block ?_
 | refine G_blockX ?_
 | refine G_blockN rfl ?_
 | refine G_blockR ?_
 | refine G_thenR ?_
 | refine G_thenX ?_
 | refine G_ret rfl obQ (fun w hw => ⟨?_, hw.below⟩)
 )
 )
  · exact rCv (cvR_1 h)
  · exact rCv (cvR_2 (by assumption) h)
  · exact rCv (cvR_3 (by assumption) h)

set_option maxHeartbeats 400000 in
/-- (genlock/colour.Matrix).cofactor -/
theorem cof00_c (m : Mat) (hm : MatOk m) (w : World) (hO : Ot w) : Calls Tryd.prog 27 #[.agg #[.int .i64 m.a, .int .i64 m.b, .int .i64 m.c, .int .i64 m.d, .int .i64 m.e, .int .i64 m.f, .int .i64 m.g, .int .i64 m.h, .int .i64 m.i, .int .i64 m.n], .int .i64 0, .int .i64 0] w fun r w' => r = .returned (.int .i64 (cofF m 0 0)) ∧ Below w.heap.size w w' := by
  have ha := hm.a
  have hb := hm.b
  have hc := hm.c
  have hd := hm.d
  have he := hm.e
  have hf := hm.f
  have hg := hm.g
  have hh := hm.h
  have hi := hm.i
  have pei := mul_ab hm.e hm.i
  have pfh := mul_ab hm.f hm.h
  refine calls_of (args := [.agg #[.int .i64 m.a, .int .i64 m.b, .int .i64 m.c, .int .i64 m.d, .int .i64 m.e, .int .i64 m.f, .int .i64 m.g, .int .i64 m.h, .int .i64 m.i, .int .i64 m.n], .int .i64 0, .int .i64 0]) T_ok Tryd.func27 rfl Tryd.ntmps27 (Nat.le_of_ble_eq_true rfl) rfl ?_
  repeat' (first
 | (refine C_id ?_; first
 | refine C_seq ?_
 | refine C_region rfl ?_
 | refine C_block ?_
 | refine C_skip ?_
 | refine C_exit ?_
 | refine C_ret0 ?_
 | refine C_drawTr (id := 1) 9 (.q 0 (.q 1 (.q 2 (.q 3 (.q 4 (.q 5 (.two 6 7 (.n 7 (.n 8 .nil)) (.n 6 (.n 8 .nil))))))))) rfl mixed (by kernel_rfl) rfl ?_
 | refine C_draw (id := 2) rfl mixed (by kernel_rfl) ?_
 | refine C_condT rfl obQ ?_
 | refine C_condF rfl obQ ?_
 | (refine C_cond rfl obQ (fun h => ?_) (fun h => ?_) <;> (try simp only [Bool.or_eq_true, Bool.and_eq_true, Bool.or_eq_false_iff, Bool.and_eq_false_iff, decide_eq_true_eq, decide_eq_false_iff_not, beq_iff_eq, bne_iff_ne, beq_eq_false_iff_ne, bne_eq_false_iff_eq, ne_eq, Decidable.not_not, List.cons.injEq, and_true, Bool.not_eq_true', Bool.not_eq_false', Int.not_lt, Int.not_le] at h))
 )
 | (refine S_id ?_; first
 | refine S_nil ?_
 | refine S_run rfl rfl obQ obQ ?_
 | refine S_box (fun b => ⟨_, _, rfl, obQ, ?_⟩)
 )
 | (refine D_id ?_; first
 | refine D_load rfl obQ rfl [.int .i64 1, .int .i64 2] (.past _ memQ _ _ hO.toS _ _ rfl rfl ot0) rfl (.inl ⟨rfl, rfl⟩) ?_
 | refine D_nil ?_
 | refine D_tail ?_
 | refine D_run rfl rfl obQ obQ ?_
 )
 | (refine VT_id ?_; first
 | refine VT_nil ?_
 | refine VT_q rfl (Yl_load rfl obQ rfl [.int .i64 1, .int .i64 2] (.past _ memQ _ _ hO.toS _ _ rfl rfl ot0) rfl (.inl ⟨rfl, rfl⟩)) ?_
 | refine VT_q rfl (Yl_step rfl obQ) ?_
 | refine VT_n rfl ?_
 | refine VT_two rfl rfl ?_ ?_
 | refine VT_three rfl rfl rfl ?_ ?_ ?_
 )
 | (refine G_id ?_; first
 | refine G_VT2 ⟨_, rfl⟩ ⟨_, rfl⟩ pstQ rfl ?_
 | refine G_then ?_
 | refine G_block ?_
 | refine G_blockX ?_
 | refine G_blockN rfl ?_
 | refine G_blockR ?_
 | refine G_thenR ?_
 | refine G_thenX ?_
 | refine G_ret rfl obQ (fun w hw => ⟨?_, hw.below⟩)
 )
 )
  all_goals rfl

set_option maxHeartbeats 400000 in
/-- (genlock/colour.Matrix).cofactor -/
theorem cof01_c (m : Mat) (hm : MatOk m) (w : World) (hO : Ot w) : Calls Tryd.prog 27 #[.agg #[.int .i64 m.a, .int .i64 m.b, .int .i64 m.c, .int .i64 m.d, .int .i64 m.e, .int .i64 m.f, .int .i64 m.g, .int .i64 m.h, .int .i64 m.i, .int .i64 m.n], .int .i64 0, .int .i64 1] w fun r w' => r = .returned (.int .i64 (cofF m 0 1)) ∧ Below w.heap.size w w' := by
  have ha := hm.a
  have hb := hm.b
  have hc := hm.c
  have hd := hm.d
  have he := hm.e
  have hf := hm.f
  have hg := hm.g
  have hh := hm.h
  have hi := hm.i
  have pfg := mul_ab hm.f hm.g
  have pdi := mul_ab hm.d hm.i
  refine calls_of (args := [.agg #[.int .i64 m.a, .int .i64 m.b, .int .i64 m.c, .int .i64 m.d, .int .i64 m.e, .int .i64 m.f, .int .i64 m.g, .int .i64 m.h, .int .i64 m.i, .int .i64 m.n], .int .i64 0, .int .i64 1]) T_ok Tryd.func27 rfl Tryd.ntmps27 (Nat.le_of_ble_eq_true rfl) rfl ?_
  repeat' (first
 | (refine C_id ?_; first
 | refine C_seq ?_
 | refine C_region rfl ?_
 | refine C_block ?_
 | refine C_skip ?_
 | refine C_exit ?_
 | refine C_ret0 ?_
 | refine C_drawTr (id := 1) 9 (.q 0 (.q 1 (.q 2 (.q 3 (.q 4 (.q 5 (.two 6 7 (.n 7 (.n 8 .nil)) (.n 6 (.n 8 .nil))))))))) rfl mixed (by kernel_rfl) rfl ?_
 | refine C_draw (id := 2) rfl mixed (by kernel_rfl) ?_
 | refine C_condT rfl obQ ?_
 | refine C_condF rfl obQ ?_
 | (refine C_cond rfl obQ (fun h => ?_) (fun h => ?_) <;> (try simp only [Bool.or_eq_true, Bool.and_eq_true, Bool.or_eq_false_iff, Bool.and_eq_false_iff, decide_eq_true_eq, decide_eq_false_iff_not, beq_iff_eq, bne_iff_ne, beq_eq_false_iff_ne, bne_eq_false_iff_eq, ne_eq, Decidable.not_not, List.cons.injEq, and_true, Bool.not_eq_true', Bool.not_eq_false', Int.not_lt, Int.not_le] at h))
 )
 | (refine S_id ?_; first
 | refine S_nil ?_
 | refine S_run rfl rfl obQ obQ ?_
 | refine S_box (fun b => ⟨_, _, rfl, obQ, ?_⟩)
 )
 | (refine D_id ?_; first
 | refine D_load rfl obQ rfl [.int .i64 1, .int .i64 2] (.past _ memQ _ _ hO.toS _ _ rfl rfl ot0) rfl (.inl ⟨rfl, rfl⟩) ?_
 | refine D_load rfl obQ rfl [.int .i64 2, .int .i64 0] (.past _ memQ _ _ hO.toS _ _ rfl rfl ot1) rfl (.inl ⟨rfl, rfl⟩) ?_
 | refine D_nil ?_
 | refine D_tail ?_
 | refine D_run rfl rfl obQ obQ ?_
 )
 | (refine VT_id ?_; first
 | refine VT_nil ?_
 | refine VT_q rfl (Yl_load rfl obQ rfl [.int .i64 1, .int .i64 2] (.past _ memQ _ _ hO.toS _ _ rfl rfl ot0) rfl (.inl ⟨rfl, rfl⟩)) ?_
 | refine VT_q rfl (Yl_load rfl obQ rfl [.int .i64 2, .int .i64 0] (.past _ memQ _ _ hO.toS _ _ rfl rfl ot1) rfl (.inl ⟨rfl, rfl⟩)) ?_
 | refine VT_q rfl (Yl_step rfl obQ) ?_
 | refine VT_n rfl ?_
 | refine VT_two rfl rfl ?_ ?_
 | refine VT_three rfl rfl rfl ?_ ?_ ?_
 )
 | (refine G_id ?_; first
 | refine G_VT2 ⟨_, rfl⟩ ⟨_, rfl⟩ pstQ rfl ?_
 | refine G_then ?_
 | refine G_block ?_
 | refine G_blockX ?_
 | refine G_blockN rfl ?_
 | refine G_blockR ?_
 | refine G_thenR ?_
 | refine G_thenX ?_
 | refine G_ret rfl obQ (fun w hw => ⟨?_, hw.below⟩)
 )
 )
  all_goals rfl

set_option maxHeartbeats 400000 in
/-- (genlock/colour.Matrix).cofactor -/
theorem cof02_c (m : Mat) (hm : MatOk m) (w : World) (hO : Ot w) : Calls Tryd.prog 27 #[.agg #[.int .i64 m.a, .int .i64 m.b, .int .i64 m.c, .int .i64 m.d, .int .i64 m.e, .int .i64 m.f, .int .i64 m.g, .int .i64 m.h, .int .i64 m.i, .int .i64 m.n], .int .i64 0, .int .i64 2] w fun r w' => r = .returned (.int .i64 (cofF m 0 2)) ∧ Below w.heap.size w w' := by
  have ha := hm.a
  have hb := hm.b
  have hc := hm.c
  have hd := hm.d
  have he := hm.e
  have hf := hm.f
  have hg := hm.g
  have hh := hm.h
  have hi := hm.i
  have pdh := mul_ab hm.d hm.h
  have peg := mul_ab hm.e hm.g
  refine calls_of (args := [.agg #[.int .i64 m.a, .int .i64 m.b, .int .i64 m.c, .int .i64 m.d, .int .i64 m.e, .int .i64 m.f, .int .i64 m.g, .int .i64 m.h, .int .i64 m.i, .int .i64 m.n], .int .i64 0, .int .i64 2]) T_ok Tryd.func27 rfl Tryd.ntmps27 (Nat.le_of_ble_eq_true rfl) rfl ?_
  repeat' (first
 | (refine C_id ?_; first
 | refine C_seq ?_
 | refine C_region rfl ?_
 | refine C_block ?_
 | refine C_skip ?_
 | refine C_exit ?_
 | refine C_ret0 ?_
 | refine C_drawTr (id := 1) 9 (.q 0 (.q 1 (.q 2 (.q 3 (.q 4 (.q 5 (.two 6 7 (.n 7 (.n 8 .nil)) (.n 6 (.n 8 .nil))))))))) rfl mixed (by kernel_rfl) rfl ?_
 | refine C_draw (id := 2) rfl mixed (by kernel_rfl) ?_
 | refine C_condT rfl obQ ?_
 | refine C_condF rfl obQ ?_
 | (refine C_cond rfl obQ (fun h => ?_) (fun h => ?_) <;> (try simp only [Bool.or_eq_true, Bool.and_eq_true, Bool.or_eq_false_iff, Bool.and_eq_false_iff, decide_eq_true_eq, decide_eq_false_iff_not, beq_iff_eq, bne_iff_ne, beq_eq_false_iff_ne, bne_eq_false_iff_eq, ne_eq, Decidable.not_not, List.cons.injEq, and_true, Bool.not_eq_true', Bool.not_eq_false', Int.not_lt, Int.not_le] at h))
 )
 | (refine S_id ?_; first
 | refine S_nil ?_
 | refine S_run rfl rfl obQ obQ ?_
 | refine S_box (fun b => ⟨_, _, rfl, obQ, ?_⟩)
 )
 | (refine D_id ?_; first
 | refine D_load rfl obQ rfl [.int .i64 1, .int .i64 2] (.past _ memQ _ _ hO.toS _ _ rfl rfl ot0) rfl (.inl ⟨rfl, rfl⟩) ?_
 | refine D_load rfl obQ rfl [.int .i64 0, .int .i64 1] (.past _ memQ _ _ hO.toS _ _ rfl rfl ot2) rfl (.inl ⟨rfl, rfl⟩) ?_
 | refine D_nil ?_
 | refine D_tail ?_
 | refine D_run rfl rfl obQ obQ ?_
 )
 | (refine VT_id ?_; first
 | refine VT_nil ?_
 | refine VT_q rfl (Yl_load rfl obQ rfl [.int .i64 1, .int .i64 2] (.past _ memQ _ _ hO.toS _ _ rfl rfl ot0) rfl (.inl ⟨rfl, rfl⟩)) ?_
 | refine VT_q rfl (Yl_load rfl obQ rfl [.int .i64 0, .int .i64 1] (.past _ memQ _ _ hO.toS _ _ rfl rfl ot2) rfl (.inl ⟨rfl, rfl⟩)) ?_
 | refine VT_q rfl (Yl_step rfl obQ) ?_
 | refine VT_n rfl ?_
 | refine VT_two rfl rfl ?_ ?_
 | refine VT_three rfl rfl rfl ?_ ?_ ?_
 )
 | (refine G_id ?_; first
 | refine G_VT2 ⟨_, rfl⟩ ⟨_, rfl⟩ pstQ rfl ?_
 | refine G_then ?_
 | refine G_block ?_
 | refine G_blockX ?_
 | refine G_blockN rfl ?_
 | refine G_blockR ?_
 | refine G_thenR ?_
 | refine G_thenX ?_
 | refine G_ret rfl obQ (fun w hw => ⟨?_, hw.below⟩)
 )
 )
  all_goals rfl

set_option maxHeartbeats 400000 in
/-- (genlock/colour.Matrix).cofactor -/
theorem cof10_c (m : Mat) (hm : MatOk m) (w : World) (hO : Ot w) : Calls Tryd.prog 27 #[.agg #[.int .i64 m.a, .int .i64 m.b, .int .i64 m.c, .int .i64 m.d, .int .i64 m.e, .int .i64 m.f, .int .i64 m.g, .int .i64 m.h, .int .i64 m.i, .int .i64 m.n], .int .i64 1, .int .i64 0] w fun r w' => r = .returned (.int .i64 (cofF m 1 0)) ∧ Below w.heap.size w w' := by
  have ha := hm.a
  have hb := hm.b
  have hc := hm.c
  have hd := hm.d
  have he := hm.e
  have hf := hm.f
  have hg := hm.g
  have hh := hm.h
  have hi := hm.i
  have phc := mul_ab hm.h hm.c
  have pib := mul_ab hm.i hm.b
  refine calls_of (args := [.agg #[.int .i64 m.a, .int .i64 m.b, .int .i64 m.c, .int .i64 m.d, .int .i64 m.e, .int .i64 m.f, .int .i64 m.g, .int .i64 m.h, .int .i64 m.i, .int .i64 m.n], .int .i64 1, .int .i64 0]) T_ok Tryd.func27 rfl Tryd.ntmps27 (Nat.le_of_ble_eq_true rfl) rfl ?_
  repeat' (first
 | (refine C_id ?_; first
 | refine C_seq ?_
 | refine C_region rfl ?_
 | refine C_block ?_
 | refine C_skip ?_
 | refine C_exit ?_
 | refine C_ret0 ?_
 | refine C_drawTr (id := 1) 9 (.q 0 (.q 1 (.q 2 (.q 3 (.q 4 (.q 5 (.two 6 7 (.n 7 (.n 8 .nil)) (.n 6 (.n 8 .nil))))))))) rfl mixed (by kernel_rfl) rfl ?_
 | refine C_draw (id := 2) rfl mixed (by kernel_rfl) ?_
 | refine C_condT rfl obQ ?_
 | refine C_condF rfl obQ ?_
 | (refine C_cond rfl obQ (fun h => ?_) (fun h => ?_) <;> (try simp only [Bool.or_eq_true, Bool.and_eq_true, Bool.or_eq_false_iff, Bool.and_eq_false_iff, decide_eq_true_eq, decide_eq_false_iff_not, beq_iff_eq, bne_iff_ne, beq_eq_false_iff_ne, bne_eq_false_iff_eq, ne_eq, Decidable.not_not, List.cons.injEq, and_true, Bool.not_eq_true', Bool.not_eq_false', Int.not_lt, Int.not_le] at h))
 )
 | (refine S_id ?_; first
 | refine S_nil ?_
 | refine S_run rfl rfl obQ obQ ?_
 | refine S_box (fun b => ⟨_, _, rfl, obQ, ?_⟩)
 )
 | (refine D_id ?_; first
 | refine D_load rfl obQ rfl [.int .i64 2, .int .i64 0] (.past _ memQ _ _ hO.toS _ _ rfl rfl ot1) rfl (.inl ⟨rfl, rfl⟩) ?_
 | refine D_load rfl obQ rfl [.int .i64 1, .int .i64 2] (.past _ memQ _ _ hO.toS _ _ rfl rfl ot0) rfl (.inl ⟨rfl, rfl⟩) ?_
 | refine D_nil ?_
 | refine D_tail ?_
 | refine D_run rfl rfl obQ obQ ?_
 )
 | (refine VT_id ?_; first
 | refine VT_nil ?_
 | refine VT_q rfl (Yl_load rfl obQ rfl [.int .i64 2, .int .i64 0] (.past _ memQ _ _ hO.toS _ _ rfl rfl ot1) rfl (.inl ⟨rfl, rfl⟩)) ?_
 | refine VT_q rfl (Yl_load rfl obQ rfl [.int .i64 1, .int .i64 2] (.past _ memQ _ _ hO.toS _ _ rfl rfl ot0) rfl (.inl ⟨rfl, rfl⟩)) ?_
 | refine VT_q rfl (Yl_step rfl obQ) ?_
 | refine VT_n rfl ?_
 | refine VT_two rfl rfl ?_ ?_
 | refine VT_three rfl rfl rfl ?_ ?_ ?_
 )
 | (refine G_id ?_; first
 | refine G_VT2 ⟨_, rfl⟩ ⟨_, rfl⟩ pstQ rfl ?_
 | refine G_then ?_
 | refine G_block ?_
 | refine G_blockX ?_
 | refine G_blockN rfl ?_
 | refine G_blockR ?_
 | refine G_thenR ?_
 | refine G_thenX ?_
 | refine G_ret rfl obQ (fun w hw => ⟨?_, hw.below⟩)
 )
 )
  all_goals rfl

set_option maxHeartbeats 400000 in
/-- (genlock/colour.Matrix).cofactor -/
theorem cof11_c (m : Mat) (hm : MatOk m) (w : World) (hO : Ot w) : Calls Tryd.prog 27 #[.agg #[.int .i64 m.a, .int .i64 m.b, .int .i64 m.c, .int .i64 m.d, .int .i64 m.e, .int .i64 m.f, .int .i64 m.g, .int .i64 m.h, .int .i64 m.i, .int .i64 m.n], .int .i64 1, .int .i64 1] w fun r w' => r = .returned (.int .i64 (cofF m 1 1)) ∧ Below w.heap.size w w' := by
  have ha := hm.a
  have hb := hm.b
  have hc := hm.c
  have hd := hm.d
  have he := hm.e
  have hf := hm.f
  have hg := hm.g
  have hh := hm.h
  have hi := hm.i
  have pia := mul_ab hm.i hm.a
  have pgc := mul_ab hm.g hm.c
  refine calls_of (args := [.agg #[.int .i64 m.a, .int .i64 m.b, .int .i64 m.c, .int .i64 m.d, .int .i64 m.e, .int .i64 m.f, .int .i64 m.g, .int .i64 m.h, .int .i64 m.i, .int .i64 m.n], .int .i64 1, .int .i64 1]) T_ok Tryd.func27 rfl Tryd.ntmps27 (Nat.le_of_ble_eq_true rfl) rfl ?_
  repeat' (first
 | (refine C_id ?_; first
 | refine C_seq ?_
 | refine C_region rfl ?_
 | refine C_block ?_
 | refine C_skip ?_
 | refine C_exit ?_
 | refine C_ret0 ?_
 | refine C_drawTr (id := 1) 9 (.q 0 (.q 1 (.q 2 (.q 3 (.q 4 (.q 5 (.two 6 7 (.n 7 (.n 8 .nil)) (.n 6 (.n 8 .nil))))))))) rfl mixed (by kernel_rfl) rfl ?_
 | refine C_draw (id := 2) rfl mixed (by kernel_rfl) ?_
 | refine C_condT rfl obQ ?_
 | refine C_condF rfl obQ ?_
 | (refine C_cond rfl obQ (fun h => ?_) (fun h => ?_) <;> (try simp only [Bool.or_eq_true, Bool.and_eq_true, Bool.or_eq_false_iff, Bool.and_eq_false_iff, decide_eq_true_eq, decide_eq_false_iff_not, beq_iff_eq, bne_iff_ne, beq_eq_false_iff_ne, bne_eq_false_iff_eq, ne_eq, Decidable.not_not, List.cons.injEq, and_true, Bool.not_eq_true', Bool.not_eq_false', Int.not_lt, Int.not_le] at h))
 )
 | (refine S_id ?_; first
 | refine S_nil ?_
 | refine S_run rfl rfl obQ obQ ?_
 | refine S_box (fun b => ⟨_, _, rfl, obQ, ?_⟩)
 )
 | (refine D_id ?_; first
 | refine D_load rfl obQ rfl [.int .i64 2, .int .i64 0] (.past _ memQ _ _ hO.toS _ _ rfl rfl ot1) rfl (.inl ⟨rfl, rfl⟩) ?_
 | refine D_nil ?_
 | refine D_tail ?_
 | refine D_run rfl rfl obQ obQ ?_
 )
 | (refine VT_id ?_; first
 | refine VT_nil ?_
 | refine VT_q rfl (Yl_load rfl obQ rfl [.int .i64 2, .int .i64 0] (.past _ memQ _ _ hO.toS _ _ rfl rfl ot1) rfl (.inl ⟨rfl, rfl⟩)) ?_
 | refine VT_q rfl (Yl_step rfl obQ) ?_
 | refine VT_n rfl ?_
 | refine VT_two rfl rfl ?_ ?_
 | refine VT_three rfl rfl rfl ?_ ?_ ?_
 )
 | (refine G_id ?_; first
 | refine G_VT2 ⟨_, rfl⟩ ⟨_, rfl⟩ pstQ rfl ?_
 | refine G_then ?_
 | refine G_block ?_
 | refine G_blockX ?_
 | refine G_blockN rfl ?_
 | refine G_blockR ?_
 | refine G_thenR ?_
 | refine G_thenX ?_
 | refine G_ret rfl obQ (fun w hw => ⟨?_, hw.below⟩)
 )
 )
  all_goals rfl

set_option maxHeartbeats 400000 in
/-- (genlock/colour.Matrix).cofactor -/
theorem cof12_c (m : Mat) (hm : MatOk m) (w : World) (hO : Ot w) : Calls Tryd.prog 27 #[.agg #[.int .i64 m.a, .int .i64 m.b, .int .i64 m.c, .int .i64 m.d, .int .i64 m.e, .int .i64 m.f, .int .i64 m.g, .int .i64 m.h, .int .i64 m.i, .int .i64 m.n], .int .i64 1, .int .i64 2] w fun r w' => r = .returned (.int .i64 (cofF m 1 2)) ∧ Below w.heap.size w w' := by
  have ha := hm.a
  have hb := hm.b
  have hc := hm.c
  have hd := hm.d
  have he := hm.e
  have hf := hm.f
  have hg := hm.g
  have hh := hm.h
  have hi := hm.i
  have pgb := mul_ab hm.g hm.b
  have pha := mul_ab hm.h hm.a
  refine calls_of (args := [.agg #[.int .i64 m.a, .int .i64 m.b, .int .i64 m.c, .int .i64 m.d, .int .i64 m.e, .int .i64 m.f, .int .i64 m.g, .int .i64 m.h, .int .i64 m.i, .int .i64 m.n], .int .i64 1, .int .i64 2]) T_ok Tryd.func27 rfl Tryd.ntmps27 (Nat.le_of_ble_eq_true rfl) rfl ?_
  repeat' (first
 | (refine C_id ?_; first
 | refine C_seq ?_
 | refine C_region rfl ?_
 | refine C_block ?_
 | refine C_skip ?_
 | refine C_exit ?_
 | refine C_ret0 ?_
 | refine C_drawTr (id := 1) 9 (.q 0 (.q 1 (.q 2 (.q 3 (.q 4 (.q 5 (.two 6 7 (.n 7 (.n 8 .nil)) (.n 6 (.n 8 .nil))))))))) rfl mixed (by kernel_rfl) rfl ?_
 | refine C_draw (id := 2) rfl mixed (by kernel_rfl) ?_
 | refine C_condT rfl obQ ?_
 | refine C_condF rfl obQ ?_
 | (refine C_cond rfl obQ (fun h => ?_) (fun h => ?_) <;> (try simp only [Bool.or_eq_true, Bool.and_eq_true, Bool.or_eq_false_iff, Bool.and_eq_false_iff, decide_eq_true_eq, decide_eq_false_iff_not, beq_iff_eq, bne_iff_ne, beq_eq_false_iff_ne, bne_eq_false_iff_eq, ne_eq, Decidable.not_not, List.cons.injEq, and_true, Bool.not_eq_true', Bool.not_eq_false', Int.not_lt, Int.not_le] at h))
 )
 | (refine S_id ?_; first
 | refine S_nil ?_
 | refine S_run rfl rfl obQ obQ ?_
 | refine S_box (fun b => ⟨_, _, rfl, obQ, ?_⟩)
 )
 | (refine D_id ?_; first
 | refine D_load rfl obQ rfl [.int .i64 2, .int .i64 0] (.past _ memQ _ _ hO.toS _ _ rfl rfl ot1) rfl (.inl ⟨rfl, rfl⟩) ?_
 | refine D_load rfl obQ rfl [.int .i64 0, .int .i64 1] (.past _ memQ _ _ hO.toS _ _ rfl rfl ot2) rfl (.inl ⟨rfl, rfl⟩) ?_
 | refine D_nil ?_
 | refine D_tail ?_
 | refine D_run rfl rfl obQ obQ ?_
 )
 | (refine VT_id ?_; first
 | refine VT_nil ?_
 | refine VT_q rfl (Yl_load rfl obQ rfl [.int .i64 2, .int .i64 0] (.past _ memQ _ _ hO.toS _ _ rfl rfl ot1) rfl (.inl ⟨rfl, rfl⟩)) ?_
 | refine VT_q rfl (Yl_load rfl obQ rfl [.int .i64 0, .int .i64 1] (.past _ memQ _ _ hO.toS _ _ rfl rfl ot2) rfl (.inl ⟨rfl, rfl⟩)) ?_
 | refine VT_q rfl (Yl_step rfl obQ) ?_
 | refine VT_n rfl ?_
 | refine VT_two rfl rfl ?_ ?_
 | refine VT_three rfl rfl rfl ?_ ?_ ?_
 )
 | (refine G_id ?_; first
 | refine G_VT2 ⟨_, rfl⟩ ⟨_, rfl⟩ pstQ rfl ?_
 | refine G_then ?_
 | refine G_block ?_
 | refine G_blockX ?_
 | refine G_blockN rfl ?_
 | refine G_blockR ?_
 | refine G_thenR ?_
 | refine G_thenX ?_
 | refine G_ret rfl obQ (fun w hw => ⟨?_, hw.below⟩)
 )
 )
  all_goals rfl

set_option maxHeartbeats 400000 in
/-- (genlock/colour.Matrix).cofactor -/
theorem cof20_c (m : Mat) (hm : MatOk m) (w : World) (hO : Ot w) : Calls Tryd.prog 27 #[.agg #[.int .i64 m.a, .int .i64 m.b, .int .i64 m.c, .int .i64 m.d, .int .i64 m.e, .int .i64 m.f, .int .i64 m.g, .int .i64 m.h, .int .i64 m.i, .int .i64 m.n], .int .i64 2, .int .i64 0] w fun r w' => r = .returned (.int .i64 (cofF m 2 0)) ∧ Below w.heap.size w w' := by
  have ha := hm.a
  have hb := hm.b
  have hc := hm.c
  have hd := hm.d
  have he := hm.e
  have hf := hm.f
  have hg := hm.g
  have hh := hm.h
  have hi := hm.i
  have pbf := mul_ab hm.b hm.f
  have pce := mul_ab hm.c hm.e
  refine calls_of (args := [.agg #[.int .i64 m.a, .int .i64 m.b, .int .i64 m.c, .int .i64 m.d, .int .i64 m.e, .int .i64 m.f, .int .i64 m.g, .int .i64 m.h, .int .i64 m.i, .int .i64 m.n], .int .i64 2, .int .i64 0]) T_ok Tryd.func27 rfl Tryd.ntmps27 (Nat.le_of_ble_eq_true rfl) rfl ?_
  repeat' (first
 | (refine C_id ?_; first
 | refine C_seq ?_
 | refine C_region rfl ?_
 | refine C_block ?_
 | refine C_skip ?_
 | refine C_exit ?_
 | refine C_ret0 ?_
 | refine C_drawTr (id := 1) 9 (.q 0 (.q 1 (.q 2 (.q 3 (.q 4 (.q 5 (.two 6 7 (.n 7 (.n 8 .nil)) (.n 6 (.n 8 .nil))))))))) rfl mixed (by kernel_rfl) rfl ?_
 | refine C_draw (id := 2) rfl mixed (by kernel_rfl) ?_
 | refine C_condT rfl obQ ?_
 | refine C_condF rfl obQ ?_
 | (refine C_cond rfl obQ (fun h => ?_) (fun h => ?_) <;> (try simp only [Bool.or_eq_true, Bool.and_eq_true, Bool.or_eq_false_iff, Bool.and_eq_false_iff, decide_eq_true_eq, decide_eq_false_iff_not, beq_iff_eq, bne_iff_ne, beq_eq_false_iff_ne, bne_eq_false_iff_eq, ne_eq, Decidable.not_not, List.cons.injEq, and_true, Bool.not_eq_true', Bool.not_eq_false', Int.not_lt, Int.not_le] at h))
 )
 | (refine S_id ?_; first
 | refine S_nil ?_
 | refine S_run rfl rfl obQ obQ ?_
 | refine S_box (fun b => ⟨_, _, rfl, obQ, ?_⟩)
 )
 | (refine D_id ?_; first
 | refine D_load rfl obQ rfl [.int .i64 0, .int .i64 1] (.past _ memQ _ _ hO.toS _ _ rfl rfl ot2) rfl (.inl ⟨rfl, rfl⟩) ?_
 | refine D_load rfl obQ rfl [.int .i64 1, .int .i64 2] (.past _ memQ _ _ hO.toS _ _ rfl rfl ot0) rfl (.inl ⟨rfl, rfl⟩) ?_
 | refine D_nil ?_
 | refine D_tail ?_
 | refine D_run rfl rfl obQ obQ ?_
 )
 | (refine VT_id ?_; first
 | refine VT_nil ?_
 | refine VT_q rfl (Yl_load rfl obQ rfl [.int .i64 0, .int .i64 1] (.past _ memQ _ _ hO.toS _ _ rfl rfl ot2) rfl (.inl ⟨rfl, rfl⟩)) ?_
 | refine VT_q rfl (Yl_load rfl obQ rfl [.int .i64 1, .int .i64 2] (.past _ memQ _ _ hO.toS _ _ rfl rfl ot0) rfl (.inl ⟨rfl, rfl⟩)) ?_
 | refine VT_q rfl (Yl_step rfl obQ) ?_
 | refine VT_n rfl ?_
 | refine VT_two rfl rfl ?_ ?_
 | refine VT_three rfl rfl rfl ?_ ?_ ?_
 )
 | (refine G_id ?_; first
 | refine G_VT2 ⟨_, rfl⟩ ⟨_, rfl⟩ pstQ rfl ?_
 | refine G_then ?_
 | refine G_block ?_
 | refine G_blockX ?_
 | refine G_blockN rfl ?_
 | refine G_blockR ?_
 | refine G_thenR ?_
 | refine G_thenX ?_
 | refine G_ret rfl obQ (fun w hw => ⟨?_, hw.below⟩)
 )
 )
  all_goals rfl

set_option maxHeartbeats 400000 in
/-- (genlock/colour.Matrix).cofactor -/
theorem cof21_c (m : Mat) (hm : MatOk m) (w : World) (hO : Ot w) : Calls Tryd.prog 27 #[.agg #[.int .i64 m.a, .int .i64 m.b, .int .i64 m.c, .int .i64 m.d, .int .i64 m.e, .int .i64 m.f, .int .i64 m.g, .int .i64 m.h, .int .i64 m.i, .int .i64 m.n], .int .i64 2, .int .i64 1] w fun r w' => r = .returned (.int .i64 (cofF m 2 1)) ∧ Below w.heap.size w w' := by
  have ha := hm.a
  have hb := hm.b
  have hc := hm.c
  have hd := hm.d
  have he := hm.e
  have hf := hm.f
  have hg := hm.g
  have hh := hm.h
  have hi := hm.i
  have pcd := mul_ab hm.c hm.d
  have paf := mul_ab hm.a hm.f
  refine calls_of (args := [.agg #[.int .i64 m.a, .int .i64 m.b, .int .i64 m.c, .int .i64 m.d, .int .i64 m.e, .int .i64 m.f, .int .i64 m.g, .int .i64 m.h, .int .i64 m.i, .int .i64 m.n], .int .i64 2, .int .i64 1]) T_ok Tryd.func27 rfl Tryd.ntmps27 (Nat.le_of_ble_eq_true rfl) rfl ?_
  repeat' (first
 | (refine C_id ?_; first
 | refine C_seq ?_
 | refine C_region rfl ?_
 | refine C_block ?_
 | refine C_skip ?_
 | refine C_exit ?_
 | refine C_ret0 ?_
 | refine C_drawTr (id := 1) 9 (.q 0 (.q 1 (.q 2 (.q 3 (.q 4 (.q 5 (.two 6 7 (.n 7 (.n 8 .nil)) (.n 6 (.n 8 .nil))))))))) rfl mixed (by kernel_rfl) rfl ?_
 | refine C_draw (id := 2) rfl mixed (by kernel_rfl) ?_
 | refine C_condT rfl obQ ?_
 | refine C_condF rfl obQ ?_
 | (refine C_cond rfl obQ (fun h => ?_) (fun h => ?_) <;> (try simp only [Bool.or_eq_true, Bool.and_eq_true, Bool.or_eq_false_iff, Bool.and_eq_false_iff, decide_eq_true_eq, decide_eq_false_iff_not, beq_iff_eq, bne_iff_ne, beq_eq_false_iff_ne, bne_eq_false_iff_eq, ne_eq, Decidable.not_not, List.cons.injEq, and_true, Bool.not_eq_true', Bool.not_eq_false', Int.not_lt, Int.not_le] at h))
 )
 | (refine S_id ?_; first
 | refine S_nil ?_
 | refine S_run rfl rfl obQ obQ ?_
 | refine S_box (fun b => ⟨_, _, rfl, obQ, ?_⟩)
 )
 | (refine D_id ?_; first
 | refine D_load rfl obQ rfl [.int .i64 0, .int .i64 1] (.past _ memQ _ _ hO.toS _ _ rfl rfl ot2) rfl (.inl ⟨rfl, rfl⟩) ?_
 | refine D_load rfl obQ rfl [.int .i64 2, .int .i64 0] (.past _ memQ _ _ hO.toS _ _ rfl rfl ot1) rfl (.inl ⟨rfl, rfl⟩) ?_
 | refine D_nil ?_
 | refine D_tail ?_
 | refine D_run rfl rfl obQ obQ ?_
 )
 | (refine VT_id ?_; first
 | refine VT_nil ?_
 | refine VT_q rfl (Yl_load rfl obQ rfl [.int .i64 0, .int .i64 1] (.past _ memQ _ _ hO.toS _ _ rfl rfl ot2) rfl (.inl ⟨rfl, rfl⟩)) ?_
 | refine VT_q rfl (Yl_load rfl obQ rfl [.int .i64 2, .int .i64 0] (.past _ memQ _ _ hO.toS _ _ rfl rfl ot1) rfl (.inl ⟨rfl, rfl⟩)) ?_
 | refine VT_q rfl (Yl_step rfl obQ) ?_
 | refine VT_n rfl ?_
 | refine VT_two rfl rfl ?_ ?_
 | refine VT_three rfl rfl rfl ?_ ?_ ?_
 )
 | (refine G_id ?_; first
 | refine G_VT2 ⟨_, rfl⟩ ⟨_, rfl⟩ pstQ rfl ?_
 | refine G_then ?_
 | refine G_block ?_
 | refine G_blockX ?_
 | refine G_blockN rfl ?_
 | refine G_blockR ?_
 | refine G_thenR ?_
 | refine G_thenX ?_
 | refine G_ret rfl obQ (fun w hw => ⟨?_, hw.below⟩)
 )
 )
  all_goals rfl

set_option maxHeartbeats 400000 in
/-- (genlock/colour.Matrix).cofactor -/
theorem cof22_c (m : Mat) (hm : MatOk m) (w : World) (hO : Ot w) : Calls Tryd.prog 27 #[.agg #[.int .i64 m.a, .int .i64 m.b, .int .i64 m.c, .int .i64 m.d, .int .i64 m.e, .int .i64 m.f, .int .i64 m.g, .int .i64 m.h, .int .i64 m.i, .int .i64 m.n], .int .i64 2, .int .i64 2] w fun r w' => r = .returned (.int .i64 (cofF m 2 2)) ∧ Below w.heap.size w w' := by
  have ha := hm.a
  have hb := hm.b
  have hc := hm.c
  have hd := hm.d
  have he := hm.e
  have hf := hm.f
  have hg := hm.g
  have hh := hm.h
  have hi := hm.i
  have pae := mul_ab hm.a hm.e
  have pbd := mul_ab hm.b hm.d
  refine calls_of (args := [.agg #[.int .i64 m.a, .int .i64 m.b, .int .i64 m.c, .int .i64 m.d, .int .i64 m.e, .int .i64 m.f, .int .i64 m.g, .int .i64 m.h, .int .i64 m.i, .int .i64 m.n], .int .i64 2, .int .i64 2]) T_ok Tryd.func27 rfl Tryd.ntmps27 (Nat.le_of_ble_eq_true rfl) rfl ?_
  repeat' (first
 | (refine C_id ?_; first
 | refine C_seq ?_
 | refine C_region rfl ?_
 | refine C_block ?_
 | refine C_skip ?_
 | refine C_exit ?_
 | refine C_ret0 ?_
 | refine C_drawTr (id := 1) 9 (.q 0 (.q 1 (.q 2 (.q 3 (.q 4 (.q 5 (.two 6 7 (.n 7 (.n 8 .nil)) (.n 6 (.n 8 .nil))))))))) rfl mixed (by kernel_rfl) rfl ?_
 | refine C_draw (id := 2) rfl mixed (by kernel_rfl) ?_
 | refine C_condT rfl obQ ?_
 | refine C_condF rfl obQ ?_
 | (refine C_cond rfl obQ (fun h => ?_) (fun h => ?_) <;> (try simp only [Bool.or_eq_true, Bool.and_eq_true, Bool.or_eq_false_iff, Bool.and_eq_false_iff, decide_eq_true_eq, decide_eq_false_iff_not, beq_iff_eq, bne_iff_ne, beq_eq_false_iff_ne, bne_eq_false_iff_eq, ne_eq, Decidable.not_not, List.cons.injEq, and_true, Bool.not_eq_true', Bool.not_eq_false', Int.not_lt, Int.not_le] at h))
 )
 | (refine S_id ?_; first
 | refine S_nil ?_
 | refine S_run rfl rfl obQ obQ ?_
 | refine S_box (fun b => ⟨_, _, rfl, obQ, ?_⟩)
 )
 | (refine D_id ?_; first
 | refine D_load rfl obQ rfl [.int .i64 0, .int .i64 1] (.past _ memQ _ _ hO.toS _ _ rfl rfl ot2) rfl (.inl ⟨rfl, rfl⟩) ?_
 | refine D_nil ?_
 | refine D_tail ?_
 | refine D_run rfl rfl obQ obQ ?_
 )
 | (refine VT_id ?_; first
 | refine VT_nil ?_
 | refine VT_q rfl (Yl_load rfl obQ rfl [.int .i64 0, .int .i64 1] (.past _ memQ _ _ hO.toS _ _ rfl rfl ot2) rfl (.inl ⟨rfl, rfl⟩)) ?_
 | refine VT_q rfl (Yl_step rfl obQ) ?_
 | refine VT_n rfl ?_
 | refine VT_two rfl rfl ?_ ?_
 | refine VT_three rfl rfl rfl ?_ ?_ ?_
 )
 | (refine G_id ?_; first
 | refine G_VT2 ⟨_, rfl⟩ ⟨_, rfl⟩ pstQ rfl ?_
 | refine G_then ?_
 | refine G_block ?_
 | refine G_blockX ?_
 | refine G_blockN rfl ?_
 | refine G_blockR ?_
 | refine G_thenR ?_
 | refine G_thenX ?_
 | refine G_ret rfl obQ (fun w hw => ⟨?_, hw.below⟩)
 )
 )
  all_goals rfl

end Go.Proofs.YtedlaominconaaaDoor
