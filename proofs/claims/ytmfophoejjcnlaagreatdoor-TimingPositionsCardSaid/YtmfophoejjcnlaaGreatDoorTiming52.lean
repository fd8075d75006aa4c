/- The law of positions: the walk. -/
import Derived.Test.YtmfophoejjcnlaaGreatDoorTiming36
import Derived.Test.YtmfophoejjcnlaaGreatDoorTiming51
import Derived.Test.YtmfophoejjcnlaaGreatDoorEng3
import Derived.Laws.StructEq
namespace Go.Proofs.YtmfophoejjcnlaaGreatDoor
open Go.E Go.RowKit
attribute [local irreducible] G C S D Calls
set_option maxRecDepth 100000
set_option linter.unusedSimpArgs false
set_option linter.unusedVariables false

section
variable {X : Cx} {Ps : Past} {l0 l rest : List Oper} {Q : Exit → Act → World → Prop} {sl : List (Nat × AV)} {bx : List Bx} {rw : List Rw} {d : Nat}
theorem S_falseA {p q : Bool} (h : (p && q) = false) (k : S X Ps l0 Q l ⟨(d, .s (.v (.bool false))) :: sl, bx, rw⟩) : S X Ps l0 Q l ⟨(d, .s (.v (.bool (p && q)))) :: sl, bx, rw⟩ := by rw [h]; exact k
end
theorem ne_bool (a b : Bool) (x y : Operand) (w : World) : (do eqGuard .neq 4 x y (.bool a) (.bool b); binOp .neq 4 (.bool a) (.bool b) : Sem Value).run Tryz.prog w = .ok (.bool (a != b)) w := by
  cases a <;> cases b <;> kernel_rfl
theorem fl_0_0 (t : TypeId) (x y : Operand) (w : World) : (do eqGuard .eql t x y (.float .f32 3263168512) (.float .f32 3263168512); binOp .eql t (.float .f32 3263168512) (.float .f32 3263168512) : Sem Value).run Tryz.prog w = .ok (.bool true) w := by kernel_rfl
theorem fl_0_1 (t : TypeId) (x y : Operand) (w : World) : (do eqGuard .eql t x y (.float .f32 3263168512) (.float .f32 0); binOp .eql t (.float .f32 3263168512) (.float .f32 0) : Sem Value).run Tryz.prog w = .ok (.bool false) w := by kernel_rfl
theorem fl_0_2 (t : TypeId) (x y : Operand) (w : World) : (do eqGuard .eql t x y (.float .f32 3263168512) (.float .f32 1098907648); binOp .eql t (.float .f32 3263168512) (.float .f32 1098907648) : Sem Value).run Tryz.prog w = .ok (.bool false) w := by kernel_rfl
theorem fl_1_0 (t : TypeId) (x y : Operand) (w : World) : (do eqGuard .eql t x y (.float .f32 0) (.float .f32 3263168512); binOp .eql t (.float .f32 0) (.float .f32 3263168512) : Sem Value).run Tryz.prog w = .ok (.bool false) w := by kernel_rfl
theorem fl_1_1 (t : TypeId) (x y : Operand) (w : World) : (do eqGuard .eql t x y (.float .f32 0) (.float .f32 0); binOp .eql t (.float .f32 0) (.float .f32 0) : Sem Value).run Tryz.prog w = .ok (.bool true) w := by kernel_rfl
theorem fl_1_2 (t : TypeId) (x y : Operand) (w : World) : (do eqGuard .eql t x y (.float .f32 0) (.float .f32 1098907648); binOp .eql t (.float .f32 0) (.float .f32 1098907648) : Sem Value).run Tryz.prog w = .ok (.bool false) w := by kernel_rfl
theorem fl_2_0 (t : TypeId) (x y : Operand) (w : World) : (do eqGuard .eql t x y (.float .f32 1098907648) (.float .f32 3263168512); binOp .eql t (.float .f32 1098907648) (.float .f32 3263168512) : Sem Value).run Tryz.prog w = .ok (.bool false) w := by kernel_rfl
theorem fl_2_1 (t : TypeId) (x y : Operand) (w : World) : (do eqGuard .eql t x y (.float .f32 1098907648) (.float .f32 0); binOp .eql t (.float .f32 1098907648) (.float .f32 0) : Sem Value).run Tryz.prog w = .ok (.bool false) w := by kernel_rfl
theorem fl_2_2 (t : TypeId) (x y : Operand) (w : World) : (do eqGuard .eql t x y (.float .f32 1098907648) (.float .f32 1098907648); binOp .eql t (.float .f32 1098907648) (.float .f32 1098907648) : Sem Value).run Tryz.prog w = .ok (.bool true) w := by kernel_rfl

theorem atk_c (f : Fmt) (t a b c d : Int) (hc : checkT f t = 0) (hp : atF f t = ⟨a, b, c, d⟩) (w : World) (hE : Ex w) : Calls Tryz.prog 14 #[.agg #[.int .i64 f.S, .int .i64 f.L, .int .i64 f.F, .int .i64 f.B, .int .i64 f.Y, .int .i64 f.V, .int .i64 f.C], .int .i64 t] w fun r w' => r = .returned (.tuple #[.agg #[.int .i64 a, .int .i64 b, .int .i64 c, .int .i64 d], .int .i64 0]) ∧ Below w.heap.size w w' := by
  have h := At_c f t w hE
  have e : atE f t = ⟨a, b, c, d⟩ := by unfold atE; rw [if_pos hc, hp]
  rw [e, hc] at h
  exact h
theorem tick_as_c (f : Fmt) (t a b c d : Int) (h0 : TickR f ⟨a, b, c, d⟩ = (t, 0)) (w : World) (hE : Ex w) : Calls Tryz.prog 15 #[.agg #[.int .i64 f.S, .int .i64 f.L, .int .i64 f.F, .int .i64 f.B, .int .i64 f.Y, .int .i64 f.V, .int .i64 f.C], .agg #[.int .i64 a, .int .i64 b, .int .i64 c, .int .i64 d]] w fun r w' => r = .returned (.tuple #[.int .i64 t, .int .i64 0]) ∧ Below w.heap.size w w' := by
  have h := Tick_c f ⟨a, b, c, d⟩ w hE
  rw [h0] at h
  exact h
theorem row_as_c (f : Fmt) (r0 a b c d : Int) (h0 : RowR f ⟨a, b, c, d⟩ = (r0, 0)) (w : World) (hE : Ex w) : Calls Tryz.prog 16 #[.agg #[.int .i64 f.S, .int .i64 f.L, .int .i64 f.F, .int .i64 f.B, .int .i64 f.Y, .int .i64 f.V, .int .i64 f.C], .agg #[.int .i64 a, .int .i64 b, .int .i64 c, .int .i64 d]] w fun r w' => r = .returned (.tuple #[.int .i64 r0, .int .i64 0]) ∧ Below w.heap.size w w' := by
  have h := Row_c f ⟨a, b, c, d⟩ w hE
  rw [h0] at h
  exact h
theorem vert_as_c (f : Fmt) (t a b : Int) (hb : -9223372036854775808 ≤ t ∧ t ≤ 9223372036854775807) (h0 : vertR f t = ((a, b), 0)) (w : World) (hE : Ex w) : Calls Tryz.prog 30 #[.agg #[.int .i64 f.S, .int .i64 f.L, .int .i64 f.F, .int .i64 f.B, .int .i64 f.Y, .int .i64 f.V, .int .i64 f.C], .int .i64 t] w fun r w' => r = .returned (.tuple #[.agg #[.int .i64 a, .int .i64 b], .int .i64 0]) ∧ Below w.heap.size w w' := by
  have h := Vertical_c f t hb w hE
  rw [h0] at h
  exact h
theorem blank_as_c (f : Fmt) (t : Int) (b : Bool) (hc : checkT f t = 0) (h0 : (decide ((atF f t).S < f.B) || decide ((atF f t).L < f.V)) = b) (w : World) (hE : Ex w) : Calls Tryz.prog 28 #[.agg #[.int .i64 f.S, .int .i64 f.L, .int .i64 f.F, .int .i64 f.B, .int .i64 f.Y, .int .i64 f.V, .int .i64 f.C], .int .i64 t] w fun r w' => r = .returned (.tuple #[.bool b, .int .i64 0]) ∧ Below w.heap.size w w' := by
  have h := Blanked_c f t w hE
  have e : atE f t = atF f t := if_pos hc
  rw [e, hc, h0] at h
  exact h
theorem sync_as_c (f : Fmt) (t : Int) (b : Bool) (hc : checkT f t = 0) (h0 : decide ((atF f t).S < f.Y) = b) (w : World) (hE : Ex w) : Calls Tryz.prog 29 #[.agg #[.int .i64 f.S, .int .i64 f.L, .int .i64 f.F, .int .i64 f.B, .int .i64 f.Y, .int .i64 f.V, .int .i64 f.C], .int .i64 t] w fun r w' => r = .returned (.tuple #[.bool b, .int .i64 0]) ∧ Below w.heap.size w w' := by
  have h := InSync_c f t w hE
  have e : atE f t = atF f t := if_pos hc
  rw [e, hc, h0] at h
  exact h
theorem sig_as_c (f : Fmt) (t : Int) (hs : sigE f t 20 = 0) (hl : (sigL f t 20).length = 20) (w : World) (hE : Ex w) : Calls Tryz.prog 31 #[.agg #[.int .i64 f.S, .int .i64 f.L, .int .i64 f.F, .int .i64 f.B, .int .i64 f.Y, .int .i64 f.V, .int .i64 f.C], .int .i64 t, .int .i64 20] w fun r w' => ∃ v, r = .returned v ∧ Below w.heap.size w w' ∧ Sl2 w w' v 20 (sigL f t 20) (.int .i64 0) := by
  have h := Signal_c f t 20 (by omega) w hE
  rw [hs, hl] at h
  exact h
theorem ldv {xs : List Value} {m : Nat} {v : Value} (h : xs[m]? = some v) : ∀ (j : Nat) (u : Value), ([v] : List Value)[j]? = some u → xs[m + j]? = some u := by
  intro j u hu
  cases j with
  | succ j => simp at hu
  | zero =>
    simp only [List.getElem?_cons_zero, Option.some.injEq] at hu
    subst hu
    exact h
theorem wrL_put' {f : Fmt} (hv : Valid f) {k : Nat} {rr : Int} (hk : (k : Int) < f.L) (hr : linK f k * f.F + fldK f k = rr) : wrL f ((k + 1 : Nat) : Int) = (wrL f k).take (rr.toNat * 1) ++ ([Value.int .i64 1] ++ (wrL f k).drop (rr.toNat * 1 + 1)) := by
  have h := row_inv hv (k := k) ⟨by omega, hk⟩
  have := wrL_put hv (k := k) ⟨by omega, hk⟩ (m := rr.toNat * 1) (by omega)
  rw [show ((k + 1 : Nat) : Int) = (k : Int) + 1 by omega]
  exact this
theorem checkT_ok {f : Fmt} (hv : Valid f) {t : Int} (h : 0 ≤ t ∧ t ≤ 10000000) : checkT f t = 0 := (checkT_iff f t).2 ⟨hv, h⟩
theorem RowR_line {f : Fmt} (hv : Valid f) {R k : Int} (hk : 0 ≤ k ∧ k < f.L) (ht : 0 ≤ R * f.S * f.L + k * f.S ∧ R * f.S * f.L + k * f.S ≤ 10000000) : RowR f ⟨R, fldK f k, linK f k, 0⟩ = (linK f k * f.F + fldK f k, 0) := by
  have h := TickR_at hv ht
  rw [at_line hv hk] at h
  unfold RowR
  rw [if_neg (by simp [h])]
theorem sig20 {f : Fmt} (hv : Valid f) {t : Int} (ht : 0 ≤ t ∧ t ≤ 9997000) : sigE f t 20 = 0 ∧ (sigL f t 20).length = 20 ∧ ∀ i : Nat, i < 20 → (sigL f t 20)[i]? = some (lvl f (t + i)) := by
  have h0 : sigE f t 20 = 0 := by
    rw [← sigC_eq]
    have hc : firstL [wi t 0 10000000, wi 20 0 4096] = 0 := by
      rw [firstL_zero]
      simp only [List.mem_cons, List.mem_nil_iff, or_false, forall_eq_or_imp, forall_eq, wi_eq]
      omega
    have : sigC t 20 = 0 := by
      unfold sigC
      rw [if_neg (Classical.not_not.2 hc)]
      unfold wh
      rw [if_neg (by simp; omega)]
    rw [firstL_zero]
    simp only [List.mem_cons, List.mem_nil_iff, or_false, forall_eq_or_imp, forall_eq]
    exact ⟨(valid_iff f).2 hv, this⟩
  have e : sigL f t 20 = (List.range 20).map fun i : Nat => lvl f (t + i) := by rw [sigL, if_pos h0]; rfl
  refine ⟨h0, by rw [e]; simp, fun i hi => ?_⟩
  rw [e]
  simp [hi]

set_option maxHeartbeats 4000000 in
/-- genlocklaw04.TimingPositions -/
theorem lPositions_c (f : Fmt) (t : Int) (w : World) (hE : Ex w) (hP : Pw w) : Calls Tryz.prog 6 #[.agg #[.int .i64 f.S, .int .i64 f.L, .int .i64 f.F, .int .i64 f.B, .int .i64 f.Y, .int .i64 f.V, .int .i64 f.C], .int .i64 t] w fun r w' => r = .returned (.bool true) ∧ Below w.heap.size w w' := by
  refine calls_of (args := [.agg #[.int .i64 f.S, .int .i64 f.L, .int .i64 f.F, .int .i64 f.B, .int .i64 f.Y, .int .i64 f.V, .int .i64 f.C], .int .i64 t]) T_ok Tryz.func6 rfl Tryz.ntmps6 (Nat.le_of_ble_eq_true rfl) rfl ?_
  by_cases hin : checkF f = 0 ∧ f.S ≤ 40 ∧ f.L ≤ 30 ∧ wi t 0 9997000 = 0
  · obtain ⟨hF0, hS40, hL30, hw0⟩ := hin
    have hv := (valid_iff f).1 hF0
    have ht := (wi_eq _ _ _).1 hw0
    have hS := hv.S
    have hL := hv.L
    have hFF := hv.F
    obtain ⟨hVR, hVS, hSL2⟩ := vertR_ok hv hS40 hL30 ht
    have hTb := vertT_bd hv (t := t) (by omega)
    have hT0 : checkT f t = 0 := checkT_ok hv (by omega)
    have hnx := at_next hv (t := t) ht.1
    have hTk := TickR_at hv (t := t) (by omega)
    have hpR := atF_R f t
    have hpS := atF_S f t
    have hpb := atF_bd hv (t := t) ht.1
    have hoS := atF_S f (t + 1)
    have hv0 : vb0 f t = t / (f.S * f.L) * (f.S * f.L) := rfl
    have hvb := vert_facts hv (t := t) (by omega)
    have hbef := fun (n : Int) (h1 : 0 ≤ t ∧ t ≤ 10000000) (h2 : t ≤ n ∧ n < vertT f t) => before_vert hv h1 h2
    have havt := fun (n : Int) (h1 : 0 ≤ t ∧ t ≤ 10000000) (h2 : vertT f t ≤ n ∧ n < vertT f t + f.V * f.S) => at_vert hv h1 h2
    obtain ⟨hsE, hsl, hsx⟩ := sig20 hv ht
    rw [← hpR] at hv0
    have hm1 : (atF f t).R * f.S * f.L = (atF f t).R * (f.S * f.L) := Int.mul_assoc ..
    obtain ⟨T, hT⟩ : ∃ T, vertT f t = T := ⟨_, rfl⟩
    rw [hT] at hVR hTb hbef havt
    rcases hp : atF f t with ⟨pR, pF, pL, pS⟩
    rcases ho : atF f (t + 1) with ⟨oR, oF, oL, oS⟩
    rw [hp] at hnx hTk hpR hpS hpb hv0 hm1
    rw [ho] at hnx hoS
    dsimp only at hnx hTk hpR hpS hpb hv0 hm1 hoS
    have hpm0 := Int.mul_nonneg hpb.1.1 (show 0 ≤ f.S by omega)
    have hpm1 := Int.mul_le_mul (show pR ≤ 10000000 by omega) hS40 (by omega) (by omega)
    have hOx : ((oS != 0 && ([oR, oF, oL, oS] != [pR, pF, pL, pS + 1])) || (oS == 0 && (pS != f.S - 1))) = true → False := by
      intro h
      by_cases h0 : oS = 0
      · have := hnx.2 (by omega)
        simp [h0] at h
        omega
      · have := hnx.1 (by omega)
        simp only [Pos.mk.injEq] at this
        simp [h0, this] at h
        omega
    have hb0 : 0 ≤ pR * f.S * f.L ∧ pR * f.S * f.L ≤ t := by omega
    repeat' (first
 | (refine C_id ?_; first
 | refine C_seq ?_
 | refine C_region rfl ?_
 | refine C_block ?_
 | refine C_skip ?_
 | refine C_exit ?_
 | refine C_ret0 ?_
 | refine C_draw (id := 42) rfl mixed (by kernel_rfl) ?_
 | refine C_condT rfl obQ ?_
 | refine C_condF rfl obQ ?_
 | (refine C_cond rfl obQ (fun h => ?_) (fun h => ?_) <;> (try (exfalso; omega)) <;> (try (exfalso; simp at h; done)) <;> (try (exfalso; simp only [not_true_eq_false, false_or, or_false] at h; omega)) <;> (try (exfalso; exact hOx h)))
          )
 | (refine S_id ?_; first
 | ((with_reducible (first | refine S_falseN ?_ ?_ | refine S_falseB ?_ ?_ | refine S_falseL ?_ ?_ | refine S_falseD ?_ ?_ | refine S_falseE ?_ ?_)); · (first | exact decide_eq_false (by omega) | exact bne_self_eq_false _ | (rw [bne_eq_false_iff_eq]; first | rfl | omega | assumption) | (rw [beq_eq_false_iff_ne]; omega) | omega | assumption | rfl))
 | ((with_reducible refine S_falseO ?_ ?_ ?_); (· rfl); (· first | rfl | (first | exact decide_eq_false (by omega) | exact bne_self_eq_false _ | (rw [bne_eq_false_iff_eq]; first | rfl | omega | assumption) | (rw [beq_eq_false_iff_ne]; omega) | omega | assumption | rfl)))
 | ((with_reducible (first | refine S_trueE ?_ ?_ | refine S_trueB ?_ ?_ | refine S_trueL ?_ ?_ | refine S_trueD ?_ ?_ | refine S_trueN ?_ ?_)); · (first | exact decide_eq_true (by omega) | exact beq_self_eq_true _ | (rw [beq_iff_eq]; first | rfl | omega | assumption) | (rw [bne_iff_ne]; omega) | omega | assumption))
 | ((with_reducible refine S_trueA ?_ ?_ ?_); (· rfl); (· first | rfl | (first | exact decide_eq_true (by omega) | exact beq_self_eq_true _ | (rw [beq_iff_eq]; first | rfl | omega | assumption) | (rw [bne_iff_ne]; omega) | omega | assumption)))
 | refine S_unG rfl rfl rfl rfl ?_
 | ((with_reducible refine S_falseA ?_ ?_); · first | rfl | assumption)
 | refine S_pure (binX_pure rfl obQ (fun w => ne_bool _ _ _ _ w)) ?_
 | refine S_binG rfl rfl (fun hg => obQ) (fun hg w => ne_flat (k := .i64) (n := 4) (xs := [oR, oF, oL, oS]) (ys := [pR, pF, pL, pS + 1]) (by kernel_rfl) rfl rfl _ _ w) ?_
 | refine S_make f.L.toNat rfl obQ rfl rfl rfl rfl rfl (by unfold maxLen; dsimp only; omega) (fun g => ?_)
 | refine S_nil ?_
 | refine S_runN rfl rfl obQ obQ ?_
 | refine S_box (fun b => ⟨_, _, rfl, obQ, ?_⟩)
 | refine S_call (f := 27) rfl obQ (by kernel_rfl) (fun w hw => awake_c w (hw.rdm hE.toS memQ) (Pw_at hP hw memQ)) ?_
 | refine S_call (f := 18) rfl obQ (by kernel_rfl) (fun w hw => rCheckFormat_c f w) ?_
 | refine S_call (f := 43) rfl obQ (by kernel_rfl) (fun w hw => rRange_c _ _ _ w) ?_
 | refine S_call (f := 14) rfl obQ (by kernel_rfl) (fun w hw => atk_c f t pR pF pL pS hT0 hp w (hw.rdm hE.toS memQ)) ?_
 | refine S_call (f := 14) rfl obQ (by kernel_rfl) (fun w hw => atk_c f (t + 1) oR oF oL oS (checkT_ok hv (by omega)) ho w (hw.rdm hE.toS memQ)) ?_
 | refine S_call (f := 15) rfl obQ (by kernel_rfl) (fun w hw => tick_as_c f t pR pF pL pS hTk w (hw.rdm hE.toS memQ)) ?_
          )
 | (refine D_id ?_; first
 | refine D_nil ?_
 | refine D_tail ?_
 | refine D_run rfl rfl obQ obQ ?_
 | refine D_call (f := 27) rfl obQ (by kernel_rfl) (fun w hw => awake_c w (hw.rdm hE.toS memQ) (Pw_at hP hw memQ)) ?_
 | refine D_call (f := 18) rfl obQ (by kernel_rfl) (fun w hw => rCheckFormat_c f w) ?_
 | refine D_call (f := 43) rfl obQ (by kernel_rfl) (fun w hw => rRange_c _ _ _ w) ?_
 | refine D_call (f := 14) rfl obQ (by kernel_rfl) (fun w hw => atk_c f t pR pF pL pS hT0 hp w (hw.rdm hE.toS memQ)) ?_
 | refine D_call (f := 14) rfl obQ (by kernel_rfl) (fun w hw => atk_c f (t + 1) oR oF oL oS (checkT_ok hv (by omega)) ho w (hw.rdm hE.toS memQ)) ?_
 | refine D_call (f := 15) rfl obQ (by kernel_rfl) (fun w hw => tick_as_c f t pR pF pL pS hTk w (hw.rdm hE.toS memQ)) ?_
          )
 | (refine G_id ?_; first
 | refine G_then ?_
 | refine G_block ?_
 | refine G_blockX ?_
 | refine G_blockN rfl ?_
 | refine G_blockR ?_
 | refine G_thenR ?_
 | refine G_thenX ?_
 | refine G_ret rfl obQ (fun w2 hw => ⟨?_, hw.below⟩)
          )
        )
    rename_i b2 b5 b6
    refine C_loopS (fun k : Nat => ⟨[(136, .s (.v (.int .i64 k))), (135, .s (.v (.int .i64 f.L))), (13, .s (.v (.int .i64 (pR * f.S * f.L)))), (12, .s (.r (some ⟨g, 0, none⟩) f.L.toNat f.L.toNat 0)), (5, .s (.p b5 1 0)), (6, .s (.p b6 2 0)), (2, .s (.p b2 0 0)), (1, .s (.v (.int .i64 t)))], [⟨b2, 23, [.v (.int .i64 f.S), .v (.int .i64 f.L), .v (.int .i64 f.F), .v (.int .i64 f.B), .v (.int .i64 f.Y), .v (.int .i64 f.V), .v (.int .i64 f.C)]⟩, ⟨b5, 26, [.v (.int .i64 f.S), .v (.int .i64 f.L), .v (.int .i64 f.F), .v (.int .i64 f.B), .v (.int .i64 f.Y), .v (.int .i64 f.V), .v (.int .i64 f.C)]⟩, ⟨b6, 27, [.v (.int .i64 pR), .v (.int .i64 pF), .v (.int .i64 pL), .v (.int .i64 pS)]⟩], [⟨3, 1, f.L.toNat, wrL f k, .slice (some ⟨g, 0, none⟩) f.L.toNat f.L.toNat⟩]⟩) (fun k => (k : Int) ≤ f.L) (fun k => f.L.toNat - k) 0 (by show ((0 : Nat) : Int) ≤ f.L; omega) ?_ (fun k hk => ?_)
    · exact ⟨⟨_, rfl, obQ⟩, ⟨_, rfl⟩, (congrArg (fun x => [(⟨3, 1, f.L.toNat, x, .slice (some ⟨g, 0, none⟩) f.L.toNat f.L.toNat⟩ : Rw)]) (wrL_zero hv).symm), pstQ⟩
    have hk' : (k : Int) ≤ f.L := hk
    dsimp only
    by_cases hlt : (k : Int) < f.L
    · have hks0 := Int.mul_nonneg (show (0 : Int) ≤ k by omega) (show 0 ≤ f.S by omega)
      have hks1 := Int.mul_le_mul (show (k : Int) ≤ 30 by omega) hS40 (by omega) (by omega)
      have hal := at_line hv (R := pR) (k := k) ⟨by omega, hlt⟩
      have hrl := RowR_line hv (R := pR) (k := k) ⟨by omega, hlt⟩ (by omega)
      have hri := (row_inv hv (k := k) ⟨by omega, hlt⟩).1
      have hpt := fun rr hr => wrL_put' hv (k := k) (rr := rr) hlt hr
      have hra := fun m hm => wrL_at hv (k := k) ⟨by omega, hlt⟩ (m := m) hm
      obtain ⟨rr, hrr⟩ : ∃ rr, linK f k * f.F + fldK f k = rr := ⟨_, rfl⟩
      rw [hrr] at hrl hri hra
      have hpt := hpt rr hrr
      obtain ⟨fd, hfd⟩ : ∃ z, fldK f k = z := ⟨_, rfl⟩
      obtain ⟨ln, hln⟩ : ∃ z, linK f k = z := ⟨_, rfl⟩
      rw [hfd, hln] at hal hrl
      clear hrr hfd hln
      repeat' (first
 | (refine C_id ?_; first
 | refine C_seq ?_
 | refine C_region rfl ?_
 | refine C_block ?_
 | refine C_skip ?_
 | refine C_exit ?_
 | refine C_ret0 ?_
 | refine C_draw (id := 42) rfl mixed (by kernel_rfl) ?_
 | refine C_condT rfl obQ ?_
 | refine C_condF rfl obQ ?_
 | (refine C_cond rfl obQ (fun h => ?_) (fun h => ?_) <;> (try simp only [Bool.or_eq_true, Bool.and_eq_true, Bool.or_eq_false_iff, Bool.and_eq_false_iff, decide_eq_true_eq, decide_eq_false_iff_not, beq_iff_eq, bne_iff_ne, beq_eq_false_iff_ne, bne_eq_false_iff_eq, ne_eq, Decidable.not_not, List.cons.injEq, and_true, Bool.not_eq_true', Bool.not_eq_false', Int.not_lt, Int.not_le] at h))
            )
 | (refine S_id ?_; first
 | ((with_reducible (first | refine S_falseN ?_ ?_ | refine S_falseB ?_ ?_ | refine S_falseL ?_ ?_ | refine S_falseD ?_ ?_ | refine S_falseE ?_ ?_)); · (first | exact decide_eq_false (by omega) | exact bne_self_eq_false _ | (rw [bne_eq_false_iff_eq]; first | rfl | omega | assumption) | (rw [beq_eq_false_iff_ne]; omega) | omega | assumption | rfl))
 | ((with_reducible refine S_falseO ?_ ?_ ?_); (· rfl); (· first | rfl | (first | exact decide_eq_false (by omega) | exact bne_self_eq_false _ | (rw [bne_eq_false_iff_eq]; first | rfl | omega | assumption) | (rw [beq_eq_false_iff_ne]; omega) | omega | assumption | rfl)))
 | ((with_reducible (first | refine S_trueE ?_ ?_ | refine S_trueB ?_ ?_ | refine S_trueL ?_ ?_ | refine S_trueD ?_ ?_ | refine S_trueN ?_ ?_)); · (first | exact decide_eq_true (by omega) | exact beq_self_eq_true _ | (rw [beq_iff_eq]; first | rfl | omega | assumption) | (rw [bne_iff_ne]; omega) | omega | assumption))
 | ((with_reducible refine S_trueA ?_ ?_ ?_); (· rfl); (· first | rfl | (first | exact decide_eq_true (by omega) | exact beq_self_eq_true _ | (rw [beq_iff_eq]; first | rfl | omega | assumption) | (rw [bne_iff_ne]; omega) | omega | assumption)))
 | refine S_unG rfl rfl rfl rfl ?_
 | ((with_reducible refine S_falseA ?_ ?_); · first | rfl | assumption)
 | refine S_pure (binX_pure rfl obQ (fun w => ne_bool _ _ _ _ w)) ?_
 | refine S_load rfl obQ rfl [.int .i64 0] (.row 0 _ rfl g f.L.toNat f.L.toNat (rr.toNat * 1) rfl rfl (ldv (hra (rr.toNat * 1) (by omega)))) rfl (.inr ⟨rfl, rfl⟩) ?_
 | refine S_storeRow rfl obQ rfl rfl rfl 0 rfl rfl (rr.toNat * 1) rfl (by dsimp only; rw [wrL_len]; omega) (xs' := wrL f ((k + 1 : Nat) : Int)) hpt rfl ?_
 | refine S_nil ?_
 | refine S_runN rfl rfl obQ obQ ?_
 | refine S_box (fun b => ⟨_, _, rfl, obQ, ?_⟩)
 | refine S_call (f := 27) rfl obQ (by kernel_rfl) (fun w hw => awake_c w (hw.rdm hE.toS memQ) (Pw_at hP hw memQ)) ?_
 | refine S_call (f := 18) rfl obQ (by kernel_rfl) (fun w hw => rCheckFormat_c f w) ?_
 | refine S_call (f := 43) rfl obQ (by kernel_rfl) (fun w hw => rRange_c _ _ _ w) ?_
 | refine S_call (f := 14) rfl obQ (by kernel_rfl) (fun w hw => atk_c f (pR * f.S * f.L + k * f.S) pR fd ln 0 (checkT_ok hv (by omega)) hal w (hw.rdm hE.toS memQ)) ?_
 | refine S_call (f := 16) rfl obQ (by kernel_rfl) (fun w hw => row_as_c f rr pR fd ln 0 hrl w (hw.rdm hE.toS memQ)) ?_
            )
 | (refine D_id ?_; first
 | refine D_nil ?_
 | refine D_tail ?_
 | refine D_run rfl rfl obQ obQ ?_
 | refine D_call (f := 27) rfl obQ (by kernel_rfl) (fun w hw => awake_c w (hw.rdm hE.toS memQ) (Pw_at hP hw memQ)) ?_
 | refine D_call (f := 18) rfl obQ (by kernel_rfl) (fun w hw => rCheckFormat_c f w) ?_
 | refine D_call (f := 43) rfl obQ (by kernel_rfl) (fun w hw => rRange_c _ _ _ w) ?_
 | refine D_call (f := 14) rfl obQ (by kernel_rfl) (fun w hw => atk_c f (pR * f.S * f.L + k * f.S) pR fd ln 0 (checkT_ok hv (by omega)) hal w (hw.rdm hE.toS memQ)) ?_
 | refine D_call (f := 16) rfl obQ (by kernel_rfl) (fun w hw => row_as_c f rr pR fd ln 0 hrl w (hw.rdm hE.toS memQ)) ?_
            )
 | (refine G_id ?_; first
 | refine G_loop (k + 1) (by show ((k + 1 : Nat) : Int) ≤ f.L; omega) (by show f.L.toNat - (k + 1) < f.L.toNat - k; omega) ⟨⟨_, rfl, obQ⟩, ⟨_, rfl⟩, rfl, pstQ⟩
 | refine G_then ?_
 | refine G_block ?_
 | refine G_blockX ?_
 | refine G_blockN rfl ?_
 | refine G_blockR ?_
 | refine G_thenR ?_
 | refine G_thenX ?_
            )
          )
    · have hkL : (k : Int) = f.L := by omega
      repeat' (first
 | (refine C_id ?_; first
 | refine C_seq ?_
 | refine C_region rfl ?_
 | refine C_block ?_
 | refine C_skip ?_
 | refine C_exit ?_
 | refine C_ret0 ?_
 | refine C_draw (id := 42) rfl mixed (by kernel_rfl) ?_
 | refine C_condT rfl obQ ?_
 | refine C_condF rfl obQ ?_
 | (refine C_cond rfl obQ (fun h => ?_) (fun h => ?_) <;> (try simp only [Bool.or_eq_true, Bool.and_eq_true, Bool.or_eq_false_iff, Bool.and_eq_false_iff, decide_eq_true_eq, decide_eq_false_iff_not, beq_iff_eq, bne_iff_ne, beq_eq_false_iff_ne, bne_eq_false_iff_eq, ne_eq, Decidable.not_not, List.cons.injEq, and_true, Bool.not_eq_true', Bool.not_eq_false', Int.not_lt, Int.not_le] at h))
            )
 | (refine S_id ?_; first
 | ((with_reducible (first | refine S_falseN ?_ ?_ | refine S_falseB ?_ ?_ | refine S_falseL ?_ ?_ | refine S_falseD ?_ ?_ | refine S_falseE ?_ ?_)); · (first | exact decide_eq_false (by omega) | exact bne_self_eq_false _ | (rw [bne_eq_false_iff_eq]; first | rfl | omega | assumption) | (rw [beq_eq_false_iff_ne]; omega) | omega | assumption | rfl))
 | ((with_reducible refine S_falseO ?_ ?_ ?_); (· rfl); (· first | rfl | (first | exact decide_eq_false (by omega) | exact bne_self_eq_false _ | (rw [bne_eq_false_iff_eq]; first | rfl | omega | assumption) | (rw [beq_eq_false_iff_ne]; omega) | omega | assumption | rfl)))
 | ((with_reducible (first | refine S_trueE ?_ ?_ | refine S_trueB ?_ ?_ | refine S_trueL ?_ ?_ | refine S_trueD ?_ ?_ | refine S_trueN ?_ ?_)); · (first | exact decide_eq_true (by omega) | exact beq_self_eq_true _ | (rw [beq_iff_eq]; first | rfl | omega | assumption) | (rw [bne_iff_ne]; omega) | omega | assumption))
 | ((with_reducible refine S_trueA ?_ ?_ ?_); (· rfl); (· first | rfl | (first | exact decide_eq_true (by omega) | exact beq_self_eq_true _ | (rw [beq_iff_eq]; first | rfl | omega | assumption) | (rw [bne_iff_ne]; omega) | omega | assumption)))
 | refine S_unG rfl rfl rfl rfl ?_
 | ((with_reducible refine S_falseA ?_ ?_); · first | rfl | assumption)
 | refine S_pure (binX_pure rfl obQ (fun w => ne_bool _ _ _ _ w)) ?_
 | refine S_nil ?_
 | refine S_runN rfl rfl obQ obQ ?_
 | refine S_box (fun b => ⟨_, _, rfl, obQ, ?_⟩)
 | refine S_call (f := 27) rfl obQ (by kernel_rfl) (fun w hw => awake_c w (hw.rdm hE.toS memQ) (Pw_at hP hw memQ)) ?_
 | refine S_call (f := 18) rfl obQ (by kernel_rfl) (fun w hw => rCheckFormat_c f w) ?_
 | refine S_call (f := 43) rfl obQ (by kernel_rfl) (fun w hw => rRange_c _ _ _ w) ?_
            )
 | (refine D_id ?_; first
 | refine D_nil ?_
 | refine D_tail ?_
 | refine D_run rfl rfl obQ obQ ?_
 | refine D_call (f := 27) rfl obQ (by kernel_rfl) (fun w hw => awake_c w (hw.rdm hE.toS memQ) (Pw_at hP hw memQ)) ?_
 | refine D_call (f := 18) rfl obQ (by kernel_rfl) (fun w hw => rCheckFormat_c f w) ?_
 | refine D_call (f := 43) rfl obQ (by kernel_rfl) (fun w hw => rRange_c _ _ _ w) ?_
            )
 | (refine G_id ?_; first
 | refine G_then ?_
 | refine G_block ?_
 | refine G_blockX ?_
 | refine G_blockN rfl ?_
 | refine G_blockR ?_
 | refine G_thenR ?_
 | refine G_thenX ?_
 | refine G_ret rfl obQ (fun w2 hw => ⟨?_, hw.below⟩)
            )
          )
      refine C_loopS (fun i : Nat => ⟨[(193, .s (.v (.int .i64 i))), (191, .s (.r (some ⟨g, 0, none⟩) f.L.toNat f.L.toNat 0)), (192, .s (.v (.int .i64 f.L.toNat))), (5, .s (.p b5 1 0)), (6, .s (.p b6 2 0)), (2, .s (.p b2 0 0)), (1, .s (.v (.int .i64 t)))], [⟨b2, 23, [.v (.int .i64 f.S), .v (.int .i64 f.L), .v (.int .i64 f.F), .v (.int .i64 f.B), .v (.int .i64 f.Y), .v (.int .i64 f.V), .v (.int .i64 f.C)]⟩, ⟨b5, 26, [.v (.int .i64 f.S), .v (.int .i64 f.L), .v (.int .i64 f.F), .v (.int .i64 f.B), .v (.int .i64 f.Y), .v (.int .i64 f.V), .v (.int .i64 f.C)]⟩, ⟨b6, 27, [.v (.int .i64 pR), .v (.int .i64 pF), .v (.int .i64 pL), .v (.int .i64 pS)]⟩], [⟨3, 1, f.L.toNat, wrL f f.L, .slice (some ⟨g, 0, none⟩) f.L.toNat f.L.toNat⟩]⟩) (fun i => i ≤ f.L.toNat) (fun i => f.L.toNat - i) 0 (Nat.zero_le _) ?_ (fun i hi => ?_)
      · exact ⟨⟨_, rfl, obQ⟩, ⟨_, rfl⟩, (by rw [hkL]), pstQ⟩
      have hi' : i ≤ f.L.toNat := hi
      dsimp only
      by_cases hlt2 : i < f.L.toNat
      · have hf1 := wrL_full hv hlt2
        repeat' (first
 | (refine C_id ?_; first
 | refine C_seq ?_
 | refine C_region rfl ?_
 | refine C_block ?_
 | refine C_skip ?_
 | refine C_exit ?_
 | refine C_ret0 ?_
 | refine C_draw (id := 42) rfl mixed (by kernel_rfl) ?_
 | refine C_condT rfl obQ ?_
 | refine C_condF rfl obQ ?_
 | (refine C_cond rfl obQ (fun h => ?_) (fun h => ?_) <;> (try simp only [Bool.or_eq_true, Bool.and_eq_true, Bool.or_eq_false_iff, Bool.and_eq_false_iff, decide_eq_true_eq, decide_eq_false_iff_not, beq_iff_eq, bne_iff_ne, beq_eq_false_iff_ne, bne_eq_false_iff_eq, ne_eq, Decidable.not_not, List.cons.injEq, and_true, Bool.not_eq_true', Bool.not_eq_false', Int.not_lt, Int.not_le] at h))
              )
 | (refine S_id ?_; first
 | ((with_reducible (first | refine S_falseN ?_ ?_ | refine S_falseB ?_ ?_ | refine S_falseL ?_ ?_ | refine S_falseD ?_ ?_ | refine S_falseE ?_ ?_)); · (first | exact decide_eq_false (by omega) | exact bne_self_eq_false _ | (rw [bne_eq_false_iff_eq]; first | rfl | omega | assumption) | (rw [beq_eq_false_iff_ne]; omega) | omega | assumption | rfl))
 | ((with_reducible refine S_falseO ?_ ?_ ?_); (· rfl); (· first | rfl | (first | exact decide_eq_false (by omega) | exact bne_self_eq_false _ | (rw [bne_eq_false_iff_eq]; first | rfl | omega | assumption) | (rw [beq_eq_false_iff_ne]; omega) | omega | assumption | rfl)))
 | ((with_reducible (first | refine S_trueE ?_ ?_ | refine S_trueB ?_ ?_ | refine S_trueL ?_ ?_ | refine S_trueD ?_ ?_ | refine S_trueN ?_ ?_)); · (first | exact decide_eq_true (by omega) | exact beq_self_eq_true _ | (rw [beq_iff_eq]; first | rfl | omega | assumption) | (rw [bne_iff_ne]; omega) | omega | assumption))
 | ((with_reducible refine S_trueA ?_ ?_ ?_); (· rfl); (· first | rfl | (first | exact decide_eq_true (by omega) | exact beq_self_eq_true _ | (rw [beq_iff_eq]; first | rfl | omega | assumption) | (rw [bne_iff_ne]; omega) | omega | assumption)))
 | refine S_unG rfl rfl rfl rfl ?_
 | ((with_reducible refine S_falseA ?_ ?_); · first | rfl | assumption)
 | refine S_pure (binX_pure rfl obQ (fun w => ne_bool _ _ _ _ w)) ?_
 | refine S_load rfl obQ rfl [.int .i64 1] (.row 0 _ rfl g f.L.toNat f.L.toNat (((i : Nat) : Int).toNat * 1) rfl rfl (ldv (by rw [show ((i : Nat) : Int).toNat * 1 = i by omega]; exact hf1))) rfl (.inr ⟨rfl, rfl⟩) ?_
 | refine S_nil ?_
 | refine S_runN rfl rfl obQ obQ ?_
 | refine S_box (fun b => ⟨_, _, rfl, obQ, ?_⟩)
 | refine S_call (f := 27) rfl obQ (by kernel_rfl) (fun w hw => awake_c w (hw.rdm hE.toS memQ) (Pw_at hP hw memQ)) ?_
 | refine S_call (f := 18) rfl obQ (by kernel_rfl) (fun w hw => rCheckFormat_c f w) ?_
 | refine S_call (f := 43) rfl obQ (by kernel_rfl) (fun w hw => rRange_c _ _ _ w) ?_
              )
 | (refine D_id ?_; first
 | refine D_load rfl obQ rfl [.int .i64 1] (.row 0 _ rfl g f.L.toNat f.L.toNat (((i : Nat) : Int).toNat * 1) rfl rfl (ldv (by rw [show ((i : Nat) : Int).toNat * 1 = i by omega]; exact hf1))) rfl (.inr ⟨rfl, rfl⟩) ?_
 | refine D_nil ?_
 | refine D_tail ?_
 | refine D_run rfl rfl obQ obQ ?_
 | refine D_call (f := 27) rfl obQ (by kernel_rfl) (fun w hw => awake_c w (hw.rdm hE.toS memQ) (Pw_at hP hw memQ)) ?_
 | refine D_call (f := 18) rfl obQ (by kernel_rfl) (fun w hw => rCheckFormat_c f w) ?_
 | refine D_call (f := 43) rfl obQ (by kernel_rfl) (fun w hw => rRange_c _ _ _ w) ?_
              )
 | (refine G_id ?_; first
 | refine G_loop (i + 1) (by show i + 1 ≤ f.L.toNat; omega) (by show f.L.toNat - (i + 1) < f.L.toNat - i; omega) ⟨⟨_, rfl, obQ⟩, ⟨_, rfl⟩, rfl, pstQ⟩
 | refine G_then ?_
 | refine G_block ?_
 | refine G_blockX ?_
 | refine G_blockN rfl ?_
 | refine G_blockR ?_
 | refine G_thenR ?_
 | refine G_thenX ?_
              )
            )
      · repeat' (first
 | (refine C_id ?_; first
 | refine C_seq ?_
 | refine C_region rfl ?_
 | refine C_block ?_
 | refine C_skip ?_
 | refine C_exit ?_
 | refine C_ret0 ?_
 | refine C_draw (id := 42) rfl mixed (by kernel_rfl) ?_
 | refine C_condT rfl obQ ?_
 | refine C_condF rfl obQ ?_
 | (refine C_cond rfl obQ (fun h => ?_) (fun h => ?_) <;> (try simp only [Bool.or_eq_true, Bool.and_eq_true, Bool.or_eq_false_iff, Bool.and_eq_false_iff, decide_eq_true_eq, decide_eq_false_iff_not, beq_iff_eq, bne_iff_ne, beq_eq_false_iff_ne, bne_eq_false_iff_eq, ne_eq, Decidable.not_not, List.cons.injEq, and_true, Bool.not_eq_true', Bool.not_eq_false', Int.not_lt, Int.not_le] at h))
              )
 | (refine S_id ?_; first
 | ((with_reducible (first | refine S_falseN ?_ ?_ | refine S_falseB ?_ ?_ | refine S_falseL ?_ ?_ | refine S_falseD ?_ ?_ | refine S_falseE ?_ ?_)); · (first | exact decide_eq_false (by omega) | exact bne_self_eq_false _ | (rw [bne_eq_false_iff_eq]; first | rfl | omega | assumption) | (rw [beq_eq_false_iff_ne]; omega) | omega | assumption | rfl))
 | ((with_reducible refine S_falseO ?_ ?_ ?_); (· rfl); (· first | rfl | (first | exact decide_eq_false (by omega) | exact bne_self_eq_false _ | (rw [bne_eq_false_iff_eq]; first | rfl | omega | assumption) | (rw [beq_eq_false_iff_ne]; omega) | omega | assumption | rfl)))
 | ((with_reducible (first | refine S_trueE ?_ ?_ | refine S_trueB ?_ ?_ | refine S_trueL ?_ ?_ | refine S_trueD ?_ ?_ | refine S_trueN ?_ ?_)); · (first | exact decide_eq_true (by omega) | exact beq_self_eq_true _ | (rw [beq_iff_eq]; first | rfl | omega | assumption) | (rw [bne_iff_ne]; omega) | omega | assumption))
 | ((with_reducible refine S_trueA ?_ ?_ ?_); (· rfl); (· first | rfl | (first | exact decide_eq_true (by omega) | exact beq_self_eq_true _ | (rw [beq_iff_eq]; first | rfl | omega | assumption) | (rw [bne_iff_ne]; omega) | omega | assumption)))
 | refine S_unG rfl rfl rfl rfl ?_
 | ((with_reducible refine S_falseA ?_ ?_); · first | rfl | assumption)
 | refine S_pure (binX_pure rfl obQ (fun w => ne_bool _ _ _ _ w)) ?_
 | refine S_nil ?_
 | refine S_runN rfl rfl obQ obQ ?_
 | refine S_box (fun b21 => ⟨_, _, rfl, obQ, ?_⟩)
 | refine S_call (f := 27) rfl obQ (by kernel_rfl) (fun w hw => awake_c w (hw.rdm hE.toS memQ) (Pw_at hP hw memQ)) ?_
 | refine S_call (f := 18) rfl obQ (by kernel_rfl) (fun w hw => rCheckFormat_c f w) ?_
 | refine S_call (f := 43) rfl obQ (by kernel_rfl) (fun w hw => rRange_c _ _ _ w) ?_
 | refine S_call (f := 30) rfl obQ (by kernel_rfl) (fun w hw => vert_as_c f t T (T + f.V * f.S) (by omega) hVR w (hw.rdm hE.toS memQ)) ?_
              )
 | (refine D_id ?_; first
 | refine D_nil ?_
 | refine D_tail ?_
 | refine D_run rfl rfl obQ obQ ?_
 | refine D_call (f := 27) rfl obQ (by kernel_rfl) (fun w hw => awake_c w (hw.rdm hE.toS memQ) (Pw_at hP hw memQ)) ?_
 | refine D_call (f := 18) rfl obQ (by kernel_rfl) (fun w hw => rCheckFormat_c f w) ?_
 | refine D_call (f := 43) rfl obQ (by kernel_rfl) (fun w hw => rRange_c _ _ _ w) ?_
 | refine D_call (f := 30) rfl obQ (by kernel_rfl) (fun w hw => vert_as_c f t T (T + f.V * f.S) (by omega) hVR w (hw.rdm hE.toS memQ)) ?_
              )
 | (refine G_id ?_; first
 | refine G_then ?_
 | refine G_block ?_
 | refine G_blockX ?_
 | refine G_blockN rfl ?_
 | refine G_blockR ?_
 | refine G_thenR ?_
 | refine G_thenX ?_
 | refine G_ret rfl obQ (fun w2 hw => ⟨?_, hw.below⟩)
              )
            )
        refine C_loopS (fun j : Nat => ⟨[(23, .s (.v (.int .i64 (t + j)))), (21, .s (.p b21 3 0)), (5, .s (.p b5 1 0)), (6, .s (.p b6 2 0)), (2, .s (.p b2 0 0)), (1, .s (.v (.int .i64 t)))], [⟨b2, 23, [.v (.int .i64 f.S), .v (.int .i64 f.L), .v (.int .i64 f.F), .v (.int .i64 f.B), .v (.int .i64 f.Y), .v (.int .i64 f.V), .v (.int .i64 f.C)]⟩, ⟨b5, 26, [.v (.int .i64 f.S), .v (.int .i64 f.L), .v (.int .i64 f.F), .v (.int .i64 f.B), .v (.int .i64 f.Y), .v (.int .i64 f.V), .v (.int .i64 f.C)]⟩, ⟨b6, 27, [.v (.int .i64 pR), .v (.int .i64 pF), .v (.int .i64 pL), .v (.int .i64 pS)]⟩, ⟨b21, 46, [.v (.int .i64 T), .v (.int .i64 (T + f.V * f.S))]⟩], [⟨3, 1, f.L.toNat, wrL f f.L, .slice (some ⟨g, 0, none⟩) f.L.toNat f.L.toNat⟩]⟩) (fun j => t + j ≤ T) (fun j => (T - (t + j)).toNat) 0 (by show t + ((0 : Nat) : Int) ≤ T; omega) ?_ (fun j hj => ?_)
        · exact ⟨⟨_, rfl, (by (repeat' (first | exact trivial | apply And.intro | rfl | omega | (congr 3; omega))); first | done | fail)⟩, ⟨_, rfl⟩, rfl, pstQ⟩
        have hj' : t + (j : Int) ≤ T := hj
        dsimp only
        by_cases hlt3 : t + (j : Int) < T
        · have hbv := hbef (t + j) (by omega) (by omega)
          rcases hq : atF f (t + j) with ⟨qR, qF, qL, qS⟩
          rw [hq] at hbv
          dsimp only at hbv
          by_cases hq0 : qL = 0
          · have hq1 : ¬ qS = 0 := fun h => hbv ⟨hq0, h⟩
            repeat' (first
 | (refine C_id ?_; first
 | refine C_seq ?_
 | refine C_region rfl ?_
 | refine C_block ?_
 | refine C_skip ?_
 | refine C_exit ?_
 | refine C_ret0 ?_
 | refine C_draw (id := 42) rfl mixed (by kernel_rfl) ?_
 | refine C_condT rfl obQ ?_
 | refine C_condF rfl obQ ?_
 | (refine C_cond rfl obQ (fun h => ?_) (fun h => ?_) <;> (try simp only [Bool.or_eq_true, Bool.and_eq_true, Bool.or_eq_false_iff, Bool.and_eq_false_iff, decide_eq_true_eq, decide_eq_false_iff_not, beq_iff_eq, bne_iff_ne, beq_eq_false_iff_ne, bne_eq_false_iff_eq, ne_eq, Decidable.not_not, List.cons.injEq, and_true, Bool.not_eq_true', Bool.not_eq_false', Int.not_lt, Int.not_le] at h))
                  )
 | (refine S_id ?_; first
 | ((with_reducible (first | refine S_falseN ?_ ?_ | refine S_falseB ?_ ?_ | refine S_falseL ?_ ?_ | refine S_falseD ?_ ?_ | refine S_falseE ?_ ?_)); · (first | exact decide_eq_false (by omega) | exact bne_self_eq_false _ | (rw [bne_eq_false_iff_eq]; first | rfl | omega | assumption) | (rw [beq_eq_false_iff_ne]; omega) | omega | assumption | rfl))
 | ((with_reducible refine S_falseO ?_ ?_ ?_); (· rfl); (· first | rfl | (first | exact decide_eq_false (by omega) | exact bne_self_eq_false _ | (rw [bne_eq_false_iff_eq]; first | rfl | omega | assumption) | (rw [beq_eq_false_iff_ne]; omega) | omega | assumption | rfl)))
 | ((with_reducible (first | refine S_trueE ?_ ?_ | refine S_trueB ?_ ?_ | refine S_trueL ?_ ?_ | refine S_trueD ?_ ?_ | refine S_trueN ?_ ?_)); · (first | exact decide_eq_true (by omega) | exact beq_self_eq_true _ | (rw [beq_iff_eq]; first | rfl | omega | assumption) | (rw [bne_iff_ne]; omega) | omega | assumption))
 | ((with_reducible refine S_trueA ?_ ?_ ?_); (· rfl); (· first | rfl | (first | exact decide_eq_true (by omega) | exact beq_self_eq_true _ | (rw [beq_iff_eq]; first | rfl | omega | assumption) | (rw [bne_iff_ne]; omega) | omega | assumption)))
 | refine S_unG rfl rfl rfl rfl ?_
 | ((with_reducible refine S_falseA ?_ ?_); · first | rfl | assumption)
 | refine S_pure (binX_pure rfl obQ (fun w => ne_bool _ _ _ _ w)) ?_
 | refine S_nil ?_
 | refine S_runN rfl rfl obQ obQ ?_
 | refine S_box (fun b => ⟨_, _, rfl, obQ, ?_⟩)
 | refine S_call (f := 27) rfl obQ (by kernel_rfl) (fun w hw => awake_c w (hw.rdm hE.toS memQ) (Pw_at hP hw memQ)) ?_
 | refine S_call (f := 18) rfl obQ (by kernel_rfl) (fun w hw => rCheckFormat_c f w) ?_
 | refine S_call (f := 43) rfl obQ (by kernel_rfl) (fun w hw => rRange_c _ _ _ w) ?_
 | refine S_call (f := 14) rfl obQ (by kernel_rfl) (fun w hw => atk_c f (t + j) qR qF qL qS (checkT_ok hv (by omega)) hq w (hw.rdm hE.toS memQ)) ?_
                  )
 | (refine D_id ?_; first
 | refine D_nil ?_
 | refine D_tail ?_
 | refine D_run rfl rfl obQ obQ ?_
 | refine D_call (f := 27) rfl obQ (by kernel_rfl) (fun w hw => awake_c w (hw.rdm hE.toS memQ) (Pw_at hP hw memQ)) ?_
 | refine D_call (f := 18) rfl obQ (by kernel_rfl) (fun w hw => rCheckFormat_c f w) ?_
 | refine D_call (f := 43) rfl obQ (by kernel_rfl) (fun w hw => rRange_c _ _ _ w) ?_
 | refine D_call (f := 14) rfl obQ (by kernel_rfl) (fun w hw => atk_c f (t + j) qR qF qL qS (checkT_ok hv (by omega)) hq w (hw.rdm hE.toS memQ)) ?_
                  )
 | (refine G_id ?_; first
 | refine G_loop (j + 1) (by show t + ((j + 1 : Nat) : Int) ≤ T; omega) (by show (T - (t + ((j + 1 : Nat) : Int))).toNat < (T - (t + (j : Int))).toNat; omega) ⟨⟨_, rfl, (by (repeat' (first | exact trivial | apply And.intro | rfl | omega | (congr 3; omega))); first | done | fail)⟩, ⟨_, rfl⟩, rfl, pstQ⟩
 | refine G_then ?_
 | refine G_block ?_
 | refine G_blockX ?_
 | refine G_blockN rfl ?_
 | refine G_blockR ?_
 | refine G_thenR ?_
 | refine G_thenX ?_
                  )
                )
          · repeat' (first
 | (refine C_id ?_; first
 | refine C_seq ?_
 | refine C_region rfl ?_
 | refine C_block ?_
 | refine C_skip ?_
 | refine C_exit ?_
 | refine C_ret0 ?_
 | refine C_draw (id := 42) rfl mixed (by kernel_rfl) ?_
 | refine C_condT rfl obQ ?_
 | refine C_condF rfl obQ ?_
 | (refine C_cond rfl obQ (fun h => ?_) (fun h => ?_) <;> (try simp only [Bool.or_eq_true, Bool.and_eq_true, Bool.or_eq_false_iff, Bool.and_eq_false_iff, decide_eq_true_eq, decide_eq_false_iff_not, beq_iff_eq, bne_iff_ne, beq_eq_false_iff_ne, bne_eq_false_iff_eq, ne_eq, Decidable.not_not, List.cons.injEq, and_true, Bool.not_eq_true', Bool.not_eq_false', Int.not_lt, Int.not_le] at h))
                  )
 | (refine S_id ?_; first
 | ((with_reducible (first | refine S_falseN ?_ ?_ | refine S_falseB ?_ ?_ | refine S_falseL ?_ ?_ | refine S_falseD ?_ ?_ | refine S_falseE ?_ ?_)); · (first | exact decide_eq_false (by omega) | exact bne_self_eq_false _ | (rw [bne_eq_false_iff_eq]; first | rfl | omega | assumption) | (rw [beq_eq_false_iff_ne]; omega) | omega | assumption | rfl))
 | ((with_reducible refine S_falseO ?_ ?_ ?_); (· rfl); (· first | rfl | (first | exact decide_eq_false (by omega) | exact bne_self_eq_false _ | (rw [bne_eq_false_iff_eq]; first | rfl | omega | assumption) | (rw [beq_eq_false_iff_ne]; omega) | omega | assumption | rfl)))
 | ((with_reducible (first | refine S_trueE ?_ ?_ | refine S_trueB ?_ ?_ | refine S_trueL ?_ ?_ | refine S_trueD ?_ ?_ | refine S_trueN ?_ ?_)); · (first | exact decide_eq_true (by omega) | exact beq_self_eq_true _ | (rw [beq_iff_eq]; first | rfl | omega | assumption) | (rw [bne_iff_ne]; omega) | omega | assumption))
 | ((with_reducible refine S_trueA ?_ ?_ ?_); (· rfl); (· first | rfl | (first | exact decide_eq_true (by omega) | exact beq_self_eq_true _ | (rw [beq_iff_eq]; first | rfl | omega | assumption) | (rw [bne_iff_ne]; omega) | omega | assumption)))
 | refine S_unG rfl rfl rfl rfl ?_
 | ((with_reducible refine S_falseA ?_ ?_); · first | rfl | assumption)
 | refine S_pure (binX_pure rfl obQ (fun w => ne_bool _ _ _ _ w)) ?_
 | refine S_nil ?_
 | refine S_runN rfl rfl obQ obQ ?_
 | refine S_box (fun b => ⟨_, _, rfl, obQ, ?_⟩)
 | refine S_call (f := 27) rfl obQ (by kernel_rfl) (fun w hw => awake_c w (hw.rdm hE.toS memQ) (Pw_at hP hw memQ)) ?_
 | refine S_call (f := 18) rfl obQ (by kernel_rfl) (fun w hw => rCheckFormat_c f w) ?_
 | refine S_call (f := 43) rfl obQ (by kernel_rfl) (fun w hw => rRange_c _ _ _ w) ?_
 | refine S_call (f := 14) rfl obQ (by kernel_rfl) (fun w hw => atk_c f (t + j) qR qF qL qS (checkT_ok hv (by omega)) hq w (hw.rdm hE.toS memQ)) ?_
                  )
 | (refine D_id ?_; first
 | refine D_nil ?_
 | refine D_tail ?_
 | refine D_run rfl rfl obQ obQ ?_
 | refine D_call (f := 27) rfl obQ (by kernel_rfl) (fun w hw => awake_c w (hw.rdm hE.toS memQ) (Pw_at hP hw memQ)) ?_
 | refine D_call (f := 18) rfl obQ (by kernel_rfl) (fun w hw => rCheckFormat_c f w) ?_
 | refine D_call (f := 43) rfl obQ (by kernel_rfl) (fun w hw => rRange_c _ _ _ w) ?_
 | refine D_call (f := 14) rfl obQ (by kernel_rfl) (fun w hw => atk_c f (t + j) qR qF qL qS (checkT_ok hv (by omega)) hq w (hw.rdm hE.toS memQ)) ?_
                  )
 | (refine G_id ?_; first
 | refine G_loop (j + 1) (by show t + ((j + 1 : Nat) : Int) ≤ T; omega) (by show (T - (t + ((j + 1 : Nat) : Int))).toNat < (T - (t + (j : Int))).toNat; omega) ⟨⟨_, rfl, (by (repeat' (first | exact trivial | apply And.intro | rfl | omega | (congr 3; omega))); first | done | fail)⟩, ⟨_, rfl⟩, rfl, pstQ⟩
 | refine G_then ?_
 | refine G_block ?_
 | refine G_blockX ?_
 | refine G_blockN rfl ?_
 | refine G_blockR ?_
 | refine G_thenR ?_
 | refine G_thenX ?_
                  )
                )
        · repeat' (first
 | (refine C_id ?_; first
 | refine C_seq ?_
 | refine C_region rfl ?_
 | refine C_block ?_
 | refine C_skip ?_
 | refine C_exit ?_
 | refine C_ret0 ?_
 | refine C_draw (id := 42) rfl mixed (by kernel_rfl) ?_
 | refine C_condT rfl obQ ?_
 | refine C_condF rfl obQ ?_
 | (refine C_cond rfl obQ (fun h => ?_) (fun h => ?_) <;> (try simp only [Bool.or_eq_true, Bool.and_eq_true, Bool.or_eq_false_iff, Bool.and_eq_false_iff, decide_eq_true_eq, decide_eq_false_iff_not, beq_iff_eq, bne_iff_ne, beq_eq_false_iff_ne, bne_eq_false_iff_eq, ne_eq, Decidable.not_not, List.cons.injEq, and_true, Bool.not_eq_true', Bool.not_eq_false', Int.not_lt, Int.not_le] at h))
                )
 | (refine S_id ?_; first
 | ((with_reducible (first | refine S_falseN ?_ ?_ | refine S_falseB ?_ ?_ | refine S_falseL ?_ ?_ | refine S_falseD ?_ ?_ | refine S_falseE ?_ ?_)); · (first | exact decide_eq_false (by omega) | exact bne_self_eq_false _ | (rw [bne_eq_false_iff_eq]; first | rfl | omega | assumption) | (rw [beq_eq_false_iff_ne]; omega) | omega | assumption | rfl))
 | ((with_reducible refine S_falseO ?_ ?_ ?_); (· rfl); (· first | rfl | (first | exact decide_eq_false (by omega) | exact bne_self_eq_false _ | (rw [bne_eq_false_iff_eq]; first | rfl | omega | assumption) | (rw [beq_eq_false_iff_ne]; omega) | omega | assumption | rfl)))
 | ((with_reducible (first | refine S_trueE ?_ ?_ | refine S_trueB ?_ ?_ | refine S_trueL ?_ ?_ | refine S_trueD ?_ ?_ | refine S_trueN ?_ ?_)); · (first | exact decide_eq_true (by omega) | exact beq_self_eq_true _ | (rw [beq_iff_eq]; first | rfl | omega | assumption) | (rw [bne_iff_ne]; omega) | omega | assumption))
 | ((with_reducible refine S_trueA ?_ ?_ ?_); (· rfl); (· first | rfl | (first | exact decide_eq_true (by omega) | exact beq_self_eq_true _ | (rw [beq_iff_eq]; first | rfl | omega | assumption) | (rw [bne_iff_ne]; omega) | omega | assumption)))
 | refine S_unG rfl rfl rfl rfl ?_
 | ((with_reducible refine S_falseA ?_ ?_); · first | rfl | assumption)
 | refine S_pure (binX_pure rfl obQ (fun w => ne_bool _ _ _ _ w)) ?_
 | refine S_nil ?_
 | refine S_runN rfl rfl obQ obQ ?_
 | refine S_box (fun b => ⟨_, _, rfl, obQ, ?_⟩)
 | refine S_call (f := 27) rfl obQ (by kernel_rfl) (fun w hw => awake_c w (hw.rdm hE.toS memQ) (Pw_at hP hw memQ)) ?_
 | refine S_call (f := 18) rfl obQ (by kernel_rfl) (fun w hw => rCheckFormat_c f w) ?_
 | refine S_call (f := 43) rfl obQ (by kernel_rfl) (fun w hw => rRange_c _ _ _ w) ?_
                )
 | (refine D_id ?_; first
 | refine D_nil ?_
 | refine D_tail ?_
 | refine D_run rfl rfl obQ obQ ?_
 | refine D_call (f := 27) rfl obQ (by kernel_rfl) (fun w hw => awake_c w (hw.rdm hE.toS memQ) (Pw_at hP hw memQ)) ?_
 | refine D_call (f := 18) rfl obQ (by kernel_rfl) (fun w hw => rCheckFormat_c f w) ?_
 | refine D_call (f := 43) rfl obQ (by kernel_rfl) (fun w hw => rRange_c _ _ _ w) ?_
                )
 | (refine G_id ?_; first
 | refine G_then ?_
 | refine G_block ?_
 | refine G_blockX ?_
 | refine G_blockN rfl ?_
 | refine G_blockR ?_
 | refine G_thenR ?_
 | refine G_thenX ?_
 | refine G_ret rfl obQ (fun w2 hw => ⟨?_, hw.below⟩)
                )
              )
          refine C_loopS (fun j : Nat => ⟨[(26, .s (.v (.int .i64 (T + j)))), (21, .s (.p b21 3 0)), (5, .s (.p b5 1 0)), (6, .s (.p b6 2 0)), (2, .s (.p b2 0 0)), (1, .s (.v (.int .i64 t)))], [⟨b2, 23, [.v (.int .i64 f.S), .v (.int .i64 f.L), .v (.int .i64 f.F), .v (.int .i64 f.B), .v (.int .i64 f.Y), .v (.int .i64 f.V), .v (.int .i64 f.C)]⟩, ⟨b5, 26, [.v (.int .i64 f.S), .v (.int .i64 f.L), .v (.int .i64 f.F), .v (.int .i64 f.B), .v (.int .i64 f.Y), .v (.int .i64 f.V), .v (.int .i64 f.C)]⟩, ⟨b6, 27, [.v (.int .i64 pR), .v (.int .i64 pF), .v (.int .i64 pL), .v (.int .i64 pS)]⟩, ⟨b21, 46, [.v (.int .i64 T), .v (.int .i64 (T + f.V * f.S))]⟩], [⟨3, 1, f.L.toNat, wrL f f.L, .slice (some ⟨g, 0, none⟩) f.L.toNat f.L.toNat⟩]⟩) (fun j => (j : Int) ≤ f.V * f.S) (fun j => (f.V * f.S - j).toNat) 0 (by show ((0 : Nat) : Int) ≤ f.V * f.S; omega) ?_ (fun j hj => ?_)
          · exact ⟨⟨_, rfl, (by (repeat' (first | exact trivial | apply And.intro | rfl | omega | (congr 3; omega))); first | done | fail)⟩, ⟨_, rfl⟩, rfl, pstQ⟩
          have hj4 : (j : Int) ≤ f.V * f.S := hj
          dsimp only
          by_cases hlt4 : (j : Int) < f.V * f.S
          · obtain ⟨qR, qF, hq, hqb⟩ := havt (T + j) (by omega) (by omega)
            have hbl : (decide ((atF f (T + j)).S < f.B) || decide ((atF f (T + j)).L < f.V)) = true := by
              rw [hq]
              simp only [Bool.or_eq_true, decide_eq_true_eq]
              exact .inr hqb.2
            have hxx : T + (j : Int) - T = j := by omega
            repeat' (first
 | (refine C_id ?_; first
 | refine C_seq ?_
 | refine C_region rfl ?_
 | refine C_block ?_
 | refine C_skip ?_
 | refine C_exit ?_
 | refine C_ret0 ?_
 | refine C_draw (id := 42) rfl mixed (by kernel_rfl) ?_
 | refine C_condT rfl obQ ?_
 | refine C_condF rfl obQ ?_
 | (refine C_cond rfl obQ (fun h => ?_) (fun h => ?_) <;> (try simp only [Bool.or_eq_true, Bool.and_eq_true, Bool.or_eq_false_iff, Bool.and_eq_false_iff, decide_eq_true_eq, decide_eq_false_iff_not, beq_iff_eq, bne_iff_ne, beq_eq_false_iff_ne, bne_eq_false_iff_eq, ne_eq, Decidable.not_not, List.cons.injEq, and_true, Bool.not_eq_true', Bool.not_eq_false', Int.not_lt, Int.not_le] at h) <;> (try (exfalso; omega)) <;> (try (exfalso; simp at h; done)) <;> (try (exfalso; simp only [not_true_eq_false, false_or, or_false] at h; omega)))
                  )
 | (refine S_id ?_; first
 | ((with_reducible (first | refine S_falseN ?_ ?_ | refine S_falseB ?_ ?_ | refine S_falseL ?_ ?_ | refine S_falseD ?_ ?_ | refine S_falseE ?_ ?_)); · (first | exact decide_eq_false (by omega) | exact bne_self_eq_false _ | (rw [bne_eq_false_iff_eq]; first | rfl | omega | assumption) | (rw [beq_eq_false_iff_ne]; omega) | omega | assumption | rfl))
 | ((with_reducible refine S_falseO ?_ ?_ ?_); (· rfl); (· first | rfl | (first | exact decide_eq_false (by omega) | exact bne_self_eq_false _ | (rw [bne_eq_false_iff_eq]; first | rfl | omega | assumption) | (rw [beq_eq_false_iff_ne]; omega) | omega | assumption | rfl)))
 | ((with_reducible (first | refine S_trueE ?_ ?_ | refine S_trueB ?_ ?_ | refine S_trueL ?_ ?_ | refine S_trueD ?_ ?_ | refine S_trueN ?_ ?_)); · (first | exact decide_eq_true (by omega) | exact beq_self_eq_true _ | (rw [beq_iff_eq]; first | rfl | omega | assumption) | (rw [bne_iff_ne]; omega) | omega | assumption))
 | ((with_reducible refine S_trueA ?_ ?_ ?_); (· rfl); (· first | rfl | (first | exact decide_eq_true (by omega) | exact beq_self_eq_true _ | (rw [beq_iff_eq]; first | rfl | omega | assumption) | (rw [bne_iff_ne]; omega) | omega | assumption)))
 | refine S_unG rfl rfl rfl rfl ?_
 | ((with_reducible refine S_falseA ?_ ?_); · first | rfl | assumption)
 | refine S_pure (binX_pure rfl obQ (fun w => ne_bool _ _ _ _ w)) ?_
 | refine S_nil ?_
 | refine S_runN rfl rfl obQ obQ ?_
 | refine S_box (fun b => ⟨_, _, rfl, obQ, ?_⟩)
 | refine S_call (f := 27) rfl obQ (by kernel_rfl) (fun w hw => awake_c w (hw.rdm hE.toS memQ) (Pw_at hP hw memQ)) ?_
 | refine S_call (f := 18) rfl obQ (by kernel_rfl) (fun w hw => rCheckFormat_c f w) ?_
 | refine S_call (f := 43) rfl obQ (by kernel_rfl) (fun w hw => rRange_c _ _ _ w) ?_
 | refine S_call (f := 14) rfl obQ (by kernel_rfl) (fun w hw => atk_c f (T + j) qR qF _ _ (checkT_ok hv (by omega)) hq w (hw.rdm hE.toS memQ)) ?_
 | refine S_call (f := 28) rfl obQ (by kernel_rfl) (fun w hw => blank_as_c f (T + j) true (checkT_ok hv (by omega)) hbl w (hw.rdm hE.toS memQ)) ?_
                  )
 | (refine D_id ?_; first
 | refine D_nil ?_
 | refine D_tail ?_
 | refine D_run rfl rfl obQ obQ ?_
 | refine D_call (f := 27) rfl obQ (by kernel_rfl) (fun w hw => awake_c w (hw.rdm hE.toS memQ) (Pw_at hP hw memQ)) ?_
 | refine D_call (f := 18) rfl obQ (by kernel_rfl) (fun w hw => rCheckFormat_c f w) ?_
 | refine D_call (f := 43) rfl obQ (by kernel_rfl) (fun w hw => rRange_c _ _ _ w) ?_
 | refine D_call (f := 14) rfl obQ (by kernel_rfl) (fun w hw => atk_c f (T + j) qR qF _ _ (checkT_ok hv (by omega)) hq w (hw.rdm hE.toS memQ)) ?_
 | refine D_call (f := 28) rfl obQ (by kernel_rfl) (fun w hw => blank_as_c f (T + j) true (checkT_ok hv (by omega)) hbl w (hw.rdm hE.toS memQ)) ?_
                  )
 | (refine G_id ?_; first
 | refine G_loop (j + 1) (by show ((j + 1 : Nat) : Int) ≤ f.V * f.S; omega) (by show (f.V * f.S - ((j + 1 : Nat) : Int)).toNat < (f.V * f.S - (j : Int)).toNat; omega) ⟨⟨_, rfl, (by (repeat' (first | exact trivial | apply And.intro | rfl | omega | (congr 3; omega))); first | done | fail)⟩, ⟨_, rfl⟩, rfl, pstQ⟩
 | refine G_then ?_
 | refine G_block ?_
 | refine G_blockX ?_
 | refine G_blockN rfl ?_
 | refine G_blockR ?_
 | refine G_thenR ?_
 | refine G_thenX ?_
                  )
                )
          · repeat' (first
 | (refine C_id ?_; first
 | refine C_seq ?_
 | refine C_region rfl ?_
 | refine C_block ?_
 | refine C_skip ?_
 | refine C_exit ?_
 | refine C_ret0 ?_
 | refine C_draw (id := 42) rfl mixed (by kernel_rfl) ?_
 | refine C_condT rfl obQ ?_
 | refine C_condF rfl obQ ?_
 | (refine C_cond rfl obQ (fun h => ?_) (fun h => ?_) <;> (try simp only [Bool.or_eq_true, Bool.and_eq_true, Bool.or_eq_false_iff, Bool.and_eq_false_iff, decide_eq_true_eq, decide_eq_false_iff_not, beq_iff_eq, bne_iff_ne, beq_eq_false_iff_ne, bne_eq_false_iff_eq, ne_eq, Decidable.not_not, List.cons.injEq, and_true, Bool.not_eq_true', Bool.not_eq_false', Int.not_lt, Int.not_le] at h))
                  )
 | (refine S_id ?_; first
 | ((with_reducible (first | refine S_falseN ?_ ?_ | refine S_falseB ?_ ?_ | refine S_falseL ?_ ?_ | refine S_falseD ?_ ?_ | refine S_falseE ?_ ?_)); · (first | exact decide_eq_false (by omega) | exact bne_self_eq_false _ | (rw [bne_eq_false_iff_eq]; first | rfl | omega | assumption) | (rw [beq_eq_false_iff_ne]; omega) | omega | assumption | rfl))
 | ((with_reducible refine S_falseO ?_ ?_ ?_); (· rfl); (· first | rfl | (first | exact decide_eq_false (by omega) | exact bne_self_eq_false _ | (rw [bne_eq_false_iff_eq]; first | rfl | omega | assumption) | (rw [beq_eq_false_iff_ne]; omega) | omega | assumption | rfl)))
 | ((with_reducible (first | refine S_trueE ?_ ?_ | refine S_trueB ?_ ?_ | refine S_trueL ?_ ?_ | refine S_trueD ?_ ?_ | refine S_trueN ?_ ?_)); · (first | exact decide_eq_true (by omega) | exact beq_self_eq_true _ | (rw [beq_iff_eq]; first | rfl | omega | assumption) | (rw [bne_iff_ne]; omega) | omega | assumption))
 | ((with_reducible refine S_trueA ?_ ?_ ?_); (· rfl); (· first | rfl | (first | exact decide_eq_true (by omega) | exact beq_self_eq_true _ | (rw [beq_iff_eq]; first | rfl | omega | assumption) | (rw [bne_iff_ne]; omega) | omega | assumption)))
 | refine S_unG rfl rfl rfl rfl ?_
 | ((with_reducible refine S_falseA ?_ ?_); · first | rfl | assumption)
 | refine S_pure (binX_pure rfl obQ (fun w => ne_bool _ _ _ _ w)) ?_
 | (refine S_callM (f := 31) rfl obQ (by kernel_rfl) (fun w hw => sig_as_c f t hsE hsl w (hw.rdm hE.toS memQ)) (fun w1L w2L vL hw1L hbL hRL => ?_); obtain ⟨AL, cL, rfl, hSL⟩ := hRL)
 | refine S_nil ?_
 | refine S_runN rfl rfl obQ obQ ?_
 | refine S_box (fun b => ⟨_, _, rfl, obQ, ?_⟩)
 | refine S_call (f := 27) rfl obQ (by kernel_rfl) (fun w hw => awake_c w (hw.rdm hE.toS memQ) (Pw_at hP hw memQ)) ?_
 | refine S_call (f := 18) rfl obQ (by kernel_rfl) (fun w hw => rCheckFormat_c f w) ?_
 | refine S_call (f := 43) rfl obQ (by kernel_rfl) (fun w hw => rRange_c _ _ _ w) ?_
                  )
 | (refine D_id ?_; first
 | refine D_nil ?_
 | refine D_tail ?_
 | refine D_run rfl rfl obQ obQ ?_
 | refine D_call (f := 27) rfl obQ (by kernel_rfl) (fun w hw => awake_c w (hw.rdm hE.toS memQ) (Pw_at hP hw memQ)) ?_
 | refine D_call (f := 18) rfl obQ (by kernel_rfl) (fun w hw => rCheckFormat_c f w) ?_
 | refine D_call (f := 43) rfl obQ (by kernel_rfl) (fun w hw => rRange_c _ _ _ w) ?_
                  )
 | (refine G_id ?_; first
 | refine G_then ?_
 | refine G_block ?_
 | refine G_blockX ?_
 | refine G_blockN rfl ?_
 | refine G_blockR ?_
 | refine G_thenR ?_
 | refine G_thenX ?_
 | refine G_ret rfl obQ (fun w2 hw => ⟨?_, hw.below⟩)
                  )
                )
            obtain ⟨adL, rfl⟩ := hSL.rd.some (by omega)
            refine C_loopS (fun i : Nat => ⟨[(333, .s (.v (.int .i64 i))), (331, .s (.v (.slice (some adL) 20 cL))), (332, .s (.v (.int .i64 20))), (5, .s (.p b5 1 0)), (6, .s (.p b6 2 0)), (2, .s (.p b2 0 0)), (1, .s (.v (.int .i64 t)))], [⟨b2, 23, [.v (.int .i64 f.S), .v (.int .i64 f.L), .v (.int .i64 f.F), .v (.int .i64 f.B), .v (.int .i64 f.Y), .v (.int .i64 f.V), .v (.int .i64 f.C)]⟩, ⟨b5, 26, [.v (.int .i64 f.S), .v (.int .i64 f.L), .v (.int .i64 f.F), .v (.int .i64 f.B), .v (.int .i64 f.Y), .v (.int .i64 f.V), .v (.int .i64 f.C)]⟩, ⟨b6, 27, [.v (.int .i64 pR), .v (.int .i64 pF), .v (.int .i64 pL), .v (.int .i64 pS)]⟩], [⟨3, 1, f.L.toNat, wrL f f.L, .slice (some ⟨g, 0, none⟩) f.L.toNat f.L.toNat⟩]⟩) (fun i => i ≤ 20) (fun i => 20 - i) 0 (by show 0 ≤ 20; omega) ?_ (fun i hi => ?_)
            · exact ⟨⟨_, rfl, obQ⟩, ⟨_, rfl⟩, rfl, pstQ⟩
            have hi5 : i ≤ 20 := hi
            dsimp only
            by_cases hlt : i < 20
            · by_cases hY : (atF f (t + i)).S < f.Y
              · have hlv : lvl f (t + i) = .float .f32 3263168512 := by unfold lvl; rw [if_pos hY]
                have hsy : decide ((atF f (t + i)).S < f.Y) = true := decide_eq_true hY
                have hbl : (decide ((atF f (t + i)).S < f.B) || decide ((atF f (t + i)).L < f.V)) = true := by
                  simp only [Bool.or_eq_true, decide_eq_true_eq]
                  exact .inl (by have := hv.Y; omega)
                repeat' (first
 | (refine C_id ?_; first
 | refine C_seq ?_
 | refine C_region rfl ?_
 | refine C_block ?_
 | refine C_skip ?_
 | refine C_exit ?_
 | refine C_ret0 ?_
 | refine C_draw (id := 42) rfl mixed (by kernel_rfl) ?_
 | refine C_condT rfl obQ ?_
 | refine C_condF rfl obQ ?_
 | (refine C_cond rfl obQ (fun h => ?_) (fun h => ?_) <;> (try simp only [Bool.or_eq_true, Bool.and_eq_true, Bool.or_eq_false_iff, Bool.and_eq_false_iff, decide_eq_true_eq, decide_eq_false_iff_not, beq_iff_eq, bne_iff_ne, beq_eq_false_iff_ne, bne_eq_false_iff_eq, ne_eq, Decidable.not_not, List.cons.injEq, and_true, Bool.not_eq_true', Bool.not_eq_false', Int.not_lt, Int.not_le] at h))
                      )
 | (refine S_id ?_; first
 | ((with_reducible (first | refine S_falseN ?_ ?_ | refine S_falseB ?_ ?_ | refine S_falseL ?_ ?_ | refine S_falseD ?_ ?_ | refine S_falseE ?_ ?_)); · (first | exact decide_eq_false (by omega) | exact bne_self_eq_false _ | (rw [bne_eq_false_iff_eq]; first | rfl | omega | assumption) | (rw [beq_eq_false_iff_ne]; omega) | omega | assumption | rfl))
 | ((with_reducible refine S_falseO ?_ ?_ ?_); (· rfl); (· first | rfl | (first | exact decide_eq_false (by omega) | exact bne_self_eq_false _ | (rw [bne_eq_false_iff_eq]; first | rfl | omega | assumption) | (rw [beq_eq_false_iff_ne]; omega) | omega | assumption | rfl)))
 | ((with_reducible (first | refine S_trueE ?_ ?_ | refine S_trueB ?_ ?_ | refine S_trueL ?_ ?_ | refine S_trueD ?_ ?_ | refine S_trueN ?_ ?_)); · (first | exact decide_eq_true (by omega) | exact beq_self_eq_true _ | (rw [beq_iff_eq]; first | rfl | omega | assumption) | (rw [bne_iff_ne]; omega) | omega | assumption))
 | ((with_reducible refine S_trueA ?_ ?_ ?_); (· rfl); (· first | rfl | (first | exact decide_eq_true (by omega) | exact beq_self_eq_true _ | (rw [beq_iff_eq]; first | rfl | omega | assumption) | (rw [bne_iff_ne]; omega) | omega | assumption)))
 | refine S_unG rfl rfl rfl rfl ?_
 | ((with_reducible refine S_falseA ?_ ?_); · first | rfl | assumption)
 | refine S_pure (binX_pure rfl obQ (fun w => ne_bool _ _ _ _ w)) ?_
 | refine S_load rfl obQ rfl [.float .f32 3263168512] (.past (w2L, fun b => w1L.heap.size ≤ b ∧ b < w2L.heap.size) memQ _ _ hSL (((i : Nat) : Int).toNat * 1) _ rfl rfl (ldv (by rw [show ((i : Nat) : Int).toNat * 1 = i by omega, hsx i hlt, hlv]))) rfl (.inr ⟨rfl, rfl⟩) ?_
 | refine S_pure (binX_pure rfl obQ (fun w => fl_0_0 _ _ _ w)) ?_
 | refine S_pure (binX_pure rfl obQ (fun w => fl_0_1 _ _ _ w)) ?_
 | refine S_pure (binX_pure rfl obQ (fun w => fl_0_2 _ _ _ w)) ?_
 | refine S_nil ?_
 | refine S_runN rfl rfl obQ obQ ?_
 | refine S_box (fun b => ⟨_, _, rfl, obQ, ?_⟩)
 | refine S_call (f := 27) rfl obQ (by kernel_rfl) (fun w hw => awake_c w (hw.rdm hE.toS memQ) (Pw_at hP hw memQ)) ?_
 | refine S_call (f := 18) rfl obQ (by kernel_rfl) (fun w hw => rCheckFormat_c f w) ?_
 | refine S_call (f := 43) rfl obQ (by kernel_rfl) (fun w hw => rRange_c _ _ _ w) ?_
 | refine S_call (f := 28) rfl obQ (by kernel_rfl) (fun w hw => blank_as_c f (t + i) true (checkT_ok hv (by omega)) hbl w (hw.rdm hE.toS memQ)) ?_
 | refine S_call (f := 29) rfl obQ (by kernel_rfl) (fun w hw => sync_as_c f (t + i) true (checkT_ok hv (by omega)) hsy w (hw.rdm hE.toS memQ)) ?_
                      )
 | (refine D_id ?_; first
 | refine D_nil ?_
 | refine D_tail ?_
 | refine D_run rfl rfl obQ obQ ?_
 | refine D_call (f := 27) rfl obQ (by kernel_rfl) (fun w hw => awake_c w (hw.rdm hE.toS memQ) (Pw_at hP hw memQ)) ?_
 | refine D_call (f := 18) rfl obQ (by kernel_rfl) (fun w hw => rCheckFormat_c f w) ?_
 | refine D_call (f := 43) rfl obQ (by kernel_rfl) (fun w hw => rRange_c _ _ _ w) ?_
 | refine D_call (f := 28) rfl obQ (by kernel_rfl) (fun w hw => blank_as_c f (t + i) true (checkT_ok hv (by omega)) hbl w (hw.rdm hE.toS memQ)) ?_
 | refine D_call (f := 29) rfl obQ (by kernel_rfl) (fun w hw => sync_as_c f (t + i) true (checkT_ok hv (by omega)) hsy w (hw.rdm hE.toS memQ)) ?_
                      )
 | (refine G_id ?_; first
 | refine G_loop (i + 1) (by show i + 1 ≤ 20; omega) (by show 20 - (i + 1) < 20 - i; omega) ⟨⟨_, rfl, obQ⟩, ⟨_, rfl⟩, rfl, pstQ⟩
 | refine G_then ?_
 | refine G_block ?_
 | refine G_blockX ?_
 | refine G_blockN rfl ?_
 | refine G_blockR ?_
 | refine G_thenR ?_
 | refine G_thenX ?_
                      )
                    )
              · have hsy : decide ((atF f (t + i)).S < f.Y) = false := decide_eq_false hY
                by_cases hB : (atF f (t + i)).S < f.B ∨ (atF f (t + i)).L < f.V
                · have hlv : lvl f (t + i) = .float .f32 0 := by unfold lvl; rw [if_neg hY, if_pos hB]
                  have hbl : (decide ((atF f (t + i)).S < f.B) || decide ((atF f (t + i)).L < f.V)) = true := by simpa using hB
                  repeat' (first
 | (refine C_id ?_; first
 | refine C_seq ?_
 | refine C_region rfl ?_
 | refine C_block ?_
 | refine C_skip ?_
 | refine C_exit ?_
 | refine C_ret0 ?_
 | refine C_draw (id := 42) rfl mixed (by kernel_rfl) ?_
 | refine C_condT rfl obQ ?_
 | refine C_condF rfl obQ ?_
 | (refine C_cond rfl obQ (fun h => ?_) (fun h => ?_) <;> (try simp only [Bool.or_eq_true, Bool.and_eq_true, Bool.or_eq_false_iff, Bool.and_eq_false_iff, decide_eq_true_eq, decide_eq_false_iff_not, beq_iff_eq, bne_iff_ne, beq_eq_false_iff_ne, bne_eq_false_iff_eq, ne_eq, Decidable.not_not, List.cons.injEq, and_true, Bool.not_eq_true', Bool.not_eq_false', Int.not_lt, Int.not_le] at h))
                        )
 | (refine S_id ?_; first
 | ((with_reducible (first | refine S_falseN ?_ ?_ | refine S_falseB ?_ ?_ | refine S_falseL ?_ ?_ | refine S_falseD ?_ ?_ | refine S_falseE ?_ ?_)); · (first | exact decide_eq_false (by omega) | exact bne_self_eq_false _ | (rw [bne_eq_false_iff_eq]; first | rfl | omega | assumption) | (rw [beq_eq_false_iff_ne]; omega) | omega | assumption | rfl))
 | ((with_reducible refine S_falseO ?_ ?_ ?_); (· rfl); (· first | rfl | (first | exact decide_eq_false (by omega) | exact bne_self_eq_false _ | (rw [bne_eq_false_iff_eq]; first | rfl | omega | assumption) | (rw [beq_eq_false_iff_ne]; omega) | omega | assumption | rfl)))
 | ((with_reducible (first | refine S_trueE ?_ ?_ | refine S_trueB ?_ ?_ | refine S_trueL ?_ ?_ | refine S_trueD ?_ ?_ | refine S_trueN ?_ ?_)); · (first | exact decide_eq_true (by omega) | exact beq_self_eq_true _ | (rw [beq_iff_eq]; first | rfl | omega | assumption) | (rw [bne_iff_ne]; omega) | omega | assumption))
 | ((with_reducible refine S_trueA ?_ ?_ ?_); (· rfl); (· first | rfl | (first | exact decide_eq_true (by omega) | exact beq_self_eq_true _ | (rw [beq_iff_eq]; first | rfl | omega | assumption) | (rw [bne_iff_ne]; omega) | omega | assumption)))
 | refine S_unG rfl rfl rfl rfl ?_
 | ((with_reducible refine S_falseA ?_ ?_); · first | rfl | assumption)
 | refine S_pure (binX_pure rfl obQ (fun w => ne_bool _ _ _ _ w)) ?_
 | refine S_load rfl obQ rfl [.float .f32 0] (.past (w2L, fun b => w1L.heap.size ≤ b ∧ b < w2L.heap.size) memQ _ _ hSL (((i : Nat) : Int).toNat * 1) _ rfl rfl (ldv (by rw [show ((i : Nat) : Int).toNat * 1 = i by omega, hsx i hlt, hlv]))) rfl (.inr ⟨rfl, rfl⟩) ?_
 | refine S_pure (binX_pure rfl obQ (fun w => fl_1_0 _ _ _ w)) ?_
 | refine S_pure (binX_pure rfl obQ (fun w => fl_1_1 _ _ _ w)) ?_
 | refine S_pure (binX_pure rfl obQ (fun w => fl_1_2 _ _ _ w)) ?_
 | refine S_nil ?_
 | refine S_runN rfl rfl obQ obQ ?_
 | refine S_box (fun b => ⟨_, _, rfl, obQ, ?_⟩)
 | refine S_call (f := 27) rfl obQ (by kernel_rfl) (fun w hw => awake_c w (hw.rdm hE.toS memQ) (Pw_at hP hw memQ)) ?_
 | refine S_call (f := 18) rfl obQ (by kernel_rfl) (fun w hw => rCheckFormat_c f w) ?_
 | refine S_call (f := 43) rfl obQ (by kernel_rfl) (fun w hw => rRange_c _ _ _ w) ?_
 | refine S_call (f := 28) rfl obQ (by kernel_rfl) (fun w hw => blank_as_c f (t + i) true (checkT_ok hv (by omega)) hbl w (hw.rdm hE.toS memQ)) ?_
 | refine S_call (f := 29) rfl obQ (by kernel_rfl) (fun w hw => sync_as_c f (t + i) false (checkT_ok hv (by omega)) hsy w (hw.rdm hE.toS memQ)) ?_
                        )
 | (refine D_id ?_; first
 | refine D_nil ?_
 | refine D_tail ?_
 | refine D_run rfl rfl obQ obQ ?_
 | refine D_call (f := 27) rfl obQ (by kernel_rfl) (fun w hw => awake_c w (hw.rdm hE.toS memQ) (Pw_at hP hw memQ)) ?_
 | refine D_call (f := 18) rfl obQ (by kernel_rfl) (fun w hw => rCheckFormat_c f w) ?_
 | refine D_call (f := 43) rfl obQ (by kernel_rfl) (fun w hw => rRange_c _ _ _ w) ?_
 | refine D_call (f := 28) rfl obQ (by kernel_rfl) (fun w hw => blank_as_c f (t + i) true (checkT_ok hv (by omega)) hbl w (hw.rdm hE.toS memQ)) ?_
 | refine D_call (f := 29) rfl obQ (by kernel_rfl) (fun w hw => sync_as_c f (t + i) false (checkT_ok hv (by omega)) hsy w (hw.rdm hE.toS memQ)) ?_
                        )
 | (refine G_id ?_; first
 | refine G_loop (i + 1) (by show i + 1 ≤ 20; omega) (by show 20 - (i + 1) < 20 - i; omega) ⟨⟨_, rfl, obQ⟩, ⟨_, rfl⟩, rfl, pstQ⟩
 | refine G_then ?_
 | refine G_block ?_
 | refine G_blockX ?_
 | refine G_blockN rfl ?_
 | refine G_blockR ?_
 | refine G_thenR ?_
 | refine G_thenX ?_
                        )
                      )
                · have hlv : lvl f (t + i) = .float .f32 1098907648 := by unfold lvl; rw [if_neg hY, if_neg hB]
                  have hbl : (decide ((atF f (t + i)).S < f.B) || decide ((atF f (t + i)).L < f.V)) = false := by simpa using hB
                  repeat' (first
 | (refine C_id ?_; first
 | refine C_seq ?_
 | refine C_region rfl ?_
 | refine C_block ?_
 | refine C_skip ?_
 | refine C_exit ?_
 | refine C_ret0 ?_
 | refine C_draw (id := 42) rfl mixed (by kernel_rfl) ?_
 | refine C_condT rfl obQ ?_
 | refine C_condF rfl obQ ?_
 | (refine C_cond rfl obQ (fun h => ?_) (fun h => ?_) <;> (try simp only [Bool.or_eq_true, Bool.and_eq_true, Bool.or_eq_false_iff, Bool.and_eq_false_iff, decide_eq_true_eq, decide_eq_false_iff_not, beq_iff_eq, bne_iff_ne, beq_eq_false_iff_ne, bne_eq_false_iff_eq, ne_eq, Decidable.not_not, List.cons.injEq, and_true, Bool.not_eq_true', Bool.not_eq_false', Int.not_lt, Int.not_le] at h))
                        )
 | (refine S_id ?_; first
 | ((with_reducible (first | refine S_falseN ?_ ?_ | refine S_falseB ?_ ?_ | refine S_falseL ?_ ?_ | refine S_falseD ?_ ?_ | refine S_falseE ?_ ?_)); · (first | exact decide_eq_false (by omega) | exact bne_self_eq_false _ | (rw [bne_eq_false_iff_eq]; first | rfl | omega | assumption) | (rw [beq_eq_false_iff_ne]; omega) | omega | assumption | rfl))
 | ((with_reducible refine S_falseO ?_ ?_ ?_); (· rfl); (· first | rfl | (first | exact decide_eq_false (by omega) | exact bne_self_eq_false _ | (rw [bne_eq_false_iff_eq]; first | rfl | omega | assumption) | (rw [beq_eq_false_iff_ne]; omega) | omega | assumption | rfl)))
 | ((with_reducible (first | refine S_trueE ?_ ?_ | refine S_trueB ?_ ?_ | refine S_trueL ?_ ?_ | refine S_trueD ?_ ?_ | refine S_trueN ?_ ?_)); · (first | exact decide_eq_true (by omega) | exact beq_self_eq_true _ | (rw [beq_iff_eq]; first | rfl | omega | assumption) | (rw [bne_iff_ne]; omega) | omega | assumption))
 | ((with_reducible refine S_trueA ?_ ?_ ?_); (· rfl); (· first | rfl | (first | exact decide_eq_true (by omega) | exact beq_self_eq_true _ | (rw [beq_iff_eq]; first | rfl | omega | assumption) | (rw [bne_iff_ne]; omega) | omega | assumption)))
 | refine S_unG rfl rfl rfl rfl ?_
 | ((with_reducible refine S_falseA ?_ ?_); · first | rfl | assumption)
 | refine S_pure (binX_pure rfl obQ (fun w => ne_bool _ _ _ _ w)) ?_
 | refine S_load rfl obQ rfl [.float .f32 1098907648] (.past (w2L, fun b => w1L.heap.size ≤ b ∧ b < w2L.heap.size) memQ _ _ hSL (((i : Nat) : Int).toNat * 1) _ rfl rfl (ldv (by rw [show ((i : Nat) : Int).toNat * 1 = i by omega, hsx i hlt, hlv]))) rfl (.inr ⟨rfl, rfl⟩) ?_
 | refine S_pure (binX_pure rfl obQ (fun w => fl_2_0 _ _ _ w)) ?_
 | refine S_pure (binX_pure rfl obQ (fun w => fl_2_1 _ _ _ w)) ?_
 | refine S_pure (binX_pure rfl obQ (fun w => fl_2_2 _ _ _ w)) ?_
 | refine S_nil ?_
 | refine S_runN rfl rfl obQ obQ ?_
 | refine S_box (fun b => ⟨_, _, rfl, obQ, ?_⟩)
 | refine S_call (f := 27) rfl obQ (by kernel_rfl) (fun w hw => awake_c w (hw.rdm hE.toS memQ) (Pw_at hP hw memQ)) ?_
 | refine S_call (f := 18) rfl obQ (by kernel_rfl) (fun w hw => rCheckFormat_c f w) ?_
 | refine S_call (f := 43) rfl obQ (by kernel_rfl) (fun w hw => rRange_c _ _ _ w) ?_
 | refine S_call (f := 28) rfl obQ (by kernel_rfl) (fun w hw => blank_as_c f (t + i) false (checkT_ok hv (by omega)) hbl w (hw.rdm hE.toS memQ)) ?_
 | refine S_call (f := 29) rfl obQ (by kernel_rfl) (fun w hw => sync_as_c f (t + i) false (checkT_ok hv (by omega)) hsy w (hw.rdm hE.toS memQ)) ?_
                        )
 | (refine D_id ?_; first
 | refine D_nil ?_
 | refine D_tail ?_
 | refine D_run rfl rfl obQ obQ ?_
 | refine D_call (f := 27) rfl obQ (by kernel_rfl) (fun w hw => awake_c w (hw.rdm hE.toS memQ) (Pw_at hP hw memQ)) ?_
 | refine D_call (f := 18) rfl obQ (by kernel_rfl) (fun w hw => rCheckFormat_c f w) ?_
 | refine D_call (f := 43) rfl obQ (by kernel_rfl) (fun w hw => rRange_c _ _ _ w) ?_
 | refine D_call (f := 28) rfl obQ (by kernel_rfl) (fun w hw => blank_as_c f (t + i) false (checkT_ok hv (by omega)) hbl w (hw.rdm hE.toS memQ)) ?_
 | refine D_call (f := 29) rfl obQ (by kernel_rfl) (fun w hw => sync_as_c f (t + i) false (checkT_ok hv (by omega)) hsy w (hw.rdm hE.toS memQ)) ?_
                        )
 | (refine G_id ?_; first
 | refine G_loop (i + 1) (by show i + 1 ≤ 20; omega) (by show 20 - (i + 1) < 20 - i; omega) ⟨⟨_, rfl, obQ⟩, ⟨_, rfl⟩, rfl, pstQ⟩
 | refine G_then ?_
 | refine G_block ?_
 | refine G_blockX ?_
 | refine G_blockN rfl ?_
 | refine G_blockR ?_
 | refine G_thenR ?_
 | refine G_thenX ?_
                        )
                      )
            · repeat' (first
 | (refine C_id ?_; first
 | refine C_seq ?_
 | refine C_region rfl ?_
 | refine C_block ?_
 | refine C_skip ?_
 | refine C_exit ?_
 | refine C_ret0 ?_
 | refine C_draw (id := 42) rfl mixed (by kernel_rfl) ?_
 | refine C_condT rfl obQ ?_
 | refine C_condF rfl obQ ?_
 | (refine C_cond rfl obQ (fun h => ?_) (fun h => ?_) <;> (try simp only [Bool.or_eq_true, Bool.and_eq_true, Bool.or_eq_false_iff, Bool.and_eq_false_iff, decide_eq_true_eq, decide_eq_false_iff_not, beq_iff_eq, bne_iff_ne, beq_eq_false_iff_ne, bne_eq_false_iff_eq, ne_eq, Decidable.not_not, List.cons.injEq, and_true, Bool.not_eq_true', Bool.not_eq_false', Int.not_lt, Int.not_le] at h))
                    )
 | (refine S_id ?_; first
 | ((with_reducible (first | refine S_falseN ?_ ?_ | refine S_falseB ?_ ?_ | refine S_falseL ?_ ?_ | refine S_falseD ?_ ?_ | refine S_falseE ?_ ?_)); · (first | exact decide_eq_false (by omega) | exact bne_self_eq_false _ | (rw [bne_eq_false_iff_eq]; first | rfl | omega | assumption) | (rw [beq_eq_false_iff_ne]; omega) | omega | assumption | rfl))
 | ((with_reducible refine S_falseO ?_ ?_ ?_); (· rfl); (· first | rfl | (first | exact decide_eq_false (by omega) | exact bne_self_eq_false _ | (rw [bne_eq_false_iff_eq]; first | rfl | omega | assumption) | (rw [beq_eq_false_iff_ne]; omega) | omega | assumption | rfl)))
 | ((with_reducible (first | refine S_trueE ?_ ?_ | refine S_trueB ?_ ?_ | refine S_trueL ?_ ?_ | refine S_trueD ?_ ?_ | refine S_trueN ?_ ?_)); · (first | exact decide_eq_true (by omega) | exact beq_self_eq_true _ | (rw [beq_iff_eq]; first | rfl | omega | assumption) | (rw [bne_iff_ne]; omega) | omega | assumption))
 | ((with_reducible refine S_trueA ?_ ?_ ?_); (· rfl); (· first | rfl | (first | exact decide_eq_true (by omega) | exact beq_self_eq_true _ | (rw [beq_iff_eq]; first | rfl | omega | assumption) | (rw [bne_iff_ne]; omega) | omega | assumption)))
 | refine S_unG rfl rfl rfl rfl ?_
 | ((with_reducible refine S_falseA ?_ ?_); · first | rfl | assumption)
 | refine S_pure (binX_pure rfl obQ (fun w => ne_bool _ _ _ _ w)) ?_
 | refine S_nil ?_
 | refine S_runN rfl rfl obQ obQ ?_
 | refine S_box (fun b => ⟨_, _, rfl, obQ, ?_⟩)
 | refine S_call (f := 27) rfl obQ (by kernel_rfl) (fun w hw => awake_c w (hw.rdm hE.toS memQ) (Pw_at hP hw memQ)) ?_
 | refine S_call (f := 18) rfl obQ (by kernel_rfl) (fun w hw => rCheckFormat_c f w) ?_
 | refine S_call (f := 43) rfl obQ (by kernel_rfl) (fun w hw => rRange_c _ _ _ w) ?_
                    )
 | (refine D_id ?_; first
 | refine D_nil ?_
 | refine D_tail ?_
 | refine D_run rfl rfl obQ obQ ?_
 | refine D_call (f := 27) rfl obQ (by kernel_rfl) (fun w hw => awake_c w (hw.rdm hE.toS memQ) (Pw_at hP hw memQ)) ?_
 | refine D_call (f := 18) rfl obQ (by kernel_rfl) (fun w hw => rCheckFormat_c f w) ?_
 | refine D_call (f := 43) rfl obQ (by kernel_rfl) (fun w hw => rRange_c _ _ _ w) ?_
                    )
 | (refine G_id ?_; first
 | refine G_then ?_
 | refine G_block ?_
 | refine G_blockX ?_
 | refine G_blockN rfl ?_
 | refine G_blockR ?_
 | refine G_thenR ?_
 | refine G_thenX ?_
 | refine G_ret rfl obQ (fun w2 hw => ⟨?_, hw.below⟩)
                    )
                  )
              all_goals rfl
  · repeat' (first
 | (refine C_id ?_; first
 | refine C_seq ?_
 | refine C_region rfl ?_
 | refine C_block ?_
 | refine C_skip ?_
 | refine C_exit ?_
 | refine C_ret0 ?_
 | refine C_draw (id := 42) rfl mixed (by kernel_rfl) ?_
 | refine C_condT rfl obQ ?_
 | refine C_condF rfl obQ ?_
 | (refine C_cond rfl obQ (fun h => ?_) (fun h => ?_) <;> (try simp only [Bool.or_eq_true, Bool.and_eq_true, Bool.or_eq_false_iff, Bool.and_eq_false_iff, decide_eq_true_eq, decide_eq_false_iff_not, beq_iff_eq, bne_iff_ne, beq_eq_false_iff_ne, bne_eq_false_iff_eq, ne_eq, Decidable.not_not, List.cons.injEq, and_true, Bool.not_eq_true', Bool.not_eq_false', Int.not_lt, Int.not_le] at h) <;> (try (exfalso; omega)))
          )
 | (refine S_id ?_; first
 | refine S_nil ?_
 | refine S_run rfl rfl obQ obQ ?_
 | refine S_box (fun b => ⟨_, _, rfl, obQ, ?_⟩)
 | refine S_call (f := 27) rfl obQ (by kernel_rfl) (fun w hw => awake_c w (hw.rdm hE.toS memQ) (Pw_at hP hw memQ)) ?_
 | refine S_call (f := 18) rfl obQ (by kernel_rfl) (fun w hw => rCheckFormat_c f w) ?_
 | refine S_call (f := 43) rfl obQ (by kernel_rfl) (fun w hw => rRange_c _ _ _ w) ?_
 | refine S_callG (f := 43) rfl rfl (fun hg => obQ) (by kernel_rfl) (fun hg w hw => rRange_c _ _ _ w) ?_
          )
 | (refine D_id ?_; first
 | refine D_nil ?_
 | refine D_tail ?_
 | refine D_run rfl rfl obQ obQ ?_
 | refine D_call (f := 27) rfl obQ (by kernel_rfl) (fun w hw => awake_c w (hw.rdm hE.toS memQ) (Pw_at hP hw memQ)) ?_
 | refine D_call (f := 18) rfl obQ (by kernel_rfl) (fun w hw => rCheckFormat_c f w) ?_
 | refine D_call (f := 43) rfl obQ (by kernel_rfl) (fun w hw => rRange_c _ _ _ w) ?_
 | refine D_callG (f := 43) rfl rfl (fun hg => obQ) (by kernel_rfl) (fun hg w hw => rRange_c _ _ _ w) ?_
          )
 | (refine G_id ?_; first
 | refine G_then ?_
 | refine G_block ?_
 | refine G_blockX ?_
 | refine G_blockN rfl ?_
 | refine G_blockR ?_
 | refine G_thenR ?_
 | refine G_thenX ?_
 | refine G_ret rfl obQ (fun w hw => ⟨?_, hw.below⟩)
          )
        )
    all_goals rfl

end Go.Proofs.YtmfophoejjcnlaaGreatDoor
