/- The law of the curves: the walk. -/
import Derived.Test.YtdbffbcobghbeaaGreatDoorColour28
namespace Go.Proofs.YtdbffbcobghbeaaGreatDoor
open Go.E Go.RowKit Go.Fl
attribute [local irreducible] G C S D Calls
set_option maxRecDepth 100000
set_option linter.unusedSimpArgs false
set_option linter.unusedVariables false

theorem eq_bool {P : Program} {t : TypeId} {a b : Bool} (ht : P.underlying t = some .bool) (x y : Operand) (w : World) : (do eqGuard .eql t x y (.bool a) (.bool b); binOp .eql t (.bool a) (.bool b) : Sem Value).run P w = .ok (.bool (a == b)) w := by
  have hg : (eqGuard .eql t x y (.bool a) (.bool b)).run P w = .ok () w := by unfold eqGuard; simp
  simp only [Sem.run_bind, hg, Result.andThen_ok]
  have he : (Op.equalIn Op.maxDepth t (.bool a) (.bool b)).run P w = .ok (a == b) w := Go.run_equalIn_bool' (w := w) (P := P) 9999 t a b ht
  simp only [binOp, Op.equal]
  simp [Sem.run_bind, he]
theorem inv_len (l : List Pt) : (invF l).length = l.length := by simp [invF]
section
variable {A : Option Addr} {c : Nat} {l : List Pt} {w : World}
theorem lfirstE_c {A : Option Addr} {n : Nat} {l : List Int} {e : Int} (he : firstL l = e) (h6 : l.length ≤ 1000000) (hl : l.length = n) (c : Nat) (w : World) (hr : Rd w A (l.map (.int .i64))) : Calls Tryz.prog 27 #[.slice A n c] w fun r w' => r = .returned (.int .i64 e) ∧ Below w.heap.size w w' := by
  subst hl he
  exact lfirst_c A c l h6 w hr
theorem rCheckCurve_as {e : Int} (h : curveE l = e) (hl : l.length ≤ 1000000) (hr : Rd w A (l.flatMap ptC)) : Calls Tryz.prog 26 #[.slice A l.length c] w fun r w' => r = .returned (.int .i64 e) ∧ Below w.heap.size w w' := by
  subst h
  exact rCheckCurve_c A c l hl w hr
theorem checkCurve_as {e : Int} (h : curveE l = e) (hl : l.length ≤ 1000000) (hr : Rd w A (l.flatMap ptC)) : Calls Tryz.prog 34 #[.slice A l.length c] w fun r w' => r = .returned (.int .i64 e) ∧ Below w.heap.size w w' := by
  subst h
  exact checkCurve_c A c l hl w hr
theorem value_as {n v e : Int} (h : valR l n = (v, e)) (hl : l.length ≤ 1000000) (hr : Rd w A (l.flatMap ptC)) : Calls Tryz.prog 21 #[.slice A l.length c, .int .i64 n] w fun r w' => r = .returned (.tuple #[.int .i64 v, .int .i64 e]) ∧ Below w.heap.size w w' := by
  have := Value_c A c l hl n w hr
  rw [h] at this
  exact this
theorem survives_as {n e : Int} {v : Bool} (h : survR l n = (v, e)) (hl : l.length ≤ 1000000) (hr : Rd w A (l.flatMap ptC)) : Calls Tryz.prog 24 #[.slice A l.length c, .int .i64 n] w fun r w' => r = .returned (.tuple #[.bool v, .int .i64 e]) ∧ Below w.heap.size w w' := by
  have := Survives_c A c l hl n w hr
  rw [h] at this
  exact this
theorem inverse_as {xs : List Pt} {e : Int} {m : Nat} (h : invR l = (xs, e)) (hm : xs.length = m) (hl : l.length ≤ 1000000) (hr : Rd w A (l.flatMap ptC)) : Calls Tryz.prog 23 #[.slice A l.length c] w fun r w' => ∃ v, r = .returned v ∧ Below w.heap.size w w' ∧ Sl2 w w' v m (xs.flatMap ptC) (.int .i64 e) := by
  subst hm
  have := Inverse_c A c l hl w hr
  rw [h] at this
  exact this
theorem knee_as {a b : Int} {xs : List Pt} {e : Int} {m : Nat} (h : kneeR a b = (xs, e)) (hm : xs.length = m) : Calls Tryz.prog 25 #[.int .i64 a, .int .i64 b] w fun r w' => ∃ v, r = .returned v ∧ Below w.heap.size w w' ∧ Sl2 w w' v m (xs.flatMap ptC) (.int .i64 e) := by
  subst hm
  have := Knee_c a b w
  rw [h] at this
  exact this
theorem points_as {m : Nat} (hm : l.length = m) (hl : m ≤ 1000000) (hr : Rd w A (l.flatMap ptC)) : Calls Tryz.prog 37 #[.slice A m c] w fun r w' => ∃ v, r = .returned v ∧ Below w.heap.size w w' ∧ Sl w w' v m (l.flatMap ptC) := by
  subst hm
  exact lpoints_c A c l hl w hr
theorem number_as {x e b z : Int} (h1 : x = if b = 0 then z else 0) (h2 : e = b) : Calls Tryz.prog 35 #[.int .i64 x, .int .i64 e, .int .i64 b, .int .i64 z] w fun r w' => r = .returned (.bool true) ∧ Below w.heap.size w w' := by
  have := lnumber_c x e b z w
  rw [decide_eq_true h1, decide_eq_true h2] at this
  exact this
theorem short_as {n : Nat} (b : Bool) (h : decide (n ≤ 17) = b) (hn : n ≤ maxLen) : Calls Tryz.prog 19 #[.slice A n c] w fun r w' => r = .returned (.bool b) ∧ Below w.heap.size w w' := by
  subst h
  exact rShortCurve_c A n c hn w
end

set_option maxHeartbeats 8000000 in
/-- genlocklaw02.ColourCurves -/
theorem lCurves_c (A : Option Addr) (c : Nat) (l : List Pt) (hmax : l.length ≤ maxLen) (lev k0 k1 : Int) (w : World) (hr : Rd w A (l.flatMap ptC)) (hO : Ot w) (hP : Pw w) : Calls Tryz.prog 3 #[.slice A l.length c, .int .i64 lev, .agg #[.int .i64 k0, .int .i64 k1]] w fun r w' => r = .returned (.bool true) ∧ Below w.heap.size w w' := by
  refine calls_of (args := [.slice A l.length c, .int .i64 lev, .agg #[.int .i64 k0, .int .i64 k1]]) T_ok Tryz.func3 rfl Tryz.ntmps3 (Nat.le_of_ble_eq_true rfl) rfl ?_
  by_cases hs : 17 < l.length
  · repeat' (first
 | (refine C_id ?_; first
 | refine C_seq ?_
 | refine C_region rfl ?_
 | refine C_block ?_
 | refine C_skip ?_
 | refine C_exit ?_
 | refine C_ret0 ?_
 | refine C_drawT (id := 8) 3 rfl mixed (by kernel_rfl) rfl rfl ?_
 | refine C_condT rfl obQ ?_
 | refine C_condF rfl obQ ?_
 | (refine C_cond rfl obQ (fun h => ?_) (fun h => ?_) <;> (try simp only [Bool.or_eq_true, Bool.and_eq_true, Bool.or_eq_false_iff, Bool.and_eq_false_iff, decide_eq_true_eq, decide_eq_false_iff_not, beq_iff_eq, bne_iff_ne, beq_eq_false_iff_ne, bne_eq_false_iff_eq, ne_eq, Decidable.not_not, List.cons.injEq, and_true, Bool.not_eq_true', Bool.not_eq_false', Int.not_lt, Int.not_le] at h) <;> (try (exfalso; omega)) <;> (try (exfalso; simp at h; done)) <;> (try (exfalso; simp only [not_true_eq_false, false_or, or_false] at h; omega)) <;> (try contradiction))
          )
 | (refine S_id ?_; first
 | refine S_nil ?_
 | refine S_run rfl rfl obQ obQ ?_
 | refine S_box (fun b => ⟨_, _, rfl, obQ, ?_⟩)
 | refine S_slice (fun b => ⟨_, _, rfl, obQ, ?_⟩)
 | refine S_call (f := 19) rfl obQ (by kernel_rfl) (fun w hw => short_as false (decide_eq_false (by omega)) hmax) ?_
 | refine S_call (f := 20) rfl obQ (by kernel_rfl) (fun w hw => awake_c w (hw.rdm hO.toS memQ) (Pw_at hP hw memQ)) ?_
          )
 | (refine D_id ?_; first
 | refine D_nil ?_
 | refine D_tail ?_
 | refine D_run rfl rfl obQ obQ ?_
 | refine D_call (f := 19) rfl obQ (by kernel_rfl) (fun w hw => short_as false (decide_eq_false (by omega)) hmax) ?_
 | refine D_call (f := 20) rfl obQ (by kernel_rfl) (fun w hw => awake_c w (hw.rdm hO.toS memQ) (Pw_at hP hw memQ)) ?_
          )
 | (refine G_id ?_; first
 | refine G_then ?_
 | refine G_block ?_
 | refine G_blockX ?_
 | refine G_blockN rfl ?_
 | refine G_blockR ?_
 | refine G_thenR ?_
 | refine G_thenX ?_
 | refine G_ret rfl obQ (fun w hw => ⟨?_, hw.below⟩)
          )
        )
    all_goals rfl
  have hl : l.length ≤ 1000000 := by omega
  have h3 : (curveE l = 0 ∧ vE l lev = 0) ∨ (curveE l = 0 ∧ ¬ vE l lev = 0) ∨ (¬ curveE l = 0 ∧ ¬ vE l lev = 0) := by
    by_cases hb : curveE l = 0
    · by_cases ht : vE l lev = 0
      · exact .inl ⟨hb, ht⟩
      · exact .inr (.inl ⟨hb, ht⟩)
    · refine .inr (.inr ⟨hb, fun ht => hb ?_⟩)
      exact curve_ok.2 (vE_ok ht).1
  rcases h3 with ⟨hb, ht⟩ | ⟨hb, ht⟩ | ⟨hb, ht⟩
  · have hB : curveE l = 0 := hb
    have hok := curve_ok.1 hb
    have hI : invR l = (invF l, 0) := if_pos hb
    have hIn : (invF l).length = l.length := inv_len l
    have hIm : l.length ≤ 1000000 := by omega
    have hT : firstL [0, lvE lev] = 0 := by have := ht; unfold vE at this; rwa [hb] at this
    have hV : valR l lev = (valF l lev, 0) := if_pos ht
    have hU : survR l lev = (survF l lev, 0) := if_pos ht
    have hN : (valF l lev : Int) = if (0 : Int) = 0 then valF l lev else 0 := by simp
    by_cases hk : kneeE k0 k1 = 0
    · have hK : firstL [wi k0 0 16383, wi k1 1 64] = 0 := hk
      have hkn := kneeE_ok hk
      have hZ : kneeR k0 k1 = (kneeF k0 k1, 0) := if_pos hk
      have hZn : (kneeF k0 k1).length = 3 := rfl
      have hZm : 3 ≤ 1000000 := by omega
      repeat' (first
 | (refine C_id ?_; first
 | refine C_seq ?_
 | refine C_region rfl ?_
 | refine C_block ?_
 | refine C_skip ?_
 | refine C_exit ?_
 | refine C_ret0 ?_
 | refine C_drawV (id := 8) 10 [(0, true), (1, true), (5, true), (6, true), (8, true), (9, true), (2, false), (3, false), (4, false), (7, false)] rfl mixed (by kernel_rfl) rfl ?_
 | refine C_condT rfl obQ ?_
 | refine C_condF rfl obQ ?_
 | (refine C_cond rfl obQ (fun h => ?_) (fun h => ?_) <;> (try simp only [Bool.or_eq_true, Bool.and_eq_true, Bool.or_eq_false_iff, Bool.and_eq_false_iff, decide_eq_true_eq, decide_eq_false_iff_not, beq_iff_eq, bne_iff_ne, beq_eq_false_iff_ne, bne_eq_false_iff_eq, ne_eq, Decidable.not_not, List.cons.injEq, and_true, Bool.not_eq_true', Bool.not_eq_false', Int.not_lt, Int.not_le] at h) <;> (try (exfalso; omega)) <;> (try (exfalso; simp at h; done)) <;> (try (exfalso; simp only [not_true_eq_false, false_or, or_false] at h; omega)) <;> (try contradiction))
            )
 | (refine S_id ?_; first
 | ((with_reducible (first | refine S_trueE ?_ ?_ | refine S_trueB ?_ ?_ | refine S_trueL ?_ ?_ | refine S_trueD ?_ ?_ | refine S_trueN ?_ ?_)); · (first | exact beq_self_eq_true _ | rfl))
 | ((with_reducible refine S_trueA ?_ ?_ ?_); (· rfl); (· first | rfl | (first | exact beq_self_eq_true _ | rfl)))
 | refine S_unG rfl rfl rfl rfl ?_
 | (refine S_callM (f := 22) rfl obQ (by kernel_rfl) (fun w hw => lcurve_c A c l hl w (hw.rdm hr.toS memQ)) (fun w1C w2C vC hw1C hbC hRC => ?_); obtain ⟨AC, cC, rfl, hSC⟩ := hRC)
 | (refine S_callM (f := 23) rfl obQ (by kernel_rfl) (fun w hw => inverse_as hI hIn hl (hw.rdm hSC memQ)) (fun w1I w2I vI hw1I hbI hRI => ?_); obtain ⟨AI, cI, rfl, hSI⟩ := hRI)
 | (refine S_callM (f := 25) rfl obQ (by kernel_rfl) (fun w hw => knee_as hZ hZn) (fun w1K w2K vK hw1K hbK hRK => ?_); obtain ⟨AK, cK, rfl, hSK⟩ := hRK)
 | (refine S_callM (f := 37) rfl obQ (by kernel_rfl) (fun w hw => points_as hIn hIm (hw.rdm hSI memQ)) (fun w1P w2P vP hw1P hbP hRP => ?_); obtain ⟨AP, cP, rfl, hSP⟩ := hRP)
 | (refine S_callM (f := 37) rfl obQ (by kernel_rfl) (fun w hw => points_as hZn hZm (hw.rdm hSK memQ)) (fun w1Q w2Q vQ hw1Q hbQ hRQ => ?_); obtain ⟨AQ, cQ, rfl, hSQ⟩ := hRQ)
 | (refine S_callM (f := 32) rfl obQ (by kernel_rfl) (fun w hw => rInverse_c A c l hl w (hw.rdm hr.toS memQ)) (fun w1R w2R vR hw1R hbR hRR => ?_); obtain ⟨AR, cR, rfl, hSR⟩ := hRR)
 | (refine S_callM (f := 33) rfl obQ (by kernel_rfl) (fun w hw => rKnee_c k0 k1 hkn w) (fun w1N w2N vN hw1N hbN hRN => ?_); obtain ⟨AN, cN, rfl, hSN⟩ := hRN)
 | refine S_pure (binX_pure rfl obQ (fun w => eq_bool (by kernel_rfl) _ _ w)) ?_
 | refine S_nil ?_
 | refine S_runN rfl rfl obQ obQ ?_
 | refine S_box (fun b => ⟨_, _, rfl, obQ, ?_⟩)
 | refine S_slice (fun b => ⟨_, _, rfl, obQ, ?_⟩)
 | refine S_call (f := 19) rfl obQ (by kernel_rfl) (fun w hw => short_as true (decide_eq_true (by omega)) hmax) ?_
 | refine S_call (f := 21) rfl obQ (by kernel_rfl) (fun w hw => value_as hV hl (hw.rdm hSC memQ)) ?_
 | refine S_call (f := 24) rfl obQ (by kernel_rfl) (fun w hw => survives_as hU hl (hw.rdm hSC memQ)) ?_
 | refine S_call (f := 26) rfl obQ (by kernel_rfl) (fun w hw => rCheckCurve_as hB hl (hw.rdm hr.toS memQ)) ?_
 | refine S_call (f := 28) rfl obQ (by kernel_rfl) (fun w hw => rCheckLevel_c _ w) ?_
 | refine S_call (f := 29) rfl obQ (by kernel_rfl) (fun w hw => rRange_c _ _ _ w) ?_
 | refine S_call (f := 27) rfl obQ (by kernel_rfl) (fun w hw => lfirstE_c (l := [_, lvE lev]) hT (by simp) rfl _ w (.inr ⟨_, rfl, hw.src (i := 1) rfl rfl⟩)) ?_
 | refine S_call (f := 27) rfl obQ (by kernel_rfl) (fun w hw => lfirstE_c (l := [wi k0 0 16383, wi k1 1 64]) hK (by simp) rfl _ w (.inr ⟨_, rfl, hw.src (i := 2) rfl rfl⟩)) ?_
 | refine S_call (f := 34) rfl obQ (by kernel_rfl) (fun w hw => checkCurve_as hB hl (hw.rdm hSC memQ)) ?_
 | refine S_call (f := 35) rfl obQ (by kernel_rfl) (fun w hw => number_as hN rfl) ?_
 | refine S_call (f := 20) rfl obQ (by kernel_rfl) (fun w hw => awake_c w (hw.rdm hO.toS memQ) (Pw_at hP hw memQ)) ?_
 | refine S_call (f := 30) rfl obQ (by kernel_rfl) (fun w hw => rValue_c A c l lev hok w (hw.rdm hr.toS memQ)) ?_
 | refine S_call (f := 31) rfl obQ (by kernel_rfl) (fun w hw => rSurvives_c A c l hl lev hok w (hw.rdm hr.toS memQ)) ?_
 | refine S_call (f := 36) rfl obQ (by kernel_rfl) (fun w hw => sameCurveT_c _ _ _ _ _ _ hIn hIm w (hw.rdm hSP memQ) (hw.rdm hSR memQ)) ?_
 | refine S_call (f := 36) rfl obQ (by kernel_rfl) (fun w hw => sameCurveT_c _ _ _ _ _ _ hZn hZm w (hw.rdm hSQ memQ) (hw.rdm hSN memQ)) ?_
            )
 | (refine D_id ?_; first
 | refine D_nil ?_
 | refine D_tail ?_
 | refine D_run rfl rfl obQ obQ ?_
 | refine D_call (f := 19) rfl obQ (by kernel_rfl) (fun w hw => short_as true (decide_eq_true (by omega)) hmax) ?_
 | refine D_call (f := 21) rfl obQ (by kernel_rfl) (fun w hw => value_as hV hl (hw.rdm hSC memQ)) ?_
 | refine D_call (f := 24) rfl obQ (by kernel_rfl) (fun w hw => survives_as hU hl (hw.rdm hSC memQ)) ?_
 | refine D_call (f := 26) rfl obQ (by kernel_rfl) (fun w hw => rCheckCurve_as hB hl (hw.rdm hr.toS memQ)) ?_
 | refine D_call (f := 28) rfl obQ (by kernel_rfl) (fun w hw => rCheckLevel_c _ w) ?_
 | refine D_call (f := 29) rfl obQ (by kernel_rfl) (fun w hw => rRange_c _ _ _ w) ?_
 | refine D_call (f := 27) rfl obQ (by kernel_rfl) (fun w hw => lfirstE_c (l := [_, lvE lev]) hT (by simp) rfl _ w (.inr ⟨_, rfl, hw.src (i := 1) rfl rfl⟩)) ?_
 | refine D_call (f := 27) rfl obQ (by kernel_rfl) (fun w hw => lfirstE_c (l := [wi k0 0 16383, wi k1 1 64]) hK (by simp) rfl _ w (.inr ⟨_, rfl, hw.src (i := 2) rfl rfl⟩)) ?_
 | refine D_call (f := 34) rfl obQ (by kernel_rfl) (fun w hw => checkCurve_as hB hl (hw.rdm hSC memQ)) ?_
 | refine D_call (f := 35) rfl obQ (by kernel_rfl) (fun w hw => number_as hN rfl) ?_
 | refine D_call (f := 20) rfl obQ (by kernel_rfl) (fun w hw => awake_c w (hw.rdm hO.toS memQ) (Pw_at hP hw memQ)) ?_
 | refine D_call (f := 30) rfl obQ (by kernel_rfl) (fun w hw => rValue_c A c l lev hok w (hw.rdm hr.toS memQ)) ?_
 | refine D_call (f := 31) rfl obQ (by kernel_rfl) (fun w hw => rSurvives_c A c l hl lev hok w (hw.rdm hr.toS memQ)) ?_
 | refine D_call (f := 36) rfl obQ (by kernel_rfl) (fun w hw => sameCurveT_c _ _ _ _ _ _ hIn hIm w (hw.rdm hSP memQ) (hw.rdm hSR memQ)) ?_
 | refine D_call (f := 36) rfl obQ (by kernel_rfl) (fun w hw => sameCurveT_c _ _ _ _ _ _ hZn hZm w (hw.rdm hSQ memQ) (hw.rdm hSN memQ)) ?_
            )
 | (refine V_id ?_; first
 | refine V_nil ?_
 | refine V_q rfl (Yl_pure (binX_pure rfl obQ (fun w => eq_bool (by kernel_rfl) _ _ w))) ?_
 | refine V_q rfl (Yl_step rfl obQ) ?_
 | refine V_n rfl ?_
            )
 | (refine G_id ?_; first
 | refine G_V ⟨⟨_, rfl, trivial⟩, ⟨_, rfl⟩, rfl, pstQ⟩ rfl ?_
 | refine G_then ?_
 | refine G_block ?_
 | refine G_blockX ?_
 | refine G_blockN rfl ?_
 | refine G_blockR ?_
 | refine G_thenR ?_
 | refine G_thenX ?_
 | refine G_ret rfl obQ (fun w2 hw => ⟨?_, hw.below⟩)
            )
          )
      all_goals rfl
    · have hK : firstL [wi k0 0 16383, wi k1 1 64] = kneeE k0 k1 := rfl
      have hZ : kneeR k0 k1 = ([], kneeE k0 k1) := if_neg hk
      have hZn : (([] : List Pt)).length = 0 := rfl
      have hZm : 0 ≤ 1000000 := by omega
      repeat' (first
 | (refine C_id ?_; first
 | refine C_seq ?_
 | refine C_region rfl ?_
 | refine C_block ?_
 | refine C_skip ?_
 | refine C_exit ?_
 | refine C_ret0 ?_
 | refine C_drawV (id := 8) 10 [(0, true), (1, true), (5, true), (6, true), (8, true), (9, true), (2, false), (3, false), (4, false), (7, false)] rfl mixed (by kernel_rfl) rfl ?_
 | refine C_condT rfl obQ ?_
 | refine C_condF rfl obQ ?_
 | (refine C_cond rfl obQ (fun h => ?_) (fun h => ?_) <;> (try simp only [Bool.or_eq_true, Bool.and_eq_true, Bool.or_eq_false_iff, Bool.and_eq_false_iff, decide_eq_true_eq, decide_eq_false_iff_not, beq_iff_eq, bne_iff_ne, beq_eq_false_iff_ne, bne_eq_false_iff_eq, ne_eq, Decidable.not_not, List.cons.injEq, and_true, Bool.not_eq_true', Bool.not_eq_false', Int.not_lt, Int.not_le] at h) <;> (try (exfalso; omega)) <;> (try (exfalso; simp at h; done)) <;> (try (exfalso; simp only [not_true_eq_false, false_or, or_false] at h; omega)) <;> (try contradiction))
            )
 | (refine S_id ?_; first
 | ((with_reducible (first | refine S_trueE ?_ ?_ | refine S_trueB ?_ ?_ | refine S_trueL ?_ ?_ | refine S_trueD ?_ ?_ | refine S_trueN ?_ ?_)); · (first | exact beq_self_eq_true _ | rfl))
 | ((with_reducible refine S_trueA ?_ ?_ ?_); (· rfl); (· first | rfl | (first | exact beq_self_eq_true _ | rfl)))
 | refine S_unG rfl rfl rfl rfl ?_
 | (refine S_callM (f := 22) rfl obQ (by kernel_rfl) (fun w hw => lcurve_c A c l hl w (hw.rdm hr.toS memQ)) (fun w1C w2C vC hw1C hbC hRC => ?_); obtain ⟨AC, cC, rfl, hSC⟩ := hRC)
 | (refine S_callM (f := 23) rfl obQ (by kernel_rfl) (fun w hw => inverse_as hI hIn hl (hw.rdm hSC memQ)) (fun w1I w2I vI hw1I hbI hRI => ?_); obtain ⟨AI, cI, rfl, hSI⟩ := hRI)
 | (refine S_callM (f := 25) rfl obQ (by kernel_rfl) (fun w hw => knee_as hZ hZn) (fun w1K w2K vK hw1K hbK hRK => ?_); obtain ⟨AK, cK, rfl, hSK⟩ := hRK)
 | (refine S_callM (f := 37) rfl obQ (by kernel_rfl) (fun w hw => points_as hIn hIm (hw.rdm hSI memQ)) (fun w1P w2P vP hw1P hbP hRP => ?_); obtain ⟨AP, cP, rfl, hSP⟩ := hRP)
 | (refine S_callM (f := 37) rfl obQ (by kernel_rfl) (fun w hw => points_as hZn hZm (hw.rdm hSK memQ)) (fun w1Q w2Q vQ hw1Q hbQ hRQ => ?_); obtain ⟨AQ, cQ, rfl, hSQ⟩ := hRQ)
 | (refine S_callM (f := 32) rfl obQ (by kernel_rfl) (fun w hw => rInverse_c A c l hl w (hw.rdm hr.toS memQ)) (fun w1R w2R vR hw1R hbR hRR => ?_); obtain ⟨AR, cR, rfl, hSR⟩ := hRR)
 | refine S_pure (binX_pure rfl obQ (fun w => eq_bool (by kernel_rfl) _ _ w)) ?_
 | refine S_nil ?_
 | refine S_runN rfl rfl obQ obQ ?_
 | refine S_box (fun b => ⟨_, _, rfl, obQ, ?_⟩)
 | refine S_slice (fun b => ⟨_, _, rfl, obQ, ?_⟩)
 | refine S_call (f := 19) rfl obQ (by kernel_rfl) (fun w hw => short_as true (decide_eq_true (by omega)) hmax) ?_
 | refine S_call (f := 21) rfl obQ (by kernel_rfl) (fun w hw => value_as hV hl (hw.rdm hSC memQ)) ?_
 | refine S_call (f := 24) rfl obQ (by kernel_rfl) (fun w hw => survives_as hU hl (hw.rdm hSC memQ)) ?_
 | refine S_call (f := 26) rfl obQ (by kernel_rfl) (fun w hw => rCheckCurve_as hB hl (hw.rdm hr.toS memQ)) ?_
 | refine S_call (f := 28) rfl obQ (by kernel_rfl) (fun w hw => rCheckLevel_c _ w) ?_
 | refine S_call (f := 29) rfl obQ (by kernel_rfl) (fun w hw => rRange_c _ _ _ w) ?_
 | refine S_call (f := 27) rfl obQ (by kernel_rfl) (fun w hw => lfirstE_c (l := [_, lvE lev]) hT (by simp) rfl _ w (.inr ⟨_, rfl, hw.src (i := 1) rfl rfl⟩)) ?_
 | refine S_call (f := 27) rfl obQ (by kernel_rfl) (fun w hw => lfirstE_c (l := [wi k0 0 16383, wi k1 1 64]) hK (by simp) rfl _ w (.inr ⟨_, rfl, hw.src (i := 2) rfl rfl⟩)) ?_
 | refine S_call (f := 34) rfl obQ (by kernel_rfl) (fun w hw => checkCurve_as hB hl (hw.rdm hSC memQ)) ?_
 | refine S_call (f := 35) rfl obQ (by kernel_rfl) (fun w hw => number_as hN rfl) ?_
 | refine S_call (f := 20) rfl obQ (by kernel_rfl) (fun w hw => awake_c w (hw.rdm hO.toS memQ) (Pw_at hP hw memQ)) ?_
 | refine S_call (f := 30) rfl obQ (by kernel_rfl) (fun w hw => rValue_c A c l lev hok w (hw.rdm hr.toS memQ)) ?_
 | refine S_call (f := 31) rfl obQ (by kernel_rfl) (fun w hw => rSurvives_c A c l hl lev hok w (hw.rdm hr.toS memQ)) ?_
 | refine S_call (f := 36) rfl obQ (by kernel_rfl) (fun w hw => sameCurveT_c _ _ _ _ _ _ hIn hIm w (hw.rdm hSP memQ) (hw.rdm hSR memQ)) ?_
 | refine S_call (f := 36) rfl obQ (by kernel_rfl) (fun w hw => sameCurveT_c _ _ _ _ _ _ hZn hZm w (hw.rdm hSQ memQ) (.inl rfl)) ?_
            )
 | (refine D_id ?_; first
 | refine D_nil ?_
 | refine D_tail ?_
 | refine D_run rfl rfl obQ obQ ?_
 | refine D_call (f := 19) rfl obQ (by kernel_rfl) (fun w hw => short_as true (decide_eq_true (by omega)) hmax) ?_
 | refine D_call (f := 21) rfl obQ (by kernel_rfl) (fun w hw => value_as hV hl (hw.rdm hSC memQ)) ?_
 | refine D_call (f := 24) rfl obQ (by kernel_rfl) (fun w hw => survives_as hU hl (hw.rdm hSC memQ)) ?_
 | refine D_call (f := 26) rfl obQ (by kernel_rfl) (fun w hw => rCheckCurve_as hB hl (hw.rdm hr.toS memQ)) ?_
 | refine D_call (f := 28) rfl obQ (by kernel_rfl) (fun w hw => rCheckLevel_c _ w) ?_
 | refine D_call (f := 29) rfl obQ (by kernel_rfl) (fun w hw => rRange_c _ _ _ w) ?_
 | refine D_call (f := 27) rfl obQ (by kernel_rfl) (fun w hw => lfirstE_c (l := [_, lvE lev]) hT (by simp) rfl _ w (.inr ⟨_, rfl, hw.src (i := 1) rfl rfl⟩)) ?_
 | refine D_call (f := 27) rfl obQ (by kernel_rfl) (fun w hw => lfirstE_c (l := [wi k0 0 16383, wi k1 1 64]) hK (by simp) rfl _ w (.inr ⟨_, rfl, hw.src (i := 2) rfl rfl⟩)) ?_
 | refine D_call (f := 34) rfl obQ (by kernel_rfl) (fun w hw => checkCurve_as hB hl (hw.rdm hSC memQ)) ?_
 | refine D_call (f := 35) rfl obQ (by kernel_rfl) (fun w hw => number_as hN rfl) ?_
 | refine D_call (f := 20) rfl obQ (by kernel_rfl) (fun w hw => awake_c w (hw.rdm hO.toS memQ) (Pw_at hP hw memQ)) ?_
 | refine D_call (f := 30) rfl obQ (by kernel_rfl) (fun w hw => rValue_c A c l lev hok w (hw.rdm hr.toS memQ)) ?_
 | refine D_call (f := 31) rfl obQ (by kernel_rfl) (fun w hw => rSurvives_c A c l hl lev hok w (hw.rdm hr.toS memQ)) ?_
 | refine D_call (f := 36) rfl obQ (by kernel_rfl) (fun w hw => sameCurveT_c _ _ _ _ _ _ hIn hIm w (hw.rdm hSP memQ) (hw.rdm hSR memQ)) ?_
 | refine D_call (f := 36) rfl obQ (by kernel_rfl) (fun w hw => sameCurveT_c _ _ _ _ _ _ hZn hZm w (hw.rdm hSQ memQ) (.inl rfl)) ?_
            )
 | (refine V_id ?_; first
 | refine V_nil ?_
 | refine V_q rfl (Yl_pure (binX_pure rfl obQ (fun w => eq_bool (by kernel_rfl) _ _ w))) ?_
 | refine V_q rfl (Yl_step rfl obQ) ?_
 | refine V_n rfl ?_
            )
 | (refine G_id ?_; first
 | refine G_V ⟨⟨_, rfl, trivial⟩, ⟨_, rfl⟩, rfl, pstQ⟩ rfl ?_
 | refine G_then ?_
 | refine G_block ?_
 | refine G_blockX ?_
 | refine G_blockN rfl ?_
 | refine G_blockR ?_
 | refine G_thenR ?_
 | refine G_thenX ?_
 | refine G_ret rfl obQ (fun w2 hw => ⟨?_, hw.below⟩)
            )
          )
      all_goals rfl
  · have hB : curveE l = 0 := hb
    have hok := curve_ok.1 hb
    have hI : invR l = (invF l, 0) := if_pos hb
    have hIn : (invF l).length = l.length := inv_len l
    have hIm : l.length ≤ 1000000 := by omega
    have hT : firstL [0, lvE lev] = vE l lev := by unfold vE; rw [hb]
    have hV : valR l lev = (0, vE l lev) := if_neg ht
    have hU : survR l lev = (false, vE l lev) := if_neg ht
    have hN : (0 : Int) = if vE l lev = 0 then 0 else 0 := by simp
    by_cases hk : kneeE k0 k1 = 0
    · have hK : firstL [wi k0 0 16383, wi k1 1 64] = 0 := hk
      have hkn := kneeE_ok hk
      have hZ : kneeR k0 k1 = (kneeF k0 k1, 0) := if_pos hk
      have hZn : (kneeF k0 k1).length = 3 := rfl
      have hZm : 3 ≤ 1000000 := by omega
      repeat' (first
 | (refine C_id ?_; first
 | refine C_seq ?_
 | refine C_region rfl ?_
 | refine C_block ?_
 | refine C_skip ?_
 | refine C_exit ?_
 | refine C_ret0 ?_
 | refine C_drawV (id := 8) 10 [(0, true), (1, true), (5, true), (6, true), (8, true), (9, true), (2, false), (3, false), (4, false), (7, false)] rfl mixed (by kernel_rfl) rfl ?_
 | refine C_condT rfl obQ ?_
 | refine C_condF rfl obQ ?_
 | (refine C_cond rfl obQ (fun h => ?_) (fun h => ?_) <;> (try simp only [Bool.or_eq_true, Bool.and_eq_true, Bool.or_eq_false_iff, Bool.and_eq_false_iff, decide_eq_true_eq, decide_eq_false_iff_not, beq_iff_eq, bne_iff_ne, beq_eq_false_iff_ne, bne_eq_false_iff_eq, ne_eq, Decidable.not_not, List.cons.injEq, and_true, Bool.not_eq_true', Bool.not_eq_false', Int.not_lt, Int.not_le] at h) <;> (try (exfalso; omega)) <;> (try (exfalso; simp at h; done)) <;> (try (exfalso; simp only [not_true_eq_false, false_or, or_false] at h; omega)) <;> (try contradiction))
            )
 | (refine S_id ?_; first
 | ((with_reducible (first | refine S_trueE ?_ ?_ | refine S_trueB ?_ ?_ | refine S_trueL ?_ ?_ | refine S_trueD ?_ ?_ | refine S_trueN ?_ ?_)); · (first | exact beq_self_eq_true _ | rfl))
 | ((with_reducible refine S_trueA ?_ ?_ ?_); (· rfl); (· first | rfl | (first | exact beq_self_eq_true _ | rfl)))
 | refine S_unG rfl rfl rfl rfl ?_
 | (refine S_callM (f := 22) rfl obQ (by kernel_rfl) (fun w hw => lcurve_c A c l hl w (hw.rdm hr.toS memQ)) (fun w1C w2C vC hw1C hbC hRC => ?_); obtain ⟨AC, cC, rfl, hSC⟩ := hRC)
 | (refine S_callM (f := 23) rfl obQ (by kernel_rfl) (fun w hw => inverse_as hI hIn hl (hw.rdm hSC memQ)) (fun w1I w2I vI hw1I hbI hRI => ?_); obtain ⟨AI, cI, rfl, hSI⟩ := hRI)
 | (refine S_callM (f := 25) rfl obQ (by kernel_rfl) (fun w hw => knee_as hZ hZn) (fun w1K w2K vK hw1K hbK hRK => ?_); obtain ⟨AK, cK, rfl, hSK⟩ := hRK)
 | (refine S_callM (f := 37) rfl obQ (by kernel_rfl) (fun w hw => points_as hIn hIm (hw.rdm hSI memQ)) (fun w1P w2P vP hw1P hbP hRP => ?_); obtain ⟨AP, cP, rfl, hSP⟩ := hRP)
 | (refine S_callM (f := 37) rfl obQ (by kernel_rfl) (fun w hw => points_as hZn hZm (hw.rdm hSK memQ)) (fun w1Q w2Q vQ hw1Q hbQ hRQ => ?_); obtain ⟨AQ, cQ, rfl, hSQ⟩ := hRQ)
 | (refine S_callM (f := 32) rfl obQ (by kernel_rfl) (fun w hw => rInverse_c A c l hl w (hw.rdm hr.toS memQ)) (fun w1R w2R vR hw1R hbR hRR => ?_); obtain ⟨AR, cR, rfl, hSR⟩ := hRR)
 | (refine S_callM (f := 33) rfl obQ (by kernel_rfl) (fun w hw => rKnee_c k0 k1 hkn w) (fun w1N w2N vN hw1N hbN hRN => ?_); obtain ⟨AN, cN, rfl, hSN⟩ := hRN)
 | refine S_pure (binX_pure rfl obQ (fun w => eq_bool (by kernel_rfl) _ _ w)) ?_
 | refine S_nil ?_
 | refine S_runN rfl rfl obQ obQ ?_
 | refine S_box (fun b => ⟨_, _, rfl, obQ, ?_⟩)
 | refine S_slice (fun b => ⟨_, _, rfl, obQ, ?_⟩)
 | refine S_call (f := 19) rfl obQ (by kernel_rfl) (fun w hw => short_as true (decide_eq_true (by omega)) hmax) ?_
 | refine S_call (f := 21) rfl obQ (by kernel_rfl) (fun w hw => value_as hV hl (hw.rdm hSC memQ)) ?_
 | refine S_call (f := 24) rfl obQ (by kernel_rfl) (fun w hw => survives_as hU hl (hw.rdm hSC memQ)) ?_
 | refine S_call (f := 26) rfl obQ (by kernel_rfl) (fun w hw => rCheckCurve_as hB hl (hw.rdm hr.toS memQ)) ?_
 | refine S_call (f := 28) rfl obQ (by kernel_rfl) (fun w hw => rCheckLevel_c _ w) ?_
 | refine S_call (f := 29) rfl obQ (by kernel_rfl) (fun w hw => rRange_c _ _ _ w) ?_
 | refine S_call (f := 27) rfl obQ (by kernel_rfl) (fun w hw => lfirstE_c (l := [_, lvE lev]) hT (by simp) rfl _ w (.inr ⟨_, rfl, hw.src (i := 1) rfl rfl⟩)) ?_
 | refine S_call (f := 27) rfl obQ (by kernel_rfl) (fun w hw => lfirstE_c (l := [wi k0 0 16383, wi k1 1 64]) hK (by simp) rfl _ w (.inr ⟨_, rfl, hw.src (i := 2) rfl rfl⟩)) ?_
 | refine S_call (f := 34) rfl obQ (by kernel_rfl) (fun w hw => checkCurve_as hB hl (hw.rdm hSC memQ)) ?_
 | refine S_call (f := 35) rfl obQ (by kernel_rfl) (fun w hw => number_as hN rfl) ?_
 | refine S_call (f := 20) rfl obQ (by kernel_rfl) (fun w hw => awake_c w (hw.rdm hO.toS memQ) (Pw_at hP hw memQ)) ?_
 | refine S_call (f := 36) rfl obQ (by kernel_rfl) (fun w hw => sameCurveT_c _ _ _ _ _ _ hIn hIm w (hw.rdm hSP memQ) (hw.rdm hSR memQ)) ?_
 | refine S_call (f := 36) rfl obQ (by kernel_rfl) (fun w hw => sameCurveT_c _ _ _ _ _ _ hZn hZm w (hw.rdm hSQ memQ) (hw.rdm hSN memQ)) ?_
            )
 | (refine D_id ?_; first
 | refine D_nil ?_
 | refine D_tail ?_
 | refine D_run rfl rfl obQ obQ ?_
 | refine D_call (f := 19) rfl obQ (by kernel_rfl) (fun w hw => short_as true (decide_eq_true (by omega)) hmax) ?_
 | refine D_call (f := 21) rfl obQ (by kernel_rfl) (fun w hw => value_as hV hl (hw.rdm hSC memQ)) ?_
 | refine D_call (f := 24) rfl obQ (by kernel_rfl) (fun w hw => survives_as hU hl (hw.rdm hSC memQ)) ?_
 | refine D_call (f := 26) rfl obQ (by kernel_rfl) (fun w hw => rCheckCurve_as hB hl (hw.rdm hr.toS memQ)) ?_
 | refine D_call (f := 28) rfl obQ (by kernel_rfl) (fun w hw => rCheckLevel_c _ w) ?_
 | refine D_call (f := 29) rfl obQ (by kernel_rfl) (fun w hw => rRange_c _ _ _ w) ?_
 | refine D_call (f := 27) rfl obQ (by kernel_rfl) (fun w hw => lfirstE_c (l := [_, lvE lev]) hT (by simp) rfl _ w (.inr ⟨_, rfl, hw.src (i := 1) rfl rfl⟩)) ?_
 | refine D_call (f := 27) rfl obQ (by kernel_rfl) (fun w hw => lfirstE_c (l := [wi k0 0 16383, wi k1 1 64]) hK (by simp) rfl _ w (.inr ⟨_, rfl, hw.src (i := 2) rfl rfl⟩)) ?_
 | refine D_call (f := 34) rfl obQ (by kernel_rfl) (fun w hw => checkCurve_as hB hl (hw.rdm hSC memQ)) ?_
 | refine D_call (f := 35) rfl obQ (by kernel_rfl) (fun w hw => number_as hN rfl) ?_
 | refine D_call (f := 20) rfl obQ (by kernel_rfl) (fun w hw => awake_c w (hw.rdm hO.toS memQ) (Pw_at hP hw memQ)) ?_
 | refine D_call (f := 36) rfl obQ (by kernel_rfl) (fun w hw => sameCurveT_c _ _ _ _ _ _ hIn hIm w (hw.rdm hSP memQ) (hw.rdm hSR memQ)) ?_
 | refine D_call (f := 36) rfl obQ (by kernel_rfl) (fun w hw => sameCurveT_c _ _ _ _ _ _ hZn hZm w (hw.rdm hSQ memQ) (hw.rdm hSN memQ)) ?_
            )
 | (refine V_id ?_; first
 | refine V_nil ?_
 | refine V_q rfl (Yl_pure (binX_pure rfl obQ (fun w => eq_bool (by kernel_rfl) _ _ w))) ?_
 | refine V_q rfl (Yl_step rfl obQ) ?_
 | refine V_n rfl ?_
            )
 | (refine G_id ?_; first
 | refine G_V ⟨⟨_, rfl, trivial⟩, ⟨_, rfl⟩, rfl, pstQ⟩ rfl ?_
 | refine G_then ?_
 | refine G_block ?_
 | refine G_blockX ?_
 | refine G_blockN rfl ?_
 | refine G_blockR ?_
 | refine G_thenR ?_
 | refine G_thenX ?_
 | refine G_ret rfl obQ (fun w2 hw => ⟨?_, hw.below⟩)
            )
          )
      all_goals rfl
    · have hK : firstL [wi k0 0 16383, wi k1 1 64] = kneeE k0 k1 := rfl
      have hZ : kneeR k0 k1 = ([], kneeE k0 k1) := if_neg hk
      have hZn : (([] : List Pt)).length = 0 := rfl
      have hZm : 0 ≤ 1000000 := by omega
      repeat' (first
 | (refine C_id ?_; first
 | refine C_seq ?_
 | refine C_region rfl ?_
 | refine C_block ?_
 | refine C_skip ?_
 | refine C_exit ?_
 | refine C_ret0 ?_
 | refine C_drawV (id := 8) 10 [(0, true), (1, true), (5, true), (6, true), (8, true), (9, true), (2, false), (3, false), (4, false), (7, false)] rfl mixed (by kernel_rfl) rfl ?_
 | refine C_condT rfl obQ ?_
 | refine C_condF rfl obQ ?_
 | (refine C_cond rfl obQ (fun h => ?_) (fun h => ?_) <;> (try simp only [Bool.or_eq_true, Bool.and_eq_true, Bool.or_eq_false_iff, Bool.and_eq_false_iff, decide_eq_true_eq, decide_eq_false_iff_not, beq_iff_eq, bne_iff_ne, beq_eq_false_iff_ne, bne_eq_false_iff_eq, ne_eq, Decidable.not_not, List.cons.injEq, and_true, Bool.not_eq_true', Bool.not_eq_false', Int.not_lt, Int.not_le] at h) <;> (try (exfalso; omega)) <;> (try (exfalso; simp at h; done)) <;> (try (exfalso; simp only [not_true_eq_false, false_or, or_false] at h; omega)) <;> (try contradiction))
            )
 | (refine S_id ?_; first
 | ((with_reducible (first | refine S_trueE ?_ ?_ | refine S_trueB ?_ ?_ | refine S_trueL ?_ ?_ | refine S_trueD ?_ ?_ | refine S_trueN ?_ ?_)); · (first | exact beq_self_eq_true _ | rfl))
 | ((with_reducible refine S_trueA ?_ ?_ ?_); (· rfl); (· first | rfl | (first | exact beq_self_eq_true _ | rfl)))
 | refine S_unG rfl rfl rfl rfl ?_
 | (refine S_callM (f := 22) rfl obQ (by kernel_rfl) (fun w hw => lcurve_c A c l hl w (hw.rdm hr.toS memQ)) (fun w1C w2C vC hw1C hbC hRC => ?_); obtain ⟨AC, cC, rfl, hSC⟩ := hRC)
 | (refine S_callM (f := 23) rfl obQ (by kernel_rfl) (fun w hw => inverse_as hI hIn hl (hw.rdm hSC memQ)) (fun w1I w2I vI hw1I hbI hRI => ?_); obtain ⟨AI, cI, rfl, hSI⟩ := hRI)
 | (refine S_callM (f := 25) rfl obQ (by kernel_rfl) (fun w hw => knee_as hZ hZn) (fun w1K w2K vK hw1K hbK hRK => ?_); obtain ⟨AK, cK, rfl, hSK⟩ := hRK)
 | (refine S_callM (f := 37) rfl obQ (by kernel_rfl) (fun w hw => points_as hIn hIm (hw.rdm hSI memQ)) (fun w1P w2P vP hw1P hbP hRP => ?_); obtain ⟨AP, cP, rfl, hSP⟩ := hRP)
 | (refine S_callM (f := 37) rfl obQ (by kernel_rfl) (fun w hw => points_as hZn hZm (hw.rdm hSK memQ)) (fun w1Q w2Q vQ hw1Q hbQ hRQ => ?_); obtain ⟨AQ, cQ, rfl, hSQ⟩ := hRQ)
 | (refine S_callM (f := 32) rfl obQ (by kernel_rfl) (fun w hw => rInverse_c A c l hl w (hw.rdm hr.toS memQ)) (fun w1R w2R vR hw1R hbR hRR => ?_); obtain ⟨AR, cR, rfl, hSR⟩ := hRR)
 | refine S_pure (binX_pure rfl obQ (fun w => eq_bool (by kernel_rfl) _ _ w)) ?_
 | refine S_nil ?_
 | refine S_runN rfl rfl obQ obQ ?_
 | refine S_box (fun b => ⟨_, _, rfl, obQ, ?_⟩)
 | refine S_slice (fun b => ⟨_, _, rfl, obQ, ?_⟩)
 | refine S_call (f := 19) rfl obQ (by kernel_rfl) (fun w hw => short_as true (decide_eq_true (by omega)) hmax) ?_
 | refine S_call (f := 21) rfl obQ (by kernel_rfl) (fun w hw => value_as hV hl (hw.rdm hSC memQ)) ?_
 | refine S_call (f := 24) rfl obQ (by kernel_rfl) (fun w hw => survives_as hU hl (hw.rdm hSC memQ)) ?_
 | refine S_call (f := 26) rfl obQ (by kernel_rfl) (fun w hw => rCheckCurve_as hB hl (hw.rdm hr.toS memQ)) ?_
 | refine S_call (f := 28) rfl obQ (by kernel_rfl) (fun w hw => rCheckLevel_c _ w) ?_
 | refine S_call (f := 29) rfl obQ (by kernel_rfl) (fun w hw => rRange_c _ _ _ w) ?_
 | refine S_call (f := 27) rfl obQ (by kernel_rfl) (fun w hw => lfirstE_c (l := [_, lvE lev]) hT (by simp) rfl _ w (.inr ⟨_, rfl, hw.src (i := 1) rfl rfl⟩)) ?_
 | refine S_call (f := 27) rfl obQ (by kernel_rfl) (fun w hw => lfirstE_c (l := [wi k0 0 16383, wi k1 1 64]) hK (by simp) rfl _ w (.inr ⟨_, rfl, hw.src (i := 2) rfl rfl⟩)) ?_
 | refine S_call (f := 34) rfl obQ (by kernel_rfl) (fun w hw => checkCurve_as hB hl (hw.rdm hSC memQ)) ?_
 | refine S_call (f := 35) rfl obQ (by kernel_rfl) (fun w hw => number_as hN rfl) ?_
 | refine S_call (f := 20) rfl obQ (by kernel_rfl) (fun w hw => awake_c w (hw.rdm hO.toS memQ) (Pw_at hP hw memQ)) ?_
 | refine S_call (f := 36) rfl obQ (by kernel_rfl) (fun w hw => sameCurveT_c _ _ _ _ _ _ hIn hIm w (hw.rdm hSP memQ) (hw.rdm hSR memQ)) ?_
 | refine S_call (f := 36) rfl obQ (by kernel_rfl) (fun w hw => sameCurveT_c _ _ _ _ _ _ hZn hZm w (hw.rdm hSQ memQ) (.inl rfl)) ?_
            )
 | (refine D_id ?_; first
 | refine D_nil ?_
 | refine D_tail ?_
 | refine D_run rfl rfl obQ obQ ?_
 | refine D_call (f := 19) rfl obQ (by kernel_rfl) (fun w hw => short_as true (decide_eq_true (by omega)) hmax) ?_
 | refine D_call (f := 21) rfl obQ (by kernel_rfl) (fun w hw => value_as hV hl (hw.rdm hSC memQ)) ?_
 | refine D_call (f := 24) rfl obQ (by kernel_rfl) (fun w hw => survives_as hU hl (hw.rdm hSC memQ)) ?_
 | refine D_call (f := 26) rfl obQ (by kernel_rfl) (fun w hw => rCheckCurve_as hB hl (hw.rdm hr.toS memQ)) ?_
 | refine D_call (f := 28) rfl obQ (by kernel_rfl) (fun w hw => rCheckLevel_c _ w) ?_
 | refine D_call (f := 29) rfl obQ (by kernel_rfl) (fun w hw => rRange_c _ _ _ w) ?_
 | refine D_call (f := 27) rfl obQ (by kernel_rfl) (fun w hw => lfirstE_c (l := [_, lvE lev]) hT (by simp) rfl _ w (.inr ⟨_, rfl, hw.src (i := 1) rfl rfl⟩)) ?_
 | refine D_call (f := 27) rfl obQ (by kernel_rfl) (fun w hw => lfirstE_c (l := [wi k0 0 16383, wi k1 1 64]) hK (by simp) rfl _ w (.inr ⟨_, rfl, hw.src (i := 2) rfl rfl⟩)) ?_
 | refine D_call (f := 34) rfl obQ (by kernel_rfl) (fun w hw => checkCurve_as hB hl (hw.rdm hSC memQ)) ?_
 | refine D_call (f := 35) rfl obQ (by kernel_rfl) (fun w hw => number_as hN rfl) ?_
 | refine D_call (f := 20) rfl obQ (by kernel_rfl) (fun w hw => awake_c w (hw.rdm hO.toS memQ) (Pw_at hP hw memQ)) ?_
 | refine D_call (f := 36) rfl obQ (by kernel_rfl) (fun w hw => sameCurveT_c _ _ _ _ _ _ hIn hIm w (hw.rdm hSP memQ) (hw.rdm hSR memQ)) ?_
 | refine D_call (f := 36) rfl obQ (by kernel_rfl) (fun w hw => sameCurveT_c _ _ _ _ _ _ hZn hZm w (hw.rdm hSQ memQ) (.inl rfl)) ?_
            )
 | (refine V_id ?_; first
 | refine V_nil ?_
 | refine V_q rfl (Yl_pure (binX_pure rfl obQ (fun w => eq_bool (by kernel_rfl) _ _ w))) ?_
 | refine V_q rfl (Yl_step rfl obQ) ?_
 | refine V_n rfl ?_
            )
 | (refine G_id ?_; first
 | refine G_V ⟨⟨_, rfl, trivial⟩, ⟨_, rfl⟩, rfl, pstQ⟩ rfl ?_
 | refine G_then ?_
 | refine G_block ?_
 | refine G_blockX ?_
 | refine G_blockN rfl ?_
 | refine G_blockR ?_
 | refine G_thenR ?_
 | refine G_thenX ?_
 | refine G_ret rfl obQ (fun w2 hw => ⟨?_, hw.below⟩)
            )
          )
      all_goals rfl
  · have hB : curveE l = curveE l := rfl
    have hI : invR l = ([], curveE l) := if_neg hb
    have hIn : (([] : List Pt)).length = 0 := rfl
    have hIm : 0 ≤ 1000000 := by omega
    have hT : firstL [curveE l, lvE lev] = vE l lev := rfl
    have hV : valR l lev = (0, vE l lev) := if_neg ht
    have hU : survR l lev = (false, vE l lev) := if_neg ht
    have hN : (0 : Int) = if vE l lev = 0 then 0 else 0 := by simp
    by_cases hk : kneeE k0 k1 = 0
    · have hK : firstL [wi k0 0 16383, wi k1 1 64] = 0 := hk
      have hkn := kneeE_ok hk
      have hZ : kneeR k0 k1 = (kneeF k0 k1, 0) := if_pos hk
      have hZn : (kneeF k0 k1).length = 3 := rfl
      have hZm : 3 ≤ 1000000 := by omega
      repeat' (first
 | (refine C_id ?_; first
 | refine C_seq ?_
 | refine C_region rfl ?_
 | refine C_block ?_
 | refine C_skip ?_
 | refine C_exit ?_
 | refine C_ret0 ?_
 | refine C_drawV (id := 8) 10 [(0, true), (1, true), (5, true), (6, true), (8, true), (9, true), (2, false), (3, false), (4, false), (7, false)] rfl mixed (by kernel_rfl) rfl ?_
 | refine C_condT rfl obQ ?_
 | refine C_condF rfl obQ ?_
 | (refine C_cond rfl obQ (fun h => ?_) (fun h => ?_) <;> (try simp only [Bool.or_eq_true, Bool.and_eq_true, Bool.or_eq_false_iff, Bool.and_eq_false_iff, decide_eq_true_eq, decide_eq_false_iff_not, beq_iff_eq, bne_iff_ne, beq_eq_false_iff_ne, bne_eq_false_iff_eq, ne_eq, Decidable.not_not, List.cons.injEq, and_true, Bool.not_eq_true', Bool.not_eq_false', Int.not_lt, Int.not_le] at h) <;> (try (exfalso; omega)) <;> (try (exfalso; simp at h; done)) <;> (try (exfalso; simp only [not_true_eq_false, false_or, or_false] at h; omega)) <;> (try contradiction))
            )
 | (refine S_id ?_; first
 | ((with_reducible (first | refine S_trueE ?_ ?_ | refine S_trueB ?_ ?_ | refine S_trueL ?_ ?_ | refine S_trueD ?_ ?_ | refine S_trueN ?_ ?_)); · (first | exact beq_self_eq_true _ | rfl))
 | ((with_reducible refine S_trueA ?_ ?_ ?_); (· rfl); (· first | rfl | (first | exact beq_self_eq_true _ | rfl)))
 | refine S_unG rfl rfl rfl rfl ?_
 | (refine S_callM (f := 22) rfl obQ (by kernel_rfl) (fun w hw => lcurve_c A c l hl w (hw.rdm hr.toS memQ)) (fun w1C w2C vC hw1C hbC hRC => ?_); obtain ⟨AC, cC, rfl, hSC⟩ := hRC)
 | (refine S_callM (f := 23) rfl obQ (by kernel_rfl) (fun w hw => inverse_as hI hIn hl (hw.rdm hSC memQ)) (fun w1I w2I vI hw1I hbI hRI => ?_); obtain ⟨AI, cI, rfl, hSI⟩ := hRI)
 | (refine S_callM (f := 25) rfl obQ (by kernel_rfl) (fun w hw => knee_as hZ hZn) (fun w1K w2K vK hw1K hbK hRK => ?_); obtain ⟨AK, cK, rfl, hSK⟩ := hRK)
 | (refine S_callM (f := 37) rfl obQ (by kernel_rfl) (fun w hw => points_as hIn hIm (hw.rdm hSI memQ)) (fun w1P w2P vP hw1P hbP hRP => ?_); obtain ⟨AP, cP, rfl, hSP⟩ := hRP)
 | (refine S_callM (f := 37) rfl obQ (by kernel_rfl) (fun w hw => points_as hZn hZm (hw.rdm hSK memQ)) (fun w1Q w2Q vQ hw1Q hbQ hRQ => ?_); obtain ⟨AQ, cQ, rfl, hSQ⟩ := hRQ)
 | (refine S_callM (f := 33) rfl obQ (by kernel_rfl) (fun w hw => rKnee_c k0 k1 hkn w) (fun w1N w2N vN hw1N hbN hRN => ?_); obtain ⟨AN, cN, rfl, hSN⟩ := hRN)
 | refine S_pure (binX_pure rfl obQ (fun w => eq_bool (by kernel_rfl) _ _ w)) ?_
 | refine S_nil ?_
 | refine S_runN rfl rfl obQ obQ ?_
 | refine S_box (fun b => ⟨_, _, rfl, obQ, ?_⟩)
 | refine S_slice (fun b => ⟨_, _, rfl, obQ, ?_⟩)
 | refine S_call (f := 19) rfl obQ (by kernel_rfl) (fun w hw => short_as true (decide_eq_true (by omega)) hmax) ?_
 | refine S_call (f := 21) rfl obQ (by kernel_rfl) (fun w hw => value_as hV hl (hw.rdm hSC memQ)) ?_
 | refine S_call (f := 24) rfl obQ (by kernel_rfl) (fun w hw => survives_as hU hl (hw.rdm hSC memQ)) ?_
 | refine S_call (f := 26) rfl obQ (by kernel_rfl) (fun w hw => rCheckCurve_as hB hl (hw.rdm hr.toS memQ)) ?_
 | refine S_call (f := 28) rfl obQ (by kernel_rfl) (fun w hw => rCheckLevel_c _ w) ?_
 | refine S_call (f := 29) rfl obQ (by kernel_rfl) (fun w hw => rRange_c _ _ _ w) ?_
 | refine S_call (f := 27) rfl obQ (by kernel_rfl) (fun w hw => lfirstE_c (l := [_, lvE lev]) hT (by simp) rfl _ w (.inr ⟨_, rfl, hw.src (i := 1) rfl rfl⟩)) ?_
 | refine S_call (f := 27) rfl obQ (by kernel_rfl) (fun w hw => lfirstE_c (l := [wi k0 0 16383, wi k1 1 64]) hK (by simp) rfl _ w (.inr ⟨_, rfl, hw.src (i := 2) rfl rfl⟩)) ?_
 | refine S_call (f := 34) rfl obQ (by kernel_rfl) (fun w hw => checkCurve_as hB hl (hw.rdm hSC memQ)) ?_
 | refine S_call (f := 35) rfl obQ (by kernel_rfl) (fun w hw => number_as hN rfl) ?_
 | refine S_call (f := 20) rfl obQ (by kernel_rfl) (fun w hw => awake_c w (hw.rdm hO.toS memQ) (Pw_at hP hw memQ)) ?_
 | refine S_call (f := 36) rfl obQ (by kernel_rfl) (fun w hw => sameCurveT_c _ _ _ _ _ _ hIn hIm w (hw.rdm hSP memQ) (.inl rfl)) ?_
 | refine S_call (f := 36) rfl obQ (by kernel_rfl) (fun w hw => sameCurveT_c _ _ _ _ _ _ hZn hZm w (hw.rdm hSQ memQ) (hw.rdm hSN memQ)) ?_
            )
 | (refine D_id ?_; first
 | refine D_nil ?_
 | refine D_tail ?_
 | refine D_run rfl rfl obQ obQ ?_
 | refine D_call (f := 19) rfl obQ (by kernel_rfl) (fun w hw => short_as true (decide_eq_true (by omega)) hmax) ?_
 | refine D_call (f := 21) rfl obQ (by kernel_rfl) (fun w hw => value_as hV hl (hw.rdm hSC memQ)) ?_
 | refine D_call (f := 24) rfl obQ (by kernel_rfl) (fun w hw => survives_as hU hl (hw.rdm hSC memQ)) ?_
 | refine D_call (f := 26) rfl obQ (by kernel_rfl) (fun w hw => rCheckCurve_as hB hl (hw.rdm hr.toS memQ)) ?_
 | refine D_call (f := 28) rfl obQ (by kernel_rfl) (fun w hw => rCheckLevel_c _ w) ?_
 | refine D_call (f := 29) rfl obQ (by kernel_rfl) (fun w hw => rRange_c _ _ _ w) ?_
 | refine D_call (f := 27) rfl obQ (by kernel_rfl) (fun w hw => lfirstE_c (l := [_, lvE lev]) hT (by simp) rfl _ w (.inr ⟨_, rfl, hw.src (i := 1) rfl rfl⟩)) ?_
 | refine D_call (f := 27) rfl obQ (by kernel_rfl) (fun w hw => lfirstE_c (l := [wi k0 0 16383, wi k1 1 64]) hK (by simp) rfl _ w (.inr ⟨_, rfl, hw.src (i := 2) rfl rfl⟩)) ?_
 | refine D_call (f := 34) rfl obQ (by kernel_rfl) (fun w hw => checkCurve_as hB hl (hw.rdm hSC memQ)) ?_
 | refine D_call (f := 35) rfl obQ (by kernel_rfl) (fun w hw => number_as hN rfl) ?_
 | refine D_call (f := 20) rfl obQ (by kernel_rfl) (fun w hw => awake_c w (hw.rdm hO.toS memQ) (Pw_at hP hw memQ)) ?_
 | refine D_call (f := 36) rfl obQ (by kernel_rfl) (fun w hw => sameCurveT_c _ _ _ _ _ _ hIn hIm w (hw.rdm hSP memQ) (.inl rfl)) ?_
 | refine D_call (f := 36) rfl obQ (by kernel_rfl) (fun w hw => sameCurveT_c _ _ _ _ _ _ hZn hZm w (hw.rdm hSQ memQ) (hw.rdm hSN memQ)) ?_
            )
 | (refine V_id ?_; first
 | refine V_nil ?_
 | refine V_q rfl (Yl_pure (binX_pure rfl obQ (fun w => eq_bool (by kernel_rfl) _ _ w))) ?_
 | refine V_q rfl (Yl_step rfl obQ) ?_
 | refine V_n rfl ?_
            )
 | (refine G_id ?_; first
 | refine G_V ⟨⟨_, rfl, trivial⟩, ⟨_, rfl⟩, rfl, pstQ⟩ rfl ?_
 | refine G_then ?_
 | refine G_block ?_
 | refine G_blockX ?_
 | refine G_blockN rfl ?_
 | refine G_blockR ?_
 | refine G_thenR ?_
 | refine G_thenX ?_
 | refine G_ret rfl obQ (fun w2 hw => ⟨?_, hw.below⟩)
            )
          )
      all_goals rfl
    · have hK : firstL [wi k0 0 16383, wi k1 1 64] = kneeE k0 k1 := rfl
      have hZ : kneeR k0 k1 = ([], kneeE k0 k1) := if_neg hk
      have hZn : (([] : List Pt)).length = 0 := rfl
      have hZm : 0 ≤ 1000000 := by omega
      repeat' (first
 | (refine C_id ?_; first
 | refine C_seq ?_
 | refine C_region rfl ?_
 | refine C_block ?_
 | refine C_skip ?_
 | refine C_exit ?_
 | refine C_ret0 ?_
 | refine C_drawV (id := 8) 10 [(0, true), (1, true), (5, true), (6, true), (8, true), (9, true), (2, false), (3, false), (4, false), (7, false)] rfl mixed (by kernel_rfl) rfl ?_
 | refine C_condT rfl obQ ?_
 | refine C_condF rfl obQ ?_
 | (refine C_cond rfl obQ (fun h => ?_) (fun h => ?_) <;> (try simp only [Bool.or_eq_true, Bool.and_eq_true, Bool.or_eq_false_iff, Bool.and_eq_false_iff, decide_eq_true_eq, decide_eq_false_iff_not, beq_iff_eq, bne_iff_ne, beq_eq_false_iff_ne, bne_eq_false_iff_eq, ne_eq, Decidable.not_not, List.cons.injEq, and_true, Bool.not_eq_true', Bool.not_eq_false', Int.not_lt, Int.not_le] at h) <;> (try (exfalso; omega)) <;> (try (exfalso; simp at h; done)) <;> (try (exfalso; simp only [not_true_eq_false, false_or, or_false] at h; omega)) <;> (try contradiction))
            )
 | (refine S_id ?_; first
 | ((with_reducible (first | refine S_trueE ?_ ?_ | refine S_trueB ?_ ?_ | refine S_trueL ?_ ?_ | refine S_trueD ?_ ?_ | refine S_trueN ?_ ?_)); · (first | exact beq_self_eq_true _ | rfl))
 | ((with_reducible refine S_trueA ?_ ?_ ?_); (· rfl); (· first | rfl | (first | exact beq_self_eq_true _ | rfl)))
 | refine S_unG rfl rfl rfl rfl ?_
 | (refine S_callM (f := 22) rfl obQ (by kernel_rfl) (fun w hw => lcurve_c A c l hl w (hw.rdm hr.toS memQ)) (fun w1C w2C vC hw1C hbC hRC => ?_); obtain ⟨AC, cC, rfl, hSC⟩ := hRC)
 | (refine S_callM (f := 23) rfl obQ (by kernel_rfl) (fun w hw => inverse_as hI hIn hl (hw.rdm hSC memQ)) (fun w1I w2I vI hw1I hbI hRI => ?_); obtain ⟨AI, cI, rfl, hSI⟩ := hRI)
 | (refine S_callM (f := 25) rfl obQ (by kernel_rfl) (fun w hw => knee_as hZ hZn) (fun w1K w2K vK hw1K hbK hRK => ?_); obtain ⟨AK, cK, rfl, hSK⟩ := hRK)
 | (refine S_callM (f := 37) rfl obQ (by kernel_rfl) (fun w hw => points_as hIn hIm (hw.rdm hSI memQ)) (fun w1P w2P vP hw1P hbP hRP => ?_); obtain ⟨AP, cP, rfl, hSP⟩ := hRP)
 | (refine S_callM (f := 37) rfl obQ (by kernel_rfl) (fun w hw => points_as hZn hZm (hw.rdm hSK memQ)) (fun w1Q w2Q vQ hw1Q hbQ hRQ => ?_); obtain ⟨AQ, cQ, rfl, hSQ⟩ := hRQ)
 | refine S_pure (binX_pure rfl obQ (fun w => eq_bool (by kernel_rfl) _ _ w)) ?_
 | refine S_nil ?_
 | refine S_runN rfl rfl obQ obQ ?_
 | refine S_box (fun b => ⟨_, _, rfl, obQ, ?_⟩)
 | refine S_slice (fun b => ⟨_, _, rfl, obQ, ?_⟩)
 | refine S_call (f := 19) rfl obQ (by kernel_rfl) (fun w hw => short_as true (decide_eq_true (by omega)) hmax) ?_
 | refine S_call (f := 21) rfl obQ (by kernel_rfl) (fun w hw => value_as hV hl (hw.rdm hSC memQ)) ?_
 | refine S_call (f := 24) rfl obQ (by kernel_rfl) (fun w hw => survives_as hU hl (hw.rdm hSC memQ)) ?_
 | refine S_call (f := 26) rfl obQ (by kernel_rfl) (fun w hw => rCheckCurve_as hB hl (hw.rdm hr.toS memQ)) ?_
 | refine S_call (f := 28) rfl obQ (by kernel_rfl) (fun w hw => rCheckLevel_c _ w) ?_
 | refine S_call (f := 29) rfl obQ (by kernel_rfl) (fun w hw => rRange_c _ _ _ w) ?_
 | refine S_call (f := 27) rfl obQ (by kernel_rfl) (fun w hw => lfirstE_c (l := [_, lvE lev]) hT (by simp) rfl _ w (.inr ⟨_, rfl, hw.src (i := 1) rfl rfl⟩)) ?_
 | refine S_call (f := 27) rfl obQ (by kernel_rfl) (fun w hw => lfirstE_c (l := [wi k0 0 16383, wi k1 1 64]) hK (by simp) rfl _ w (.inr ⟨_, rfl, hw.src (i := 2) rfl rfl⟩)) ?_
 | refine S_call (f := 34) rfl obQ (by kernel_rfl) (fun w hw => checkCurve_as hB hl (hw.rdm hSC memQ)) ?_
 | refine S_call (f := 35) rfl obQ (by kernel_rfl) (fun w hw => number_as hN rfl) ?_
 | refine S_call (f := 20) rfl obQ (by kernel_rfl) (fun w hw => awake_c w (hw.rdm hO.toS memQ) (Pw_at hP hw memQ)) ?_
 | refine S_call (f := 36) rfl obQ (by kernel_rfl) (fun w hw => sameCurveT_c _ _ _ _ _ _ hIn hIm w (hw.rdm hSP memQ) (.inl rfl)) ?_
 | refine S_call (f := 36) rfl obQ (by kernel_rfl) (fun w hw => sameCurveT_c _ _ _ _ _ _ hZn hZm w (hw.rdm hSQ memQ) (.inl rfl)) ?_
            )
 | (refine D_id ?_; first
 | refine D_nil ?_
 | refine D_tail ?_
 | refine D_run rfl rfl obQ obQ ?_
 | refine D_call (f := 19) rfl obQ (by kernel_rfl) (fun w hw => short_as true (decide_eq_true (by omega)) hmax) ?_
 | refine D_call (f := 21) rfl obQ (by kernel_rfl) (fun w hw => value_as hV hl (hw.rdm hSC memQ)) ?_
 | refine D_call (f := 24) rfl obQ (by kernel_rfl) (fun w hw => survives_as hU hl (hw.rdm hSC memQ)) ?_
 | refine D_call (f := 26) rfl obQ (by kernel_rfl) (fun w hw => rCheckCurve_as hB hl (hw.rdm hr.toS memQ)) ?_
 | refine D_call (f := 28) rfl obQ (by kernel_rfl) (fun w hw => rCheckLevel_c _ w) ?_
 | refine D_call (f := 29) rfl obQ (by kernel_rfl) (fun w hw => rRange_c _ _ _ w) ?_
 | refine D_call (f := 27) rfl obQ (by kernel_rfl) (fun w hw => lfirstE_c (l := [_, lvE lev]) hT (by simp) rfl _ w (.inr ⟨_, rfl, hw.src (i := 1) rfl rfl⟩)) ?_
 | refine D_call (f := 27) rfl obQ (by kernel_rfl) (fun w hw => lfirstE_c (l := [wi k0 0 16383, wi k1 1 64]) hK (by simp) rfl _ w (.inr ⟨_, rfl, hw.src (i := 2) rfl rfl⟩)) ?_
 | refine D_call (f := 34) rfl obQ (by kernel_rfl) (fun w hw => checkCurve_as hB hl (hw.rdm hSC memQ)) ?_
 | refine D_call (f := 35) rfl obQ (by kernel_rfl) (fun w hw => number_as hN rfl) ?_
 | refine D_call (f := 20) rfl obQ (by kernel_rfl) (fun w hw => awake_c w (hw.rdm hO.toS memQ) (Pw_at hP hw memQ)) ?_
 | refine D_call (f := 36) rfl obQ (by kernel_rfl) (fun w hw => sameCurveT_c _ _ _ _ _ _ hIn hIm w (hw.rdm hSP memQ) (.inl rfl)) ?_
 | refine D_call (f := 36) rfl obQ (by kernel_rfl) (fun w hw => sameCurveT_c _ _ _ _ _ _ hZn hZm w (hw.rdm hSQ memQ) (.inl rfl)) ?_
            )
 | (refine V_id ?_; first
 | refine V_nil ?_
 | refine V_q rfl (Yl_pure (binX_pure rfl obQ (fun w => eq_bool (by kernel_rfl) _ _ w))) ?_
 | refine V_q rfl (Yl_step rfl obQ) ?_
 | refine V_n rfl ?_
            )
 | (refine G_id ?_; first
 | refine G_V ⟨⟨_, rfl, trivial⟩, ⟨_, rfl⟩, rfl, pstQ⟩ rfl ?_
 | refine G_then ?_
 | refine G_block ?_
 | refine G_blockX ?_
 | refine G_blockN rfl ?_
 | refine G_blockR ?_
 | refine G_thenR ?_
 | refine G_thenX ?_
 | refine G_ret rfl obQ (fun w2 hw => ⟨?_, hw.below⟩)
            )
          )
      all_goals rfl

end Go.Proofs.YtdbffbcobghbeaaGreatDoor
