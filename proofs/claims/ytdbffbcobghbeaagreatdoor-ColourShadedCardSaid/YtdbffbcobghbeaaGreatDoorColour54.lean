/- The law of shading: the walk. -/
import Derived.Test.YtdbffbcobghbeaaGreatDoorColour28
import Derived.Test.YtdbffbcobghbeaaGreatDoorColour53
namespace Go.Proofs.YtdbffbcobghbeaaGreatDoor
open Go.E Go.RowKit Go.Fl
attribute [local irreducible] G C S D Calls
set_option maxRecDepth 100000
set_option linter.unusedSimpArgs false
set_option linter.unusedVariables false

section
variable {p : Pic} {cs rs : List Int} {w : World}
theorem lfirstE_c {A : Option Addr} {n : Nat} {l : List Int} {e : Int} (he : firstL l = e) (h6 : l.length ≤ 1000000) (hl : l.length = n) (c : Nat) (w : World) (hr : Rd w A (l.map (.int .i64))) : Calls Tryz.prog 27 #[.slice A n c] w fun r w' => r = .returned (.int .i64 e) ∧ Below w.heap.size w w' := by
  subst hl he
  exact lfirst_c A c l h6 w hr
theorem shaded_as {q : Pic} {e : Int} (h : shR p cs rs = (q, e)) {A B C : Option Addr} {c c2 c3 n2 n3 : Nat} (hs : p.s.length ≤ 1000000) (hcs : cs.length ≤ 1000000) (hrs : rs.length ≤ 1000000) (e2 : n2 = cs.length) (e3 : n3 = rs.length) (hr : Rd w A (p.s.map (.float .f32))) (hr2 : Rd w B (cs.map (.int .i64))) (hr3 : Rd w C (rs.map (.int .i64))) :
    Calls Tryz.prog 55 #[.agg #[.string p.nm, .int .i64 p.w, .int .i64 p.h, .slice A p.s.length c], .slice B n2 c2, .slice C n3 c3] w fun r w' => ∃ v, r = .returned v ∧ Below w.heap.size w w' ∧ PicR w w' v q e := by
  subst e2 e3
  have := Shaded_c p A B C c c2 c3 cs rs hs hcs hrs w hr hr2 hr3
  rw [h] at this
  exact this
theorem rshaded_as {q : Pic} {e : Int} (h : sh2 p cs rs = (q, e)) {A B C : Option Addr} {c c2 c3 : Nat} (hp : PicOk p) (hg1 : gnE cs p.w = 0) (hg2 : gnE rs p.h = 0) (hA : A = none → p.s.length = 0 ∧ c = 0) (hr : Rd w A (p.s.map (.float .f32))) (hr2 : Rd w B (cs.map (.int .i64))) (hr3 : Rd w C (rs.map (.int .i64))) :
    Calls Tryz.prog 59 #[.agg #[.string p.nm, .int .i64 p.w, .int .i64 p.h, .slice A p.s.length c], .slice B cs.length c2, .slice C rs.length c3] w fun r w' => ∃ v, r = .returned v ∧ Below w.heap.size w w' ∧ PicR w w' v q e := by
  have := rShaded_c p A B C c c2 c3 cs rs hp hg1 hg2 hA w hr hr2 hr3
  rw [h] at this
  exact this
theorem shP_fin (h : shOk p cs rs = true) : ∀ x ∈ (shP p cs rs).s, Fin32 x := by
  intro x hx
  simp only [shP, List.mem_map, List.mem_range] at hx
  obtain ⟨k, hk, rfl⟩ := hx
  unfold shOk at h
  rw [List.all_eq_true] at h
  exact (smp_Smp (lvE_ok (of_decide_eq_true (h k (List.mem_range.2 hk))))).fin
theorem shP_len : (shP p cs rs).s.length = p.s.length := by simp [shP]
end

set_option maxHeartbeats 8000000 in
/-- genlocklaw02.ColourShaded -/
theorem lShaded_c (p : Pic) (A B C : Option Addr) (c c2 c3 : Nat) (cs rs : List Int) (hnm : p.nm.size ≤ maxLen) (hsm : p.s.length ≤ maxLen) (hcm : cs.length ≤ maxLen) (hrm : rs.length ≤ maxLen) (hA : A = none → p.s.length = 0 ∧ c = 0) (hB : B = none → cs.length = 0 ∧ c2 = 0) (hC : C = none → rs.length = 0 ∧ c3 = 0) (w : World) (hr : Rd w A (p.s.map (.float .f32))) (hr2 : Rd w B (cs.map (.int .i64))) (hr3 : Rd w C (rs.map (.int .i64))) (hO : Ot w) (hP : Pw w) : Calls Tryz.prog 8 #[.agg #[.string p.nm, .int .i64 p.w, .int .i64 p.h, .slice A p.s.length c], .slice B cs.length c2, .slice C rs.length c3] w fun r w' => r = .returned (.bool true) ∧ Below w.heap.size w w' := by
  refine calls_of (args := [.agg #[.string p.nm, .int .i64 p.w, .int .i64 p.h, .slice A p.s.length c], .slice B cs.length c2, .slice C rs.length c3]) T_ok Tryz.func8 rfl Tryz.ntmps8 (Nat.le_of_ble_eq_true rfl) rfl ?_
  by_cases hS : shortB p = true
  · by_cases hc20 : 20 < cs.length
    · repeat' (first
 | (refine C_id ?_; first
 | refine C_seq ?_
 | refine C_region rfl ?_
 | refine C_block ?_
 | refine C_skip ?_
 | refine C_exit ?_
 | refine C_ret0 ?_
 | refine C_drawT (id := 4) 10 rfl mixed (by kernel_rfl) rfl rfl ?_
 | refine C_condT rfl obQ ?_
 | refine C_condF rfl obQ ?_
 | (refine C_cond rfl obQ (fun h => ?_) (fun h => ?_) <;> (try simp only [Bool.or_eq_true, Bool.and_eq_true, Bool.or_eq_false_iff, Bool.and_eq_false_iff, decide_eq_true_eq, decide_eq_false_iff_not, beq_iff_eq, bne_iff_ne, beq_eq_false_iff_ne, bne_eq_false_iff_eq, ne_eq, Decidable.not_not, List.cons.injEq, and_true, Bool.not_eq_true', Bool.not_eq_false', Int.not_lt, Int.not_le] at h) <;> (try (exfalso; omega)) <;> (try (exfalso; simp at h; done)) <;> (try (exfalso; simp only [not_true_eq_false, false_or, or_false] at h; omega)) <;> (try contradiction))
       )
 | (refine S_id ?_; first
 | ((with_reducible (first | refine S_falseN ?_ ?_ | refine S_falseB ?_ ?_ | refine S_falseL ?_ ?_ | refine S_falseD ?_ ?_ | refine S_falseE ?_ ?_)); · (first | rfl | omega))
 | ((with_reducible refine S_falseO ?_ ?_ ?_); (· rfl); (· first | rfl | (first | rfl | omega)))
 | ((with_reducible (first | refine S_trueE ?_ ?_ | refine S_trueB ?_ ?_ | refine S_trueL ?_ ?_ | refine S_trueD ?_ ?_ | refine S_trueN ?_ ?_)); · (first | exact beq_self_eq_true _ | rfl | omega))
 | ((with_reducible refine S_trueA ?_ ?_ ?_); (· rfl); (· first | rfl | (first | exact beq_self_eq_true _ | rfl | omega)))
 | refine S_unG rfl rfl rfl rfl ?_
 | refine S_offG (.v (.bool false)) rfl rfl rfl rfl rfl ?_
 | refine S_nil ?_
 | refine S_runN rfl rfl obQ obQ ?_
 | refine S_box (fun bb => ⟨_, _, rfl, obQ, ?_⟩)
 | refine S_slice (fun b => ⟨_, _, rfl, obQ, ?_⟩)
 | refine S_call (f := 20) rfl obQ (by kernel_rfl) (fun w hw => awake_c w (hw.rdm hO.toS memQ) (Pw_at hP hw memQ)) ?_
 | refine S_call (f := 54) rfl obQ (by kernel_rfl) (fun w hw => rShortPicture_c p A c true hS w) ?_
       )
 | (refine D_id ?_; first
 | refine D_nil ?_
 | refine D_tail ?_
 | refine D_run rfl rfl obQ obQ ?_
 | refine D_call (f := 20) rfl obQ (by kernel_rfl) (fun w hw => awake_c w (hw.rdm hO.toS memQ) (Pw_at hP hw memQ)) ?_
 | refine D_call (f := 54) rfl obQ (by kernel_rfl) (fun w hw => rShortPicture_c p A c true hS w) ?_
       )
 | (refine G_id ?_; first
 | refine G_then ?_
 | refine G_block ?_
 | refine G_blockX ?_
 | refine G_blockN rfl ?_
 | refine G_blockR ?_
 | refine G_thenR ?_
 | refine G_thenX ?_
 | refine G_ret rfl obQ (fun w hw => ⟨?_, hw.below⟩)
       )
       )
      all_goals rfl
    by_cases hr20 : 20 < rs.length
    · repeat' (first
 | (refine C_id ?_; first
 | refine C_seq ?_
 | refine C_region rfl ?_
 | refine C_block ?_
 | refine C_skip ?_
 | refine C_exit ?_
 | refine C_ret0 ?_
 | refine C_drawT (id := 4) 10 rfl mixed (by kernel_rfl) rfl rfl ?_
 | refine C_condT rfl obQ ?_
 | refine C_condF rfl obQ ?_
 | (refine C_cond rfl obQ (fun h => ?_) (fun h => ?_) <;> (try simp only [Bool.or_eq_true, Bool.and_eq_true, Bool.or_eq_false_iff, Bool.and_eq_false_iff, decide_eq_true_eq, decide_eq_false_iff_not, beq_iff_eq, bne_iff_ne, beq_eq_false_iff_ne, bne_eq_false_iff_eq, ne_eq, Decidable.not_not, List.cons.injEq, and_true, Bool.not_eq_true', Bool.not_eq_false', Int.not_lt, Int.not_le] at h) <;> (try (exfalso; omega)) <;> (try (exfalso; simp at h; done)) <;> (try (exfalso; simp only [not_true_eq_false, false_or, or_false] at h; omega)) <;> (try contradiction))
       )
 | (refine S_id ?_; first
 | ((with_reducible (first | refine S_falseN ?_ ?_ | refine S_falseB ?_ ?_ | refine S_falseL ?_ ?_ | refine S_falseD ?_ ?_ | refine S_falseE ?_ ?_)); · (first | rfl | omega))
 | ((with_reducible refine S_falseO ?_ ?_ ?_); (· rfl); (· first | rfl | (first | rfl | omega)))
 | ((with_reducible (first | refine S_trueE ?_ ?_ | refine S_trueB ?_ ?_ | refine S_trueL ?_ ?_ | refine S_trueD ?_ ?_ | refine S_trueN ?_ ?_)); · (first | exact beq_self_eq_true _ | rfl | omega))
 | ((with_reducible refine S_trueA ?_ ?_ ?_); (· rfl); (· first | rfl | (first | exact beq_self_eq_true _ | rfl | omega)))
 | refine S_unG rfl rfl rfl rfl ?_
 | refine S_offG (.v (.bool false)) rfl rfl rfl rfl rfl ?_
 | refine S_nil ?_
 | refine S_runN rfl rfl obQ obQ ?_
 | refine S_box (fun bb => ⟨_, _, rfl, obQ, ?_⟩)
 | refine S_slice (fun b => ⟨_, _, rfl, obQ, ?_⟩)
 | refine S_call (f := 20) rfl obQ (by kernel_rfl) (fun w hw => awake_c w (hw.rdm hO.toS memQ) (Pw_at hP hw memQ)) ?_
 | refine S_call (f := 54) rfl obQ (by kernel_rfl) (fun w hw => rShortPicture_c p A c true hS w) ?_
       )
 | (refine D_id ?_; first
 | refine D_nil ?_
 | refine D_tail ?_
 | refine D_run rfl rfl obQ obQ ?_
 | refine D_call (f := 20) rfl obQ (by kernel_rfl) (fun w hw => awake_c w (hw.rdm hO.toS memQ) (Pw_at hP hw memQ)) ?_
 | refine D_call (f := 54) rfl obQ (by kernel_rfl) (fun w hw => rShortPicture_c p A c true hS w) ?_
       )
 | (refine G_id ?_; first
 | refine G_then ?_
 | refine G_block ?_
 | refine G_blockX ?_
 | refine G_blockN rfl ?_
 | refine G_blockR ?_
 | refine G_thenR ?_
 | refine G_thenX ?_
 | refine G_ret rfl obQ (fun w hw => ⟨?_, hw.below⟩)
       )
       )
      all_goals rfl
    obtain ⟨hn40, hs160⟩ := shortB_ok hS
    have hs6 : p.s.length ≤ 1000000 := by omega
    have hcs6 : cs.length ≤ 1000000 := by omega
    have hrs6 : rs.length ≤ 1000000 := by omega
    by_cases hE : picE p = 0
    · have hp := pic_ok.1 hE
      by_cases hG : shE p cs rs = 0
      · obtain ⟨hg1, hg2⟩ := shE_ok hG
        have hT : firstL [picE p, gnE cs p.w, gnE rs p.h] = 0 := by rw [firstL, if_pos hE]; exact hG
        have hV0 : shR p cs rs = sh2 p cs rs := by rw [shR_eq, if_pos hE, if_pos hG]
        by_cases hok : shOk p cs rs = true
        · have hV2 : sh2 p cs rs = (shP p cs rs, 0) := if_pos hok
          have hV := hV0.trans hV2
          repeat' (first
 | (refine C_id ?_; first
 | refine C_seq ?_
 | refine C_region rfl ?_
 | refine C_block ?_
 | refine C_skip ?_
 | refine C_exit ?_
 | refine C_ret0 ?_
 | refine C_drawV (id := 4) 9 [(0, true), (2, true), (3, true), (4, true), (6, true), (7, true), (8, true), (1, false), (5, false)] rfl mixed (by kernel_rfl) rfl ?_
 | refine C_condT rfl obQ ?_
 | refine C_condF rfl obQ ?_
 | (refine C_cond rfl obQ (fun h => ?_) (fun h => ?_) <;> (try simp only [Bool.or_eq_true, Bool.and_eq_true, Bool.or_eq_false_iff, Bool.and_eq_false_iff, decide_eq_true_eq, decide_eq_false_iff_not, beq_iff_eq, bne_iff_ne, beq_eq_false_iff_ne, bne_eq_false_iff_eq, ne_eq, Decidable.not_not, List.cons.injEq, and_true, Bool.not_eq_true', Bool.not_eq_false', Int.not_lt, Int.not_le] at h) <;> (try (exfalso; omega)) <;> (try (exfalso; simp at h; done)) <;> (try (exfalso; simp only [not_true_eq_false, false_or, or_false] at h; omega)) <;> (try contradiction))
           )
 | (refine S_id ?_; first
 | ((with_reducible (first | refine S_falseN ?_ ?_ | refine S_falseB ?_ ?_ | refine S_falseL ?_ ?_ | refine S_falseD ?_ ?_ | refine S_falseE ?_ ?_)); · (first | rfl | omega))
 | ((with_reducible refine S_falseO ?_ ?_ ?_); (· rfl); (· first | rfl | (first | rfl | omega)))
 | ((with_reducible (first | refine S_trueE ?_ ?_ | refine S_trueB ?_ ?_ | refine S_trueL ?_ ?_ | refine S_trueD ?_ ?_ | refine S_trueN ?_ ?_)); · (first | exact beq_self_eq_true _ | rfl | omega))
 | ((with_reducible refine S_trueA ?_ ?_ ?_); (· rfl); (· first | rfl | (first | exact beq_self_eq_true _ | rfl | omega)))
 | refine S_unG rfl rfl rfl rfl ?_
 | refine S_offG (.v (.bool false)) rfl rfl rfl rfl rfl ?_
 | (refine S_callM (f := 56) rfl obQ (by kernel_rfl) (fun w hw => lown_c p A c hs6 hA w (hw.rdm hr.toS memQ)) (fun w1O w2O vO hw1O hbO hRO => ?_); obtain ⟨AO, cO, rfl, hSO⟩ := hRO)
 | refine S_row00 rfl rfl rfl (fun g => ?_)
 | refine S_appendS rfl obQ rfl rfl rfl ⟨by decide, rfl⟩ rfl ⟨rfl, rfl, rfl, rfl⟩ (cs.map (.int .i64)) (by simp) hB (one_int _) (srcS hr2 memQ) (by unfold maxLen; dsimp only; omega) (fun A' cap' => ⟨_, rfl, ?_⟩)
 | refine S_appendS rfl obQ rfl rfl rfl ⟨by decide, rfl⟩ rfl ⟨rfl, rfl, rfl, rfl⟩ (rs.map (.int .i64)) (by simp) hC (one_int _) (srcS hr3 memQ) (by unfold maxLen; dsimp only; omega) (fun A' cap' => ⟨_, rfl, ?_⟩)
 | (refine S_callM (f := 55) rfl obQ (by kernel_rfl) (fun w hw => shaded_as hV hs6 hcs6 hrs6 (by simp) (by simp) (hw.rdm hSO memQ) (hw.rdRow (i := 0) rfl rfl) (hw.rdRow (i := 1) rfl rfl)) (fun w1S w2S vS hw1S hbS hRS => ?_); obtain ⟨AS, cS, rfl, hSS⟩ := hRS)
 | (refine S_callM (f := 59) rfl obQ (by kernel_rfl) (fun w hw => rshaded_as hV2 hp hg1 hg2 hA (hw.rdm hr.toS memQ) (hw.rdm hr2.toS memQ) (hw.rdm hr3.toS memQ)) (fun w1R w2R vR hw1R hbR hRR => ?_); obtain ⟨AR, cR, rfl, hSR⟩ := hRR)
 | refine S_nil ?_
 | refine S_runN rfl rfl obQ obQ ?_
 | refine S_box (fun bb => ⟨_, _, rfl, obQ, ?_⟩)
 | refine S_slice (fun b => ⟨_, _, rfl, obQ, ?_⟩)
 | refine S_call (f := 20) rfl obQ (by kernel_rfl) (fun w hw => awake_c w (hw.rdm hO.toS memQ) (Pw_at hP hw memQ)) ?_
 | refine S_call (f := 54) rfl obQ (by kernel_rfl) (fun w hw => rShortPicture_c p A c true hS w) ?_
 | refine S_call (f := 57) rfl obQ (by kernel_rfl) (fun w hw => rCheckPicture_c p A c hs6 hnm w (hw.rdm hr.toS memQ)) ?_
 | refine S_call (f := 58) rfl obQ (by kernel_rfl) (fun w hw => rCheckGains_c B c2 cs hcs6 p.w w (hw.rdm hr2.toS memQ)) ?_
 | refine S_call (f := 58) rfl obQ (by kernel_rfl) (fun w hw => rCheckGains_c C c3 rs hrs6 p.h w (hw.rdm hr3.toS memQ)) ?_
 | refine S_call (f := 27) rfl obQ (by kernel_rfl) (fun w hw => lfirstE_c (l := [picE p, gnE cs p.w, gnE rs p.h]) hT (by simp) rfl _ w (.inr ⟨_, rfl, hw.src (i := 2) rfl rfl⟩)) ?_
 | refine S_call (f := 60) rfl obQ (by kernel_rfl) (fun w hw => lone_c (shP p cs rs) _ _ _ _ (by rw [shP_len]; omega) (shP_fin hok) w (hw.rdm hSS memQ) (hw.rdm hSR memQ)) ?_
           )
 | (refine D_id ?_; first
 | refine D_nil ?_
 | refine D_tail ?_
 | refine D_run rfl rfl obQ obQ ?_
 | refine D_call (f := 20) rfl obQ (by kernel_rfl) (fun w hw => awake_c w (hw.rdm hO.toS memQ) (Pw_at hP hw memQ)) ?_
 | refine D_call (f := 54) rfl obQ (by kernel_rfl) (fun w hw => rShortPicture_c p A c true hS w) ?_
 | refine D_call (f := 57) rfl obQ (by kernel_rfl) (fun w hw => rCheckPicture_c p A c hs6 hnm w (hw.rdm hr.toS memQ)) ?_
 | refine D_call (f := 58) rfl obQ (by kernel_rfl) (fun w hw => rCheckGains_c B c2 cs hcs6 p.w w (hw.rdm hr2.toS memQ)) ?_
 | refine D_call (f := 58) rfl obQ (by kernel_rfl) (fun w hw => rCheckGains_c C c3 rs hrs6 p.h w (hw.rdm hr3.toS memQ)) ?_
 | refine D_call (f := 27) rfl obQ (by kernel_rfl) (fun w hw => lfirstE_c (l := [picE p, gnE cs p.w, gnE rs p.h]) hT (by simp) rfl _ w (.inr ⟨_, rfl, hw.src (i := 2) rfl rfl⟩)) ?_
 | refine D_call (f := 60) rfl obQ (by kernel_rfl) (fun w hw => lone_c (shP p cs rs) _ _ _ _ (by rw [shP_len]; omega) (shP_fin hok) w (hw.rdm hSS memQ) (hw.rdm hSR memQ)) ?_
           )
 | (refine V_id ?_; first
 | refine V_nil ?_
 | refine V_q rfl (Yl_step rfl obQ) ?_
 | refine V_n rfl ?_
           )
 | (refine G_id ?_; first
 | refine G_V ⟨⟨_, rfl, trivial⟩, ⟨_, rfl⟩, rfl, pstQ⟩ rfl ?_
 | refine G_then ?_
 | refine G_block ?_
 | refine G_blockX ?_
 | refine G_blockN rfl ?_
 | refine G_blockR ?_
 | refine G_thenR ?_
 | refine G_thenX ?_
 | refine G_ret rfl obQ (fun w hw => ⟨?_, hw.below⟩)
           )
           )
          all_goals rfl
        · have hV2 : sh2 p cs rs = (zP, 4) := if_neg hok
          have hV := hV0.trans hV2
          have hne : ¬ (4 : Int) = 0 := by omega
          repeat' (first
 | (refine C_id ?_; first
 | refine C_seq ?_
 | refine C_region rfl ?_
 | refine C_block ?_
 | refine C_skip ?_
 | refine C_exit ?_
 | refine C_ret0 ?_
 | refine C_drawV (id := 4) 9 [(0, true), (2, true), (3, true), (4, true), (6, true), (7, true), (8, true), (1, false), (5, false)] rfl mixed (by kernel_rfl) rfl ?_
 | refine C_condT rfl obQ ?_
 | refine C_condF rfl obQ ?_
 | (refine C_cond rfl obQ (fun h => ?_) (fun h => ?_) <;> (try simp only [Bool.or_eq_true, Bool.and_eq_true, Bool.or_eq_false_iff, Bool.and_eq_false_iff, decide_eq_true_eq, decide_eq_false_iff_not, beq_iff_eq, bne_iff_ne, beq_eq_false_iff_ne, bne_eq_false_iff_eq, ne_eq, Decidable.not_not, List.cons.injEq, and_true, Bool.not_eq_true', Bool.not_eq_false', Int.not_lt, Int.not_le] at h) <;> (try (exfalso; omega)) <;> (try (exfalso; simp at h; done)) <;> (try (exfalso; simp only [not_true_eq_false, false_or, or_false] at h; omega)) <;> (try contradiction))
           )
 | (refine S_id ?_; first
 | ((with_reducible (first | refine S_falseN ?_ ?_ | refine S_falseB ?_ ?_ | refine S_falseL ?_ ?_ | refine S_falseD ?_ ?_ | refine S_falseE ?_ ?_)); · (first | rfl | omega))
 | ((with_reducible refine S_falseO ?_ ?_ ?_); (· rfl); (· first | rfl | (first | rfl | omega)))
 | ((with_reducible (first | refine S_trueE ?_ ?_ | refine S_trueB ?_ ?_ | refine S_trueL ?_ ?_ | refine S_trueD ?_ ?_ | refine S_trueN ?_ ?_)); · (first | exact beq_self_eq_true _ | rfl | omega))
 | ((with_reducible refine S_trueA ?_ ?_ ?_); (· rfl); (· first | rfl | (first | exact beq_self_eq_true _ | rfl | omega)))
 | refine S_unG rfl rfl rfl rfl ?_
 | refine S_offG (.v (.bool false)) rfl rfl rfl rfl rfl ?_
 | (refine S_callM (f := 56) rfl obQ (by kernel_rfl) (fun w hw => lown_c p A c hs6 hA w (hw.rdm hr.toS memQ)) (fun w1O w2O vO hw1O hbO hRO => ?_); obtain ⟨AO, cO, rfl, hSO⟩ := hRO)
 | refine S_row00 rfl rfl rfl (fun g => ?_)
 | refine S_appendS rfl obQ rfl rfl rfl ⟨by decide, rfl⟩ rfl ⟨rfl, rfl, rfl, rfl⟩ (cs.map (.int .i64)) (by simp) hB (one_int _) (srcS hr2 memQ) (by unfold maxLen; dsimp only; omega) (fun A' cap' => ⟨_, rfl, ?_⟩)
 | refine S_appendS rfl obQ rfl rfl rfl ⟨by decide, rfl⟩ rfl ⟨rfl, rfl, rfl, rfl⟩ (rs.map (.int .i64)) (by simp) hC (one_int _) (srcS hr3 memQ) (by unfold maxLen; dsimp only; omega) (fun A' cap' => ⟨_, rfl, ?_⟩)
 | (refine S_callM (f := 55) rfl obQ (by kernel_rfl) (fun w hw => shaded_as hV hs6 hcs6 hrs6 (by simp) (by simp) (hw.rdm hSO memQ) (hw.rdRow (i := 0) rfl rfl) (hw.rdRow (i := 1) rfl rfl)) (fun w1S w2S vS hw1S hbS hRS => ?_); obtain ⟨AS, cS, rfl, hSS⟩ := hRS)
 | (refine S_callM (f := 59) rfl obQ (by kernel_rfl) (fun w hw => rshaded_as hV2 hp hg1 hg2 hA (hw.rdm hr.toS memQ) (hw.rdm hr2.toS memQ) (hw.rdm hr3.toS memQ)) (fun w1R w2R vR hw1R hbR hRR => ?_); obtain ⟨AR, cR, rfl, hSR⟩ := hRR)
 | refine S_nil ?_
 | refine S_runN rfl rfl obQ obQ ?_
 | refine S_box (fun bb => ⟨_, _, rfl, obQ, ?_⟩)
 | refine S_slice (fun b => ⟨_, _, rfl, obQ, ?_⟩)
 | refine S_call (f := 20) rfl obQ (by kernel_rfl) (fun w hw => awake_c w (hw.rdm hO.toS memQ) (Pw_at hP hw memQ)) ?_
 | refine S_call (f := 54) rfl obQ (by kernel_rfl) (fun w hw => rShortPicture_c p A c true hS w) ?_
 | refine S_call (f := 57) rfl obQ (by kernel_rfl) (fun w hw => rCheckPicture_c p A c hs6 hnm w (hw.rdm hr.toS memQ)) ?_
 | refine S_call (f := 58) rfl obQ (by kernel_rfl) (fun w hw => rCheckGains_c B c2 cs hcs6 p.w w (hw.rdm hr2.toS memQ)) ?_
 | refine S_call (f := 58) rfl obQ (by kernel_rfl) (fun w hw => rCheckGains_c C c3 rs hrs6 p.h w (hw.rdm hr3.toS memQ)) ?_
 | refine S_call (f := 27) rfl obQ (by kernel_rfl) (fun w hw => lfirstE_c (l := [picE p, gnE cs p.w, gnE rs p.h]) hT (by simp) rfl _ w (.inr ⟨_, rfl, hw.src (i := 2) rfl rfl⟩)) ?_
 | refine S_call (f := 60) rfl obQ (by kernel_rfl) (fun w hw => loneE_c _ hne zP _ _ _ _ w) ?_
           )
 | (refine D_id ?_; first
 | refine D_nil ?_
 | refine D_tail ?_
 | refine D_run rfl rfl obQ obQ ?_
 | refine D_call (f := 20) rfl obQ (by kernel_rfl) (fun w hw => awake_c w (hw.rdm hO.toS memQ) (Pw_at hP hw memQ)) ?_
 | refine D_call (f := 54) rfl obQ (by kernel_rfl) (fun w hw => rShortPicture_c p A c true hS w) ?_
 | refine D_call (f := 57) rfl obQ (by kernel_rfl) (fun w hw => rCheckPicture_c p A c hs6 hnm w (hw.rdm hr.toS memQ)) ?_
 | refine D_call (f := 58) rfl obQ (by kernel_rfl) (fun w hw => rCheckGains_c B c2 cs hcs6 p.w w (hw.rdm hr2.toS memQ)) ?_
 | refine D_call (f := 58) rfl obQ (by kernel_rfl) (fun w hw => rCheckGains_c C c3 rs hrs6 p.h w (hw.rdm hr3.toS memQ)) ?_
 | refine D_call (f := 27) rfl obQ (by kernel_rfl) (fun w hw => lfirstE_c (l := [picE p, gnE cs p.w, gnE rs p.h]) hT (by simp) rfl _ w (.inr ⟨_, rfl, hw.src (i := 2) rfl rfl⟩)) ?_
 | refine D_call (f := 60) rfl obQ (by kernel_rfl) (fun w hw => loneE_c _ hne zP _ _ _ _ w) ?_
           )
 | (refine V_id ?_; first
 | refine V_nil ?_
 | refine V_q rfl (Yl_step rfl obQ) ?_
 | refine V_n rfl ?_
           )
 | (refine G_id ?_; first
 | refine G_V ⟨⟨_, rfl, trivial⟩, ⟨_, rfl⟩, rfl, pstQ⟩ rfl ?_
 | refine G_then ?_
 | refine G_block ?_
 | refine G_blockX ?_
 | refine G_blockN rfl ?_
 | refine G_blockR ?_
 | refine G_thenR ?_
 | refine G_thenX ?_
 | refine G_ret rfl obQ (fun w hw => ⟨?_, hw.below⟩)
           )
           )
          all_goals rfl
      · have hT : firstL [picE p, gnE cs p.w, gnE rs p.h] = shE p cs rs := by rw [firstL, if_pos hE]; rfl
        have hV : shR p cs rs = (zP, shE p cs rs) := shR_2 hE hG
        have hne := hG
        repeat' (first
 | (refine C_id ?_; first
 | refine C_seq ?_
 | refine C_region rfl ?_
 | refine C_block ?_
 | refine C_skip ?_
 | refine C_exit ?_
 | refine C_ret0 ?_
 | refine C_drawV (id := 4) 9 [(0, true), (2, true), (3, true), (4, true), (6, true), (7, true), (8, true), (1, false), (5, false)] rfl mixed (by kernel_rfl) rfl ?_
 | refine C_condT rfl obQ ?_
 | refine C_condF rfl obQ ?_
 | (refine C_cond rfl obQ (fun h => ?_) (fun h => ?_) <;> (try simp only [Bool.or_eq_true, Bool.and_eq_true, Bool.or_eq_false_iff, Bool.and_eq_false_iff, decide_eq_true_eq, decide_eq_false_iff_not, beq_iff_eq, bne_iff_ne, beq_eq_false_iff_ne, bne_eq_false_iff_eq, ne_eq, Decidable.not_not, List.cons.injEq, and_true, Bool.not_eq_true', Bool.not_eq_false', Int.not_lt, Int.not_le] at h) <;> (try (exfalso; omega)) <;> (try (exfalso; simp at h; done)) <;> (try (exfalso; simp only [not_true_eq_false, false_or, or_false] at h; omega)) <;> (try contradiction))
         )
 | (refine S_id ?_; first
 | ((with_reducible (first | refine S_falseN ?_ ?_ | refine S_falseB ?_ ?_ | refine S_falseL ?_ ?_ | refine S_falseD ?_ ?_ | refine S_falseE ?_ ?_)); · (first | rfl | omega))
 | ((with_reducible refine S_falseO ?_ ?_ ?_); (· rfl); (· first | rfl | (first | rfl | omega)))
 | ((with_reducible (first | refine S_trueE ?_ ?_ | refine S_trueB ?_ ?_ | refine S_trueL ?_ ?_ | refine S_trueD ?_ ?_ | refine S_trueN ?_ ?_)); · (first | exact beq_self_eq_true _ | rfl | omega))
 | ((with_reducible refine S_trueA ?_ ?_ ?_); (· rfl); (· first | rfl | (first | exact beq_self_eq_true _ | rfl | omega)))
 | refine S_unG rfl rfl rfl rfl ?_
 | refine S_offG (.v (.bool false)) rfl rfl rfl rfl rfl ?_
 | (refine S_callM (f := 56) rfl obQ (by kernel_rfl) (fun w hw => lown_c p A c hs6 hA w (hw.rdm hr.toS memQ)) (fun w1O w2O vO hw1O hbO hRO => ?_); obtain ⟨AO, cO, rfl, hSO⟩ := hRO)
 | refine S_row00 rfl rfl rfl (fun g => ?_)
 | refine S_appendS rfl obQ rfl rfl rfl ⟨by decide, rfl⟩ rfl ⟨rfl, rfl, rfl, rfl⟩ (cs.map (.int .i64)) (by simp) hB (one_int _) (srcS hr2 memQ) (by unfold maxLen; dsimp only; omega) (fun A' cap' => ⟨_, rfl, ?_⟩)
 | refine S_appendS rfl obQ rfl rfl rfl ⟨by decide, rfl⟩ rfl ⟨rfl, rfl, rfl, rfl⟩ (rs.map (.int .i64)) (by simp) hC (one_int _) (srcS hr3 memQ) (by unfold maxLen; dsimp only; omega) (fun A' cap' => ⟨_, rfl, ?_⟩)
 | (refine S_callM (f := 55) rfl obQ (by kernel_rfl) (fun w hw => shaded_as hV hs6 hcs6 hrs6 (by simp) (by simp) (hw.rdm hSO memQ) (hw.rdRow (i := 0) rfl rfl) (hw.rdRow (i := 1) rfl rfl)) (fun w1S w2S vS hw1S hbS hRS => ?_); obtain ⟨AS, cS, rfl, hSS⟩ := hRS)
 | refine S_nil ?_
 | refine S_runN rfl rfl obQ obQ ?_
 | refine S_box (fun bb => ⟨_, _, rfl, obQ, ?_⟩)
 | refine S_slice (fun b => ⟨_, _, rfl, obQ, ?_⟩)
 | refine S_call (f := 20) rfl obQ (by kernel_rfl) (fun w hw => awake_c w (hw.rdm hO.toS memQ) (Pw_at hP hw memQ)) ?_
 | refine S_call (f := 54) rfl obQ (by kernel_rfl) (fun w hw => rShortPicture_c p A c true hS w) ?_
 | refine S_call (f := 57) rfl obQ (by kernel_rfl) (fun w hw => rCheckPicture_c p A c hs6 hnm w (hw.rdm hr.toS memQ)) ?_
 | refine S_call (f := 58) rfl obQ (by kernel_rfl) (fun w hw => rCheckGains_c B c2 cs hcs6 p.w w (hw.rdm hr2.toS memQ)) ?_
 | refine S_call (f := 58) rfl obQ (by kernel_rfl) (fun w hw => rCheckGains_c C c3 rs hrs6 p.h w (hw.rdm hr3.toS memQ)) ?_
 | refine S_call (f := 27) rfl obQ (by kernel_rfl) (fun w hw => lfirstE_c (l := [picE p, gnE cs p.w, gnE rs p.h]) hT (by simp) rfl _ w (.inr ⟨_, rfl, hw.src (i := 2) rfl rfl⟩)) ?_
 | refine S_call (f := 60) rfl obQ (by kernel_rfl) (fun w hw => loneE_c _ hne zP _ _ _ _ w) ?_
         )
 | (refine D_id ?_; first
 | refine D_nil ?_
 | refine D_tail ?_
 | refine D_run rfl rfl obQ obQ ?_
 | refine D_call (f := 20) rfl obQ (by kernel_rfl) (fun w hw => awake_c w (hw.rdm hO.toS memQ) (Pw_at hP hw memQ)) ?_
 | refine D_call (f := 54) rfl obQ (by kernel_rfl) (fun w hw => rShortPicture_c p A c true hS w) ?_
 | refine D_call (f := 57) rfl obQ (by kernel_rfl) (fun w hw => rCheckPicture_c p A c hs6 hnm w (hw.rdm hr.toS memQ)) ?_
 | refine D_call (f := 58) rfl obQ (by kernel_rfl) (fun w hw => rCheckGains_c B c2 cs hcs6 p.w w (hw.rdm hr2.toS memQ)) ?_
 | refine D_call (f := 58) rfl obQ (by kernel_rfl) (fun w hw => rCheckGains_c C c3 rs hrs6 p.h w (hw.rdm hr3.toS memQ)) ?_
 | refine D_call (f := 27) rfl obQ (by kernel_rfl) (fun w hw => lfirstE_c (l := [picE p, gnE cs p.w, gnE rs p.h]) hT (by simp) rfl _ w (.inr ⟨_, rfl, hw.src (i := 2) rfl rfl⟩)) ?_
 | refine D_call (f := 60) rfl obQ (by kernel_rfl) (fun w hw => loneE_c _ hne zP _ _ _ _ w) ?_
         )
 | (refine V_id ?_; first
 | refine V_nil ?_
 | refine V_q rfl (Yl_step rfl obQ) ?_
 | refine V_n rfl ?_
         )
 | (refine G_id ?_; first
 | refine G_V ⟨⟨_, rfl, trivial⟩, ⟨_, rfl⟩, rfl, pstQ⟩ rfl ?_
 | refine G_then ?_
 | refine G_block ?_
 | refine G_blockX ?_
 | refine G_blockN rfl ?_
 | refine G_blockR ?_
 | refine G_thenR ?_
 | refine G_thenX ?_
 | refine G_ret rfl obQ (fun w hw => ⟨?_, hw.below⟩)
         )
         )
        all_goals rfl
    · have hT : firstL [picE p, gnE cs p.w, gnE rs p.h] = picE p := by rw [firstL, if_neg hE]
      have hV : shR p cs rs = (zP, picE p) := shR_1 hE
      have hne := hE
      repeat' (first
 | (refine C_id ?_; first
 | refine C_seq ?_
 | refine C_region rfl ?_
 | refine C_block ?_
 | refine C_skip ?_
 | refine C_exit ?_
 | refine C_ret0 ?_
 | refine C_drawV (id := 4) 9 [(0, true), (2, true), (3, true), (4, true), (6, true), (7, true), (8, true), (1, false), (5, false)] rfl mixed (by kernel_rfl) rfl ?_
 | refine C_condT rfl obQ ?_
 | refine C_condF rfl obQ ?_
 | (refine C_cond rfl obQ (fun h => ?_) (fun h => ?_) <;> (try simp only [Bool.or_eq_true, Bool.and_eq_true, Bool.or_eq_false_iff, Bool.and_eq_false_iff, decide_eq_true_eq, decide_eq_false_iff_not, beq_iff_eq, bne_iff_ne, beq_eq_false_iff_ne, bne_eq_false_iff_eq, ne_eq, Decidable.not_not, List.cons.injEq, and_true, Bool.not_eq_true', Bool.not_eq_false', Int.not_lt, Int.not_le] at h) <;> (try (exfalso; omega)) <;> (try (exfalso; simp at h; done)) <;> (try (exfalso; simp only [not_true_eq_false, false_or, or_false] at h; omega)) <;> (try contradiction))
         )
 | (refine S_id ?_; first
 | ((with_reducible (first | refine S_falseN ?_ ?_ | refine S_falseB ?_ ?_ | refine S_falseL ?_ ?_ | refine S_falseD ?_ ?_ | refine S_falseE ?_ ?_)); · (first | rfl | omega))
 | ((with_reducible refine S_falseO ?_ ?_ ?_); (· rfl); (· first | rfl | (first | rfl | omega)))
 | ((with_reducible (first | refine S_trueE ?_ ?_ | refine S_trueB ?_ ?_ | refine S_trueL ?_ ?_ | refine S_trueD ?_ ?_ | refine S_trueN ?_ ?_)); · (first | exact beq_self_eq_true _ | rfl | omega))
 | ((with_reducible refine S_trueA ?_ ?_ ?_); (· rfl); (· first | rfl | (first | exact beq_self_eq_true _ | rfl | omega)))
 | refine S_unG rfl rfl rfl rfl ?_
 | refine S_offG (.v (.bool false)) rfl rfl rfl rfl rfl ?_
 | (refine S_callM (f := 56) rfl obQ (by kernel_rfl) (fun w hw => lown_c p A c hs6 hA w (hw.rdm hr.toS memQ)) (fun w1O w2O vO hw1O hbO hRO => ?_); obtain ⟨AO, cO, rfl, hSO⟩ := hRO)
 | refine S_row00 rfl rfl rfl (fun g => ?_)
 | refine S_appendS rfl obQ rfl rfl rfl ⟨by decide, rfl⟩ rfl ⟨rfl, rfl, rfl, rfl⟩ (cs.map (.int .i64)) (by simp) hB (one_int _) (srcS hr2 memQ) (by unfold maxLen; dsimp only; omega) (fun A' cap' => ⟨_, rfl, ?_⟩)
 | refine S_appendS rfl obQ rfl rfl rfl ⟨by decide, rfl⟩ rfl ⟨rfl, rfl, rfl, rfl⟩ (rs.map (.int .i64)) (by simp) hC (one_int _) (srcS hr3 memQ) (by unfold maxLen; dsimp only; omega) (fun A' cap' => ⟨_, rfl, ?_⟩)
 | (refine S_callM (f := 55) rfl obQ (by kernel_rfl) (fun w hw => shaded_as hV hs6 hcs6 hrs6 (by simp) (by simp) (hw.rdm hSO memQ) (hw.rdRow (i := 0) rfl rfl) (hw.rdRow (i := 1) rfl rfl)) (fun w1S w2S vS hw1S hbS hRS => ?_); obtain ⟨AS, cS, rfl, hSS⟩ := hRS)
 | refine S_nil ?_
 | refine S_runN rfl rfl obQ obQ ?_
 | refine S_box (fun bb => ⟨_, _, rfl, obQ, ?_⟩)
 | refine S_slice (fun b => ⟨_, _, rfl, obQ, ?_⟩)
 | refine S_call (f := 20) rfl obQ (by kernel_rfl) (fun w hw => awake_c w (hw.rdm hO.toS memQ) (Pw_at hP hw memQ)) ?_
 | refine S_call (f := 54) rfl obQ (by kernel_rfl) (fun w hw => rShortPicture_c p A c true hS w) ?_
 | refine S_call (f := 57) rfl obQ (by kernel_rfl) (fun w hw => rCheckPicture_c p A c hs6 hnm w (hw.rdm hr.toS memQ)) ?_
 | refine S_call (f := 58) rfl obQ (by kernel_rfl) (fun w hw => rCheckGains_c B c2 cs hcs6 p.w w (hw.rdm hr2.toS memQ)) ?_
 | refine S_call (f := 58) rfl obQ (by kernel_rfl) (fun w hw => rCheckGains_c C c3 rs hrs6 p.h w (hw.rdm hr3.toS memQ)) ?_
 | refine S_call (f := 27) rfl obQ (by kernel_rfl) (fun w hw => lfirstE_c (l := [picE p, gnE cs p.w, gnE rs p.h]) hT (by simp) rfl _ w (.inr ⟨_, rfl, hw.src (i := 2) rfl rfl⟩)) ?_
 | refine S_call (f := 60) rfl obQ (by kernel_rfl) (fun w hw => loneE_c _ hne zP _ _ _ _ w) ?_
         )
 | (refine D_id ?_; first
 | refine D_nil ?_
 | refine D_tail ?_
 | refine D_run rfl rfl obQ obQ ?_
 | refine D_call (f := 20) rfl obQ (by kernel_rfl) (fun w hw => awake_c w (hw.rdm hO.toS memQ) (Pw_at hP hw memQ)) ?_
 | refine D_call (f := 54) rfl obQ (by kernel_rfl) (fun w hw => rShortPicture_c p A c true hS w) ?_
 | refine D_call (f := 57) rfl obQ (by kernel_rfl) (fun w hw => rCheckPicture_c p A c hs6 hnm w (hw.rdm hr.toS memQ)) ?_
 | refine D_call (f := 58) rfl obQ (by kernel_rfl) (fun w hw => rCheckGains_c B c2 cs hcs6 p.w w (hw.rdm hr2.toS memQ)) ?_
 | refine D_call (f := 58) rfl obQ (by kernel_rfl) (fun w hw => rCheckGains_c C c3 rs hrs6 p.h w (hw.rdm hr3.toS memQ)) ?_
 | refine D_call (f := 27) rfl obQ (by kernel_rfl) (fun w hw => lfirstE_c (l := [picE p, gnE cs p.w, gnE rs p.h]) hT (by simp) rfl _ w (.inr ⟨_, rfl, hw.src (i := 2) rfl rfl⟩)) ?_
 | refine D_call (f := 60) rfl obQ (by kernel_rfl) (fun w hw => loneE_c _ hne zP _ _ _ _ w) ?_
         )
 | (refine V_id ?_; first
 | refine V_nil ?_
 | refine V_q rfl (Yl_step rfl obQ) ?_
 | refine V_n rfl ?_
         )
 | (refine G_id ?_; first
 | refine G_V ⟨⟨_, rfl, trivial⟩, ⟨_, rfl⟩, rfl, pstQ⟩ rfl ?_
 | refine G_then ?_
 | refine G_block ?_
 | refine G_blockX ?_
 | refine G_blockN rfl ?_
 | refine G_blockR ?_
 | refine G_thenR ?_
 | refine G_thenX ?_
 | refine G_ret rfl obQ (fun w hw => ⟨?_, hw.below⟩)
         )
         )
      all_goals rfl
  · have hS : shortB p = false := by simpa using hS
    repeat' (first
 | (refine C_id ?_; first
 | refine C_seq ?_
 | refine C_region rfl ?_
 | refine C_block ?_
 | refine C_skip ?_
 | refine C_exit ?_
 | refine C_ret0 ?_
 | refine C_drawT (id := 4) 10 rfl mixed (by kernel_rfl) rfl rfl ?_
 | refine C_condT rfl obQ ?_
 | refine C_condF rfl obQ ?_
 | (refine C_cond rfl obQ (fun h => ?_) (fun h => ?_) <;> (try simp only [Bool.or_eq_true, Bool.and_eq_true, Bool.or_eq_false_iff, Bool.and_eq_false_iff, decide_eq_true_eq, decide_eq_false_iff_not, beq_iff_eq, bne_iff_ne, beq_eq_false_iff_ne, bne_eq_false_iff_eq, ne_eq, Decidable.not_not, List.cons.injEq, and_true, Bool.not_eq_true', Bool.not_eq_false', Int.not_lt, Int.not_le] at h) <;> (try (exfalso; omega)) <;> (try (exfalso; simp at h; done)) <;> (try (exfalso; simp only [not_true_eq_false, false_or, or_false] at h; omega)) <;> (try contradiction))
     )
 | (refine S_id ?_; first
 | ((with_reducible (first | refine S_falseN ?_ ?_ | refine S_falseB ?_ ?_ | refine S_falseL ?_ ?_ | refine S_falseD ?_ ?_ | refine S_falseE ?_ ?_)); · (first | rfl | omega))
 | ((with_reducible refine S_falseO ?_ ?_ ?_); (· rfl); (· first | rfl | (first | rfl | omega)))
 | ((with_reducible (first | refine S_trueE ?_ ?_ | refine S_trueB ?_ ?_ | refine S_trueL ?_ ?_ | refine S_trueD ?_ ?_ | refine S_trueN ?_ ?_)); · (first | exact beq_self_eq_true _ | rfl | omega))
 | ((with_reducible refine S_trueA ?_ ?_ ?_); (· rfl); (· first | rfl | (first | exact beq_self_eq_true _ | rfl | omega)))
 | refine S_unG rfl rfl rfl rfl ?_
 | refine S_offG (.v (.bool false)) rfl rfl rfl rfl rfl ?_
 | refine S_nil ?_
 | refine S_runN rfl rfl obQ obQ ?_
 | refine S_box (fun bb => ⟨_, _, rfl, obQ, ?_⟩)
 | refine S_slice (fun b => ⟨_, _, rfl, obQ, ?_⟩)
 | refine S_call (f := 20) rfl obQ (by kernel_rfl) (fun w hw => awake_c w (hw.rdm hO.toS memQ) (Pw_at hP hw memQ)) ?_
 | refine S_call (f := 54) rfl obQ (by kernel_rfl) (fun w hw => rShortPicture_c p A c false hS w) ?_
     )
 | (refine D_id ?_; first
 | refine D_nil ?_
 | refine D_tail ?_
 | refine D_run rfl rfl obQ obQ ?_
 | refine D_call (f := 20) rfl obQ (by kernel_rfl) (fun w hw => awake_c w (hw.rdm hO.toS memQ) (Pw_at hP hw memQ)) ?_
 | refine D_call (f := 54) rfl obQ (by kernel_rfl) (fun w hw => rShortPicture_c p A c false hS w) ?_
     )
 | (refine G_id ?_; first
 | refine G_then ?_
 | refine G_block ?_
 | refine G_blockX ?_
 | refine G_blockN rfl ?_
 | refine G_blockR ?_
 | refine G_thenR ?_
 | refine G_thenX ?_
 | refine G_ret rfl obQ (fun w hw => ⟨?_, hw.below⟩)
     )
     )
    all_goals rfl

end Go.Proofs.YtdbffbcobghbeaaGreatDoor
