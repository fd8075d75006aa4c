/- The law of chroma keys: the walk. -/
import Derived.Test.YtjkgklhjbopoaaaGreatDoorMixer71
namespace Go.Proofs.YtjkgklhjbopoaaaGreatDoor
open Go.E Go.RowKit Go.Fl
attribute [local irreducible] G C S D Calls
set_option maxRecDepth 100000
set_option linter.unusedSimpArgs false
set_option linter.unusedVariables false
set_option maxHeartbeats 8000000
theorem lChroma_c (p q : Pic) (A : Option Addr) (c : Nat) (B : Option Addr) (c2 : Nat) (cu cv cl ga : Int) (D : Option Addr) (c3 : Nat) (k : List Int) (hnm : p.nm.size ≤ maxLen) (hnm2 : q.nm.size ≤ maxLen) (hA : A = none → p.s.length = 0 ∧ c = 0) (hB : B = none → q.s.length = 0 ∧ c2 = 0) (hD : D = none → k.length = 0 ∧ c3 = 0) (w : World) (hr : Rd w A (p.s.map (.float .f32))) (hr2 : Rd w B (q.s.map (.float .f32))) (hr3 : Rd w D (k.map (.int .i64))) (hsh : Sh w) (hP : Pw w) : Calls Tryz.prog 7 #[.agg #[.string p.nm, .int .i64 p.w, .int .i64 p.h, .slice A p.s.length c, .string q.nm, .int .i64 q.w, .int .i64 q.h, .slice B q.s.length c2], .agg #[.int .i64 cu, .int .i64 cv, .int .i64 cl, .int .i64 ga], .slice D k.length c3] w fun r w' => r = .returned (.bool true) ∧ Below w.heap.size w w' := by
  refine calls_of T_ok Tryz.func7 rfl Tryz.ntmps7 (Nat.le_of_ble_eq_true rfl) rfl ?_
  by_cases hS : (shortB p && shortB q) = true
  · by_cases hK : skB k.length = true
    · have hS2 := (Bool.and_eq_true _ _).mp hS
      have hs : p.s.length ≤ 1000000 := by have := (shortB_ok hS2.1).2; omega
      have hs2 : q.s.length ≤ 1000000 := by have := (shortB_ok hS2.2).2; omega
      have hl : k.length ≤ 1000000 := by have := skB_le hK; omega
      have hOne : firstL [twE p q, firstL [lvE cu, lvE cv], slE cl ga] = crE p q cu cv cl ga := cr_nest
      obtain ⟨l1, e1, hV1⟩ : ∃ l e, crR p q cu cv cl ga = (l, e) := ⟨_, _, rfl⟩
      obtain ⟨y2, e2, hV2⟩ : ∃ l e, usR p k = (l, e) := ⟨_, _, rfl⟩
      repeat' (first
 | (refine C_id ?_; first
 | refine C_seq ?_
 | refine C_region rfl ?_
 | refine C_skip ?_
 | refine C_drawV (id := 3) 15 [(0, true), (1, true), (3, true), (4, true), (6, true), (7, true), (8, true), (9, true), (2, false), (5, false), (10, false), (11, true), (12, true), (13, true), (14, true)] rfl mixed (by kernel_rfl) rfl ?_
 | refine C_condF rfl obQ ?_
       )
 | (refine S_id ?_; first
 | ((with_reducible refine S_falseO ?_ ?_ ?_); (· rfl); (· first | rfl | (first | rfl | omega)))
 | refine S_unG rfl rfl rfl rfl ?_
 | refine S_pure (sliceX_pure rfl obQ (fun w => sl_arr Tryz.underlying87 (by kernel_rfl) _ w)) ?_
 | (refine S_callM (f := 42) rfl obQ (by kernel_rfl) (fun w hw => lgiven_c p A c hs hA w (hw.rdm hr.toS memQ)) (fun w1O w2O vO hw1O hbO hRO => ?_); obtain ⟨AO, cO, rfl, hSO⟩ := hRO)
 | (refine S_callM (f := 42) rfl obQ (by kernel_rfl) (fun w hw => lgiven_c q B c2 hs2 hB w (hw.rdm hr2.toS memQ)) (fun w1R w2R vR hw1R hbR hRR => ?_); obtain ⟨AR, cR, rfl, hSR⟩ := hRR)
 | (refine S_callM (f := 56) rfl obQ (by kernel_rfl) (fun w hw => lints_c D c3 k hl hD w (hw.rdm hr3.toS memQ)) (fun w1I w2I vI hw1I hbI hRI => ?_); obtain ⟨AI, cI, rfl, hSI⟩ := hRI)
 | (refine S_callM (f := 54) rfl obQ (by kernel_rfl) (fun w hw => chroma_as hV1 hs hs2 (hw.rdm hSO memQ) (hw.rdm hSR memQ)) (fun w1P w2P vP hw1P hbP hRP => ?_); obtain ⟨AP, cP, rfl, hSP⟩ := hRP)
 | (refine S_callM (f := 55) rfl obQ (by kernel_rfl) (fun w hw => unspilled_as hV2 hs hl (hw.rdm hSO memQ) (hw.rdm hSI memQ)) (fun w1Q w2Q vQ hw1Q hbQ hRQ => ?_); obtain ⟨AQ, cQ, rfl, hSQ⟩ := hRQ)
 | refine S_nil ?_
 | refine S_runN rfl rfl obQ obQ ?_
 | refine S_box (fun bb => ⟨_, _, rfl, obQ, ?_⟩)
 | refine S_call (f := 52) rfl obQ (by kernel_rfl) (fun w hw => shps_as (p := p) (q := q) (A := A) (B := B) (c := c) (c2 := c2) hS (.inr ⟨_, rfl, hw.src (i := 0) rfl rfl⟩)) ?_
 | refine S_call (f := 53) rfl obQ (by kernel_rfl) (fun w hw => sk_as hK) ?_
       )
 | refine V_nil ?_
 | refine V_q rfl (Yl_step rfl obQ) ?_
 | refine V_n rfl ?_
 | refine G_V ⟨⟨_, rfl, trivial⟩, ⟨_, rfl⟩, rfl, pstQ⟩ rfl ?_
 | refine G_then ?_
       )
      by_cases hE1 : crE p q cu cv cl ga = 0
      · rw [hE1] at hOne
        obtain ⟨htw, hcu, hcv, hsl⟩ := cr_ok hE1
        obtain ⟨hp, hq, _, _⟩ := tw_ok.1 htw
        have hpq := tw_len htw
        obtain ⟨rfl, rfl⟩ := Prod.mk.inj (hV1.symm.trans (if_pos hE1))
        by_cases hE2 : pmE p k = 0
        · obtain ⟨hp2, hko, hkl⟩ := pm_ok hE2
          have hTwo : firstL [picE p, kdE p k] = 0 := hE2
          have hlu := us_lv hp2 hko hkl
          obtain ⟨rfl, rfl⟩ := Prod.mk.inj (hV2.symm.trans ((if_pos hE2).trans (wiR_1 hlu)))
          repeat' (first
 | (refine C_id ?_; first
 | refine C_seq ?_
 | refine C_region rfl ?_
 | refine C_ret0 ?_
 | refine C_drawV (id := 5) 19 [(0, true), (1, true), (2, true), (3, true), (5, true), (6, true), (8, true), (9, true), (13, true), (14, true), (16, true), (17, true), (18, true), (4, false), (7, false), (10, false), (11, false), (12, false), (15, false)] rfl mixed (by kernel_rfl) rfl ?_
 | refine C_condT rfl obQ ?_
           )
 | (refine S_id ?_; first
 | ((with_reducible (first | refine S_trueE ?_ ?_ | refine S_trueB ?_ ?_ | refine S_trueL ?_ ?_ | refine S_trueD ?_ ?_ | refine S_trueN ?_ ?_)); · (first | exact beq_self_eq_true _ | rfl | omega))
 | ((with_reducible refine S_trueA ?_ ?_ ?_); (· rfl); (· first | rfl | (first | exact beq_self_eq_true _ | rfl | omega)))
 | refine S_unG rfl rfl rfl rfl ?_
 | (refine S_callM (f := 62) rfl obQ (by kernel_rfl) (fun w hw => xchroma_as hs hs2 hp hq hpq hcu hcv hsl (hw.rdm hr.toS memQ) (hw.rdm hr2.toS memQ)) (fun w1V w2V vV hw1V hbV hRV => ?_); obtain ⟨AV, cV, rfl, hSV⟩ := hRV)
 | (refine S_callM (f := 63) rfl obQ (by kernel_rfl) (fun w hw => xunspilled_as hs hp2 hko hkl (hw.rdm hr.toS memQ) (hw.rdm hr3.toS memQ)) (fun w1X w2X vX hw1X hbX hRX => ?_); obtain ⟨AX, cX, rfl, hSX⟩ := hRX)
 | refine S_nil ?_
 | refine S_runN rfl rfl obQ obQ ?_
 | refine S_box (fun bb => ⟨_, _, rfl, obQ, ?_⟩)
 | refine S_slice (fun b => ⟨_, _, rfl, obQ, ?_⟩)
 | refine S_call (f := 17) rfl obQ (by kernel_rfl) (fun w hw => mawake_c w (Sh_at hsh hw memQ) (Pw_at hP hw memQ)) ?_
 | refine S_call (f := 57) rfl obQ (by kernel_rfl) (fun w hw => tw_as rfl hs hs2 hnm hnm2 (hw.rdm hr.toS memQ) (hw.rdm hr2.toS memQ)) ?_
 | refine S_call (f := 58) rfl obQ (by kernel_rfl) (fun w hw => xcc_as (cu := cu) (cv := cv)) ?_
 | refine S_call (f := 59) rfl obQ (by kernel_rfl) (fun w hw => xsl_as rfl) ?_
 | refine S_call (f := 60) rfl obQ (by kernel_rfl) (fun w hw => xcp_as rfl hs hnm (hw.rdm hr.toS memQ)) ?_
 | refine S_call (f := 61) rfl obQ (by kernel_rfl) (fun w hw => xckd_as rfl hl (hw.rdm hr3.toS memQ)) ?_
 | refine S_call (f := 20) rfl obQ (by kernel_rfl) (fun w hw => lwfirstE_c (l := [twE p q, firstL [lvE cu, lvE cv], slE cl ga]) hOne (by simp) rfl _ w ((by first | exact .inr ⟨_, rfl, hw.src (i := 4) rfl rfl⟩ | exact .inr ⟨_, rfl, hw.src (i := 3) rfl rfl⟩ | exact .inr ⟨_, rfl, hw.src (i := 2) rfl rfl⟩ | exact .inr ⟨_, rfl, hw.src (i := 1) rfl rfl⟩ | exact .inr ⟨_, rfl, hw.src (i := 0) rfl rfl⟩))) ?_
 | refine S_call (f := 20) rfl obQ (by kernel_rfl) (fun w hw => lwfirstE_c (l := [picE p, kdE p k]) hTwo (by simp) rfl _ w ((by first | exact .inr ⟨_, rfl, hw.src (i := 4) rfl rfl⟩ | exact .inr ⟨_, rfl, hw.src (i := 3) rfl rfl⟩ | exact .inr ⟨_, rfl, hw.src (i := 2) rfl rfl⟩ | exact .inr ⟨_, rfl, hw.src (i := 1) rfl rfl⟩ | exact .inr ⟨_, rfl, hw.src (i := 0) rfl rfl⟩))) ?_
 | refine S_call (f := 26) rfl obQ (by kernel_rfl) (fun w hw => lkey_as _ rfl (lvz_len _ _ _) (by rw [zwI_len, lvs_len]; exact hs) w (hw.rdm hSP memQ) (hw.rdm hSV memQ)) ?_
 | refine S_call (f := 64) rfl obQ (by kernel_rfl) (fun w hw => lis_c (wiP p (zwI usF' (lvs p) k)) _ _ _ _ (by rw [wi_len, zwI_len, lvs_len]; exact hs) (wi_fin hlu) w (hw.rdm hSQ memQ) (hw.rdm hSX memQ)) ?_
           )
 | refine V_nil ?_
 | refine V_q rfl (Yl_step rfl obQ) ?_
 | refine V_n rfl ?_
 | refine G_V ⟨⟨_, rfl, trivial⟩, ⟨_, rfl⟩, rfl, pstQ⟩ rfl ?_
 | refine G_then ?_
 | refine G_ret rfl obQ (fun w hw => ⟨?_, hw.below⟩)
           )
          all_goals rfl
        · have hne2 := hE2
          have hTwo : firstL [picE p, kdE p k] = pmE p k := rfl
          obtain ⟨rfl, rfl⟩ := Prod.mk.inj (hV2.symm.trans (if_neg hE2))
          repeat' (first
 | (refine C_id ?_; first
 | refine C_seq ?_
 | refine C_region rfl ?_
 | refine C_skip ?_
 | refine C_ret0 ?_
 | refine C_drawV (id := 5) 19 [(0, true), (1, true), (2, true), (3, true), (5, true), (6, true), (8, true), (9, true), (13, true), (14, true), (16, true), (17, true), (18, true), (4, false), (7, false), (10, false), (11, false), (12, false), (15, false)] rfl mixed (by kernel_rfl) rfl ?_
 | refine C_condT rfl obQ ?_
 | (refine C_cond rfl obQ (fun h => ?_) (fun h => ?_) <;> (try simp only [cdS] at h) <;> (try (exfalso; omega)) <;> (try exact cdF h) <;> (try contradiction))
           )
 | (refine S_id ?_; first
 | ((with_reducible (first | refine S_trueE ?_ ?_ | refine S_trueB ?_ ?_ | refine S_trueL ?_ ?_ | refine S_trueD ?_ ?_ | refine S_trueN ?_ ?_)); · (first | exact beq_self_eq_true _ | rfl | omega))
 | ((with_reducible refine S_trueA ?_ ?_ ?_); (· rfl); (· first | rfl | (first | exact beq_self_eq_true _ | rfl | omega)))
 | refine S_unG rfl rfl rfl rfl ?_
 | (refine S_callM (f := 62) rfl obQ (by kernel_rfl) (fun w hw => xchroma_as hs hs2 hp hq hpq hcu hcv hsl (hw.rdm hr.toS memQ) (hw.rdm hr2.toS memQ)) (fun w1V w2V vV hw1V hbV hRV => ?_); obtain ⟨AV, cV, rfl, hSV⟩ := hRV)
 | refine S_nil ?_
 | refine S_runN rfl rfl obQ obQ ?_
 | refine S_box (fun bb => ⟨_, _, rfl, obQ, ?_⟩)
 | refine S_slice (fun b => ⟨_, _, rfl, obQ, ?_⟩)
 | refine S_call (f := 17) rfl obQ (by kernel_rfl) (fun w hw => mawake_c w (Sh_at hsh hw memQ) (Pw_at hP hw memQ)) ?_
 | refine S_call (f := 57) rfl obQ (by kernel_rfl) (fun w hw => tw_as rfl hs hs2 hnm hnm2 (hw.rdm hr.toS memQ) (hw.rdm hr2.toS memQ)) ?_
 | refine S_call (f := 58) rfl obQ (by kernel_rfl) (fun w hw => xcc_as (cu := cu) (cv := cv)) ?_
 | refine S_call (f := 59) rfl obQ (by kernel_rfl) (fun w hw => xsl_as rfl) ?_
 | refine S_call (f := 60) rfl obQ (by kernel_rfl) (fun w hw => xcp_as rfl hs hnm (hw.rdm hr.toS memQ)) ?_
 | refine S_call (f := 61) rfl obQ (by kernel_rfl) (fun w hw => xckd_as rfl hl (hw.rdm hr3.toS memQ)) ?_
 | refine S_call (f := 20) rfl obQ (by kernel_rfl) (fun w hw => lwfirstE_c (l := [twE p q, firstL [lvE cu, lvE cv], slE cl ga]) hOne (by simp) rfl _ w ((by first | exact .inr ⟨_, rfl, hw.src (i := 4) rfl rfl⟩ | exact .inr ⟨_, rfl, hw.src (i := 3) rfl rfl⟩ | exact .inr ⟨_, rfl, hw.src (i := 2) rfl rfl⟩ | exact .inr ⟨_, rfl, hw.src (i := 1) rfl rfl⟩ | exact .inr ⟨_, rfl, hw.src (i := 0) rfl rfl⟩))) ?_
 | refine S_call (f := 20) rfl obQ (by kernel_rfl) (fun w hw => lwfirstE_c (l := [picE p, kdE p k]) hTwo (by simp) rfl _ w ((by first | exact .inr ⟨_, rfl, hw.src (i := 4) rfl rfl⟩ | exact .inr ⟨_, rfl, hw.src (i := 3) rfl rfl⟩ | exact .inr ⟨_, rfl, hw.src (i := 2) rfl rfl⟩ | exact .inr ⟨_, rfl, hw.src (i := 1) rfl rfl⟩ | exact .inr ⟨_, rfl, hw.src (i := 0) rfl rfl⟩))) ?_
 | refine S_call (f := 26) rfl obQ (by kernel_rfl) (fun w hw => lkey_as _ rfl (lvz_len _ _ _) (by rw [zwI_len, lvs_len]; exact hs) w (hw.rdm hSP memQ) (hw.rdm hSV memQ)) ?_
 | refine S_call (f := 64) rfl obQ (by kernel_rfl) (fun w hw => lisE_c _ hne2 zP _ none _ 0 w) ?_
           )
 | refine V_nil ?_
 | refine V_q rfl (Yl_step rfl obQ) ?_
 | refine V_n rfl ?_
 | refine G_V ⟨⟨_, rfl, trivial⟩, ⟨_, rfl⟩, rfl, pstQ⟩ rfl ?_
 | refine G_then ?_
 | refine G_ret rfl obQ (fun w hw => ⟨?_, hw.below⟩)
           )
          all_goals rfl
      · have hne1 := hE1
        obtain ⟨rfl, rfl⟩ := Prod.mk.inj (hV1.symm.trans (if_neg hE1))
        by_cases hE2 : pmE p k = 0
        · obtain ⟨hp2, hko, hkl⟩ := pm_ok hE2
          have hTwo : firstL [picE p, kdE p k] = 0 := hE2
          have hlu := us_lv hp2 hko hkl
          obtain ⟨rfl, rfl⟩ := Prod.mk.inj (hV2.symm.trans ((if_pos hE2).trans (wiR_1 hlu)))
          repeat' (first
 | (refine C_id ?_; first
 | refine C_seq ?_
 | refine C_region rfl ?_
 | refine C_skip ?_
 | refine C_ret0 ?_
 | refine C_drawV (id := 5) 19 [(0, true), (1, true), (2, true), (3, true), (5, true), (6, true), (8, true), (9, true), (13, true), (14, true), (16, true), (17, true), (18, true), (4, false), (7, false), (10, false), (11, false), (12, false), (15, false)] rfl mixed (by kernel_rfl) rfl ?_
 | refine C_condT rfl obQ ?_
 | (refine C_cond rfl obQ (fun h => ?_) (fun h => ?_) <;> (try simp only [cdS] at h) <;> (try (exfalso; omega)) <;> (try exact cdF h) <;> (try contradiction))
           )
 | (refine S_id ?_; first
 | ((with_reducible (first | refine S_trueE ?_ ?_ | refine S_trueB ?_ ?_ | refine S_trueL ?_ ?_ | refine S_trueD ?_ ?_ | refine S_trueN ?_ ?_)); · (first | exact beq_self_eq_true _ | rfl | omega))
 | ((with_reducible refine S_trueA ?_ ?_ ?_); (· rfl); (· first | rfl | (first | exact beq_self_eq_true _ | rfl | omega)))
 | refine S_unG rfl rfl rfl rfl ?_
 | (refine S_callM (f := 63) rfl obQ (by kernel_rfl) (fun w hw => xunspilled_as hs hp2 hko hkl (hw.rdm hr.toS memQ) (hw.rdm hr3.toS memQ)) (fun w1X w2X vX hw1X hbX hRX => ?_); obtain ⟨AX, cX, rfl, hSX⟩ := hRX)
 | refine S_nil ?_
 | refine S_runN rfl rfl obQ obQ ?_
 | refine S_box (fun bb => ⟨_, _, rfl, obQ, ?_⟩)
 | refine S_slice (fun b => ⟨_, _, rfl, obQ, ?_⟩)
 | refine S_call (f := 17) rfl obQ (by kernel_rfl) (fun w hw => mawake_c w (Sh_at hsh hw memQ) (Pw_at hP hw memQ)) ?_
 | refine S_call (f := 57) rfl obQ (by kernel_rfl) (fun w hw => tw_as rfl hs hs2 hnm hnm2 (hw.rdm hr.toS memQ) (hw.rdm hr2.toS memQ)) ?_
 | refine S_call (f := 58) rfl obQ (by kernel_rfl) (fun w hw => xcc_as (cu := cu) (cv := cv)) ?_
 | refine S_call (f := 59) rfl obQ (by kernel_rfl) (fun w hw => xsl_as rfl) ?_
 | refine S_call (f := 60) rfl obQ (by kernel_rfl) (fun w hw => xcp_as rfl hs hnm (hw.rdm hr.toS memQ)) ?_
 | refine S_call (f := 61) rfl obQ (by kernel_rfl) (fun w hw => xckd_as rfl hl (hw.rdm hr3.toS memQ)) ?_
 | refine S_call (f := 20) rfl obQ (by kernel_rfl) (fun w hw => lwfirstE_c (l := [twE p q, firstL [lvE cu, lvE cv], slE cl ga]) hOne (by simp) rfl _ w ((by first | exact .inr ⟨_, rfl, hw.src (i := 4) rfl rfl⟩ | exact .inr ⟨_, rfl, hw.src (i := 3) rfl rfl⟩ | exact .inr ⟨_, rfl, hw.src (i := 2) rfl rfl⟩ | exact .inr ⟨_, rfl, hw.src (i := 1) rfl rfl⟩ | exact .inr ⟨_, rfl, hw.src (i := 0) rfl rfl⟩))) ?_
 | refine S_call (f := 20) rfl obQ (by kernel_rfl) (fun w hw => lwfirstE_c (l := [picE p, kdE p k]) hTwo (by simp) rfl _ w ((by first | exact .inr ⟨_, rfl, hw.src (i := 4) rfl rfl⟩ | exact .inr ⟨_, rfl, hw.src (i := 3) rfl rfl⟩ | exact .inr ⟨_, rfl, hw.src (i := 2) rfl rfl⟩ | exact .inr ⟨_, rfl, hw.src (i := 1) rfl rfl⟩ | exact .inr ⟨_, rfl, hw.src (i := 0) rfl rfl⟩))) ?_
 | refine S_call (f := 26) rfl obQ (by kernel_rfl) (fun w hw => lkeyE_c _ hne1 _ _ _ w) ?_
 | refine S_call (f := 64) rfl obQ (by kernel_rfl) (fun w hw => lis_c (wiP p (zwI usF' (lvs p) k)) _ _ _ _ (by rw [wi_len, zwI_len, lvs_len]; exact hs) (wi_fin hlu) w (hw.rdm hSQ memQ) (hw.rdm hSX memQ)) ?_
           )
 | refine V_nil ?_
 | refine V_q rfl (Yl_step rfl obQ) ?_
 | refine V_n rfl ?_
 | refine G_V ⟨⟨_, rfl, trivial⟩, ⟨_, rfl⟩, rfl, pstQ⟩ rfl ?_
 | refine G_then ?_
 | refine G_ret rfl obQ (fun w hw => ⟨?_, hw.below⟩)
           )
          all_goals rfl
        · have hne2 := hE2
          have hTwo : firstL [picE p, kdE p k] = pmE p k := rfl
          obtain ⟨rfl, rfl⟩ := Prod.mk.inj (hV2.symm.trans (if_neg hE2))
          repeat' (first
 | (refine C_id ?_; first
 | refine C_seq ?_
 | refine C_region rfl ?_
 | refine C_skip ?_
 | refine C_ret0 ?_
 | refine C_drawV (id := 5) 19 [(0, true), (1, true), (2, true), (3, true), (5, true), (6, true), (8, true), (9, true), (13, true), (14, true), (16, true), (17, true), (18, true), (4, false), (7, false), (10, false), (11, false), (12, false), (15, false)] rfl mixed (by kernel_rfl) rfl ?_
 | (refine C_cond rfl obQ (fun h => ?_) (fun h => ?_) <;> (try simp only [cdS] at h) <;> (try (exfalso; omega)) <;> (try exact cdF h) <;> (try contradiction))
           )
 | (refine S_id ?_; first
 | ((with_reducible refine S_trueA ?_ ?_ ?_); (· rfl); (· first | rfl | (first | exact beq_self_eq_true _ | rfl | omega)))
 | refine S_unG rfl rfl rfl rfl ?_
 | refine S_nil ?_
 | refine S_runN rfl rfl obQ obQ ?_
 | refine S_box (fun bb => ⟨_, _, rfl, obQ, ?_⟩)
 | refine S_slice (fun b => ⟨_, _, rfl, obQ, ?_⟩)
 | refine S_call (f := 17) rfl obQ (by kernel_rfl) (fun w hw => mawake_c w (Sh_at hsh hw memQ) (Pw_at hP hw memQ)) ?_
 | refine S_call (f := 57) rfl obQ (by kernel_rfl) (fun w hw => tw_as rfl hs hs2 hnm hnm2 (hw.rdm hr.toS memQ) (hw.rdm hr2.toS memQ)) ?_
 | refine S_call (f := 58) rfl obQ (by kernel_rfl) (fun w hw => xcc_as (cu := cu) (cv := cv)) ?_
 | refine S_call (f := 59) rfl obQ (by kernel_rfl) (fun w hw => xsl_as rfl) ?_
 | refine S_call (f := 60) rfl obQ (by kernel_rfl) (fun w hw => xcp_as rfl hs hnm (hw.rdm hr.toS memQ)) ?_
 | refine S_call (f := 61) rfl obQ (by kernel_rfl) (fun w hw => xckd_as rfl hl (hw.rdm hr3.toS memQ)) ?_
 | refine S_call (f := 20) rfl obQ (by kernel_rfl) (fun w hw => lwfirstE_c (l := [twE p q, firstL [lvE cu, lvE cv], slE cl ga]) hOne (by simp) rfl _ w ((by first | exact .inr ⟨_, rfl, hw.src (i := 4) rfl rfl⟩ | exact .inr ⟨_, rfl, hw.src (i := 3) rfl rfl⟩ | exact .inr ⟨_, rfl, hw.src (i := 2) rfl rfl⟩ | exact .inr ⟨_, rfl, hw.src (i := 1) rfl rfl⟩ | exact .inr ⟨_, rfl, hw.src (i := 0) rfl rfl⟩))) ?_
 | refine S_call (f := 20) rfl obQ (by kernel_rfl) (fun w hw => lwfirstE_c (l := [picE p, kdE p k]) hTwo (by simp) rfl _ w ((by first | exact .inr ⟨_, rfl, hw.src (i := 4) rfl rfl⟩ | exact .inr ⟨_, rfl, hw.src (i := 3) rfl rfl⟩ | exact .inr ⟨_, rfl, hw.src (i := 2) rfl rfl⟩ | exact .inr ⟨_, rfl, hw.src (i := 1) rfl rfl⟩ | exact .inr ⟨_, rfl, hw.src (i := 0) rfl rfl⟩))) ?_
 | refine S_call (f := 26) rfl obQ (by kernel_rfl) (fun w hw => lkeyE_c _ hne1 _ _ _ w) ?_
 | refine S_call (f := 64) rfl obQ (by kernel_rfl) (fun w hw => lisE_c _ hne2 zP _ none _ 0 w) ?_
           )
 | refine V_nil ?_
 | refine V_q rfl (Yl_step rfl obQ) ?_
 | refine V_n rfl ?_
 | refine G_V ⟨⟨_, rfl, trivial⟩, ⟨_, rfl⟩, rfl, pstQ⟩ rfl ?_
 | refine G_then ?_
 | refine G_ret rfl obQ (fun w hw => ⟨?_, hw.below⟩)
           )
          all_goals rfl
    · have hK : skB k.length = false := by simpa using hK
      repeat' (first
 | (refine C_id ?_; first
 | refine C_seq ?_
 | refine C_region rfl ?_
 | refine C_ret0 ?_
 | refine C_condT rfl obQ ?_
       )
 | (refine S_id ?_; first
 | refine S_unG rfl rfl rfl rfl ?_
 | refine S_pure (sliceX_pure rfl obQ (fun w => sl_arr Tryz.underlying87 (by kernel_rfl) _ w)) ?_
 | refine S_nil ?_
 | refine S_runN rfl rfl obQ obQ ?_
 | refine S_box (fun bb => ⟨_, _, rfl, obQ, ?_⟩)
 | refine S_call (f := 17) rfl obQ (by kernel_rfl) (fun w hw => mawake_c w (Sh_at hsh hw memQ) (Pw_at hP hw memQ)) ?_
 | refine S_call (f := 52) rfl obQ (by kernel_rfl) (fun w hw => shps_as (p := p) (q := q) (A := A) (B := B) (c := c) (c2 := c2) hS (.inr ⟨_, rfl, hw.src (i := 0) rfl rfl⟩)) ?_
 | refine S_call (f := 53) rfl obQ (by kernel_rfl) (fun w hw => sk_as hK) ?_
       )
 | refine G_then ?_
 | refine G_thenR ?_
 | refine G_ret rfl obQ (fun w hw => ⟨?_, hw.below⟩)
       )
      all_goals rfl
  · have hS : (shortB p && shortB q) = false := by simpa using hS
    repeat' (first
 | (refine C_id ?_; first
 | refine C_seq ?_
 | refine C_region rfl ?_
 | refine C_ret0 ?_
 | refine C_condT rfl obQ ?_
     )
 | (refine S_id ?_; first
 | refine S_pure (sliceX_pure rfl obQ (fun w => sl_arr Tryz.underlying87 (by kernel_rfl) _ w)) ?_
 | refine S_offG (.v (.bool false)) rfl rfl rfl rfl rfl ?_
 | refine S_nil ?_
 | refine S_runN rfl rfl obQ obQ ?_
 | refine S_box (fun bb => ⟨_, _, rfl, obQ, ?_⟩)
 | refine S_call (f := 17) rfl obQ (by kernel_rfl) (fun w hw => mawake_c w (Sh_at hsh hw memQ) (Pw_at hP hw memQ)) ?_
 | refine S_call (f := 52) rfl obQ (by kernel_rfl) (fun w hw => shps_as (p := p) (q := q) (A := A) (B := B) (c := c) (c2 := c2) hS (.inr ⟨_, rfl, hw.src (i := 0) rfl rfl⟩)) ?_
     )
 | refine G_then ?_
 | refine G_thenR ?_
 | refine G_ret rfl obQ (fun w hw => ⟨?_, hw.below⟩)
     )
    all_goals rfl
end Go.Proofs.YtjkgklhjbopoaaaGreatDoor
