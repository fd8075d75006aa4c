/- The law of the keys: the walk. -/
import Derived.Test.YtjkgklhjbopoaaaGreatDoorMixer58
namespace Go.Proofs.YtjkgklhjbopoaaaGreatDoor
open Go.E Go.RowKit Go.Fl
attribute [local irreducible] G C S D Calls
set_option maxRecDepth 100000
set_option linter.unusedSimpArgs false
set_option linter.unusedVariables false
set_option maxHeartbeats 8000000
theorem lKeys_c (p : Pic) (A : Option Addr) (c : Nat) (cl ga : Int) (B : Option Addr) (c2 : Nat) (k : List Int) (D : Option Addr) (c3 : Nat) (k2 : List Int) (hnm : p.nm.size ≤ maxLen) (hA : A = none → p.s.length = 0 ∧ c = 0) (hB : B = none → k.length = 0 ∧ c2 = 0) (hD : D = none → k2.length = 0 ∧ c3 = 0) (w : World) (hr : Rd w A (p.s.map (.float .f32))) (hr2 : Rd w B (k.map (.int .i64))) (hr3 : Rd w D (k2.map (.int .i64))) (hsh : Sh w) (hP : Pw w) : Calls Tryz.prog 12 #[.agg #[.string p.nm, .int .i64 p.w, .int .i64 p.h, .slice A p.s.length c], .agg #[.int .i64 cl, .int .i64 ga], .agg #[.slice B k.length c2, .slice D k2.length c3]] w fun r w' => r = .returned (.bool true) ∧ Below w.heap.size w w' := by
  refine calls_of T_ok Tryz.func12 rfl Tryz.ntmps12 (Nat.le_of_ble_eq_true rfl) rfl ?_
  by_cases hS : shortB p = true
  · by_cases hK1 : skB k.length = true
    · by_cases hK2 : skB k2.length = true
      · have hs : p.s.length ≤ 1000000 := by have := (shortB_ok hS).2; omega
        have hl1 : k.length ≤ 1000000 := by have := skB_le hK1; omega
        have hl2 : k2.length ≤ 1000000 := by have := skB_le hK2; omega
        obtain ⟨l1, e1, hV1⟩ : ∃ l e, lnR p cl ga = (l, e) := ⟨_, _, rfl⟩
        obtain ⟨l2, e2, hV2⟩ : ∃ l e, kvR k = (l, e) := ⟨_, _, rfl⟩
        obtain ⟨l3, e3, hV3⟩ : ∃ l e, tgR (fun x y => min x y) k k2 = (l, e) := ⟨_, _, rfl⟩
        obtain ⟨l4, e4, hV4⟩ : ∃ l e, tgR (fun x y => max x y) k k2 = (l, e) := ⟨_, _, rfl⟩
        repeat' (first
 | (refine C_id ?_; first
 | refine C_seq ?_
 | refine C_region rfl ?_
 | refine C_skip ?_
 | refine C_drawV (id := 3) 8 [(0, true), (2, true), (1, false), (3, false), (4, true), (5, true), (6, true), (7, true)] rfl mixed (by kernel_rfl) rfl ?_
 | refine C_drawV (id := 5) 11 [(0, true), (1, true), (3, true), (4, true), (2, false), (5, false), (6, false), (7, true), (8, true), (9, true), (10, true)] rfl mixed (by kernel_rfl) rfl ?_
 | refine C_drawV (id := 6) 11 [(0, true), (1, true), (3, true), (4, true), (2, false), (5, false), (6, false), (7, true), (8, true), (9, true), (10, true)] rfl mixed (by kernel_rfl) rfl ?_
 | refine C_condF rfl obQ ?_
         )
 | (refine S_id ?_; first
 | ((with_reducible refine S_falseO ?_ ?_ ?_); (· rfl); (· first | rfl | (first | rfl | omega)))
 | refine S_unG rfl rfl rfl rfl ?_
 | (refine S_callM (f := 42) rfl obQ (by kernel_rfl) (fun w hw => lgiven_c p A c hs hA w (hw.rdm hr.toS memQ)) (fun w1O w2O vO hw1O hbO hRO => ?_); obtain ⟨AO, cO, rfl, hSO⟩ := hRO)
 | (refine S_callM (f := 56) rfl obQ (by kernel_rfl) (fun w hw => lints_c B c2 k hl1 hB w (hw.rdm hr2.toS memQ)) (fun w1I w2I vI hw1I hbI hRI => ?_); obtain ⟨AI, cI, rfl, hSI⟩ := hRI)
 | (refine S_callM (f := 56) rfl obQ (by kernel_rfl) (fun w hw => lints_c D c3 k2 hl2 hD w (hw.rdm hr3.toS memQ)) (fun w1J w2J vJ hw1J hbJ hRJ => ?_); obtain ⟨AJ, cJ, rfl, hSJ⟩ := hRJ)
 | (refine S_callM (f := 41) rfl obQ (by kernel_rfl) (fun w hw => linear_as hV1 hs (hw.rdm hSO memQ)) (fun w1P w2P vP hw1P hbP hRP => ?_); obtain ⟨AP, cP, rfl, hSP⟩ := hRP)
 | (refine S_callM (f := 87) rfl obQ (by kernel_rfl) (fun w hw => inverted_as hV2 hl1 (hw.rdm hSI memQ)) (fun w1Q w2Q vQ hw1Q hbQ hRQ => ?_); obtain ⟨AQ, cQ, rfl, hSQ⟩ := hRQ)
 | (refine S_callM (f := 88) rfl obQ (by kernel_rfl) (fun w hw => lesser_as hV3 hl1 hl2 (hw.rdm hSI memQ) (hw.rdm hSJ memQ)) (fun w1R w2R vR hw1R hbR hRR => ?_); obtain ⟨AR, cR, rfl, hSR⟩ := hRR)
 | (refine S_callM (f := 89) rfl obQ (by kernel_rfl) (fun w hw => greater_as hV4 hl1 hl2 (hw.rdm hSI memQ) (hw.rdm hSJ memQ)) (fun w1T w2T vT hw1T hbT hRT => ?_); obtain ⟨AT, cT, rfl, hST⟩ := hRT)
 | refine S_nil ?_
 | refine S_runN rfl rfl obQ obQ ?_
 | refine S_box (fun bb => ⟨_, _, rfl, obQ, ?_⟩)
 | refine S_call (f := 86) rfl obQ (by kernel_rfl) (fun w hw => shp_as hS) ?_
 | refine S_call (f := 53) rfl obQ (by kernel_rfl) (fun w hw => sk_as hK1) ?_
 | refine S_call (f := 53) rfl obQ (by kernel_rfl) (fun w hw => sk_as hK2) ?_
         )
 | refine V_nil ?_
 | refine V_q rfl (Yl_step rfl obQ) ?_
 | refine V_n rfl ?_
 | refine G_V ⟨⟨_, rfl, trivial⟩, ⟨_, rfl⟩, rfl, pstQ⟩ rfl ?_
 | refine G_then ?_
         )
        by_cases hBd : keE k = 0
        · have hBad := hBd
          have hko := ke_ok.1 hBd
          obtain ⟨rfl, rfl⟩ := Prod.mk.inj (hV2.symm.trans (if_pos hBd))
          by_cases hTh : kkE k k2 = 0
          · have hThree := hTh
            have hle := (kk_ok.1 hTh).2.2
            obtain ⟨rfl, rfl⟩ := Prod.mk.inj (hV3.symm.trans (if_pos hTh))
            obtain ⟨rfl, rfl⟩ := Prod.mk.inj (hV4.symm.trans (if_pos hTh))
            by_cases hE1 : lnE p cl ga = 0
            · obtain ⟨hp, hsl⟩ := ln_ok hE1
              have hOne : firstL [picE p, slE cl ga] = 0 := hE1
              obtain ⟨rfl, rfl⟩ := Prod.mk.inj (hV1.symm.trans (if_pos hE1))
              repeat' (first
 | (refine C_id ?_; first
 | refine C_seq ?_
 | refine C_region rfl ?_
 | refine C_ret0 ?_
 | refine C_drawV (id := 7) 13 [(0, true), (1, true), (3, true), (5, true), (9, true), (10, true), (11, true), (12, true), (2, false), (4, false), (6, false), (7, false), (8, false)] rfl mixed (by kernel_rfl) rfl ?_
 | refine C_drawV (id := 14) 9 [(0, true), (1, true), (2, true), (3, true), (5, true), (6, true), (7, true), (8, true), (4, false)] rfl mixed (by kernel_rfl) rfl ?_
 | refine C_condT rfl obQ ?_
               )
 | (refine S_id ?_; first
 | ((with_reducible (first | refine S_trueE ?_ ?_ | refine S_trueB ?_ ?_ | refine S_trueL ?_ ?_ | refine S_trueD ?_ ?_ | refine S_trueN ?_ ?_)); · (first | exact beq_self_eq_true _ | rfl | omega))
 | ((with_reducible refine S_trueA ?_ ?_ ?_); (· rfl); (· first | rfl | (first | exact beq_self_eq_true _ | rfl | omega)))
 | refine S_unG rfl rfl rfl rfl ?_
 | (refine S_callM (f := 56) rfl obQ (by kernel_rfl) (fun w hw => lints_c B c2 k hl1 hB w (hw.rdm hr2.toS memQ)) (fun w1I w2I vI hw1I hbI hRI => ?_); obtain ⟨AI, cI, rfl, hSI⟩ := hRI)
 | (refine S_callM (f := 92) rfl obQ (by kernel_rfl) (fun w hw => xlinear_as hs hp hsl (hw.rdm hr.toS memQ)) (fun w1V w2V vV hw1V hbV hRV => ?_); obtain ⟨AV, cV, rfl, hSV⟩ := hRV)
 | (refine S_callM (f := 93) rfl obQ (by kernel_rfl) (fun w hw => xinverted_as hl1 hko.s (hw.rdm hr2.toS memQ)) (fun w1X w2X vX hw1X hbX hRX => ?_); obtain ⟨AX, cX, rfl, hSX⟩ := hRX)
 | (refine S_callM (f := 94) rfl obQ (by kernel_rfl) (fun w hw => xlesser_as hl1 hl2 hle (hw.rdm hr2.toS memQ) (hw.rdm hr3.toS memQ)) (fun w1Y w2Y vY hw1Y hbY hRY => ?_); obtain ⟨AY, cY, rfl, hSY⟩ := hRY)
 | (refine S_callM (f := 95) rfl obQ (by kernel_rfl) (fun w hw => xgreater_as hl1 hl2 hle (hw.rdm hr2.toS memQ) (hw.rdm hr3.toS memQ)) (fun w1Z w2Z vZ hw1Z hbZ hRZ => ?_); obtain ⟨AZ, cZ, rfl, hSZ⟩ := hRZ)
 | refine S_nil ?_
 | refine S_runN rfl rfl obQ obQ ?_
 | refine S_slice (fun b => ⟨_, _, rfl, obQ, ?_⟩)
 | refine S_call (f := 17) rfl obQ (by kernel_rfl) (fun w hw => mawake_c w (Sh_at hsh hw memQ) (Pw_at hP hw memQ)) ?_
 | refine S_call (f := 90) rfl obQ (by kernel_rfl) (fun w hw => xck_as hBad hl1 (hw.rdm hr2.toS memQ)) ?_
 | refine S_call (f := 60) rfl obQ (by kernel_rfl) (fun w hw => xcp_as rfl hs hnm (hw.rdm hr.toS memQ)) ?_
 | refine S_call (f := 59) rfl obQ (by kernel_rfl) (fun w hw => xsl_as rfl) ?_
 | refine S_call (f := 20) rfl obQ (by kernel_rfl) (fun w hw => lwfirstE_c (l := [picE p, slE cl ga]) hOne (by simp) rfl _ w (.inr ⟨_, rfl, hw.src (i := 3) rfl rfl⟩)) ?_
 | refine S_call (f := 91) rfl obQ (by kernel_rfl) (fun w hw => xcks_as hThree hl1 hl2 (hw.rdm hr2.toS memQ) (hw.rdm hr3.toS memQ)) ?_
 | refine S_call (f := 96) rfl obQ (by kernel_rfl) (fun w hw => ck_as hBad hl1 (hw.rdm hSI memQ)) ?_
 | refine S_call (f := 26) rfl obQ (by kernel_rfl) (fun w hw => lkey_as _ rfl (lvm_len _ _) (by rw [List.length_map, lvs_len]; exact hs) w (hw.rdm hSP memQ) (hw.rdm hSV memQ)) ?_
 | refine S_call (f := 26) rfl obQ (by kernel_rfl) (fun w hw => lkey_as _ rfl (List.length_map _) (by rw [List.length_map]; exact hl1) w (hw.rdm hSQ memQ) (hw.rdm hSX memQ)) ?_
 | refine S_call (f := 26) rfl obQ (by kernel_rfl) (fun w hw => lkey_as _ rfl (zwI_len _ _ _) (by rw [zwI_len]; exact hl1) w (hw.rdm hSR memQ) (hw.rdm hSY memQ)) ?_
 | refine S_call (f := 26) rfl obQ (by kernel_rfl) (fun w hw => lkey_as _ rfl (zwI_len _ _ _) (by rw [zwI_len]; exact hl1) w (hw.rdm hST memQ) (hw.rdm hSZ memQ)) ?_
               )
 | refine V_nil ?_
 | refine V_q rfl (Yl_step rfl obQ) ?_
 | refine V_n rfl ?_
 | refine G_V ⟨⟨_, rfl, trivial⟩, ⟨_, rfl⟩, rfl, pstQ⟩ rfl ?_
 | refine G_then ?_
 | refine G_ret rfl obQ (fun w hw => ⟨?_, hw.below⟩)
               )
              all_goals rfl
            · have hne1 := hE1
              have hOne : firstL [picE p, slE cl ga] = lnE p cl ga := rfl
              obtain ⟨rfl, rfl⟩ := Prod.mk.inj (hV1.symm.trans (if_neg hE1))
              repeat' (first
 | (refine C_id ?_; first
 | refine C_seq ?_
 | refine C_region rfl ?_
 | refine C_skip ?_
 | refine C_ret0 ?_
 | refine C_drawV (id := 7) 13 [(0, true), (1, true), (3, true), (5, true), (9, true), (10, true), (11, true), (12, true), (2, false), (4, false), (6, false), (7, false), (8, false)] rfl mixed (by kernel_rfl) rfl ?_
 | refine C_drawV (id := 14) 9 [(0, true), (1, true), (2, true), (3, true), (5, true), (6, true), (7, true), (8, true), (4, false)] rfl mixed (by kernel_rfl) rfl ?_
 | refine C_condT rfl obQ ?_
 | (refine C_cond rfl obQ (fun h => ?_) (fun h => ?_) <;> (try simp only [cdS] at h) <;> (try (exfalso; omega)) <;> (try exact cdF h) <;> (try contradiction))
               )
 | (refine S_id ?_; first
 | ((with_reducible (first | refine S_trueE ?_ ?_ | refine S_trueB ?_ ?_ | refine S_trueL ?_ ?_ | refine S_trueD ?_ ?_ | refine S_trueN ?_ ?_)); · (first | exact beq_self_eq_true _ | rfl | omega))
 | ((with_reducible refine S_trueA ?_ ?_ ?_); (· rfl); (· first | rfl | (first | exact beq_self_eq_true _ | rfl | omega)))
 | refine S_unG rfl rfl rfl rfl ?_
 | (refine S_callM (f := 56) rfl obQ (by kernel_rfl) (fun w hw => lints_c B c2 k hl1 hB w (hw.rdm hr2.toS memQ)) (fun w1I w2I vI hw1I hbI hRI => ?_); obtain ⟨AI, cI, rfl, hSI⟩ := hRI)
 | (refine S_callM (f := 93) rfl obQ (by kernel_rfl) (fun w hw => xinverted_as hl1 hko.s (hw.rdm hr2.toS memQ)) (fun w1X w2X vX hw1X hbX hRX => ?_); obtain ⟨AX, cX, rfl, hSX⟩ := hRX)
 | (refine S_callM (f := 94) rfl obQ (by kernel_rfl) (fun w hw => xlesser_as hl1 hl2 hle (hw.rdm hr2.toS memQ) (hw.rdm hr3.toS memQ)) (fun w1Y w2Y vY hw1Y hbY hRY => ?_); obtain ⟨AY, cY, rfl, hSY⟩ := hRY)
 | (refine S_callM (f := 95) rfl obQ (by kernel_rfl) (fun w hw => xgreater_as hl1 hl2 hle (hw.rdm hr2.toS memQ) (hw.rdm hr3.toS memQ)) (fun w1Z w2Z vZ hw1Z hbZ hRZ => ?_); obtain ⟨AZ, cZ, rfl, hSZ⟩ := hRZ)
 | refine S_nil ?_
 | refine S_runN rfl rfl obQ obQ ?_
 | refine S_slice (fun b => ⟨_, _, rfl, obQ, ?_⟩)
 | refine S_call (f := 17) rfl obQ (by kernel_rfl) (fun w hw => mawake_c w (Sh_at hsh hw memQ) (Pw_at hP hw memQ)) ?_
 | refine S_call (f := 90) rfl obQ (by kernel_rfl) (fun w hw => xck_as hBad hl1 (hw.rdm hr2.toS memQ)) ?_
 | refine S_call (f := 60) rfl obQ (by kernel_rfl) (fun w hw => xcp_as rfl hs hnm (hw.rdm hr.toS memQ)) ?_
 | refine S_call (f := 59) rfl obQ (by kernel_rfl) (fun w hw => xsl_as rfl) ?_
 | refine S_call (f := 20) rfl obQ (by kernel_rfl) (fun w hw => lwfirstE_c (l := [picE p, slE cl ga]) hOne (by simp) rfl _ w (.inr ⟨_, rfl, hw.src (i := 3) rfl rfl⟩)) ?_
 | refine S_call (f := 91) rfl obQ (by kernel_rfl) (fun w hw => xcks_as hThree hl1 hl2 (hw.rdm hr2.toS memQ) (hw.rdm hr3.toS memQ)) ?_
 | refine S_call (f := 96) rfl obQ (by kernel_rfl) (fun w hw => ck_as hBad hl1 (hw.rdm hSI memQ)) ?_
 | refine S_call (f := 26) rfl obQ (by kernel_rfl) (fun w hw => lkeyE_c _ hne1 _ _ _ w) ?_
 | refine S_call (f := 26) rfl obQ (by kernel_rfl) (fun w hw => lkey_as _ rfl (List.length_map _) (by rw [List.length_map]; exact hl1) w (hw.rdm hSQ memQ) (hw.rdm hSX memQ)) ?_
 | refine S_call (f := 26) rfl obQ (by kernel_rfl) (fun w hw => lkey_as _ rfl (zwI_len _ _ _) (by rw [zwI_len]; exact hl1) w (hw.rdm hSR memQ) (hw.rdm hSY memQ)) ?_
 | refine S_call (f := 26) rfl obQ (by kernel_rfl) (fun w hw => lkey_as _ rfl (zwI_len _ _ _) (by rw [zwI_len]; exact hl1) w (hw.rdm hST memQ) (hw.rdm hSZ memQ)) ?_
               )
 | refine V_nil ?_
 | refine V_q rfl (Yl_step rfl obQ) ?_
 | refine V_n rfl ?_
 | refine G_V ⟨⟨_, rfl, trivial⟩, ⟨_, rfl⟩, rfl, pstQ⟩ rfl ?_
 | refine G_then ?_
 | refine G_ret rfl obQ (fun w hw => ⟨?_, hw.below⟩)
               )
              all_goals rfl
          · have hThree : kkE k k2 = kkE k k2 := rfl
            have hne3 := hTh
            obtain ⟨rfl, rfl⟩ := Prod.mk.inj (hV3.symm.trans (if_neg hTh))
            obtain ⟨rfl, rfl⟩ := Prod.mk.inj (hV4.symm.trans (if_neg hTh))
            by_cases hE1 : lnE p cl ga = 0
            · obtain ⟨hp, hsl⟩ := ln_ok hE1
              have hOne : firstL [picE p, slE cl ga] = 0 := hE1
              obtain ⟨rfl, rfl⟩ := Prod.mk.inj (hV1.symm.trans (if_pos hE1))
              repeat' (first
 | (refine C_id ?_; first
 | refine C_seq ?_
 | refine C_region rfl ?_
 | refine C_skip ?_
 | refine C_ret0 ?_
 | refine C_drawV (id := 7) 13 [(0, true), (1, true), (3, true), (5, true), (9, true), (10, true), (11, true), (12, true), (2, false), (4, false), (6, false), (7, false), (8, false)] rfl mixed (by kernel_rfl) rfl ?_
 | refine C_condT rfl obQ ?_
 | (refine C_cond rfl obQ (fun h => ?_) (fun h => ?_) <;> (try simp only [cdS] at h) <;> (try (exfalso; omega)) <;> (try exact cdF h) <;> (try contradiction))
               )
 | (refine S_id ?_; first
 | ((with_reducible (first | refine S_trueE ?_ ?_ | refine S_trueB ?_ ?_ | refine S_trueL ?_ ?_ | refine S_trueD ?_ ?_ | refine S_trueN ?_ ?_)); · (first | exact beq_self_eq_true _ | rfl | omega))
 | ((with_reducible refine S_trueA ?_ ?_ ?_); (· rfl); (· first | rfl | (first | exact beq_self_eq_true _ | rfl | omega)))
 | refine S_unG rfl rfl rfl rfl ?_
 | (refine S_callM (f := 56) rfl obQ (by kernel_rfl) (fun w hw => lints_c B c2 k hl1 hB w (hw.rdm hr2.toS memQ)) (fun w1I w2I vI hw1I hbI hRI => ?_); obtain ⟨AI, cI, rfl, hSI⟩ := hRI)
 | (refine S_callM (f := 92) rfl obQ (by kernel_rfl) (fun w hw => xlinear_as hs hp hsl (hw.rdm hr.toS memQ)) (fun w1V w2V vV hw1V hbV hRV => ?_); obtain ⟨AV, cV, rfl, hSV⟩ := hRV)
 | (refine S_callM (f := 93) rfl obQ (by kernel_rfl) (fun w hw => xinverted_as hl1 hko.s (hw.rdm hr2.toS memQ)) (fun w1X w2X vX hw1X hbX hRX => ?_); obtain ⟨AX, cX, rfl, hSX⟩ := hRX)
 | refine S_nil ?_
 | refine S_runN rfl rfl obQ obQ ?_
 | refine S_slice (fun b => ⟨_, _, rfl, obQ, ?_⟩)
 | refine S_call (f := 17) rfl obQ (by kernel_rfl) (fun w hw => mawake_c w (Sh_at hsh hw memQ) (Pw_at hP hw memQ)) ?_
 | refine S_call (f := 90) rfl obQ (by kernel_rfl) (fun w hw => xck_as hBad hl1 (hw.rdm hr2.toS memQ)) ?_
 | refine S_call (f := 60) rfl obQ (by kernel_rfl) (fun w hw => xcp_as rfl hs hnm (hw.rdm hr.toS memQ)) ?_
 | refine S_call (f := 59) rfl obQ (by kernel_rfl) (fun w hw => xsl_as rfl) ?_
 | refine S_call (f := 20) rfl obQ (by kernel_rfl) (fun w hw => lwfirstE_c (l := [picE p, slE cl ga]) hOne (by simp) rfl _ w (.inr ⟨_, rfl, hw.src (i := 3) rfl rfl⟩)) ?_
 | refine S_call (f := 91) rfl obQ (by kernel_rfl) (fun w hw => xcks_as hThree hl1 hl2 (hw.rdm hr2.toS memQ) (hw.rdm hr3.toS memQ)) ?_
 | refine S_call (f := 96) rfl obQ (by kernel_rfl) (fun w hw => ck_as hBad hl1 (hw.rdm hSI memQ)) ?_
 | refine S_call (f := 26) rfl obQ (by kernel_rfl) (fun w hw => lkey_as _ rfl (lvm_len _ _) (by rw [List.length_map, lvs_len]; exact hs) w (hw.rdm hSP memQ) (hw.rdm hSV memQ)) ?_
 | refine S_call (f := 26) rfl obQ (by kernel_rfl) (fun w hw => lkey_as _ rfl (List.length_map _) (by rw [List.length_map]; exact hl1) w (hw.rdm hSQ memQ) (hw.rdm hSX memQ)) ?_
 | refine S_call (f := 26) rfl obQ (by kernel_rfl) (fun w hw => lkeyE_c _ hne3 _ _ _ w) ?_
               )
 | refine V_nil ?_
 | refine V_q rfl (Yl_step rfl obQ) ?_
 | refine V_n rfl ?_
 | refine G_V ⟨⟨_, rfl, trivial⟩, ⟨_, rfl⟩, rfl, pstQ⟩ rfl ?_
 | refine G_then ?_
 | refine G_ret rfl obQ (fun w hw => ⟨?_, hw.below⟩)
               )
              all_goals rfl
            · have hne1 := hE1
              have hOne : firstL [picE p, slE cl ga] = lnE p cl ga := rfl
              obtain ⟨rfl, rfl⟩ := Prod.mk.inj (hV1.symm.trans (if_neg hE1))
              repeat' (first
 | (refine C_id ?_; first
 | refine C_seq ?_
 | refine C_region rfl ?_
 | refine C_skip ?_
 | refine C_ret0 ?_
 | refine C_drawV (id := 7) 13 [(0, true), (1, true), (3, true), (5, true), (9, true), (10, true), (11, true), (12, true), (2, false), (4, false), (6, false), (7, false), (8, false)] rfl mixed (by kernel_rfl) rfl ?_
 | refine C_condT rfl obQ ?_
 | (refine C_cond rfl obQ (fun h => ?_) (fun h => ?_) <;> (try simp only [cdS] at h) <;> (try (exfalso; omega)) <;> (try exact cdF h) <;> (try contradiction))
               )
 | (refine S_id ?_; first
 | ((with_reducible (first | refine S_trueE ?_ ?_ | refine S_trueB ?_ ?_ | refine S_trueL ?_ ?_ | refine S_trueD ?_ ?_ | refine S_trueN ?_ ?_)); · (first | exact beq_self_eq_true _ | rfl | omega))
 | ((with_reducible refine S_trueA ?_ ?_ ?_); (· rfl); (· first | rfl | (first | exact beq_self_eq_true _ | rfl | omega)))
 | refine S_unG rfl rfl rfl rfl ?_
 | (refine S_callM (f := 56) rfl obQ (by kernel_rfl) (fun w hw => lints_c B c2 k hl1 hB w (hw.rdm hr2.toS memQ)) (fun w1I w2I vI hw1I hbI hRI => ?_); obtain ⟨AI, cI, rfl, hSI⟩ := hRI)
 | (refine S_callM (f := 93) rfl obQ (by kernel_rfl) (fun w hw => xinverted_as hl1 hko.s (hw.rdm hr2.toS memQ)) (fun w1X w2X vX hw1X hbX hRX => ?_); obtain ⟨AX, cX, rfl, hSX⟩ := hRX)
 | refine S_nil ?_
 | refine S_runN rfl rfl obQ obQ ?_
 | refine S_slice (fun b => ⟨_, _, rfl, obQ, ?_⟩)
 | refine S_call (f := 17) rfl obQ (by kernel_rfl) (fun w hw => mawake_c w (Sh_at hsh hw memQ) (Pw_at hP hw memQ)) ?_
 | refine S_call (f := 90) rfl obQ (by kernel_rfl) (fun w hw => xck_as hBad hl1 (hw.rdm hr2.toS memQ)) ?_
 | refine S_call (f := 60) rfl obQ (by kernel_rfl) (fun w hw => xcp_as rfl hs hnm (hw.rdm hr.toS memQ)) ?_
 | refine S_call (f := 59) rfl obQ (by kernel_rfl) (fun w hw => xsl_as rfl) ?_
 | refine S_call (f := 20) rfl obQ (by kernel_rfl) (fun w hw => lwfirstE_c (l := [picE p, slE cl ga]) hOne (by simp) rfl _ w (.inr ⟨_, rfl, hw.src (i := 3) rfl rfl⟩)) ?_
 | refine S_call (f := 91) rfl obQ (by kernel_rfl) (fun w hw => xcks_as hThree hl1 hl2 (hw.rdm hr2.toS memQ) (hw.rdm hr3.toS memQ)) ?_
 | refine S_call (f := 96) rfl obQ (by kernel_rfl) (fun w hw => ck_as hBad hl1 (hw.rdm hSI memQ)) ?_
 | refine S_call (f := 26) rfl obQ (by kernel_rfl) (fun w hw => lkeyE_c _ hne1 _ _ _ w) ?_
 | refine S_call (f := 26) rfl obQ (by kernel_rfl) (fun w hw => lkey_as _ rfl (List.length_map _) (by rw [List.length_map]; exact hl1) w (hw.rdm hSQ memQ) (hw.rdm hSX memQ)) ?_
 | refine S_call (f := 26) rfl obQ (by kernel_rfl) (fun w hw => lkeyE_c _ hne3 _ _ _ w) ?_
               )
 | refine V_nil ?_
 | refine V_q rfl (Yl_step rfl obQ) ?_
 | refine V_n rfl ?_
 | refine G_V ⟨⟨_, rfl, trivial⟩, ⟨_, rfl⟩, rfl, pstQ⟩ rfl ?_
 | refine G_then ?_
 | refine G_ret rfl obQ (fun w hw => ⟨?_, hw.below⟩)
               )
              all_goals rfl
        · have hBad : keE k = keE k := rfl
          have hneB := hBd
          obtain ⟨rfl, rfl⟩ := Prod.mk.inj (hV2.symm.trans (if_neg hBd))
          have hTh : ¬ kkE k k2 = 0 := fun h => hBd (ke_ok.2 (kk_ok.1 h).1)
          have hThree : kkE k k2 = kkE k k2 := rfl
          have hne3 := hTh
          obtain ⟨rfl, rfl⟩ := Prod.mk.inj (hV3.symm.trans (if_neg hTh))
          obtain ⟨rfl, rfl⟩ := Prod.mk.inj (hV4.symm.trans (if_neg hTh))
          by_cases hE1 : lnE p cl ga = 0
          · obtain ⟨hp, hsl⟩ := ln_ok hE1
            have hOne : firstL [picE p, slE cl ga] = 0 := hE1
            obtain ⟨rfl, rfl⟩ := Prod.mk.inj (hV1.symm.trans (if_pos hE1))
            repeat' (first
 | (refine C_id ?_; first
 | refine C_seq ?_
 | refine C_region rfl ?_
 | refine C_skip ?_
 | refine C_ret0 ?_
 | refine C_drawV (id := 7) 13 [(0, true), (1, true), (3, true), (5, true), (9, true), (10, true), (11, true), (12, true), (2, false), (4, false), (6, false), (7, false), (8, false)] rfl mixed (by kernel_rfl) rfl ?_
 | refine C_condT rfl obQ ?_
 | (refine C_cond rfl obQ (fun h => ?_) (fun h => ?_) <;> (try simp only [cdS] at h) <;> (try (exfalso; omega)) <;> (try exact cdF h) <;> (try contradiction))
             )
 | (refine S_id ?_; first
 | ((with_reducible (first | refine S_trueE ?_ ?_ | refine S_trueB ?_ ?_ | refine S_trueL ?_ ?_ | refine S_trueD ?_ ?_ | refine S_trueN ?_ ?_)); · (first | exact beq_self_eq_true _ | rfl | omega))
 | ((with_reducible refine S_trueA ?_ ?_ ?_); (· rfl); (· first | rfl | (first | exact beq_self_eq_true _ | rfl | omega)))
 | refine S_unG rfl rfl rfl rfl ?_
 | (refine S_callM (f := 56) rfl obQ (by kernel_rfl) (fun w hw => lints_c B c2 k hl1 hB w (hw.rdm hr2.toS memQ)) (fun w1I w2I vI hw1I hbI hRI => ?_); obtain ⟨AI, cI, rfl, hSI⟩ := hRI)
 | (refine S_callM (f := 92) rfl obQ (by kernel_rfl) (fun w hw => xlinear_as hs hp hsl (hw.rdm hr.toS memQ)) (fun w1V w2V vV hw1V hbV hRV => ?_); obtain ⟨AV, cV, rfl, hSV⟩ := hRV)
 | refine S_nil ?_
 | refine S_runN rfl rfl obQ obQ ?_
 | refine S_slice (fun b => ⟨_, _, rfl, obQ, ?_⟩)
 | refine S_call (f := 17) rfl obQ (by kernel_rfl) (fun w hw => mawake_c w (Sh_at hsh hw memQ) (Pw_at hP hw memQ)) ?_
 | refine S_call (f := 90) rfl obQ (by kernel_rfl) (fun w hw => xck_as hBad hl1 (hw.rdm hr2.toS memQ)) ?_
 | refine S_call (f := 60) rfl obQ (by kernel_rfl) (fun w hw => xcp_as rfl hs hnm (hw.rdm hr.toS memQ)) ?_
 | refine S_call (f := 59) rfl obQ (by kernel_rfl) (fun w hw => xsl_as rfl) ?_
 | refine S_call (f := 20) rfl obQ (by kernel_rfl) (fun w hw => lwfirstE_c (l := [picE p, slE cl ga]) hOne (by simp) rfl _ w (.inr ⟨_, rfl, hw.src (i := 3) rfl rfl⟩)) ?_
 | refine S_call (f := 91) rfl obQ (by kernel_rfl) (fun w hw => xcks_as hThree hl1 hl2 (hw.rdm hr2.toS memQ) (hw.rdm hr3.toS memQ)) ?_
 | refine S_call (f := 96) rfl obQ (by kernel_rfl) (fun w hw => ck_as hBad hl1 (hw.rdm hSI memQ)) ?_
 | refine S_call (f := 26) rfl obQ (by kernel_rfl) (fun w hw => lkey_as _ rfl (lvm_len _ _) (by rw [List.length_map, lvs_len]; exact hs) w (hw.rdm hSP memQ) (hw.rdm hSV memQ)) ?_
 | refine S_call (f := 26) rfl obQ (by kernel_rfl) (fun w hw => lkeyE_c _ hneB _ _ _ w) ?_
 | refine S_call (f := 26) rfl obQ (by kernel_rfl) (fun w hw => lkeyE_c _ hne3 _ _ _ w) ?_
             )
 | refine V_nil ?_
 | refine V_q rfl (Yl_step rfl obQ) ?_
 | refine V_n rfl ?_
 | refine G_V ⟨⟨_, rfl, trivial⟩, ⟨_, rfl⟩, rfl, pstQ⟩ rfl ?_
 | refine G_then ?_
 | refine G_ret rfl obQ (fun w hw => ⟨?_, hw.below⟩)
             )
            all_goals rfl
          · have hne1 := hE1
            have hOne : firstL [picE p, slE cl ga] = lnE p cl ga := rfl
            obtain ⟨rfl, rfl⟩ := Prod.mk.inj (hV1.symm.trans (if_neg hE1))
            repeat' (first
 | (refine C_id ?_; first
 | refine C_seq ?_
 | refine C_region rfl ?_
 | refine C_skip ?_
 | refine C_ret0 ?_
 | refine C_drawV (id := 7) 13 [(0, true), (1, true), (3, true), (5, true), (9, true), (10, true), (11, true), (12, true), (2, false), (4, false), (6, false), (7, false), (8, false)] rfl mixed (by kernel_rfl) rfl ?_
 | (refine C_cond rfl obQ (fun h => ?_) (fun h => ?_) <;> (try simp only [cdS] at h) <;> (try (exfalso; omega)) <;> (try exact cdF h) <;> (try contradiction))
             )
 | (refine S_id ?_; first
 | ((with_reducible (first | refine S_trueE ?_ ?_ | refine S_trueB ?_ ?_ | refine S_trueL ?_ ?_ | refine S_trueD ?_ ?_ | refine S_trueN ?_ ?_)); · (first | exact beq_self_eq_true _ | rfl | omega))
 | ((with_reducible refine S_trueA ?_ ?_ ?_); (· rfl); (· first | rfl | (first | exact beq_self_eq_true _ | rfl | omega)))
 | refine S_unG rfl rfl rfl rfl ?_
 | (refine S_callM (f := 56) rfl obQ (by kernel_rfl) (fun w hw => lints_c B c2 k hl1 hB w (hw.rdm hr2.toS memQ)) (fun w1I w2I vI hw1I hbI hRI => ?_); obtain ⟨AI, cI, rfl, hSI⟩ := hRI)
 | refine S_nil ?_
 | refine S_runN rfl rfl obQ obQ ?_
 | refine S_slice (fun b => ⟨_, _, rfl, obQ, ?_⟩)
 | refine S_call (f := 17) rfl obQ (by kernel_rfl) (fun w hw => mawake_c w (Sh_at hsh hw memQ) (Pw_at hP hw memQ)) ?_
 | refine S_call (f := 90) rfl obQ (by kernel_rfl) (fun w hw => xck_as hBad hl1 (hw.rdm hr2.toS memQ)) ?_
 | refine S_call (f := 60) rfl obQ (by kernel_rfl) (fun w hw => xcp_as rfl hs hnm (hw.rdm hr.toS memQ)) ?_
 | refine S_call (f := 59) rfl obQ (by kernel_rfl) (fun w hw => xsl_as rfl) ?_
 | refine S_call (f := 20) rfl obQ (by kernel_rfl) (fun w hw => lwfirstE_c (l := [picE p, slE cl ga]) hOne (by simp) rfl _ w (.inr ⟨_, rfl, hw.src (i := 3) rfl rfl⟩)) ?_
 | refine S_call (f := 91) rfl obQ (by kernel_rfl) (fun w hw => xcks_as hThree hl1 hl2 (hw.rdm hr2.toS memQ) (hw.rdm hr3.toS memQ)) ?_
 | refine S_call (f := 96) rfl obQ (by kernel_rfl) (fun w hw => ck_as hBad hl1 (hw.rdm hSI memQ)) ?_
 | refine S_call (f := 26) rfl obQ (by kernel_rfl) (fun w hw => lkeyE_c _ hne1 _ _ _ w) ?_
 | refine S_call (f := 26) rfl obQ (by kernel_rfl) (fun w hw => lkeyE_c _ hneB _ _ _ w) ?_
 | refine S_call (f := 26) rfl obQ (by kernel_rfl) (fun w hw => lkeyE_c _ hne3 _ _ _ w) ?_
             )
 | refine V_nil ?_
 | refine V_q rfl (Yl_step rfl obQ) ?_
 | refine V_n rfl ?_
 | refine G_V ⟨⟨_, rfl, trivial⟩, ⟨_, rfl⟩, rfl, pstQ⟩ rfl ?_
 | refine G_then ?_
 | refine G_ret rfl obQ (fun w hw => ⟨?_, hw.below⟩)
             )
            all_goals rfl
      · have hK2 : skB k2.length = false := by simpa using hK2
        repeat' (first
 | (refine C_id ?_; first
 | refine C_seq ?_
 | refine C_region rfl ?_
 | refine C_ret0 ?_
 | refine C_condT rfl obQ ?_
         )
 | (refine S_id ?_; first
 | ((with_reducible refine S_falseO ?_ ?_ ?_); (· rfl); (· first | rfl | (first | rfl | omega)))
 | refine S_unG rfl rfl rfl rfl ?_
 | refine S_nil ?_
 | refine S_runN rfl rfl obQ obQ ?_
 | refine S_box (fun bb => ⟨_, _, rfl, obQ, ?_⟩)
 | refine S_call (f := 17) rfl obQ (by kernel_rfl) (fun w hw => mawake_c w (Sh_at hsh hw memQ) (Pw_at hP hw memQ)) ?_
 | refine S_call (f := 86) rfl obQ (by kernel_rfl) (fun w hw => shp_as hS) ?_
 | refine S_call (f := 53) rfl obQ (by kernel_rfl) (fun w hw => sk_as hK1) ?_
 | refine S_call (f := 53) rfl obQ (by kernel_rfl) (fun w hw => sk_as hK2) ?_
         )
 | refine G_then ?_
 | refine G_thenR ?_
 | refine G_ret rfl obQ (fun w hw => ⟨?_, hw.below⟩)
         )
        all_goals rfl
    · have hK1 : skB k.length = false := by simpa using hK1
      repeat' (first
 | (refine C_id ?_; first
 | refine C_seq ?_
 | refine C_region rfl ?_
 | refine C_ret0 ?_
 | refine C_condT rfl obQ ?_
       )
 | (refine S_id ?_; first
 | refine S_unG rfl rfl rfl rfl ?_
 | refine S_offG (.v (.bool false)) rfl rfl rfl rfl rfl ?_
 | refine S_nil ?_
 | refine S_runN rfl rfl obQ obQ ?_
 | refine S_box (fun bb => ⟨_, _, rfl, obQ, ?_⟩)
 | refine S_call (f := 17) rfl obQ (by kernel_rfl) (fun w hw => mawake_c w (Sh_at hsh hw memQ) (Pw_at hP hw memQ)) ?_
 | refine S_call (f := 86) rfl obQ (by kernel_rfl) (fun w hw => shp_as hS) ?_
 | refine S_call (f := 53) rfl obQ (by kernel_rfl) (fun w hw => sk_as hK1) ?_
       )
 | refine G_then ?_
 | refine G_thenR ?_
 | refine G_ret rfl obQ (fun w hw => ⟨?_, hw.below⟩)
       )
      all_goals rfl
  · have hS : shortB p = false := by simpa using hS
    repeat' (first
 | (refine C_id ?_; first
 | refine C_seq ?_
 | refine C_region rfl ?_
 | refine C_ret0 ?_
 | refine C_condT rfl obQ ?_
     )
 | (refine S_id ?_; first
 | refine S_offG (.v (.bool false)) rfl rfl rfl rfl rfl ?_
 | refine S_nil ?_
 | refine S_runN rfl rfl obQ obQ ?_
 | refine S_box (fun bb => ⟨_, _, rfl, obQ, ?_⟩)
 | refine S_call (f := 17) rfl obQ (by kernel_rfl) (fun w hw => mawake_c w (Sh_at hsh hw memQ) (Pw_at hP hw memQ)) ?_
 | refine S_call (f := 86) rfl obQ (by kernel_rfl) (fun w hw => shp_as hS) ?_
     )
 | refine G_then ?_
 | refine G_thenR ?_
 | refine G_ret rfl obQ (fun w hw => ⟨?_, hw.below⟩)
     )
    all_goals rfl
end Go.Proofs.YtjkgklhjbopoaaaGreatDoor
