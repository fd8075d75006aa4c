/- The law of the mixes: the walk. -/
import Derived.Test.YtjkgklhjbopoaaaGreatDoorMixer70
namespace Go.Proofs.YtjkgklhjbopoaaaGreatDoor
open Go.E Go.RowKit Go.Fl
attribute [local irreducible] G C S D Calls
set_option maxRecDepth 100000
set_option linter.unusedSimpArgs false
set_option linter.unusedVariables false
set_option maxHeartbeats 8000000
def mxO (p q : Pic) (k : List Int) : Int := if twE p q = 0 then kdE p k else twE p q
theorem mxO_eq (p q : Pic) (k : List Int) : mxE p q k = mxO p q k := by
  unfold mxE mxO
  simp only [firstL]
  by_cases h1 : twE p q = 0
  · by_cases h2 : kdE p k = 0 <;> simp [h1, h2]
  · simp [h1]
theorem pm_of {p q : Pic} {k : List Int} (h1 : twE p q = 0) : pmE p k = kdE p k := by
  unfold pmE
  simp only [firstL]
  have := pic_ok.2 (tw_ok.1 h1).1
  by_cases h2 : kdE p k = 0 <;> simp [this, h2]
theorem lMixes_c (p q : Pic) (A : Option Addr) (c : Nat) (B : Option Addr) (c2 : Nat) (D : Option Addr) (c3 : Nat) (k : List Int) (hnm : p.nm.size ≤ maxLen) (hnm2 : q.nm.size ≤ maxLen) (hA : A = none → p.s.length = 0 ∧ c = 0) (hB : B = none → q.s.length = 0 ∧ c2 = 0) (hD : D = none → k.length = 0 ∧ c3 = 0) (w : World) (hr : Rd w A (p.s.map (.float .f32))) (hr2 : Rd w B (q.s.map (.float .f32))) (hr3 : Rd w D (k.map (.int .i64))) (hsh : Sh w) (hP : Pw w) : Calls Tryz.prog 10 #[.agg #[.string p.nm, .int .i64 p.w, .int .i64 p.h, .slice A p.s.length c, .string q.nm, .int .i64 q.w, .int .i64 q.h, .slice B q.s.length c2], .slice D k.length c3] w fun r w' => r = .returned (.bool true) ∧ Below w.heap.size w w' := by
  refine calls_of T_ok Tryz.func10 rfl Tryz.ntmps10 (Nat.le_of_ble_eq_true rfl) rfl ?_
  by_cases hS : (shortB p && shortB q) = true
  · by_cases hK : skB k.length = true
    · have hS2 := (Bool.and_eq_true _ _).mp hS
      have hs : p.s.length ≤ 1000000 := by have := (shortB_ok hS2.1).2; omega
      have hs2 : q.s.length ≤ 1000000 := by have := (shortB_ok hS2.2).2; omega
      have hl : k.length ≤ 1000000 := by have := skB_le hK; omega
      have hKd : kdE p k = kdE p k := rfl
      obtain ⟨y1, e1, hV1⟩ : ∃ l e, mxR p q k = (l, e) := ⟨_, _, rfl⟩
      obtain ⟨y2, e2, hV2⟩ : ∃ l e, pmR p k = (l, e) := ⟨_, _, rfl⟩
      obtain ⟨y3, e3, hV3⟩ : ∃ l e, ovR p q k = (l, e) := ⟨_, _, rfl⟩
      repeat' (first
 | (refine C_id ?_; first
 | refine C_seq ?_
 | refine C_region rfl ?_
 | refine C_skip ?_
 | refine C_condF rfl obQ ?_
       )
 | (refine S_id ?_; first
 | ((with_reducible refine S_falseO ?_ ?_ ?_); (· rfl); (· first | rfl | (first | rfl | omega)))
 | refine S_unG rfl rfl rfl rfl ?_
 | refine S_pure (sliceX_pure rfl obQ (fun w => sl_arr Tryz.underlying87 (by kernel_rfl) _ w)) ?_
 | refine S_nil ?_
 | refine S_runN rfl rfl obQ obQ ?_
 | refine S_box (fun b2 => ⟨_, _, rfl, obQ, ?_⟩)
 | refine S_call (f := 52) rfl obQ (by kernel_rfl) (fun w hw => shps_as (p := p) (q := q) (A := A) (B := B) (c := c) (c2 := c2) hS (.inr ⟨_, rfl, hw.src (i := 0) rfl rfl⟩)) ?_
 | refine S_call (f := 53) rfl obQ (by kernel_rfl) (fun w hw => sk_as hK) ?_
       )
 | refine G_then ?_
       )
      refine C_cut (fun U : SlA (y1.s.map (.float .f32)) × Nat => ([U.1.ps, (w, fun b => b < w.heap.size)], (⟨[(1, .s (.v (.slice D k.length c3))), (2, .s (.p b2 0 0)), (5, .s (.p U.2 1 0)), (6, .s (.v (.int .i64 e1)))], [⟨b2, 87, [.v (.string p.nm), .v (.int .i64 p.w), .v (.int .i64 p.h), .v (.slice A p.s.length c), .v (.string q.nm), .v (.int .i64 q.w), .v (.int .i64 q.h), .v (.slice B q.s.length c2)]⟩, ⟨U.2, 70, [.v (.string y1.nm), .v (.int .i64 y1.w), .v (.int .i64 y1.h), .v (.slice U.1.A y1.s.length U.1.c)]⟩], []⟩ : St))) ?_ (fun U => ?_)
      · repeat' (first
 | refine C_drawTr0 (id := 3) 14 (.q 0 (.q 1 (.q 3 (.q 4 (.q 6 (.two 2 12 (.two 5 12 (.two 7 12 (.two 8 12 (.q 9 (.q 10 (.q 11 (.n 12 (.n 13 .nil))))) (.n 8 (.q 9 (.q 10 (.q 11 (.n 13 .nil)))))) (.n 7 (.n 8 (.q 9 (.q 10 (.q 11 (.n 13 .nil))))))) (.n 5 (.n 7 (.n 8 (.q 9 (.q 10 (.q 11 (.n 13 .nil)))))))) (.n 2 (.n 5 (.n 7 (.n 8 (.q 9 (.q 10 (.q 11 (.n 13 .nil)))))))))))))) rfl mixed (by kernel_rfl) rfl ?_
 | (refine S_id ?_; first
 | (refine S_callM (f := 42) rfl obQ (by kernel_rfl) (fun w hw => lgiven_c p A c hs hA w (hw.rdm hr.toS memQ)) (fun w1O w2O vO hw1O hbO hRO => ?_); obtain ⟨AO, cO, rfl, hSO⟩ := hRO)
 | (refine S_callM (f := 42) rfl obQ (by kernel_rfl) (fun w hw => lgiven_c q B c2 hs2 hB w (hw.rdm hr2.toS memQ)) (fun w1R w2R vR hw1R hbR hRR => ?_); obtain ⟨AR, cR, rfl, hSR⟩ := hRR)
 | (refine S_callM (f := 56) rfl obQ (by kernel_rfl) (fun w hw => lints_c D c3 k hl hD w (hw.rdm hr3.toS memQ)) (fun w1I w2I vI hw1I hbI hRI => ?_); obtain ⟨AI, cI, rfl, hSI⟩ := hRI)
 | (refine S_callM (f := 75) rfl obQ (by kernel_rfl) (fun w hw => mixed_as hV1 hs hs2 hl (hw.rdm hSO memQ) (hw.rdm hSR memQ) (hw.rdm hSI memQ)) (fun w1P w2P vP hw1P hbP hRP => ?_); obtain ⟨AP, cP, rfl, hSP⟩ := hRP)
 | refine S_nil ?_
 | refine S_runN rfl rfl obQ obQ ?_
 | refine S_box (fun b5 => ⟨_, _, rfl, obQ, ?_⟩)
         )
 | (refine VT_id ?_; first
 | refine VT_nil ?_
 | refine VT_q rfl (Yl_step rfl obQ) ?_
 | refine VT_n rfl ?_
 | refine VT_two rfl rfl ?_ ?_
         )
 | refine G_VT2 ⟨_, rfl⟩ ⟨_, rfl⟩ pstQ rfl ?_
 | refine G_cutB (⟨w1P, w2P, AP, cP, hSP⟩, b5) ⟨_, rfl, obQ⟩ slB rfl psQ
         )
      dsimp only [SlA.ps]
      repeat' (first
 | refine C_seq ?_
 | refine C_region rfl ?_
 | (refine S_id ?_; first
 | (refine S_callM (f := 42) rfl obQ (by kernel_rfl) (fun w hw => lgiven_c p A c hs hA w (hw.rdm hr.toS memQ)) (fun w1O w2O vO hw1O hbO hRO => ?_); obtain ⟨AO, cO, rfl, hSO⟩ := hRO)
 | (refine S_callM (f := 56) rfl obQ (by kernel_rfl) (fun w hw => lints_c D c3 k hl hD w (hw.rdm hr3.toS memQ)) (fun w1I w2I vI hw1I hbI hRI => ?_); obtain ⟨AI, cI, rfl, hSI⟩ := hRI)
 | (refine S_callM (f := 76) rfl obQ (by kernel_rfl) (fun w hw => premultiplied_as hV2 hs hl (hw.rdm hSO memQ) (hw.rdm hSI memQ)) (fun w1G w2G vG hw1G hbG hRG => ?_); obtain ⟨AG, cG, rfl, hSG⟩ := hRG)
 | refine S_nil ?_
 | refine S_runN rfl rfl obQ obQ ?_
 | refine S_box (fun b7 => ⟨_, _, rfl, obQ, ?_⟩)
       )
 | refine G_then ?_
       )
      refine C_cut (fun V : SlA (y3.s.map (.float .f32)) × Nat => ([V.1.ps, (w2G, fun b => w1G.heap.size ≤ b ∧ b < w2G.heap.size), U.1.ps, (w, fun b => b < w.heap.size)], (⟨[(1, .s (.v (.slice D k.length c3))), (2, .s (.p b2 0 0)), (5, .s (.p U.2 1 0)), (6, .s (.v (.int .i64 e1))), (7, .s (.p b7 2 0)), (8, .s (.v (.int .i64 e2))), (9, .s (.p V.2 3 0)), (10, .s (.v (.int .i64 e3)))], [⟨b2, 87, [.v (.string p.nm), .v (.int .i64 p.w), .v (.int .i64 p.h), .v (.slice A p.s.length c), .v (.string q.nm), .v (.int .i64 q.w), .v (.int .i64 q.h), .v (.slice B q.s.length c2)]⟩, ⟨U.2, 70, [.v (.string y1.nm), .v (.int .i64 y1.w), .v (.int .i64 y1.h), .v (.slice U.1.A y1.s.length U.1.c)]⟩, ⟨b7, 70, [.v (.string y2.nm), .v (.int .i64 y2.w), .v (.int .i64 y2.h), .v (.slice AG y2.s.length cG)]⟩, ⟨V.2, 70, [.v (.string y3.nm), .v (.int .i64 y3.w), .v (.int .i64 y3.h), .v (.slice V.1.A y3.s.length V.1.c)]⟩], []⟩ : St))) ?_ (fun V => ?_)
      · repeat' (first
 | refine C_drawTr0 (id := 5) 14 (.q 0 (.q 1 (.q 3 (.q 4 (.q 6 (.two 2 12 (.two 5 12 (.two 7 12 (.two 8 12 (.q 9 (.q 10 (.q 11 (.n 12 (.n 13 .nil))))) (.n 8 (.q 9 (.q 10 (.q 11 (.n 13 .nil)))))) (.n 7 (.n 8 (.q 9 (.q 10 (.q 11 (.n 13 .nil))))))) (.n 5 (.n 7 (.n 8 (.q 9 (.q 10 (.q 11 (.n 13 .nil)))))))) (.n 2 (.n 5 (.n 7 (.n 8 (.q 9 (.q 10 (.q 11 (.n 13 .nil)))))))))))))) rfl mixed (by kernel_rfl) rfl ?_
 | (refine S_id ?_; first
 | (refine S_callM (f := 42) rfl obQ (by kernel_rfl) (fun w hw => lgiven_c p A c hs hA w (hw.rdm hr.toS memQ)) (fun w1O w2O vO hw1O hbO hRO => ?_); obtain ⟨AO, cO, rfl, hSO⟩ := hRO)
 | (refine S_callM (f := 42) rfl obQ (by kernel_rfl) (fun w hw => lgiven_c q B c2 hs2 hB w (hw.rdm hr2.toS memQ)) (fun w1R w2R vR hw1R hbR hRR => ?_); obtain ⟨AR, cR, rfl, hSR⟩ := hRR)
 | (refine S_callM (f := 56) rfl obQ (by kernel_rfl) (fun w hw => lints_c D c3 k hl hD w (hw.rdm hr3.toS memQ)) (fun w1I w2I vI hw1I hbI hRI => ?_); obtain ⟨AI, cI, rfl, hSI⟩ := hRI)
 | (refine S_callM (f := 77) rfl obQ (by kernel_rfl) (fun w hw => over_as hV3 hs hs2 hl (hw.rdm hSO memQ) (hw.rdm hSR memQ) (hw.rdm hSI memQ)) (fun w1T w2T vT hw1T hbT hRT => ?_); obtain ⟨AT, cT, rfl, hST⟩ := hRT)
 | refine S_nil ?_
 | refine S_runN rfl rfl obQ obQ ?_
 | refine S_box (fun b9 => ⟨_, _, rfl, obQ, ?_⟩)
         )
 | (refine VT_id ?_; first
 | refine VT_nil ?_
 | refine VT_q rfl (Yl_step rfl obQ) ?_
 | refine VT_n rfl ?_
 | refine VT_two rfl rfl ?_ ?_
         )
 | refine G_VT2 ⟨_, rfl⟩ ⟨_, rfl⟩ pstQ rfl ?_
 | refine G_cutB (⟨w1T, w2T, AT, cT, hST⟩, b9) ⟨_, rfl, obQ⟩ slB rfl psQ
         )
      dsimp only [SlA.ps]
      by_cases hTw : twE p q = 0
      · obtain ⟨hp, hq, _, _⟩ := tw_ok.1 hTw
        have hpq := tw_len hTw
        by_cases hE1 : kdE p k = 0
        · have hKd := hE1
          have hm : mxE p q k = 0 := by rw [mxO_eq]; unfold mxO; rw [if_pos hTw]; exact hE1
          have hpm : pmE p k = 0 := by rw [pm_of hTw]; exact hE1
          obtain ⟨hp2, hko2, hkl2⟩ := pm_ok hpm
          obtain ⟨hko, hkl⟩ := kd_ok.1 hE1
          have hlm := mx_lv hp hq hko hkl hpq
          have hlp := pm_lv hp hko hkl
          have hTwo : firstL [picE p, kdE p k] = 0 := hpm
          have hTwo0 : firstL [picE p, 0] = 0 := by rw [pic_ok.2 hp]; rfl
          obtain ⟨rfl, rfl⟩ := Prod.mk.inj (hV1.symm.trans (show mxR p q k = ((wiP p (mxL p q k)), 0) from (if_pos hm).trans (wiR_1 hlm)))
          obtain ⟨rfl, rfl⟩ := Prod.mk.inj (hV2.symm.trans (show pmR p k = ((wiP p (zwI paF (lvs p) k)), 0) from (if_pos hpm).trans (wiR_1 hlp)))
          have hCf : cfE p k = wh (!fiB p k) 21 := if_pos hpm
          by_cases hlo : lvB (ovL p q k) = true
          · have hV4 : wiR p (ovL p q k) = ((wiP p (ovL p q k)), 0) := wiR_1 hlo
            obtain ⟨rfl, rfl⟩ := Prod.mk.inj (hV3.symm.trans (show ovR p q k = ((wiP p (ovL p q k)), 0) from (if_pos hm).trans hV4))
            repeat' (first
 | (refine C_id ?_; first
 | refine C_seq ?_
 | refine C_region rfl ?_
 | refine C_ret0 ?_
 | refine C_drawV (id := 6) 11 [(0, true), (1, true), (2, true), (3, true), (5, true), (6, true), (8, true), (9, true), (10, true), (4, false), (7, false)] rfl mixed (by kernel_rfl) rfl ?_
 | refine C_condT rfl obQ ?_
             )
 | (refine S_id ?_; first
 | ((with_reducible (first | refine S_trueE ?_ ?_ | refine S_trueB ?_ ?_ | refine S_trueL ?_ ?_ | refine S_trueD ?_ ?_ | refine S_trueN ?_ ?_)); · (first | exact beq_self_eq_true _ | rfl | omega))
 | ((with_reducible refine S_trueA ?_ ?_ ?_); (· rfl); (· first | rfl | (first | exact beq_self_eq_true _ | rfl | omega)))
 | refine S_unG rfl rfl rfl rfl ?_
 | (refine S_callM (f := 42) rfl obQ (by kernel_rfl) (fun w hw => lgiven_c p A c hs hA w (hw.rdm hr.toS memQ)) (fun w1O w2O vO hw1O hbO hRO => ?_); obtain ⟨AO, cO, rfl, hSO⟩ := hRO)
 | (refine S_callM (f := 56) rfl obQ (by kernel_rfl) (fun w hw => lints_c D c3 k hl hD w (hw.rdm hr3.toS memQ)) (fun w1I w2I vI hw1I hbI hRI => ?_); obtain ⟨AI, cI, rfl, hSI⟩ := hRI)
 | (refine S_callM (f := 78) rfl obQ (by kernel_rfl) (fun w hw => xmixed_as hs hs2 hp hq hko hkl hpq (hw.rdm hr.toS memQ) (hw.rdm hr2.toS memQ) (hw.rdm hr3.toS memQ)) (fun w1X w2X vX hw1X hbX hRX => ?_); obtain ⟨AX, cX, rfl, hSX⟩ := hRX)
 | (refine S_callM (f := 79) rfl obQ (by kernel_rfl) (fun w hw => xover_as hV4 hs hs2 hp hq hko hkl hpq (hw.rdm hr.toS memQ) (hw.rdm hr2.toS memQ) (hw.rdm hr3.toS memQ)) (fun w1Z w2Z vZ hw1Z hbZ hRZ => ?_); obtain ⟨AZ, cZ, rfl, hSZ⟩ := hRZ)
 | (refine S_callM (f := 80) rfl obQ (by kernel_rfl) (fun w hw => xpremultiplied_as hs hp2 hko2 hkl2 (hw.rdm hr.toS memQ) (hw.rdm hr3.toS memQ)) (fun w1Y w2Y vY hw1Y hbY hRY => ?_); obtain ⟨AY, cY, rfl, hSY⟩ := hRY)
 | refine S_nil ?_
 | refine S_runN rfl rfl obQ obQ ?_
 | refine S_box (fun bb => ⟨_, _, rfl, obQ, ?_⟩)
 | refine S_slice (fun b => ⟨_, _, rfl, obQ, ?_⟩)
 | refine S_call (f := 17) rfl obQ (by kernel_rfl) (fun w hw => mawake_c w (Sh_at hsh hw memQ) (Pw_at hP hw memQ)) ?_
 | refine S_call (f := 57) rfl obQ (by kernel_rfl) (fun w hw => tw_as hTw hs hs2 hnm hnm2 (hw.rdm hr.toS memQ) (hw.rdm hr2.toS memQ)) ?_
 | refine S_call (f := 60) rfl obQ (by kernel_rfl) (fun w hw => xcp_as rfl hs hnm (hw.rdm hr.toS memQ)) ?_
 | refine S_call (f := 61) rfl obQ (by kernel_rfl) (fun w hw => xckd_as hKd hl (hw.rdm hr3.toS memQ)) ?_
 | refine S_call (f := 20) rfl obQ (by kernel_rfl) (fun w hw => lwfirstE_c (l := [picE p, 0]) hTwo0 (by simp) rfl _ w ((.inr ⟨_, rfl, hw.src (i := 4) rfl rfl⟩))) ?_
 | refine S_call (f := 82) rfl obQ (by kernel_rfl) (fun w hw => xisfill_as hs hp2 hko2 hkl2 (hw.rdm hr.toS memQ) (hw.rdm hr3.toS memQ)) ?_
 | refine S_call (f := 81) rfl obQ (by kernel_rfl) (fun w hw => rWhen_c _ _ w) ?_
 | refine S_call (f := 83) rfl obQ (by kernel_rfl) (fun w hw => cfill_as hCf hs hl (hw.rdm hSO memQ) (hw.rdm hSI memQ)) ?_
 | refine S_call (f := 64) rfl obQ (by kernel_rfl) (fun w hw => lis_c (wiP p (mxL p q k)) _ _ _ _ (by rw [wi_len]; simp only [mxL, List.length_map, List.length_range]; exact hs) (wi_fin hlm) w (hw.rdm U.1.h memQ) (hw.rdm hSX memQ)) ?_
 | refine S_call (f := 64) rfl obQ (by kernel_rfl) (fun w hw => lis_c (wiP p (zwI paF (lvs p) k)) _ _ _ _ (by rw [wi_len, zwI_len, lvs_len]; exact hs) (wi_fin hlp) w (hw.rdm hSG memQ) (hw.rdm hSY memQ)) ?_
 | refine S_call (f := 64) rfl obQ (by kernel_rfl) (fun w hw => lis_c (wiP p (ovL p q k)) _ _ _ _ (by rw [wi_len]; simp only [ovL, List.length_map, List.length_range]; exact hs) (wi_fin hlo) w (hw.rdm V.1.h memQ) (hw.rdm hSZ memQ)) ?_
             )
 | refine V_nil ?_
 | refine V_q rfl (Yl_step rfl obQ) ?_
 | refine V_n rfl ?_
 | refine G_V ⟨⟨_, rfl, trivial⟩, ⟨_, rfl⟩, rfl, pstQ⟩ rfl ?_
 | refine G_then ?_
 | refine G_ret rfl obQ (fun w hw => ⟨?_, hw.below⟩)
             )
            all_goals rfl
          · have hV4 : wiR p (ovL p q k) = (zP, 4) := wiR_2 hlo
            obtain ⟨rfl, rfl⟩ := Prod.mk.inj (hV3.symm.trans (show ovR p q k = (zP, 4) from (if_pos hm).trans hV4))
            have hne4 : ¬ (4 : Int) = 0 := by decide
            repeat' (first
 | (refine C_id ?_; first
 | refine C_seq ?_
 | refine C_region rfl ?_
 | refine C_ret0 ?_
 | refine C_drawV (id := 6) 11 [(0, true), (1, true), (2, true), (3, true), (5, true), (6, true), (8, true), (9, true), (10, true), (4, false), (7, false)] rfl mixed (by kernel_rfl) rfl ?_
 | refine C_condT rfl obQ ?_
             )
 | (refine S_id ?_; first
 | ((with_reducible (first | refine S_trueE ?_ ?_ | refine S_trueB ?_ ?_ | refine S_trueL ?_ ?_ | refine S_trueD ?_ ?_ | refine S_trueN ?_ ?_)); · (first | exact beq_self_eq_true _ | rfl | omega))
 | ((with_reducible refine S_trueA ?_ ?_ ?_); (· rfl); (· first | rfl | (first | exact beq_self_eq_true _ | rfl | omega)))
 | refine S_unG rfl rfl rfl rfl ?_
 | (refine S_callM (f := 42) rfl obQ (by kernel_rfl) (fun w hw => lgiven_c p A c hs hA w (hw.rdm hr.toS memQ)) (fun w1O w2O vO hw1O hbO hRO => ?_); obtain ⟨AO, cO, rfl, hSO⟩ := hRO)
 | (refine S_callM (f := 56) rfl obQ (by kernel_rfl) (fun w hw => lints_c D c3 k hl hD w (hw.rdm hr3.toS memQ)) (fun w1I w2I vI hw1I hbI hRI => ?_); obtain ⟨AI, cI, rfl, hSI⟩ := hRI)
 | (refine S_callM (f := 78) rfl obQ (by kernel_rfl) (fun w hw => xmixed_as hs hs2 hp hq hko hkl hpq (hw.rdm hr.toS memQ) (hw.rdm hr2.toS memQ) (hw.rdm hr3.toS memQ)) (fun w1X w2X vX hw1X hbX hRX => ?_); obtain ⟨AX, cX, rfl, hSX⟩ := hRX)
 | (refine S_callM (f := 79) rfl obQ (by kernel_rfl) (fun w hw => xover_as hV4 hs hs2 hp hq hko hkl hpq (hw.rdm hr.toS memQ) (hw.rdm hr2.toS memQ) (hw.rdm hr3.toS memQ)) (fun w1Z w2Z vZ hw1Z hbZ hRZ => ?_); obtain ⟨AZ, cZ, rfl, hSZ⟩ := hRZ)
 | (refine S_callM (f := 80) rfl obQ (by kernel_rfl) (fun w hw => xpremultiplied_as hs hp2 hko2 hkl2 (hw.rdm hr.toS memQ) (hw.rdm hr3.toS memQ)) (fun w1Y w2Y vY hw1Y hbY hRY => ?_); obtain ⟨AY, cY, rfl, hSY⟩ := hRY)
 | refine S_nil ?_
 | refine S_runN rfl rfl obQ obQ ?_
 | refine S_box (fun bb => ⟨_, _, rfl, obQ, ?_⟩)
 | refine S_slice (fun b => ⟨_, _, rfl, obQ, ?_⟩)
 | refine S_call (f := 17) rfl obQ (by kernel_rfl) (fun w hw => mawake_c w (Sh_at hsh hw memQ) (Pw_at hP hw memQ)) ?_
 | refine S_call (f := 57) rfl obQ (by kernel_rfl) (fun w hw => tw_as hTw hs hs2 hnm hnm2 (hw.rdm hr.toS memQ) (hw.rdm hr2.toS memQ)) ?_
 | refine S_call (f := 60) rfl obQ (by kernel_rfl) (fun w hw => xcp_as rfl hs hnm (hw.rdm hr.toS memQ)) ?_
 | refine S_call (f := 61) rfl obQ (by kernel_rfl) (fun w hw => xckd_as hKd hl (hw.rdm hr3.toS memQ)) ?_
 | refine S_call (f := 20) rfl obQ (by kernel_rfl) (fun w hw => lwfirstE_c (l := [picE p, 0]) hTwo0 (by simp) rfl _ w ((.inr ⟨_, rfl, hw.src (i := 4) rfl rfl⟩))) ?_
 | refine S_call (f := 82) rfl obQ (by kernel_rfl) (fun w hw => xisfill_as hs hp2 hko2 hkl2 (hw.rdm hr.toS memQ) (hw.rdm hr3.toS memQ)) ?_
 | refine S_call (f := 81) rfl obQ (by kernel_rfl) (fun w hw => rWhen_c _ _ w) ?_
 | refine S_call (f := 83) rfl obQ (by kernel_rfl) (fun w hw => cfill_as hCf hs hl (hw.rdm hSO memQ) (hw.rdm hSI memQ)) ?_
 | refine S_call (f := 64) rfl obQ (by kernel_rfl) (fun w hw => lis_c (wiP p (mxL p q k)) _ _ _ _ (by rw [wi_len]; simp only [mxL, List.length_map, List.length_range]; exact hs) (wi_fin hlm) w (hw.rdm U.1.h memQ) (hw.rdm hSX memQ)) ?_
 | refine S_call (f := 64) rfl obQ (by kernel_rfl) (fun w hw => lis_c (wiP p (zwI paF (lvs p) k)) _ _ _ _ (by rw [wi_len, zwI_len, lvs_len]; exact hs) (wi_fin hlp) w (hw.rdm hSG memQ) (hw.rdm hSY memQ)) ?_
 | refine S_call (f := 64) rfl obQ (by kernel_rfl) (fun w hw => lisE_c _ hne4 zP _ _ _ _ w) ?_
             )
 | refine V_nil ?_
 | refine V_q rfl (Yl_step rfl obQ) ?_
 | refine V_n rfl ?_
 | refine G_V ⟨⟨_, rfl, trivial⟩, ⟨_, rfl⟩, rfl, pstQ⟩ rfl ?_
 | refine G_then ?_
 | refine G_ret rfl obQ (fun w hw => ⟨?_, hw.below⟩)
             )
            all_goals rfl
        · have hm : ¬ mxE p q k = 0 := by rw [mxO_eq]; unfold mxO; rw [if_pos hTw]; exact hE1
          have hmo : mxO p q k = kdE p k := by unfold mxO; rw [if_pos hTw]
          have hpm : ¬ pmE p k = 0 := by rw [pm_of hTw]; exact hE1
          have hne1 : ¬ mxO p q k = 0 := by rw [hmo]; exact hE1
          have hne2 := hpm
          have hKd : kdE p k = mxO p q k := hmo.symm
          have hTwo : firstL [picE p, kdE p k] = pmE p k := rfl
          have hTwo0 : firstL [picE p, mxO p q k] = pmE p k := by rw [hmo]; rfl
          obtain ⟨rfl, rfl⟩ := Prod.mk.inj (hV1.symm.trans (show mxR p q k = (zP, mxO p q k) from (if_neg hm).trans (by rw [mxO_eq])))
          obtain ⟨rfl, rfl⟩ := Prod.mk.inj (hV3.symm.trans (show ovR p q k = (zP, mxO p q k) from (if_neg hm).trans (by rw [mxO_eq])))
          obtain ⟨rfl, rfl⟩ := Prod.mk.inj (hV2.symm.trans (show pmR p k = (zP, pmE p k) from if_neg hpm))
          have hCf : cfE p k = pmE p k := if_neg hpm
          repeat' (first
 | (refine C_id ?_; first
 | refine C_seq ?_
 | refine C_region rfl ?_
 | refine C_skip ?_
 | refine C_ret0 ?_
 | refine C_drawV (id := 6) 11 [(0, true), (1, true), (2, true), (3, true), (5, true), (6, true), (8, true), (9, true), (10, true), (4, false), (7, false)] rfl mixed (by kernel_rfl) rfl ?_
 | refine C_condT rfl obQ ?_
 | (refine C_cond rfl obQ (fun h => ?_) (fun h => ?_) <;> (try simp only [cdS] at h) <;> (try (exfalso; omega)) <;> (try exact cdF h) <;> (try contradiction))
           )
 | (refine S_id ?_; first
 | ((with_reducible (first | refine S_trueE ?_ ?_ | refine S_trueB ?_ ?_ | refine S_trueL ?_ ?_ | refine S_trueD ?_ ?_ | refine S_trueN ?_ ?_)); · (first | exact beq_self_eq_true _ | rfl | omega))
 | ((with_reducible refine S_trueA ?_ ?_ ?_); (· rfl); (· first | rfl | (first | exact beq_self_eq_true _ | rfl | omega)))
 | refine S_unG rfl rfl rfl rfl ?_
 | (refine S_callM (f := 42) rfl obQ (by kernel_rfl) (fun w hw => lgiven_c p A c hs hA w (hw.rdm hr.toS memQ)) (fun w1O w2O vO hw1O hbO hRO => ?_); obtain ⟨AO, cO, rfl, hSO⟩ := hRO)
 | (refine S_callM (f := 56) rfl obQ (by kernel_rfl) (fun w hw => lints_c D c3 k hl hD w (hw.rdm hr3.toS memQ)) (fun w1I w2I vI hw1I hbI hRI => ?_); obtain ⟨AI, cI, rfl, hSI⟩ := hRI)
 | refine S_nil ?_
 | refine S_runN rfl rfl obQ obQ ?_
 | refine S_box (fun bb => ⟨_, _, rfl, obQ, ?_⟩)
 | refine S_slice (fun b => ⟨_, _, rfl, obQ, ?_⟩)
 | refine S_call (f := 17) rfl obQ (by kernel_rfl) (fun w hw => mawake_c w (Sh_at hsh hw memQ) (Pw_at hP hw memQ)) ?_
 | refine S_call (f := 57) rfl obQ (by kernel_rfl) (fun w hw => tw_as hTw hs hs2 hnm hnm2 (hw.rdm hr.toS memQ) (hw.rdm hr2.toS memQ)) ?_
 | refine S_call (f := 60) rfl obQ (by kernel_rfl) (fun w hw => xcp_as rfl hs hnm (hw.rdm hr.toS memQ)) ?_
 | refine S_call (f := 61) rfl obQ (by kernel_rfl) (fun w hw => xckd_as hKd hl (hw.rdm hr3.toS memQ)) ?_
 | refine S_call (f := 20) rfl obQ (by kernel_rfl) (fun w hw => lwfirstE_c (l := [picE p, kdE p k]) hTwo (by simp) rfl _ w ((.inr ⟨_, rfl, hw.src (i := 4) rfl rfl⟩))) ?_
 | refine S_call (f := 20) rfl obQ (by kernel_rfl) (fun w hw => lwfirstE_c (l := [picE p, mxO p q k]) hTwo0 (by simp) rfl _ w ((.inr ⟨_, rfl, hw.src (i := 4) rfl rfl⟩))) ?_
 | refine S_call (f := 83) rfl obQ (by kernel_rfl) (fun w hw => cfill_as hCf hs hl (hw.rdm hSO memQ) (hw.rdm hSI memQ)) ?_
 | refine S_call (f := 64) rfl obQ (by kernel_rfl) (fun w hw => lisE_c _ hne1 zP _ none _ 0 w) ?_
 | refine S_call (f := 64) rfl obQ (by kernel_rfl) (fun w hw => lisE_c _ hne2 zP _ none _ 0 w) ?_
           )
 | refine V_nil ?_
 | refine V_q rfl (Yl_step rfl obQ) ?_
 | refine V_n rfl ?_
 | refine G_V ⟨⟨_, rfl, trivial⟩, ⟨_, rfl⟩, rfl, pstQ⟩ rfl ?_
 | refine G_then ?_
 | refine G_ret rfl obQ (fun w hw => ⟨?_, hw.below⟩)
           )
          all_goals rfl
      · have hm : ¬ mxE p q k = 0 := by rw [mxO_eq]; unfold mxO; rw [if_neg hTw]; exact hTw
        have hmo : mxO p q k = twE p q := by unfold mxO; rw [if_neg hTw]
        have hne1 : ¬ mxO p q k = 0 := by rw [hmo]; exact hTw
        have hne0 := hTw
        have hTw : twE p q = mxO p q k := hmo.symm
        obtain ⟨rfl, rfl⟩ := Prod.mk.inj (hV1.symm.trans (show mxR p q k = (zP, mxO p q k) from (if_neg hm).trans (by rw [mxO_eq])))
        obtain ⟨rfl, rfl⟩ := Prod.mk.inj (hV3.symm.trans (show ovR p q k = (zP, mxO p q k) from (if_neg hm).trans (by rw [mxO_eq])))
        by_cases hpm : pmE p k = 0
        · obtain ⟨hp2, hko2, hkl2⟩ := pm_ok hpm
          have hlp := pm_lv hp2 hko2 hkl2
          have hTwo : firstL [picE p, kdE p k] = 0 := hpm
          obtain ⟨rfl, rfl⟩ := Prod.mk.inj (hV2.symm.trans (show pmR p k = ((wiP p (zwI paF (lvs p) k)), 0) from (if_pos hpm).trans (wiR_1 hlp)))
          have hCf : cfE p k = wh (!fiB p k) 21 := if_pos hpm
          repeat' (first
 | (refine C_id ?_; first
 | refine C_seq ?_
 | refine C_region rfl ?_
 | refine C_skip ?_
 | refine C_ret0 ?_
 | refine C_drawV (id := 6) 11 [(0, true), (1, true), (2, true), (3, true), (5, true), (6, true), (8, true), (9, true), (10, true), (4, false), (7, false)] rfl mixed (by kernel_rfl) rfl ?_
 | refine C_condT rfl obQ ?_
 | (refine C_cond rfl obQ (fun h => ?_) (fun h => ?_) <;> (try simp only [cdS] at h) <;> (try (exfalso; omega)) <;> (try exact cdF h) <;> (try contradiction))
           )
 | (refine S_id ?_; first
 | ((with_reducible (first | refine S_trueE ?_ ?_ | refine S_trueB ?_ ?_ | refine S_trueL ?_ ?_ | refine S_trueD ?_ ?_ | refine S_trueN ?_ ?_)); · (first | exact beq_self_eq_true _ | rfl | omega))
 | ((with_reducible refine S_trueA ?_ ?_ ?_); (· rfl); (· first | rfl | (first | exact beq_self_eq_true _ | rfl | omega)))
 | refine S_unG rfl rfl rfl rfl ?_
 | (refine S_callM (f := 42) rfl obQ (by kernel_rfl) (fun w hw => lgiven_c p A c hs hA w (hw.rdm hr.toS memQ)) (fun w1O w2O vO hw1O hbO hRO => ?_); obtain ⟨AO, cO, rfl, hSO⟩ := hRO)
 | (refine S_callM (f := 56) rfl obQ (by kernel_rfl) (fun w hw => lints_c D c3 k hl hD w (hw.rdm hr3.toS memQ)) (fun w1I w2I vI hw1I hbI hRI => ?_); obtain ⟨AI, cI, rfl, hSI⟩ := hRI)
 | (refine S_callM (f := 80) rfl obQ (by kernel_rfl) (fun w hw => xpremultiplied_as hs hp2 hko2 hkl2 (hw.rdm hr.toS memQ) (hw.rdm hr3.toS memQ)) (fun w1Y w2Y vY hw1Y hbY hRY => ?_); obtain ⟨AY, cY, rfl, hSY⟩ := hRY)
 | refine S_nil ?_
 | refine S_runN rfl rfl obQ obQ ?_
 | refine S_box (fun bb => ⟨_, _, rfl, obQ, ?_⟩)
 | refine S_slice (fun b => ⟨_, _, rfl, obQ, ?_⟩)
 | refine S_call (f := 17) rfl obQ (by kernel_rfl) (fun w hw => mawake_c w (Sh_at hsh hw memQ) (Pw_at hP hw memQ)) ?_
 | refine S_call (f := 57) rfl obQ (by kernel_rfl) (fun w hw => tw_as hTw hs hs2 hnm hnm2 (hw.rdm hr.toS memQ) (hw.rdm hr2.toS memQ)) ?_
 | refine S_call (f := 60) rfl obQ (by kernel_rfl) (fun w hw => xcp_as rfl hs hnm (hw.rdm hr.toS memQ)) ?_
 | refine S_call (f := 61) rfl obQ (by kernel_rfl) (fun w hw => xckd_as hKd hl (hw.rdm hr3.toS memQ)) ?_
 | refine S_call (f := 20) rfl obQ (by kernel_rfl) (fun w hw => lwfirstE_c (l := [picE p, kdE p k]) hTwo (by simp) rfl _ w ((.inr ⟨_, rfl, hw.src (i := 4) rfl rfl⟩))) ?_
 | refine S_call (f := 82) rfl obQ (by kernel_rfl) (fun w hw => xisfill_as hs hp2 hko2 hkl2 (hw.rdm hr.toS memQ) (hw.rdm hr3.toS memQ)) ?_
 | refine S_call (f := 81) rfl obQ (by kernel_rfl) (fun w hw => rWhen_c _ _ w) ?_
 | refine S_call (f := 83) rfl obQ (by kernel_rfl) (fun w hw => cfill_as hCf hs hl (hw.rdm hSO memQ) (hw.rdm hSI memQ)) ?_
 | refine S_call (f := 64) rfl obQ (by kernel_rfl) (fun w hw => lisE_c _ hne1 zP _ none _ 0 w) ?_
 | refine S_call (f := 64) rfl obQ (by kernel_rfl) (fun w hw => lis_c (wiP p (zwI paF (lvs p) k)) _ _ _ _ (by rw [wi_len, zwI_len, lvs_len]; exact hs) (wi_fin hlp) w (hw.rdm hSG memQ) (hw.rdm hSY memQ)) ?_
           )
 | refine V_nil ?_
 | refine V_q rfl (Yl_step rfl obQ) ?_
 | refine V_n rfl ?_
 | refine G_V ⟨⟨_, rfl, trivial⟩, ⟨_, rfl⟩, rfl, pstQ⟩ rfl ?_
 | refine G_then ?_
 | refine G_ret rfl obQ (fun w hw => ⟨?_, hw.below⟩)
           )
          all_goals rfl
        · have hne2 := hpm
          have hTwo : firstL [picE p, kdE p k] = pmE p k := rfl
          obtain ⟨rfl, rfl⟩ := Prod.mk.inj (hV2.symm.trans (show pmR p k = (zP, pmE p k) from if_neg hpm))
          have hCf : cfE p k = pmE p k := if_neg hpm
          repeat' (first
 | (refine C_id ?_; first
 | refine C_seq ?_
 | refine C_region rfl ?_
 | refine C_skip ?_
 | refine C_ret0 ?_
 | refine C_drawV (id := 6) 11 [(0, true), (1, true), (2, true), (3, true), (5, true), (6, true), (8, true), (9, true), (10, true), (4, false), (7, false)] rfl mixed (by kernel_rfl) rfl ?_
 | refine C_condT rfl obQ ?_
 | (refine C_cond rfl obQ (fun h => ?_) (fun h => ?_) <;> (try simp only [cdS] at h) <;> (try (exfalso; omega)) <;> (try exact cdF h) <;> (try contradiction))
           )
 | (refine S_id ?_; first
 | ((with_reducible (first | refine S_trueE ?_ ?_ | refine S_trueB ?_ ?_ | refine S_trueL ?_ ?_ | refine S_trueD ?_ ?_ | refine S_trueN ?_ ?_)); · (first | exact beq_self_eq_true _ | rfl | omega))
 | ((with_reducible refine S_trueA ?_ ?_ ?_); (· rfl); (· first | rfl | (first | exact beq_self_eq_true _ | rfl | omega)))
 | refine S_unG rfl rfl rfl rfl ?_
 | (refine S_callM (f := 42) rfl obQ (by kernel_rfl) (fun w hw => lgiven_c p A c hs hA w (hw.rdm hr.toS memQ)) (fun w1O w2O vO hw1O hbO hRO => ?_); obtain ⟨AO, cO, rfl, hSO⟩ := hRO)
 | (refine S_callM (f := 56) rfl obQ (by kernel_rfl) (fun w hw => lints_c D c3 k hl hD w (hw.rdm hr3.toS memQ)) (fun w1I w2I vI hw1I hbI hRI => ?_); obtain ⟨AI, cI, rfl, hSI⟩ := hRI)
 | refine S_nil ?_
 | refine S_runN rfl rfl obQ obQ ?_
 | refine S_box (fun bb => ⟨_, _, rfl, obQ, ?_⟩)
 | refine S_slice (fun b => ⟨_, _, rfl, obQ, ?_⟩)
 | refine S_call (f := 17) rfl obQ (by kernel_rfl) (fun w hw => mawake_c w (Sh_at hsh hw memQ) (Pw_at hP hw memQ)) ?_
 | refine S_call (f := 57) rfl obQ (by kernel_rfl) (fun w hw => tw_as hTw hs hs2 hnm hnm2 (hw.rdm hr.toS memQ) (hw.rdm hr2.toS memQ)) ?_
 | refine S_call (f := 60) rfl obQ (by kernel_rfl) (fun w hw => xcp_as rfl hs hnm (hw.rdm hr.toS memQ)) ?_
 | refine S_call (f := 61) rfl obQ (by kernel_rfl) (fun w hw => xckd_as hKd hl (hw.rdm hr3.toS memQ)) ?_
 | refine S_call (f := 20) rfl obQ (by kernel_rfl) (fun w hw => lwfirstE_c (l := [picE p, kdE p k]) hTwo (by simp) rfl _ w ((.inr ⟨_, rfl, hw.src (i := 4) rfl rfl⟩))) ?_
 | refine S_call (f := 20) rfl obQ (by kernel_rfl) (fun w hw => lwfirstE_c (l := [picE p, mxO p q k]) hTwo0 (by simp) rfl _ w ((.inr ⟨_, rfl, hw.src (i := 4) rfl rfl⟩))) ?_
 | refine S_call (f := 83) rfl obQ (by kernel_rfl) (fun w hw => cfill_as hCf hs hl (hw.rdm hSO memQ) (hw.rdm hSI memQ)) ?_
 | refine S_call (f := 64) rfl obQ (by kernel_rfl) (fun w hw => lisE_c _ hne1 zP _ none _ 0 w) ?_
 | refine S_call (f := 64) rfl obQ (by kernel_rfl) (fun w hw => lisE_c _ hne2 zP _ none _ 0 w) ?_
           )
 | refine V_nil ?_
 | refine V_q rfl (Yl_step rfl obQ) ?_
 | refine V_n rfl ?_
 | refine G_V ⟨⟨_, rfl, trivial⟩, ⟨_, rfl⟩, rfl, pstQ⟩ rfl ?_
 | refine G_then ?_
 | refine G_ret rfl obQ (fun w hw => ⟨?_, hw.below⟩)
           )
          all_goals rfl
    · have hK : skB k.length = false := by simpa using hK
      repeat' (first
 | (refine C_id ?_; first
 | refine C_seq ?_
 | refine C_region rfl ?_
 | refine C_ret0 ?_
 | refine C_condT rfl obQ ?_
       )
 | (refine S_id ?_; first
 | refine S_unG rfl rfl rfl rfl ?_
 | refine S_pure (sliceX_pure rfl obQ (fun w => sl_arr Tryz.underlying87 (by kernel_rfl) _ w)) ?_
 | refine S_nil ?_
 | refine S_runN rfl rfl obQ obQ ?_
 | refine S_box (fun bb => ⟨_, _, rfl, obQ, ?_⟩)
 | refine S_call (f := 17) rfl obQ (by kernel_rfl) (fun w hw => mawake_c w (Sh_at hsh hw memQ) (Pw_at hP hw memQ)) ?_
 | refine S_call (f := 52) rfl obQ (by kernel_rfl) (fun w hw => shps_as (p := p) (q := q) (A := A) (B := B) (c := c) (c2 := c2) hS (.inr ⟨_, rfl, hw.src (i := 0) rfl rfl⟩)) ?_
 | refine S_call (f := 53) rfl obQ (by kernel_rfl) (fun w hw => sk_as hK) ?_
       )
 | refine G_then ?_
 | refine G_thenR ?_
 | refine G_ret rfl obQ (fun w hw => ⟨?_, hw.below⟩)
       )
      all_goals rfl
  · have hS : (shortB p && shortB q) = false := by simpa using hS
    repeat' (first
 | (refine C_id ?_; first
 | refine C_seq ?_
 | refine C_region rfl ?_
 | refine C_ret0 ?_
 | refine C_condT rfl obQ ?_
     )
 | (refine S_id ?_; first
 | refine S_pure (sliceX_pure rfl obQ (fun w => sl_arr Tryz.underlying87 (by kernel_rfl) _ w)) ?_
 | refine S_offG (.v (.bool false)) rfl rfl rfl rfl rfl ?_
 | refine S_nil ?_
 | refine S_runN rfl rfl obQ obQ ?_
 | refine S_box (fun bb => ⟨_, _, rfl, obQ, ?_⟩)
 | refine S_call (f := 17) rfl obQ (by kernel_rfl) (fun w hw => mawake_c w (Sh_at hsh hw memQ) (Pw_at hP hw memQ)) ?_
 | refine S_call (f := 52) rfl obQ (by kernel_rfl) (fun w hw => shps_as (p := p) (q := q) (A := A) (B := B) (c := c) (c2 := c2) hS (.inr ⟨_, rfl, hw.src (i := 0) rfl rfl⟩)) ?_
     )
 | refine G_then ?_
 | refine G_thenR ?_
 | refine G_ret rfl obQ (fun w hw => ⟨?_, hw.below⟩)
     )
    all_goals rfl
end Go.Proofs.YtjkgklhjbopoaaaGreatDoor
