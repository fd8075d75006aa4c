/- The law of the banks: the walk. -/
import Derived.Test.YtjkgklhjbopoaaaGreatDoorMixer75
namespace Go.Proofs.YtjkgklhjbopoaaaGreatDoor
open Go.E Go.RowKit Go.Fl
attribute [local irreducible] G C S D Calls
set_option maxRecDepth 100000
set_option linter.unusedSimpArgs false
set_option linter.unusedVariables false
set_option maxHeartbeats 8000000
theorem lBanks_c (A : Option Addr) (c : Nat) (t : List Nod) (B : Option Addr) (c2 : Nat) (s : List Nod) (hc : t.length ≤ c) (hm : t.length ≤ maxLen) (hm2 : s.length ≤ maxLen) (node m : Int) (w : World) (hr : Rd w A (t.flatMap ndC)) (hr2 : Rd w B (s.flatMap ndC)) (hsh : Sh w) (hP : Pw w) : Calls Tryz.prog 4 #[.slice A t.length c, .slice B s.length c2, .agg #[.int .i64 node, .int .i64 m]] w fun r w' => r = .returned (.bool true) ∧ Below w.heap.size w w' := by
  refine calls_of T_ok Tryz.func4 rfl Tryz.ntmps4 (Nat.le_of_ble_eq_true rfl) rfl ?_
  cases hS : shT t
  · repeat' (first
 | (refine C_id ?_; first
 | refine C_seq ?_
 | refine C_region rfl ?_
 | refine C_block ?_
 | refine C_skip ?_
 | refine C_exit ?_
 | refine C_ret0 ?_
 | refine C_draw (id := 3) rfl mixed (by kernel_rfl) ?_
 | refine C_draw (id := 4) rfl mixed (by kernel_rfl) ?_
 | refine C_drawT (id := 5) 13 rfl mixed (by kernel_rfl) rfl rfl ?_
 | refine C_condT rfl obQ ?_
 | refine C_condF rfl obQ ?_
 | (refine C_cond rfl obQ (fun h => ?_) (fun h => ?_) <;> (try simp only [cdS] at h) <;> (try (exfalso; omega)) <;> (try exact cdF h) <;> (try contradiction))
     )
 | (refine S_id ?_; first
 | ((with_reducible (first | refine S_falseN ?_ ?_ | refine S_falseB ?_ ?_ | refine S_falseL ?_ ?_ | refine S_falseD ?_ ?_ | refine S_falseE ?_ ?_)); · (first | rfl | omega))
 | ((with_reducible refine S_falseO ?_ ?_ ?_); (· rfl); (· first | rfl | (first | rfl | omega)))
 | ((with_reducible (first | refine S_trueE ?_ ?_ | refine S_trueB ?_ ?_ | refine S_trueL ?_ ?_ | refine S_trueD ?_ ?_ | refine S_trueN ?_ ?_)); · (first | exact beq_self_eq_true _ | rfl | omega))
 | ((with_reducible refine S_trueA ?_ ?_ ?_); (· rfl); (· first | rfl | (first | exact beq_self_eq_true _ | rfl | omega)))
 | refine S_unG rfl rfl rfl rfl ?_
 | refine S_offG (.v (.bool false)) rfl rfl rfl rfl rfl ?_
 | refine S_nil ?_
 | refine S_runN rfl rfl obQ obQ ?_
 | refine S_box (fun bb => ⟨_, _, rfl, obQ, ?_⟩)
 | refine S_slice (fun b => ⟨_, _, rfl, obQ, ?_⟩)
 | refine S_call (f := 17) rfl obQ (by kernel_rfl) (fun w hw => mawake_c w (Sh_at hsh hw memQ) (Pw_at hP hw memQ)) ?_
 | refine S_call (f := 27) rfl obQ (by kernel_rfl) (fun w hw => xshort_as hS hm (hw.rdm hr.toS memQ)) ?_
     )
 | (refine D_id ?_; first
 | refine D_nil ?_
 | refine D_tail ?_
 | refine D_run rfl rfl obQ obQ ?_
 | refine D_call (f := 17) rfl obQ (by kernel_rfl) (fun w hw => mawake_c w (Sh_at hsh hw memQ) (Pw_at hP hw memQ)) ?_
 | refine D_call (f := 27) rfl obQ (by kernel_rfl) (fun w hw => xshort_as hS hm (hw.rdm hr.toS memQ)) ?_
     )
 | (refine G_id ?_; first
 | refine G_then ?_
 | refine G_block ?_
 | refine G_blockX ?_
 | refine G_blockN rfl ?_
 | refine G_blockR ?_
 | refine G_thenR ?_
 | refine G_thenX ?_
 | refine G_ret rfl obQ (fun w hw => ⟨?_, hw.below⟩)
     )
     )
    all_goals rfl
  · cases hK : shT s
    · repeat' (first
 | (refine C_id ?_; first
 | refine C_seq ?_
 | refine C_region rfl ?_
 | refine C_block ?_
 | refine C_skip ?_
 | refine C_exit ?_
 | refine C_ret0 ?_
 | refine C_draw (id := 3) rfl mixed (by kernel_rfl) ?_
 | refine C_draw (id := 4) rfl mixed (by kernel_rfl) ?_
 | refine C_drawT (id := 5) 13 rfl mixed (by kernel_rfl) rfl rfl ?_
 | refine C_condT rfl obQ ?_
 | refine C_condF rfl obQ ?_
 | (refine C_cond rfl obQ (fun h => ?_) (fun h => ?_) <;> (try simp only [cdS] at h) <;> (try (exfalso; omega)) <;> (try exact cdF h) <;> (try contradiction))
       )
 | (refine S_id ?_; first
 | ((with_reducible (first | refine S_falseN ?_ ?_ | refine S_falseB ?_ ?_ | refine S_falseL ?_ ?_ | refine S_falseD ?_ ?_ | refine S_falseE ?_ ?_)); · (first | rfl | omega))
 | ((with_reducible refine S_falseO ?_ ?_ ?_); (· rfl); (· first | rfl | (first | rfl | omega)))
 | ((with_reducible (first | refine S_trueE ?_ ?_ | refine S_trueB ?_ ?_ | refine S_trueL ?_ ?_ | refine S_trueD ?_ ?_ | refine S_trueN ?_ ?_)); · (first | exact beq_self_eq_true _ | rfl | omega))
 | ((with_reducible refine S_trueA ?_ ?_ ?_); (· rfl); (· first | rfl | (first | exact beq_self_eq_true _ | rfl | omega)))
 | refine S_unG rfl rfl rfl rfl ?_
 | refine S_offG (.v (.bool false)) rfl rfl rfl rfl rfl ?_
 | refine S_nil ?_
 | refine S_runN rfl rfl obQ obQ ?_
 | refine S_box (fun bb => ⟨_, _, rfl, obQ, ?_⟩)
 | refine S_slice (fun b => ⟨_, _, rfl, obQ, ?_⟩)
 | refine S_call (f := 17) rfl obQ (by kernel_rfl) (fun w hw => mawake_c w (Sh_at hsh hw memQ) (Pw_at hP hw memQ)) ?_
 | refine S_call (f := 27) rfl obQ (by kernel_rfl) (fun w hw => xshort_as hS hm (hw.rdm hr.toS memQ)) ?_
 | refine S_call (f := 27) rfl obQ (by kernel_rfl) (fun w hw => xshort_as hK hm2 (hw.rdm hr2.toS memQ)) ?_
       )
 | (refine D_id ?_; first
 | refine D_nil ?_
 | refine D_tail ?_
 | refine D_run rfl rfl obQ obQ ?_
 | refine D_call (f := 17) rfl obQ (by kernel_rfl) (fun w hw => mawake_c w (Sh_at hsh hw memQ) (Pw_at hP hw memQ)) ?_
 | refine D_call (f := 27) rfl obQ (by kernel_rfl) (fun w hw => xshort_as hS hm (hw.rdm hr.toS memQ)) ?_
 | refine D_call (f := 27) rfl obQ (by kernel_rfl) (fun w hw => xshort_as hK hm2 (hw.rdm hr2.toS memQ)) ?_
       )
 | (refine G_id ?_; first
 | refine G_then ?_
 | refine G_block ?_
 | refine G_blockX ?_
 | refine G_blockN rfl ?_
 | refine G_blockR ?_
 | refine G_thenR ?_
 | refine G_thenX ?_
 | refine G_ret rfl obQ (fun w hw => ⟨?_, hw.below⟩)
       )
       )
      all_goals rfl
    · have hl : t.length ≤ 1000000 := by have := shT_le hS; omega
      have hl2 : s.length ≤ 1000000 := by have := shT_le hK; omega
      obtain ⟨one, hone⟩ : ∃ e, ccE t node m = e := ⟨_, rfl⟩
      obtain ⟨two, htwo⟩ : ∃ e, joE t s m = e := ⟨_, rfl⟩
      obtain ⟨y1, y2, e1, hV1⟩ : ∃ x y e, cuR t node m = (x, y, e) := ⟨_, _, _, rfl⟩
      obtain ⟨y3, e3, hV2⟩ : ∃ x e, joR t s m = (x, e) := ⟨_, _, rfl⟩
      obtain ⟨hb1, hb2⟩ := cuR_bd hl hV1
      have hb3 := joR_bd hl hV2
      repeat' (first
 | (refine C_id ?_; first
 | refine C_seq ?_
 | refine C_regionNe 7 rfl rfl ?_
 | refine C_block ?_
 | refine C_skip ?_
 | refine C_exit ?_
 | refine C_ret0 ?_
 | refine C_drawV (id := 3) 13 [(0, true), (2, true), (3, true), (4, true), (5, true), (1, false), (6, false), (7, true), (8, true), (9, true), (10, true), (11, true), (12, true)] rfl mixed (by kernel_rfl) rfl ?_
 | refine C_drawV (id := 4) 11 [(0, true), (2, true), (4, true), (5, true), (1, false), (3, false), (6, false), (7, true), (8, true), (9, true), (10, true)] rfl mixed (by kernel_rfl) rfl ?_
 | refine C_drawV (id := 5) 12 [(0, true), (1, true), (2, true), (3, true), (4, true), (6, true), (8, true), (10, true), (11, true), (5, false), (7, false), (9, false)] rfl mixed (by kernel_rfl) rfl ?_
 | refine C_condT rfl obQ ?_
 | refine C_condF rfl obQ ?_
 | (refine C_cond rfl obQ (fun h => ?_) (fun h => ?_) <;> (try simp only [cdS] at h) <;> (try (exfalso; omega)) <;> (try exact cdF h) <;> (try contradiction))
       )
 | (refine S_id ?_; first
 | ((with_reducible (first | refine S_falseN ?_ ?_ | refine S_falseB ?_ ?_ | refine S_falseL ?_ ?_ | refine S_falseD ?_ ?_ | refine S_falseE ?_ ?_)); · (first | rfl | omega))
 | ((with_reducible refine S_falseO ?_ ?_ ?_); (· rfl); (· first | rfl | (first | rfl | omega)))
 | ((with_reducible (first | refine S_trueE ?_ ?_ | refine S_trueB ?_ ?_ | refine S_trueL ?_ ?_ | refine S_trueD ?_ ?_ | refine S_trueN ?_ ?_)); · (first | exact beq_self_eq_true _ | rfl | omega))
 | ((with_reducible refine S_trueA ?_ ?_ ?_); (· rfl); (· first | rfl | (first | exact beq_self_eq_true _ | rfl | omega)))
 | refine S_unG rfl rfl rfl rfl ?_
 | refine S_offG (.v (.bool false)) rfl rfl rfl rfl rfl ?_
 | (refine S_callM (f := 29) rfl obQ (by kernel_rfl) (fun w hw => lwnodes_c A c t hl w (hw.rdm hr.toS memQ)) (fun w1N w2N vN hw1N hbN hRN => ?_); obtain ⟨AN, cN, rfl, hcN, hSN⟩ := hRN)
 | (refine S_callM (f := 29) rfl obQ (by kernel_rfl) (fun w hw => lwnodes_c B c2 s hl2 w (hw.rdm hr2.toS memQ)) (fun w1O w2O vO hw1O hbO hRO => ?_); obtain ⟨AO, cO, rfl, hcO, hSO⟩ := hRO)
 | (refine S_callM (f := 28) rfl obQ (by kernel_rfl) (fun w hw => cut_as hV1 hl hcN (hw.rdm hSN memQ) (Sh_at hsh hw memQ)) (fun w1P w2P vP hw1P hbP hRP => ?_); obtain ⟨AP, cP, BP, dP, rfl, hSP, hTP⟩ := hRP)
 | (refine S_callM (f := 30) rfl obQ (by kernel_rfl) (fun w hw => joined_as hV2 hl hl2 (hw.rdm hSN memQ) (hw.rdm hSO memQ) (Sh_at hsh hw memQ)) (fun w1J w2J vJ hw1J hbJ hRJ => ?_); obtain ⟨AJ, cJ, rfl, hSJ⟩ := hRJ)
 | refine S_nil ?_
 | refine S_runN rfl rfl obQ obQ ?_
 | refine S_box (fun bb => ⟨_, _, rfl, obQ, ?_⟩)
 | refine S_slice (fun b => ⟨_, _, rfl, obQ, ?_⟩)
 | refine S_call (f := 27) rfl obQ (by kernel_rfl) (fun w hw => xshort_as hS hm (hw.rdm hr.toS memQ)) ?_
 | refine S_call (f := 27) rfl obQ (by kernel_rfl) (fun w hw => xshort_as hK hm2 (hw.rdm hr2.toS memQ)) ?_
 | refine S_call (f := 31) rfl obQ (by kernel_rfl) (fun w hw => xcc2_as hone hl (hw.rdm hr.toS memQ)) ?_
 | refine S_call (f := 32) rfl obQ (by kernel_rfl) (fun w hw => xtree_as rfl hl (hw.rdm hr.toS memQ)) ?_
 | refine S_call (f := 32) rfl obQ (by kernel_rfl) (fun w hw => xtree_as rfl hl2 (hw.rdm hr2.toS memQ)) ?_
 | refine S_call (f := 33) rfl obQ (by kernel_rfl) (fun w hw => xCheckNumber_c m w) ?_
 | refine S_call (f := 20) rfl obQ (by kernel_rfl) (fun w hw => lwfirstE_c (l := [trE t, trE s, wi m 0 7]) htwo (by simp) rfl _ w ((by first | exact .inr ⟨_, rfl, hw.src (i := 4) rfl rfl⟩ | exact .inr ⟨_, rfl, hw.src (i := 3) rfl rfl⟩ | exact .inr ⟨_, rfl, hw.src (i := 2) rfl rfl⟩ | exact .inr ⟨_, rfl, hw.src (i := 1) rfl rfl⟩ | exact .inr ⟨_, rfl, hw.src (i := 0) rfl rfl⟩))) ?_
       )
 | (refine D_id ?_; first
 | refine D_nil ?_
 | refine D_tail ?_
 | refine D_run rfl rfl obQ obQ ?_
 | refine D_call (f := 27) rfl obQ (by kernel_rfl) (fun w hw => xshort_as hS hm (hw.rdm hr.toS memQ)) ?_
 | refine D_call (f := 27) rfl obQ (by kernel_rfl) (fun w hw => xshort_as hK hm2 (hw.rdm hr2.toS memQ)) ?_
 | refine D_call (f := 31) rfl obQ (by kernel_rfl) (fun w hw => xcc2_as hone hl (hw.rdm hr.toS memQ)) ?_
 | refine D_call (f := 32) rfl obQ (by kernel_rfl) (fun w hw => xtree_as rfl hl (hw.rdm hr.toS memQ)) ?_
 | refine D_call (f := 32) rfl obQ (by kernel_rfl) (fun w hw => xtree_as rfl hl2 (hw.rdm hr2.toS memQ)) ?_
 | refine D_call (f := 33) rfl obQ (by kernel_rfl) (fun w hw => xCheckNumber_c m w) ?_
 | refine D_call (f := 20) rfl obQ (by kernel_rfl) (fun w hw => lwfirstE_c (l := [trE t, trE s, wi m 0 7]) htwo (by simp) rfl _ w ((by first | exact .inr ⟨_, rfl, hw.src (i := 4) rfl rfl⟩ | exact .inr ⟨_, rfl, hw.src (i := 3) rfl rfl⟩ | exact .inr ⟨_, rfl, hw.src (i := 2) rfl rfl⟩ | exact .inr ⟨_, rfl, hw.src (i := 1) rfl rfl⟩ | exact .inr ⟨_, rfl, hw.src (i := 0) rfl rfl⟩))) ?_
       )
 | refine V_nil ?_
 | refine V_q rfl (Yl_step rfl obQ) ?_
 | refine V_n rfl ?_
 | (refine G_id ?_; first
 | refine G_V ⟨⟨_, rfl, trivial⟩, ⟨_, rfl⟩, rfl, pstQ⟩ rfl ?_
 | refine G_then ?_
 | refine G_block ?_
 | refine G_blockX ?_
 | refine G_blockN rfl ?_
 | refine G_blockR ?_
 | refine G_thenR ?_
 | refine G_thenX ?_
 | refine G_ret rfl obQ (fun w hw => ⟨?_, hw.below⟩)
       )
       )
      have hq := (cuR_eq t node m).symm.trans hV1
      rw [hone] at hq
      by_cases hC : one = 0
      · subst hC
        rw [if_pos rfl] at hq
        simp only [Prod.mk.injEq] at hq
        obtain ⟨hx, hy, he⟩ := hq
        subst he
        by_cases hD : two = 0
        · subst hD
          repeat' (first
 | (refine C_id ?_; first
 | refine C_seq ?_
 | refine C_region rfl ?_
 | refine C_block ?_
 | refine C_skip ?_
 | refine C_exit ?_
 | refine C_ret0 ?_
 | refine C_draw (id := 3) rfl mixed (by kernel_rfl) ?_
 | refine C_draw (id := 4) rfl mixed (by kernel_rfl) ?_
 | refine C_drawT (id := 5) 13 rfl mixed (by kernel_rfl) rfl rfl ?_
 | refine C_condT rfl obQ ?_
 | refine C_condF rfl obQ ?_
 | (refine C_cond rfl obQ (fun h => ?_) (fun h => ?_) <;> (try simp only [cdS] at h) <;> (try (exfalso; omega)) <;> (try exact cdF h) <;> (try contradiction))
           )
 | (refine S_id ?_; first
 | ((with_reducible (first | refine S_falseN ?_ ?_ | refine S_falseB ?_ ?_ | refine S_falseL ?_ ?_ | refine S_falseD ?_ ?_ | refine S_falseE ?_ ?_)); · (first | rfl | omega))
 | ((with_reducible refine S_falseO ?_ ?_ ?_); (· rfl); (· first | rfl | (first | rfl | omega)))
 | ((with_reducible (first | refine S_trueE ?_ ?_ | refine S_trueB ?_ ?_ | refine S_trueL ?_ ?_ | refine S_trueD ?_ ?_ | refine S_trueN ?_ ?_)); · (first | exact beq_self_eq_true _ | rfl | omega))
 | ((with_reducible refine S_trueA ?_ ?_ ?_); (· rfl); (· first | rfl | (first | exact beq_self_eq_true _ | rfl | omega)))
 | refine S_unG rfl rfl rfl rfl ?_
 | refine S_offG (.v (.bool false)) rfl rfl rfl rfl rfl ?_
 | (refine S_callM (f := 37) rfl obQ (by kernel_rfl) (fun w hw => lwown_c AP cP y1 hb1 w (hw.rdm hSP memQ)) (fun w1U w2U vU hw1U hbU hRU => ?_); obtain ⟨AU, cU, rfl, hcU, hSU⟩ := hRU)
 | (refine S_callM (f := 37) rfl obQ (by kernel_rfl) (fun w hw => lwown_c BP dP y2 hb2 w (hw.rdm hTP memQ)) (fun w1V w2V vV hw1V hbV hRV => ?_); obtain ⟨AV, cV, rfl, hcV, hSV⟩ := hRV)
 | (refine S_callM (f := 37) rfl obQ (by kernel_rfl) (fun w hw => lwown_c AJ cJ y3 hb3 w (hw.rdm hSJ memQ)) (fun w1Y w2Y vY hw1Y hbY hRY => ?_); obtain ⟨AY, cY, rfl, hcY, hSY⟩ := hRY)
 | (refine S_callM (f := 34) rfl obQ (by kernel_rfl) (fun w hw => xcut_as hone hx hy hc (hw.rdm hr.toS memQ)) (fun w1X w2X vX hw1X hbX hRX => ?_); obtain ⟨AX, cX, BX, dX, rfl, hSX, hTX⟩ := hRX)
 | (refine S_callM (f := 35) rfl obQ (by kernel_rfl) (fun w hw => xjoined_as hV2 htwo (hw.rdm hr.toS memQ) (hw.rdm hr2.toS memQ)) (fun w1Z w2Z vZ hw1Z hbZ hRZ => ?_); obtain ⟨AZ, cZ, rfl, hSZ⟩ := hRZ)
 | refine S_nil ?_
 | refine S_runN rfl rfl obQ obQ ?_
 | refine S_box (fun bb => ⟨_, _, rfl, obQ, ?_⟩)
 | refine S_slice (fun b => ⟨_, _, rfl, obQ, ?_⟩)
 | refine S_call (f := 17) rfl obQ (by kernel_rfl) (fun w hw => mawake_c w (Sh_at hsh hw memQ) (Pw_at hP hw memQ)) ?_
 | refine S_call (f := 36) rfl obQ (by kernel_rfl) (fun w hw => same_as (t := y1) rfl rfl hb1 (hw.rdm hSU memQ) (hw.rdm hSX memQ)) ?_
 | refine S_call (f := 36) rfl obQ (by kernel_rfl) (fun w hw => same_as (t := y2) rfl rfl hb2 (hw.rdm hSV memQ) (hw.rdm hTX memQ)) ?_
 | refine S_call (f := 36) rfl obQ (by kernel_rfl) (fun w hw => same_as (t := y3) rfl rfl hb3 (hw.rdm hSY memQ) (hw.rdm hSZ memQ)) ?_
           )
 | (refine D_id ?_; first
 | refine D_nil ?_
 | refine D_tail ?_
 | refine D_run rfl rfl obQ obQ ?_
 | refine D_call (f := 17) rfl obQ (by kernel_rfl) (fun w hw => mawake_c w (Sh_at hsh hw memQ) (Pw_at hP hw memQ)) ?_
 | refine D_call (f := 36) rfl obQ (by kernel_rfl) (fun w hw => same_as (t := y1) rfl rfl hb1 (hw.rdm hSU memQ) (hw.rdm hSX memQ)) ?_
 | refine D_call (f := 36) rfl obQ (by kernel_rfl) (fun w hw => same_as (t := y2) rfl rfl hb2 (hw.rdm hSV memQ) (hw.rdm hTX memQ)) ?_
 | refine D_call (f := 36) rfl obQ (by kernel_rfl) (fun w hw => same_as (t := y3) rfl rfl hb3 (hw.rdm hSY memQ) (hw.rdm hSZ memQ)) ?_
           )
 | (refine G_id ?_; first
 | refine G_then ?_
 | refine G_block ?_
 | refine G_blockX ?_
 | refine G_blockN rfl ?_
 | refine G_blockR ?_
 | refine G_thenR ?_
 | refine G_thenX ?_
 | refine G_ret rfl obQ (fun w hw => ⟨?_, hw.below⟩)
           )
           )
          all_goals rfl
        · obtain ⟨rfl, rfl⟩ := Prod.mk.inj ((show joR t s m = ([], two) from (if_neg (by rw [htwo]; exact hD)).trans (by rw [htwo])).symm.trans hV2)
          repeat' (first
 | (refine C_id ?_; first
 | refine C_seq ?_
 | refine C_region rfl ?_
 | refine C_block ?_
 | refine C_skip ?_
 | refine C_exit ?_
 | refine C_ret0 ?_
 | refine C_draw (id := 3) rfl mixed (by kernel_rfl) ?_
 | refine C_draw (id := 4) rfl mixed (by kernel_rfl) ?_
 | refine C_drawT (id := 5) 13 rfl mixed (by kernel_rfl) rfl rfl ?_
 | refine C_condT rfl obQ ?_
 | refine C_condF rfl obQ ?_
 | (refine C_cond rfl obQ (fun h => ?_) (fun h => ?_) <;> (try simp only [cdS] at h) <;> (try (exfalso; omega)) <;> (try exact cdF h) <;> (try contradiction))
           )
 | (refine S_id ?_; first
 | ((with_reducible (first | refine S_falseN ?_ ?_ | refine S_falseB ?_ ?_ | refine S_falseL ?_ ?_ | refine S_falseD ?_ ?_ | refine S_falseE ?_ ?_)); · (first | rfl | omega))
 | ((with_reducible refine S_falseO ?_ ?_ ?_); (· rfl); (· first | rfl | (first | rfl | omega)))
 | ((with_reducible (first | refine S_trueE ?_ ?_ | refine S_trueB ?_ ?_ | refine S_trueL ?_ ?_ | refine S_trueD ?_ ?_ | refine S_trueN ?_ ?_)); · (first | exact beq_self_eq_true _ | rfl | omega))
 | ((with_reducible refine S_trueA ?_ ?_ ?_); (· rfl); (· first | rfl | (first | exact beq_self_eq_true _ | rfl | omega)))
 | refine S_unG rfl rfl rfl rfl ?_
 | refine S_offG (.v (.bool false)) rfl rfl rfl rfl rfl ?_
 | (refine S_callM (f := 37) rfl obQ (by kernel_rfl) (fun w hw => lwown_c AP cP y1 hb1 w (hw.rdm hSP memQ)) (fun w1U w2U vU hw1U hbU hRU => ?_); obtain ⟨AU, cU, rfl, hcU, hSU⟩ := hRU)
 | (refine S_callM (f := 37) rfl obQ (by kernel_rfl) (fun w hw => lwown_c BP dP y2 hb2 w (hw.rdm hTP memQ)) (fun w1V w2V vV hw1V hbV hRV => ?_); obtain ⟨AV, cV, rfl, hcV, hSV⟩ := hRV)
 | (refine S_callM (f := 37) rfl obQ (by kernel_rfl) (fun w hw => lwown_c AJ cJ [] (by simp) w (hw.rdm hSJ memQ)) (fun w1Y w2Y vY hw1Y hbY hRY => ?_); obtain ⟨AY, cY, rfl, hcY, hSY⟩ := hRY)
 | (refine S_callM (f := 34) rfl obQ (by kernel_rfl) (fun w hw => xcut_as hone hx hy hc (hw.rdm hr.toS memQ)) (fun w1X w2X vX hw1X hbX hRX => ?_); obtain ⟨AX, cX, BX, dX, rfl, hSX, hTX⟩ := hRX)
 | refine S_nil ?_
 | refine S_runN rfl rfl obQ obQ ?_
 | refine S_box (fun bb => ⟨_, _, rfl, obQ, ?_⟩)
 | refine S_slice (fun b => ⟨_, _, rfl, obQ, ?_⟩)
 | refine S_call (f := 17) rfl obQ (by kernel_rfl) (fun w hw => mawake_c w (Sh_at hsh hw memQ) (Pw_at hP hw memQ)) ?_
 | refine S_call (f := 36) rfl obQ (by kernel_rfl) (fun w hw => same_as (t := y1) rfl rfl hb1 (hw.rdm hSU memQ) (hw.rdm hSX memQ)) ?_
 | refine S_call (f := 36) rfl obQ (by kernel_rfl) (fun w hw => same_as (t := y2) rfl rfl hb2 (hw.rdm hSV memQ) (hw.rdm hTX memQ)) ?_
 | refine S_call (f := 36) rfl obQ (by kernel_rfl) (fun w hw => same_as (t := []) rfl rfl (by simp) (hw.rdm hSY memQ) (.inl rfl)) ?_
           )
 | (refine D_id ?_; first
 | refine D_nil ?_
 | refine D_tail ?_
 | refine D_run rfl rfl obQ obQ ?_
 | refine D_call (f := 17) rfl obQ (by kernel_rfl) (fun w hw => mawake_c w (Sh_at hsh hw memQ) (Pw_at hP hw memQ)) ?_
 | refine D_call (f := 36) rfl obQ (by kernel_rfl) (fun w hw => same_as (t := y1) rfl rfl hb1 (hw.rdm hSU memQ) (hw.rdm hSX memQ)) ?_
 | refine D_call (f := 36) rfl obQ (by kernel_rfl) (fun w hw => same_as (t := y2) rfl rfl hb2 (hw.rdm hSV memQ) (hw.rdm hTX memQ)) ?_
 | refine D_call (f := 36) rfl obQ (by kernel_rfl) (fun w hw => same_as (t := []) rfl rfl (by simp) (hw.rdm hSY memQ) (.inl rfl)) ?_
           )
 | (refine G_id ?_; first
 | refine G_then ?_
 | refine G_block ?_
 | refine G_blockX ?_
 | refine G_blockN rfl ?_
 | refine G_blockR ?_
 | refine G_thenR ?_
 | refine G_thenX ?_
 | refine G_ret rfl obQ (fun w hw => ⟨?_, hw.below⟩)
           )
           )
          all_goals rfl
      · rw [if_neg hC] at hq
        simp only [Prod.mk.injEq] at hq
        obtain ⟨rfl, rfl, rfl⟩ := hq
        by_cases hD : two = 0
        · subst hD
          repeat' (first
 | (refine C_id ?_; first
 | refine C_seq ?_
 | refine C_region rfl ?_
 | refine C_block ?_
 | refine C_skip ?_
 | refine C_exit ?_
 | refine C_ret0 ?_
 | refine C_draw (id := 3) rfl mixed (by kernel_rfl) ?_
 | refine C_draw (id := 4) rfl mixed (by kernel_rfl) ?_
 | refine C_drawT (id := 5) 13 rfl mixed (by kernel_rfl) rfl rfl ?_
 | refine C_condT rfl obQ ?_
 | refine C_condF rfl obQ ?_
 | (refine C_cond rfl obQ (fun h => ?_) (fun h => ?_) <;> (try simp only [cdS] at h) <;> (try (exfalso; omega)) <;> (try exact cdF h) <;> (try contradiction))
           )
 | (refine S_id ?_; first
 | ((with_reducible (first | refine S_falseN ?_ ?_ | refine S_falseB ?_ ?_ | refine S_falseL ?_ ?_ | refine S_falseD ?_ ?_ | refine S_falseE ?_ ?_)); · (first | rfl | omega))
 | ((with_reducible refine S_falseO ?_ ?_ ?_); (· rfl); (· first | rfl | (first | rfl | omega)))
 | ((with_reducible (first | refine S_trueE ?_ ?_ | refine S_trueB ?_ ?_ | refine S_trueL ?_ ?_ | refine S_trueD ?_ ?_ | refine S_trueN ?_ ?_)); · (first | exact beq_self_eq_true _ | rfl | omega))
 | ((with_reducible refine S_trueA ?_ ?_ ?_); (· rfl); (· first | rfl | (first | exact beq_self_eq_true _ | rfl | omega)))
 | refine S_unG rfl rfl rfl rfl ?_
 | refine S_offG (.v (.bool false)) rfl rfl rfl rfl rfl ?_
 | (refine S_callM (f := 37) rfl obQ (by kernel_rfl) (fun w hw => lwown_c AP cP [] (by simp) w (hw.rdm hSP memQ)) (fun w1U w2U vU hw1U hbU hRU => ?_); obtain ⟨AU, cU, rfl, hcU, hSU⟩ := hRU)
 | (refine S_callM (f := 37) rfl obQ (by kernel_rfl) (fun w hw => lwown_c BP dP [] (by simp) w (hw.rdm hTP memQ)) (fun w1V w2V vV hw1V hbV hRV => ?_); obtain ⟨AV, cV, rfl, hcV, hSV⟩ := hRV)
 | (refine S_callM (f := 37) rfl obQ (by kernel_rfl) (fun w hw => lwown_c AJ cJ y3 hb3 w (hw.rdm hSJ memQ)) (fun w1Y w2Y vY hw1Y hbY hRY => ?_); obtain ⟨AY, cY, rfl, hcY, hSY⟩ := hRY)
 | (refine S_callM (f := 35) rfl obQ (by kernel_rfl) (fun w hw => xjoined_as hV2 htwo (hw.rdm hr.toS memQ) (hw.rdm hr2.toS memQ)) (fun w1Z w2Z vZ hw1Z hbZ hRZ => ?_); obtain ⟨AZ, cZ, rfl, hSZ⟩ := hRZ)
 | refine S_nil ?_
 | refine S_runN rfl rfl obQ obQ ?_
 | refine S_box (fun bb => ⟨_, _, rfl, obQ, ?_⟩)
 | refine S_slice (fun b => ⟨_, _, rfl, obQ, ?_⟩)
 | refine S_call (f := 17) rfl obQ (by kernel_rfl) (fun w hw => mawake_c w (Sh_at hsh hw memQ) (Pw_at hP hw memQ)) ?_
 | refine S_call (f := 36) rfl obQ (by kernel_rfl) (fun w hw => same_as (t := []) rfl rfl (by simp) (hw.rdm hSU memQ) (.inl rfl)) ?_
 | refine S_call (f := 36) rfl obQ (by kernel_rfl) (fun w hw => same_as (t := []) rfl rfl (by simp) (hw.rdm hSV memQ) (.inl rfl)) ?_
 | refine S_call (f := 36) rfl obQ (by kernel_rfl) (fun w hw => same_as (t := y3) rfl rfl hb3 (hw.rdm hSY memQ) (hw.rdm hSZ memQ)) ?_
           )
 | (refine D_id ?_; first
 | refine D_nil ?_
 | refine D_tail ?_
 | refine D_run rfl rfl obQ obQ ?_
 | refine D_call (f := 17) rfl obQ (by kernel_rfl) (fun w hw => mawake_c w (Sh_at hsh hw memQ) (Pw_at hP hw memQ)) ?_
 | refine D_call (f := 36) rfl obQ (by kernel_rfl) (fun w hw => same_as (t := []) rfl rfl (by simp) (hw.rdm hSU memQ) (.inl rfl)) ?_
 | refine D_call (f := 36) rfl obQ (by kernel_rfl) (fun w hw => same_as (t := []) rfl rfl (by simp) (hw.rdm hSV memQ) (.inl rfl)) ?_
 | refine D_call (f := 36) rfl obQ (by kernel_rfl) (fun w hw => same_as (t := y3) rfl rfl hb3 (hw.rdm hSY memQ) (hw.rdm hSZ memQ)) ?_
           )
 | (refine G_id ?_; first
 | refine G_then ?_
 | refine G_block ?_
 | refine G_blockX ?_
 | refine G_blockN rfl ?_
 | refine G_blockR ?_
 | refine G_thenR ?_
 | refine G_thenX ?_
 | refine G_ret rfl obQ (fun w hw => ⟨?_, hw.below⟩)
           )
           )
          all_goals rfl
        · obtain ⟨rfl, rfl⟩ := Prod.mk.inj ((show joR t s m = ([], two) from (if_neg (by rw [htwo]; exact hD)).trans (by rw [htwo])).symm.trans hV2)
          repeat' (first
 | (refine C_id ?_; first
 | refine C_seq ?_
 | refine C_region rfl ?_
 | refine C_block ?_
 | refine C_skip ?_
 | refine C_exit ?_
 | refine C_ret0 ?_
 | refine C_draw (id := 3) rfl mixed (by kernel_rfl) ?_
 | refine C_draw (id := 4) rfl mixed (by kernel_rfl) ?_
 | refine C_drawT (id := 5) 13 rfl mixed (by kernel_rfl) rfl rfl ?_
 | refine C_condT rfl obQ ?_
 | refine C_condF rfl obQ ?_
 | (refine C_cond rfl obQ (fun h => ?_) (fun h => ?_) <;> (try simp only [cdS] at h) <;> (try (exfalso; omega)) <;> (try exact cdF h) <;> (try contradiction))
           )
 | (refine S_id ?_; first
 | ((with_reducible (first | refine S_falseN ?_ ?_ | refine S_falseB ?_ ?_ | refine S_falseL ?_ ?_ | refine S_falseD ?_ ?_ | refine S_falseE ?_ ?_)); · (first | rfl | omega))
 | ((with_reducible refine S_falseO ?_ ?_ ?_); (· rfl); (· first | rfl | (first | rfl | omega)))
 | ((with_reducible (first | refine S_trueE ?_ ?_ | refine S_trueB ?_ ?_ | refine S_trueL ?_ ?_ | refine S_trueD ?_ ?_ | refine S_trueN ?_ ?_)); · (first | exact beq_self_eq_true _ | rfl | omega))
 | ((with_reducible refine S_trueA ?_ ?_ ?_); (· rfl); (· first | rfl | (first | exact beq_self_eq_true _ | rfl | omega)))
 | refine S_unG rfl rfl rfl rfl ?_
 | refine S_offG (.v (.bool false)) rfl rfl rfl rfl rfl ?_
 | (refine S_callM (f := 37) rfl obQ (by kernel_rfl) (fun w hw => lwown_c AP cP [] (by simp) w (hw.rdm hSP memQ)) (fun w1U w2U vU hw1U hbU hRU => ?_); obtain ⟨AU, cU, rfl, hcU, hSU⟩ := hRU)
 | (refine S_callM (f := 37) rfl obQ (by kernel_rfl) (fun w hw => lwown_c BP dP [] (by simp) w (hw.rdm hTP memQ)) (fun w1V w2V vV hw1V hbV hRV => ?_); obtain ⟨AV, cV, rfl, hcV, hSV⟩ := hRV)
 | (refine S_callM (f := 37) rfl obQ (by kernel_rfl) (fun w hw => lwown_c AJ cJ [] (by simp) w (hw.rdm hSJ memQ)) (fun w1Y w2Y vY hw1Y hbY hRY => ?_); obtain ⟨AY, cY, rfl, hcY, hSY⟩ := hRY)
 | refine S_nil ?_
 | refine S_runN rfl rfl obQ obQ ?_
 | refine S_box (fun bb => ⟨_, _, rfl, obQ, ?_⟩)
 | refine S_slice (fun b => ⟨_, _, rfl, obQ, ?_⟩)
 | refine S_call (f := 17) rfl obQ (by kernel_rfl) (fun w hw => mawake_c w (Sh_at hsh hw memQ) (Pw_at hP hw memQ)) ?_
 | refine S_call (f := 36) rfl obQ (by kernel_rfl) (fun w hw => same_as (t := []) rfl rfl (by simp) (hw.rdm hSU memQ) (.inl rfl)) ?_
 | refine S_call (f := 36) rfl obQ (by kernel_rfl) (fun w hw => same_as (t := []) rfl rfl (by simp) (hw.rdm hSV memQ) (.inl rfl)) ?_
 | refine S_call (f := 36) rfl obQ (by kernel_rfl) (fun w hw => same_as (t := []) rfl rfl (by simp) (hw.rdm hSY memQ) (.inl rfl)) ?_
           )
 | (refine D_id ?_; first
 | refine D_nil ?_
 | refine D_tail ?_
 | refine D_run rfl rfl obQ obQ ?_
 | refine D_call (f := 17) rfl obQ (by kernel_rfl) (fun w hw => mawake_c w (Sh_at hsh hw memQ) (Pw_at hP hw memQ)) ?_
 | refine D_call (f := 36) rfl obQ (by kernel_rfl) (fun w hw => same_as (t := []) rfl rfl (by simp) (hw.rdm hSU memQ) (.inl rfl)) ?_
 | refine D_call (f := 36) rfl obQ (by kernel_rfl) (fun w hw => same_as (t := []) rfl rfl (by simp) (hw.rdm hSV memQ) (.inl rfl)) ?_
 | refine D_call (f := 36) rfl obQ (by kernel_rfl) (fun w hw => same_as (t := []) rfl rfl (by simp) (hw.rdm hSY memQ) (.inl rfl)) ?_
           )
 | (refine G_id ?_; first
 | refine G_then ?_
 | refine G_block ?_
 | refine G_blockX ?_
 | refine G_blockN rfl ?_
 | refine G_blockR ?_
 | refine G_thenR ?_
 | refine G_thenX ?_
 | refine G_ret rfl obQ (fun w hw => ⟨?_, hw.below⟩)
           )
           )
          all_goals rfl
end Go.Proofs.YtjkgklhjbopoaaaGreatDoor
