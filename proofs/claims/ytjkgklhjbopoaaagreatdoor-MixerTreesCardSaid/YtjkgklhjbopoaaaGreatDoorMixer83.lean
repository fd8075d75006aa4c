/- The law of the trees: the walk. -/
import Derived.Test.YtjkgklhjbopoaaaGreatDoorMixer82
namespace Go.Proofs.YtjkgklhjbopoaaaGreatDoor
open Go.E Go.RowKit Go.Fl
attribute [local irreducible] G C S D Calls
set_option maxRecDepth 100000
set_option linter.unusedSimpArgs false
set_option linter.unusedVariables false
set_option maxHeartbeats 8000000
theorem lTrees_c (A : Option Addr) (c : Nat) (t : List Nod) (B : Option Addr) (c2 : Nat) (l : List (Int × Int)) (hm : t.length ≤ maxLen) (hB : B = none → l.length = 0 ∧ c2 = 0) (hm2 : l.length ≤ maxLen) (w : World) (hr : Rd w A (t.flatMap ndC)) (hr2 : Rd w B (l.flatMap ivC)) (hsh : Sh w) (hP : Pw w) : Calls Tryz.prog 6 #[.slice A t.length c, .slice B l.length c2] w fun r w' => r = .returned (.bool true) ∧ Below w.heap.size w w' := by
  refine calls_of T_ok Tryz.func6 rfl Tryz.ntmps6 (Nat.le_of_ble_eq_true rfl) rfl ?_
  unfold maxLen at hm2
  cases hS : shT t
  · repeat' (first
 | (refine C_id ?_; first
 | refine C_seq ?_
 | refine C_region rfl ?_
 | refine C_block ?_
 | refine C_skip ?_
 | refine C_exit ?_
 | refine C_ret0 ?_
 | refine C_draw (id := 21) rfl mixed (by kernel_rfl) ?_
 | refine C_condT rfl obQ ?_
 | refine C_condF rfl obQ ?_
 | (refine C_cond rfl obQ (fun h => ?_) (fun h => ?_) <;> (try simp only [cdS] at h) <;> (try (exfalso; omega)) <;> (try exact cdF h) <;> (try contradiction) <;> (try (exfalso; omega)))
     )
 | (refine S_id ?_; first
 | ((with_reducible (first | refine S_falseN ?_ ?_ | refine S_falseB ?_ ?_ | refine S_falseL ?_ ?_ | refine S_falseD ?_ ?_ | refine S_falseE ?_ ?_)); · (first | rfl | omega | exact decide_eq_false (by omega)))
 | ((with_reducible refine S_falseO ?_ ?_ ?_); (· rfl); (· first | rfl | (first | rfl | omega | exact decide_eq_false (by omega))))
 | ((with_reducible (first | refine S_trueE ?_ ?_ | refine S_trueB ?_ ?_ | refine S_trueL ?_ ?_ | refine S_trueD ?_ ?_ | refine S_trueN ?_ ?_)); · (first | exact beq_self_eq_true _ | rfl | omega | exact decide_eq_true (by omega)))
 | ((with_reducible refine S_trueA ?_ ?_ ?_); (· rfl); (· first | rfl | (first | exact beq_self_eq_true _ | rfl | omega | exact decide_eq_true (by omega))))
 | refine S_unG rfl rfl rfl rfl ?_
 | refine S_offG (.v (.bool false)) rfl rfl rfl rfl rfl ?_
 | refine S_nil ?_
 | refine S_runN rfl rfl obQ obQ ?_
 | refine S_slice (fun b => ⟨_, _, rfl, obQ, ?_⟩)
 | refine S_call (f := 17) rfl obQ (by kernel_rfl) (fun w hw => mawake_c w (Sh_at hsh hw memQ) (Pw_at hP hw memQ)) ?_
 | refine S_call (f := 27) rfl obQ (by kernel_rfl) (fun w hw => xshort_as hS hm (hw.rdm hr.toS memQ)) ?_
     )
 | (refine D_id ?_; first
 | refine D_nil ?_
 | refine D_tail ?_
 | refine D_run rfl rfl obQ obQ ?_
 | refine D_call (f := 17) rfl obQ (by kernel_rfl) (fun w hw => mawake_c w (Sh_at hsh hw memQ) (Pw_at hP hw memQ)) ?_
 | refine D_call (f := 27) rfl obQ (by kernel_rfl) (fun w hw => xshort_as hS hm (hw.rdm hr.toS memQ)) ?_
     )
 | (refine G_id ?_; first
 | refine G_then ?_
 | refine G_block ?_
 | refine G_blockX ?_
 | refine G_blockN rfl ?_
 | refine G_blockR ?_
 | refine G_thenR ?_
 | refine G_thenX ?_
 | refine G_ret rfl obQ (fun w hw => ⟨?_, hw.below⟩)
     )
     )
    all_goals rfl
  · by_cases h9 : 9 < l.length
    · repeat' (first
 | (refine C_id ?_; first
 | refine C_seq ?_
 | refine C_region rfl ?_
 | refine C_block ?_
 | refine C_skip ?_
 | refine C_exit ?_
 | refine C_ret0 ?_
 | refine C_draw (id := 21) rfl mixed (by kernel_rfl) ?_
 | refine C_condT rfl obQ ?_
 | refine C_condF rfl obQ ?_
 | (refine C_cond rfl obQ (fun h => ?_) (fun h => ?_) <;> (try simp only [cdS] at h) <;> (try (exfalso; omega)) <;> (try exact cdF h) <;> (try contradiction) <;> (try (exfalso; omega)))
       )
 | (refine S_id ?_; first
 | ((with_reducible (first | refine S_falseN ?_ ?_ | refine S_falseB ?_ ?_ | refine S_falseL ?_ ?_ | refine S_falseD ?_ ?_ | refine S_falseE ?_ ?_)); · (first | rfl | omega | exact decide_eq_false (by omega)))
 | ((with_reducible refine S_falseO ?_ ?_ ?_); (· rfl); (· first | rfl | (first | rfl | omega | exact decide_eq_false (by omega))))
 | ((with_reducible (first | refine S_trueE ?_ ?_ | refine S_trueB ?_ ?_ | refine S_trueL ?_ ?_ | refine S_trueD ?_ ?_ | refine S_trueN ?_ ?_)); · (first | exact beq_self_eq_true _ | rfl | omega | exact decide_eq_true (by omega)))
 | ((with_reducible refine S_trueA ?_ ?_ ?_); (· rfl); (· first | rfl | (first | exact beq_self_eq_true _ | rfl | omega | exact decide_eq_true (by omega))))
 | refine S_unG rfl rfl rfl rfl ?_
 | refine S_offG (.v (.bool false)) rfl rfl rfl rfl rfl ?_
 | refine S_nil ?_
 | refine S_runN rfl rfl obQ obQ ?_
 | refine S_slice (fun b => ⟨_, _, rfl, obQ, ?_⟩)
 | refine S_call (f := 17) rfl obQ (by kernel_rfl) (fun w hw => mawake_c w (Sh_at hsh hw memQ) (Pw_at hP hw memQ)) ?_
 | refine S_call (f := 27) rfl obQ (by kernel_rfl) (fun w hw => xshort_as hS hm (hw.rdm hr.toS memQ)) ?_
       )
 | (refine D_id ?_; first
 | refine D_nil ?_
 | refine D_tail ?_
 | refine D_run rfl rfl obQ obQ ?_
 | refine D_call (f := 17) rfl obQ (by kernel_rfl) (fun w hw => mawake_c w (Sh_at hsh hw memQ) (Pw_at hP hw memQ)) ?_
 | refine D_call (f := 27) rfl obQ (by kernel_rfl) (fun w hw => xshort_as hS hm (hw.rdm hr.toS memQ)) ?_
       )
 | (refine G_id ?_; first
 | refine G_then ?_
 | refine G_block ?_
 | refine G_blockX ?_
 | refine G_blockN rfl ?_
 | refine G_blockR ?_
 | refine G_thenR ?_
 | refine G_thenX ?_
 | refine G_ret rfl obQ (fun w hw => ⟨?_, hw.below⟩)
       )
       )
      all_goals rfl
    · have hl : t.length ≤ 1000000 := by have := shT_le hS; omega
      have hl2 : l.length ≤ 1000000 := by omega
      obtain ⟨bad, hbad⟩ : ∃ e, trE t = e := ⟨_, rfl⟩
      obtain ⟨k1, e1, hV1⟩ : ∃ x e, soR t = (x, e) := ⟨_, _, rfl⟩
      obtain ⟨y2, e2, hV2⟩ : ∃ x e, pruR t = (x, e) := ⟨_, _, rfl⟩
      obtain ⟨v3, e3, hV3⟩ : ∃ x e, rgR t l = (x, e) := ⟨_, _, rfl⟩
      repeat' (first
 | (refine C_id ?_; first
 | refine C_seq ?_
 | refine C_regionNe 7 rfl rfl ?_
 | refine C_block ?_
 | refine C_skip ?_
 | refine C_exit ?_
 | refine C_ret0 ?_
 | refine C_draw (id := 21) rfl mixed (by kernel_rfl) ?_
 | refine C_condT rfl obQ ?_
 | refine C_condF rfl obQ ?_
 | (refine C_cond rfl obQ (fun h => ?_) (fun h => ?_) <;> (try simp only [cdS] at h) <;> (try (exfalso; omega)) <;> (try exact cdF h) <;> (try contradiction) <;> (try (exfalso; omega)))
       )
 | (refine S_id ?_; first
 | ((with_reducible (first | refine S_falseN ?_ ?_ | refine S_falseB ?_ ?_ | refine S_falseL ?_ ?_ | refine S_falseD ?_ ?_ | refine S_falseE ?_ ?_)); · (first | rfl | omega | exact decide_eq_false (by omega)))
 | ((with_reducible refine S_falseO ?_ ?_ ?_); (· rfl); (· first | rfl | (first | rfl | omega | exact decide_eq_false (by omega))))
 | ((with_reducible (first | refine S_trueE ?_ ?_ | refine S_trueB ?_ ?_ | refine S_trueL ?_ ?_ | refine S_trueD ?_ ?_ | refine S_trueN ?_ ?_)); · (first | exact beq_self_eq_true _ | rfl | omega | exact decide_eq_true (by omega)))
 | ((with_reducible refine S_trueA ?_ ?_ ?_); (· rfl); (· first | rfl | (first | exact beq_self_eq_true _ | rfl | omega | exact decide_eq_true (by omega))))
 | refine S_unG rfl rfl rfl rfl ?_
 | refine S_offG (.v (.bool false)) rfl rfl rfl rfl rfl ?_
 | (refine S_callM (f := 29) rfl obQ (by kernel_rfl) (fun w hw => lwnodes_c A c t hl w (hw.rdm hr.toS memQ)) (fun w1N w2N vN hw1N hbN hRN => ?_); obtain ⟨AN, cN, rfl, hcN, hSN⟩ := hRN)
 | (refine S_callM (f := 43) rfl obQ (by kernel_rfl) (fun w hw => sources_as hV1 hl (hw.rdm hSN memQ) (Sh_at hsh hw memQ)) (fun w1P w2P vP hw1P hbP hRP => ?_); obtain ⟨AP, cP, rfl, hSP⟩ := hRP)
 | (refine S_callM (f := 44) rfl obQ (by kernel_rfl) (fun w hw => pruned_as hV2 hl (hw.rdm hSN memQ) (Sh_at hsh hw memQ)) (fun w1Q w2Q vQ hw1Q hbQ hRQ => ?_); obtain ⟨AQ, cQ, rfl, hSQ⟩ := hRQ)
 | refine S_row00 rfl rfl rfl (fun g => ?_)
 | refine S_appendS rfl obQ rfl rfl rfl ⟨by decide, rfl⟩ rfl ⟨rfl, rfl, rfl, rfl⟩ (l.flatMap ivC) (by rw [iv_len]) hB (one_ivs _) (srcM hr2 memQ) (by unfold maxLen; dsimp only; omega) (fun A' cap' => ⟨_, rfl, ?_⟩)
 | (refine S_callM (f := 45) rfl obQ (by kernel_rfl) (fun w hw => ranges_as hV3 (Nat.zero_add _).symm hl hl2 (hw.rdm hSN memQ) (hw.rdRow (i := 0) rfl rfl) (Sh_at hsh hw memQ)) (fun w1R w2R vR hw1R hbR hRR => ?_); obtain ⟨AR, cR, rfl, hSR⟩ := hRR)
 | refine S_nil ?_
 | refine S_runN rfl rfl obQ obQ ?_
 | refine S_slice (fun b => ⟨_, _, rfl, obQ, ?_⟩)
 | refine S_call (f := 27) rfl obQ (by kernel_rfl) (fun w hw => xshort_as hS hm (hw.rdm hr.toS memQ)) ?_
 | refine S_call (f := 32) rfl obQ (by kernel_rfl) (fun w hw => xtree_as hbad hl (hw.rdm hr.toS memQ)) ?_
       )
 | (refine D_id ?_; first
 | refine D_nil ?_
 | refine D_tail ?_
 | refine D_run rfl rfl obQ obQ ?_
 | refine D_call (f := 27) rfl obQ (by kernel_rfl) (fun w hw => xshort_as hS hm (hw.rdm hr.toS memQ)) ?_
 | refine D_call (f := 32) rfl obQ (by kernel_rfl) (fun w hw => xtree_as hbad hl (hw.rdm hr.toS memQ)) ?_
       )
 | (refine G_id ?_; first
 | refine G_then ?_
 | refine G_block ?_
 | refine G_blockX ?_
 | refine G_blockN rfl ?_
 | refine G_blockR ?_
 | refine G_thenR ?_
 | refine G_thenX ?_
 | refine G_ret rfl obQ (fun w hw => ⟨?_, hw.below⟩)
       )
       )
      by_cases hC : bad = 0
      · subst hC
        have ht := tr_ok.1 hbad
        have hln := ht.n
        obtain ⟨hx1, he1⟩ := Prod.mk.inj ((show soR t = (scI t, 0) from if_pos hbad).symm.trans hV1)
        obtain ⟨hx2, he2⟩ := Prod.mk.inj ((show pruR t = (prF t, 0) from if_pos hbad).symm.trans hV2)
        subst he1 he2
        have hb1 : k1.length ≤ 1000000 := by rw [← hx1]; exact sc_len t
        have hb2 : y2.length ≤ 1000000 := by rw [← hx2, pr_len]; have := toN_le (f := nfF t) t.length; omega
        obtain ⟨three, hth⟩ : ∃ e, rrE t l = e := ⟨_, rfl⟩
        have hq := (rgR_eq hbad).symm.trans hV3
        rw [hth] at hq
        by_cases hD : three = 0
        · subst hD
          rw [if_pos rfl] at hq
          obtain ⟨hx3, he3⟩ := Prod.mk.inj hq
          subst he3
          have hb3 : v3.length ≤ 16 := by rw [← hx3, rgN_len]; exact hln.2
          repeat' (first
 | (refine C_id ?_; first
 | refine C_seq ?_
 | refine C_regionNe 19 rfl rfl ?_
 | refine C_block ?_
 | refine C_skip ?_
 | refine C_exit ?_
 | refine C_ret0 ?_
 | refine C_draw (id := 21) rfl mixed (by kernel_rfl) ?_
 | refine C_condT rfl obQ ?_
 | refine C_condF rfl obQ ?_
 | (refine C_cond rfl obQ (fun h => ?_) (fun h => ?_) <;> (try simp only [cdS] at h) <;> (try (exfalso; omega)) <;> (try exact cdF h) <;> (try contradiction) <;> (try (exfalso; omega)))
           )
 | (refine S_id ?_; first
 | ((with_reducible (first | refine S_falseN ?_ ?_ | refine S_falseB ?_ ?_ | refine S_falseL ?_ ?_ | refine S_falseD ?_ ?_ | refine S_falseE ?_ ?_)); · (first | rfl | omega | exact decide_eq_false (by omega)))
 | ((with_reducible refine S_falseO ?_ ?_ ?_); (· rfl); (· first | rfl | (first | rfl | omega | exact decide_eq_false (by omega))))
 | ((with_reducible (first | refine S_trueE ?_ ?_ | refine S_trueB ?_ ?_ | refine S_trueL ?_ ?_ | refine S_trueD ?_ ?_ | refine S_trueN ?_ ?_)); · (first | exact beq_self_eq_true _ | rfl | omega | exact decide_eq_true (by omega)))
 | ((with_reducible refine S_trueA ?_ ?_ ?_); (· rfl); (· first | rfl | (first | exact beq_self_eq_true _ | rfl | omega | exact decide_eq_true (by omega))))
 | refine S_unG rfl rfl rfl rfl ?_
 | refine S_offG (.v (.bool false)) rfl rfl rfl rfl rfl ?_
 | (refine S_callM (f := 46) rfl obQ (by kernel_rfl) (fun w hw => xsources_as hx1 hl (hw.rdm hr.toS memQ)) (fun w1X w2X vX hw1X hbX hRX => ?_); obtain ⟨AX, cX, rfl, hSX⟩ := hRX)
 | (refine S_callM (f := 47) rfl obQ (by kernel_rfl) (fun w hw => xprun_as hx2 ht (hw.rdm hr.toS memQ)) (fun w1Y w2Y vY hw1Y hbY hRY => ?_); obtain ⟨AY, cY, rfl, hSY⟩ := hRY)
 | (refine S_callM (f := 49) rfl obQ (by kernel_rfl) (fun w hw => xranges_as hx3 ht hth (hw.rdm hr.toS memQ) (hw.rdm hr2.toS memQ)) (fun w1Z w2Z vZ hw1Z hbZ hRZ => ?_); obtain ⟨AZ, cZ, rfl, hSZ⟩ := hRZ)
 | refine S_nil ?_
 | refine S_runN rfl rfl obQ obQ ?_
 | refine S_slice (fun b => ⟨_, _, rfl, obQ, ?_⟩)
 | refine S_call (f := 48) rfl obQ (by kernel_rfl) (fun w hw => xcr_as hth hl hl2 (hw.rdm hr.toS memQ) (hw.rdm hr2.toS memQ)) ?_
           )
 | (refine D_id ?_; first
 | refine D_nil ?_
 | refine D_tail ?_
 | refine D_run rfl rfl obQ obQ ?_
 | refine D_call (f := 48) rfl obQ (by kernel_rfl) (fun w hw => xcr_as hth hl hl2 (hw.rdm hr.toS memQ) (hw.rdm hr2.toS memQ)) ?_
           )
 | (refine G_id ?_; first
 | refine G_then ?_
 | refine G_block ?_
 | refine G_blockX ?_
 | refine G_blockN rfl ?_
 | refine G_blockR ?_
 | refine G_thenR ?_
 | refine G_thenX ?_
 | refine G_ret rfl obQ (fun w hw => ⟨?_, hw.below⟩)
           )
           )
          refine C_loopS (fun k : Nat => ⟨[(71, .s (.v (.int .i64 k))), (70, .s (.v (.int .i64 v3.length))), (0, .s (.v (.slice A t.length c))), (5, .s (.v (.slice AP k1.length cP))), (6, .s (.v (.int .i64 0))), (7, .s (.v (.slice AQ y2.length cQ))), (8, .s (.v (.int .i64 0))), (9, .s (.v (.slice AR v3.length cR))), (10, .s (.v (.int .i64 0))), (11, .s (.v (.int .i64 0))), (12, .s (.v (.int .i64 0))), (13, .s (.v (.slice AX k1.length cX))), (14, .s (.v (.slice AY y2.length cY))), (15, .s (.v (.slice AZ v3.length cZ)))], [], [⟨83, 2, 0 + l.length, l.flatMap ivC, .slice A' (0 + l.length) cap'⟩]⟩) (fun k => k ≤ v3.length) (fun k => v3.length - k) 0 (Nat.zero_le _) ?_ (fun k hk0 => ?_)
          · exact svQ
          have hk : k ≤ v3.length := hk0
          by_cases hlt : k < v3.length
          · obtain ⟨ad1, rfl⟩ := rdS_some' hSR (by rw [iv_len]; omega)
            obtain ⟨ad2, rfl⟩ := rdS_some' hSZ (by rw [iv_len]; omega)
            have hne : ((gR v3 (k : Int)).1 != (gR v3 (k : Int)).1 || (gR v3 (k : Int)).2 != (gR v3 (k : Int)).2) = false := by simp
            repeat' (first
 | (refine C_id ?_; first
 | refine C_seq ?_
 | refine C_region rfl ?_
 | refine C_block ?_
 | refine C_skip ?_
 | refine C_exit ?_
 | refine C_ret0 ?_
 | refine C_drawV (id := 21) 8 [(0, true), (1, true), (2, true), (3, true), (4, true), (5, true), (6, true), (7, true)] rfl mixed (by kernel_rfl) rfl ?_
 | refine C_condT rfl obQ ?_
 | refine C_condF rfl obQ ?_
 | (refine C_cond rfl obQ (fun h => ?_) (fun h => ?_) <;> (try simp only [cdS] at h) <;> (try (exfalso; omega)) <;> (try exact cdF h) <;> (try contradiction) <;> (try (exfalso; first | omega | (rw [hne] at h; cases h; done))))
             )
 | (refine S_id ?_; first
 | ((with_reducible (first | refine S_falseN ?_ ?_ | refine S_falseB ?_ ?_ | refine S_falseL ?_ ?_ | refine S_falseD ?_ ?_ | refine S_falseE ?_ ?_)); · (first | rfl | omega | exact decide_eq_false (by omega)))
 | ((with_reducible refine S_falseO ?_ ?_ ?_); (· rfl); (· first | rfl | (first | rfl | omega | exact decide_eq_false (by omega))))
 | ((with_reducible (first | refine S_trueE ?_ ?_ | refine S_trueB ?_ ?_ | refine S_trueL ?_ ?_ | refine S_trueD ?_ ?_ | refine S_trueN ?_ ?_)); · (first | exact beq_self_eq_true _ | rfl | omega | exact decide_eq_true (by omega)))
 | ((with_reducible refine S_trueA ?_ ?_ ?_); (· rfl); (· first | rfl | (first | exact beq_self_eq_true _ | rfl | omega | exact decide_eq_true (by omega))))
 | refine S_unG rfl rfl rfl rfl ?_
 | refine S_offG (.v (.bool false)) rfl rfl rfl rfl rfl ?_
 | refine S_load rfl obQ rfl [.int .i64 (gR v3 (k : Int)).1, .int .i64 (gR v3 (k : Int)).2] (.past (w2R, fun b => w1R.heap.size ≤ b ∧ b < w2R.heap.size) memQ _ _ hSR _ ad1 rfl rfl (gR_idx (l := v3) (z := (k : Int)) (by omega))) rfl (.inl ⟨rfl, rfl⟩) ?_
 | refine S_load rfl obQ rfl [.int .i64 (gR v3 (k : Int)).1, .int .i64 (gR v3 (k : Int)).2] (.past (w2Z, fun b => w1Z.heap.size ≤ b ∧ b < w2Z.heap.size) memQ _ _ hSZ _ ad2 rfl rfl (gR_idx (l := v3) (z := (k : Int)) (by omega))) rfl (.inl ⟨rfl, rfl⟩) ?_
 | refine S_pure (binX_pure rfl obQ (fun w => ne2 (by kernel_rfl) _ _ _ _ _ _ w)) ?_
 | refine S_nil ?_
 | refine S_runN rfl rfl obQ obQ ?_
 | refine S_slice (fun b => ⟨_, _, rfl, obQ, ?_⟩)
             )
 | refine D_nil ?_
 | refine D_tail ?_
 | refine D_run rfl rfl obQ obQ ?_
 | (refine V_id ?_; first
 | refine V_nil ?_
 | refine V_q rfl (Yl_load rfl obQ rfl [.int .i64 (gR v3 (k : Int)).1, .int .i64 (gR v3 (k : Int)).2] (.past (w2R, fun b => w1R.heap.size ≤ b ∧ b < w2R.heap.size) memQ _ _ hSR _ ad1 rfl rfl (gR_idx (l := v3) (z := (k : Int)) (by omega))) rfl (.inl ⟨rfl, rfl⟩)) ?_
 | refine V_q rfl (Yl_load rfl obQ rfl [.int .i64 (gR v3 (k : Int)).1, .int .i64 (gR v3 (k : Int)).2] (.past (w2Z, fun b => w1Z.heap.size ≤ b ∧ b < w2Z.heap.size) memQ _ _ hSZ _ ad2 rfl rfl (gR_idx (l := v3) (z := (k : Int)) (by omega))) rfl (.inl ⟨rfl, rfl⟩)) ?_
 | refine V_q rfl (Yl_pure (binX_pure rfl obQ (fun w => ne2 (by kernel_rfl) _ _ _ _ _ _ w))) ?_
 | refine V_q rfl (Yl_step rfl obQ) ?_
 | refine V_n rfl ?_
             )
 | (refine G_id ?_; first
 | refine G_V ⟨⟨_, rfl, trivial⟩, ⟨_, rfl⟩, rfl, pstQ⟩ rfl ?_
 | refine G_loop (k + 1) (show k + 1 ≤ v3.length by omega) (by show v3.length - (k + 1) < v3.length - k; omega) svQ
 | refine G_then ?_
 | refine G_block ?_
 | refine G_blockX ?_
 | refine G_blockN rfl ?_
 | refine G_blockR ?_
 | refine G_thenR ?_
 | refine G_thenX ?_
 | refine G_ret rfl obQ (fun w hw => ⟨?_, hw.below⟩)
             )
             )
          · obtain rfl : k = v3.length := by omega
            repeat' (first
 | (refine C_id ?_; first
 | refine C_seq ?_
 | refine C_region rfl ?_
 | refine C_block ?_
 | refine C_skip ?_
 | refine C_exit ?_
 | refine C_ret0 ?_
 | refine C_draw (id := 21) rfl mixed (by kernel_rfl) ?_
 | refine C_condT rfl obQ ?_
 | refine C_condF rfl obQ ?_
 | (refine C_cond rfl obQ (fun h => ?_) (fun h => ?_) <;> (try simp only [cdS] at h) <;> (try (exfalso; omega)) <;> (try exact cdF h) <;> (try contradiction) <;> (try (exfalso; omega)))
             )
 | (refine S_id ?_; first
 | ((with_reducible (first | refine S_falseN ?_ ?_ | refine S_falseB ?_ ?_ | refine S_falseL ?_ ?_ | refine S_falseD ?_ ?_ | refine S_falseE ?_ ?_)); · (first | rfl | omega | exact decide_eq_false (by omega)))
 | ((with_reducible refine S_falseO ?_ ?_ ?_); (· rfl); (· first | rfl | (first | rfl | omega | exact decide_eq_false (by omega))))
 | ((with_reducible (first | refine S_trueE ?_ ?_ | refine S_trueB ?_ ?_ | refine S_trueL ?_ ?_ | refine S_trueD ?_ ?_ | refine S_trueN ?_ ?_)); · (first | exact beq_self_eq_true _ | rfl | omega | exact decide_eq_true (by omega)))
 | ((with_reducible refine S_trueA ?_ ?_ ?_); (· rfl); (· first | rfl | (first | exact beq_self_eq_true _ | rfl | omega | exact decide_eq_true (by omega))))
 | refine S_unG rfl rfl rfl rfl ?_
 | refine S_offG (.v (.bool false)) rfl rfl rfl rfl rfl ?_
 | (refine S_callM (f := 29) rfl obQ (by kernel_rfl) (fun w hw => lwnodes_c A c t hl w (hw.rdm hr.toS memQ)) (fun w1N w2N vN hw1N hbN hRN => ?_); obtain ⟨AN, cN, rfl, hcN, hSN⟩ := hRN)
 | (refine S_callM (f := 37) rfl obQ (by kernel_rfl) (fun w hw => lwown_c AQ cQ y2 hb2 w (hw.rdm hSQ memQ)) (fun w1U w2U vU hw1U hbU hRU => ?_); obtain ⟨AU, cU, rfl, hcU, hSU⟩ := hRU)
 | refine S_nil ?_
 | refine S_runN rfl rfl obQ obQ ?_
 | refine S_slice (fun b => ⟨_, _, rfl, obQ, ?_⟩)
 | refine S_call (f := 17) rfl obQ (by kernel_rfl) (fun w hw => mawake_c w (Sh_at hsh hw memQ) (Pw_at hP hw memQ)) ?_
 | refine S_call (f := 50) rfl obQ (by kernel_rfl) (fun w hw => tree_as hbad hl (hw.rdm hSN memQ) (Sh_at hsh hw memQ)) ?_
 | refine S_call (f := 51) rfl obQ (by kernel_rfl) (fun w hw => sameI_c _ _ _ _ k1 _ rfl (by exact hb1) w (hw.rdm hSP memQ) (hw.rdm hSX memQ)) ?_
 | refine S_call (f := 36) rfl obQ (by kernel_rfl) (fun w hw => same_as (t := y2) rfl rfl hb2 (hw.rdm hSU memQ) (hw.rdm hSY memQ)) ?_
             )
 | (refine D_id ?_; first
 | refine D_nil ?_
 | refine D_tail ?_
 | refine D_run rfl rfl obQ obQ ?_
 | refine D_call (f := 17) rfl obQ (by kernel_rfl) (fun w hw => mawake_c w (Sh_at hsh hw memQ) (Pw_at hP hw memQ)) ?_
 | refine D_call (f := 50) rfl obQ (by kernel_rfl) (fun w hw => tree_as hbad hl (hw.rdm hSN memQ) (Sh_at hsh hw memQ)) ?_
 | refine D_call (f := 51) rfl obQ (by kernel_rfl) (fun w hw => sameI_c _ _ _ _ k1 _ rfl (by exact hb1) w (hw.rdm hSP memQ) (hw.rdm hSX memQ)) ?_
 | refine D_call (f := 36) rfl obQ (by kernel_rfl) (fun w hw => same_as (t := y2) rfl rfl hb2 (hw.rdm hSU memQ) (hw.rdm hSY memQ)) ?_
             )
 | (refine G_id ?_; first
 | refine G_then ?_
 | refine G_block ?_
 | refine G_blockX ?_
 | refine G_blockN rfl ?_
 | refine G_blockR ?_
 | refine G_thenR ?_
 | refine G_thenX ?_
 | refine G_ret rfl obQ (fun w hw => ⟨?_, hw.below⟩)
             )
             )
            all_goals rfl
        · rw [if_neg hD] at hq
          obtain ⟨rfl, rfl⟩ := Prod.mk.inj hq
          repeat' (first
 | (refine C_id ?_; first
 | refine C_seq ?_
 | refine C_regionNe 19 rfl rfl ?_
 | refine C_block ?_
 | refine C_skip ?_
 | refine C_exit ?_
 | refine C_ret0 ?_
 | refine C_draw (id := 21) rfl mixed (by kernel_rfl) ?_
 | refine C_condT rfl obQ ?_
 | refine C_condF rfl obQ ?_
 | (refine C_cond rfl obQ (fun h => ?_) (fun h => ?_) <;> (try simp only [cdS] at h) <;> (try (exfalso; omega)) <;> (try exact cdF h) <;> (try contradiction) <;> (try (exfalso; omega)))
           )
 | (refine S_id ?_; first
 | ((with_reducible (first | refine S_falseN ?_ ?_ | refine S_falseB ?_ ?_ | refine S_falseL ?_ ?_ | refine S_falseD ?_ ?_ | refine S_falseE ?_ ?_)); · (first | rfl | omega | exact decide_eq_false (by omega)))
 | ((with_reducible refine S_falseO ?_ ?_ ?_); (· rfl); (· first | rfl | (first | rfl | omega | exact decide_eq_false (by omega))))
 | ((with_reducible (first | refine S_trueE ?_ ?_ | refine S_trueB ?_ ?_ | refine S_trueL ?_ ?_ | refine S_trueD ?_ ?_ | refine S_trueN ?_ ?_)); · (first | exact beq_self_eq_true _ | rfl | omega | exact decide_eq_true (by omega)))
 | ((with_reducible refine S_trueA ?_ ?_ ?_); (· rfl); (· first | rfl | (first | exact beq_self_eq_true _ | rfl | omega | exact decide_eq_true (by omega))))
 | refine S_unG rfl rfl rfl rfl ?_
 | refine S_offG (.v (.bool false)) rfl rfl rfl rfl rfl ?_
 | (refine S_callM (f := 46) rfl obQ (by kernel_rfl) (fun w hw => xsources_as hx1 hl (hw.rdm hr.toS memQ)) (fun w1X w2X vX hw1X hbX hRX => ?_); obtain ⟨AX, cX, rfl, hSX⟩ := hRX)
 | (refine S_callM (f := 47) rfl obQ (by kernel_rfl) (fun w hw => xprun_as hx2 ht (hw.rdm hr.toS memQ)) (fun w1Y w2Y vY hw1Y hbY hRY => ?_); obtain ⟨AY, cY, rfl, hSY⟩ := hRY)
 | refine S_nil ?_
 | refine S_runN rfl rfl obQ obQ ?_
 | refine S_slice (fun b => ⟨_, _, rfl, obQ, ?_⟩)
 | refine S_call (f := 48) rfl obQ (by kernel_rfl) (fun w hw => xcr_as hth hl hl2 (hw.rdm hr.toS memQ) (hw.rdm hr2.toS memQ)) ?_
           )
 | (refine D_id ?_; first
 | refine D_nil ?_
 | refine D_tail ?_
 | refine D_run rfl rfl obQ obQ ?_
 | refine D_call (f := 48) rfl obQ (by kernel_rfl) (fun w hw => xcr_as hth hl hl2 (hw.rdm hr.toS memQ) (hw.rdm hr2.toS memQ)) ?_
           )
 | (refine G_id ?_; first
 | refine G_then ?_
 | refine G_block ?_
 | refine G_blockX ?_
 | refine G_blockN rfl ?_
 | refine G_blockR ?_
 | refine G_thenR ?_
 | refine G_thenX ?_
 | refine G_ret rfl obQ (fun w hw => ⟨?_, hw.below⟩)
           )
           )
          refine C_loopS (fun k : Nat => ⟨[(71, .s (.v (.int .i64 k))), (70, .s (.v (.int .i64 ([] : List (Int × Int)).length))), (0, .s (.v (.slice A t.length c))), (5, .s (.v (.slice AP k1.length cP))), (6, .s (.v (.int .i64 0))), (7, .s (.v (.slice AQ y2.length cQ))), (8, .s (.v (.int .i64 0))), (9, .s (.v (.slice AR ([] : List (Int × Int)).length cR))), (10, .s (.v (.int .i64 three))), (11, .s (.v (.int .i64 0))), (12, .s (.v (.int .i64 three))), (13, .s (.v (.slice AX k1.length cX))), (14, .s (.v (.slice AY y2.length cY))), (15, .s (.v (.slice none 0 0)))], [], [⟨83, 2, 0 + l.length, l.flatMap ivC, .slice A' (0 + l.length) cap'⟩]⟩) (fun k => k = 0) (fun _ => 0) 0 rfl ?_ (fun k hk0 => ?_)
          · exact svQ
          obtain rfl : k = 0 := hk0
          repeat' (first
 | (refine C_id ?_; first
 | refine C_seq ?_
 | refine C_region rfl ?_
 | refine C_block ?_
 | refine C_skip ?_
 | refine C_exit ?_
 | refine C_ret0 ?_
 | refine C_draw (id := 21) rfl mixed (by kernel_rfl) ?_
 | refine C_condT rfl obQ ?_
 | refine C_condF rfl obQ ?_
 | (refine C_cond rfl obQ (fun h => ?_) (fun h => ?_) <;> (try simp only [cdS] at h) <;> (try (exfalso; omega)) <;> (try exact cdF h) <;> (try contradiction) <;> (try (exfalso; omega)))
           )
 | (refine S_id ?_; first
 | ((with_reducible (first | refine S_falseN ?_ ?_ | refine S_falseB ?_ ?_ | refine S_falseL ?_ ?_ | refine S_falseD ?_ ?_ | refine S_falseE ?_ ?_)); · (first | rfl | omega | exact decide_eq_false (by omega)))
 | ((with_reducible refine S_falseO ?_ ?_ ?_); (· rfl); (· first | rfl | (first | rfl | omega | exact decide_eq_false (by omega))))
 | ((with_reducible (first | refine S_trueE ?_ ?_ | refine S_trueB ?_ ?_ | refine S_trueL ?_ ?_ | refine S_trueD ?_ ?_ | refine S_trueN ?_ ?_)); · (first | exact beq_self_eq_true _ | rfl | omega | exact decide_eq_true (by omega)))
 | ((with_reducible refine S_trueA ?_ ?_ ?_); (· rfl); (· first | rfl | (first | exact beq_self_eq_true _ | rfl | omega | exact decide_eq_true (by omega))))
 | refine S_unG rfl rfl rfl rfl ?_
 | refine S_offG (.v (.bool false)) rfl rfl rfl rfl rfl ?_
 | (refine S_callM (f := 29) rfl obQ (by kernel_rfl) (fun w hw => lwnodes_c A c t hl w (hw.rdm hr.toS memQ)) (fun w1N w2N vN hw1N hbN hRN => ?_); obtain ⟨AN, cN, rfl, hcN, hSN⟩ := hRN)
 | (refine S_callM (f := 37) rfl obQ (by kernel_rfl) (fun w hw => lwown_c AQ cQ y2 hb2 w (hw.rdm hSQ memQ)) (fun w1U w2U vU hw1U hbU hRU => ?_); obtain ⟨AU, cU, rfl, hcU, hSU⟩ := hRU)
 | refine S_nil ?_
 | refine S_runN rfl rfl obQ obQ ?_
 | refine S_slice (fun b => ⟨_, _, rfl, obQ, ?_⟩)
 | refine S_call (f := 17) rfl obQ (by kernel_rfl) (fun w hw => mawake_c w (Sh_at hsh hw memQ) (Pw_at hP hw memQ)) ?_
 | refine S_call (f := 50) rfl obQ (by kernel_rfl) (fun w hw => tree_as hbad hl (hw.rdm hSN memQ) (Sh_at hsh hw memQ)) ?_
 | refine S_call (f := 51) rfl obQ (by kernel_rfl) (fun w hw => sameI_c _ _ _ _ k1 _ rfl (by exact hb1) w (hw.rdm hSP memQ) (hw.rdm hSX memQ)) ?_
 | refine S_call (f := 36) rfl obQ (by kernel_rfl) (fun w hw => same_as (t := y2) rfl rfl hb2 (hw.rdm hSU memQ) (hw.rdm hSY memQ)) ?_
           )
 | (refine D_id ?_; first
 | refine D_nil ?_
 | refine D_tail ?_
 | refine D_run rfl rfl obQ obQ ?_
 | refine D_call (f := 17) rfl obQ (by kernel_rfl) (fun w hw => mawake_c w (Sh_at hsh hw memQ) (Pw_at hP hw memQ)) ?_
 | refine D_call (f := 50) rfl obQ (by kernel_rfl) (fun w hw => tree_as hbad hl (hw.rdm hSN memQ) (Sh_at hsh hw memQ)) ?_
 | refine D_call (f := 51) rfl obQ (by kernel_rfl) (fun w hw => sameI_c _ _ _ _ k1 _ rfl (by exact hb1) w (hw.rdm hSP memQ) (hw.rdm hSX memQ)) ?_
 | refine D_call (f := 36) rfl obQ (by kernel_rfl) (fun w hw => same_as (t := y2) rfl rfl hb2 (hw.rdm hSU memQ) (hw.rdm hSY memQ)) ?_
           )
 | (refine G_id ?_; first
 | refine G_then ?_
 | refine G_block ?_
 | refine G_blockX ?_
 | refine G_blockN rfl ?_
 | refine G_blockR ?_
 | refine G_thenR ?_
 | refine G_thenX ?_
 | refine G_ret rfl obQ (fun w hw => ⟨?_, hw.below⟩)
           )
           )
          all_goals rfl
      · obtain ⟨rfl, rfl⟩ := Prod.mk.inj ((show soR t = ([], bad) from (if_neg (by rw [hbad]; exact hC)).trans (by rw [hbad])).symm.trans hV1)
        obtain ⟨rfl, rfl⟩ := Prod.mk.inj ((show pruR t = ([], bad) from (if_neg (by rw [hbad]; exact hC)).trans (by rw [hbad])).symm.trans hV2)
        obtain ⟨rfl, rfl⟩ := Prod.mk.inj ((show rgR t l = ([], bad) from (rgR_no (by rw [hbad]; exact hC)).trans (by rw [hbad])).symm.trans hV3)
        repeat' (first
 | (refine C_id ?_; first
 | refine C_seq ?_
 | refine C_regionNe 19 rfl rfl ?_
 | refine C_block ?_
 | refine C_skip ?_
 | refine C_exit ?_
 | refine C_ret0 ?_
 | refine C_draw (id := 21) rfl mixed (by kernel_rfl) ?_
 | refine C_condT rfl obQ ?_
 | refine C_condF rfl obQ ?_
 | (refine C_cond rfl obQ (fun h => ?_) (fun h => ?_) <;> (try simp only [cdS] at h) <;> (try (exfalso; omega)) <;> (try exact cdF h) <;> (try contradiction) <;> (try (exfalso; omega)))
         )
 | (refine S_id ?_; first
 | ((with_reducible (first | refine S_falseN ?_ ?_ | refine S_falseB ?_ ?_ | refine S_falseL ?_ ?_ | refine S_falseD ?_ ?_ | refine S_falseE ?_ ?_)); · (first | rfl | omega | exact decide_eq_false (by omega)))
 | ((with_reducible refine S_falseO ?_ ?_ ?_); (· rfl); (· first | rfl | (first | rfl | omega | exact decide_eq_false (by omega))))
 | ((with_reducible (first | refine S_trueE ?_ ?_ | refine S_trueB ?_ ?_ | refine S_trueL ?_ ?_ | refine S_trueD ?_ ?_ | refine S_trueN ?_ ?_)); · (first | exact beq_self_eq_true _ | rfl | omega | exact decide_eq_true (by omega)))
 | ((with_reducible refine S_trueA ?_ ?_ ?_); (· rfl); (· first | rfl | (first | exact beq_self_eq_true _ | rfl | omega | exact decide_eq_true (by omega))))
 | refine S_unG rfl rfl rfl rfl ?_
 | refine S_offG (.v (.bool false)) rfl rfl rfl rfl rfl ?_
 | refine S_nil ?_
 | refine S_runN rfl rfl obQ obQ ?_
 | refine S_slice (fun b => ⟨_, _, rfl, obQ, ?_⟩)
 | refine S_call (f := 48) rfl obQ (by kernel_rfl) (fun w hw => xcr_as hth hl hl2 (hw.rdm hr.toS memQ) (hw.rdm hr2.toS memQ)) ?_
         )
 | (refine D_id ?_; first
 | refine D_nil ?_
 | refine D_tail ?_
 | refine D_run rfl rfl obQ obQ ?_
 | refine D_call (f := 48) rfl obQ (by kernel_rfl) (fun w hw => xcr_as hth hl hl2 (hw.rdm hr.toS memQ) (hw.rdm hr2.toS memQ)) ?_
         )
 | (refine G_id ?_; first
 | refine G_then ?_
 | refine G_block ?_
 | refine G_blockX ?_
 | refine G_blockN rfl ?_
 | refine G_blockR ?_
 | refine G_thenR ?_
 | refine G_thenX ?_
 | refine G_ret rfl obQ (fun w hw => ⟨?_, hw.below⟩)
         )
         )
        refine C_loopS (fun k : Nat => ⟨[(71, .s (.v (.int .i64 k))), (70, .s (.v (.int .i64 ([] : List (Int × Int)).length))), (0, .s (.v (.slice A t.length c))), (5, .s (.v (.slice AP ([] : List Int).length cP))), (6, .s (.v (.int .i64 bad))), (7, .s (.v (.slice AQ ([] : List Nod).length cQ))), (8, .s (.v (.int .i64 bad))), (9, .s (.v (.slice AR ([] : List (Int × Int)).length cR))), (10, .s (.v (.int .i64 bad))), (11, .s (.v (.int .i64 bad))), (12, .s (.v (.int .i64 bad))), (13, .s (.v (.slice none 0 0))), (14, .s (.v (.slice none 0 0))), (15, .s (.v (.slice none 0 0)))], [], [⟨83, 2, 0 + l.length, l.flatMap ivC, .slice A' (0 + l.length) cap'⟩]⟩) (fun k => k = 0) (fun _ => 0) 0 rfl ?_ (fun k hk0 => ?_)
        · exact svQ
        obtain rfl : k = 0 := hk0
        repeat' (first
 | (refine C_id ?_; first
 | refine C_seq ?_
 | refine C_region rfl ?_
 | refine C_block ?_
 | refine C_skip ?_
 | refine C_exit ?_
 | refine C_ret0 ?_
 | refine C_draw (id := 21) rfl mixed (by kernel_rfl) ?_
 | refine C_condT rfl obQ ?_
 | refine C_condF rfl obQ ?_
 | (refine C_cond rfl obQ (fun h => ?_) (fun h => ?_) <;> (try simp only [cdS] at h) <;> (try (exfalso; omega)) <;> (try exact cdF h) <;> (try contradiction) <;> (try (exfalso; omega)))
         )
 | (refine S_id ?_; first
 | ((with_reducible (first | refine S_falseN ?_ ?_ | refine S_falseB ?_ ?_ | refine S_falseL ?_ ?_ | refine S_falseD ?_ ?_ | refine S_falseE ?_ ?_)); · (first | rfl | omega | exact decide_eq_false (by omega)))
 | ((with_reducible refine S_falseO ?_ ?_ ?_); (· rfl); (· first | rfl | (first | rfl | omega | exact decide_eq_false (by omega))))
 | ((with_reducible (first | refine S_trueE ?_ ?_ | refine S_trueB ?_ ?_ | refine S_trueL ?_ ?_ | refine S_trueD ?_ ?_ | refine S_trueN ?_ ?_)); · (first | exact beq_self_eq_true _ | rfl | omega | exact decide_eq_true (by omega)))
 | ((with_reducible refine S_trueA ?_ ?_ ?_); (· rfl); (· first | rfl | (first | exact beq_self_eq_true _ | rfl | omega | exact decide_eq_true (by omega))))
 | refine S_unG rfl rfl rfl rfl ?_
 | refine S_offG (.v (.bool false)) rfl rfl rfl rfl rfl ?_
 | (refine S_callM (f := 29) rfl obQ (by kernel_rfl) (fun w hw => lwnodes_c A c t hl w (hw.rdm hr.toS memQ)) (fun w1N w2N vN hw1N hbN hRN => ?_); obtain ⟨AN, cN, rfl, hcN, hSN⟩ := hRN)
 | (refine S_callM (f := 37) rfl obQ (by kernel_rfl) (fun w hw => lwown_c AQ cQ [] (by simp) w (hw.rdm hSQ memQ)) (fun w1U w2U vU hw1U hbU hRU => ?_); obtain ⟨AU, cU, rfl, hcU, hSU⟩ := hRU)
 | refine S_nil ?_
 | refine S_runN rfl rfl obQ obQ ?_
 | refine S_slice (fun b => ⟨_, _, rfl, obQ, ?_⟩)
 | refine S_call (f := 17) rfl obQ (by kernel_rfl) (fun w hw => mawake_c w (Sh_at hsh hw memQ) (Pw_at hP hw memQ)) ?_
 | refine S_call (f := 50) rfl obQ (by kernel_rfl) (fun w hw => tree_as hbad hl (hw.rdm hSN memQ) (Sh_at hsh hw memQ)) ?_
 | refine S_call (f := 51) rfl obQ (by kernel_rfl) (fun w hw => sameI_c _ _ _ _ [] _ rfl (by simp) w (hw.rdm hSP memQ) (.inl rfl)) ?_
 | refine S_call (f := 36) rfl obQ (by kernel_rfl) (fun w hw => same_as (t := []) rfl rfl (by simp) (hw.rdm hSU memQ) (.inl rfl)) ?_
         )
 | (refine D_id ?_; first
 | refine D_nil ?_
 | refine D_tail ?_
 | refine D_run rfl rfl obQ obQ ?_
 | refine D_call (f := 17) rfl obQ (by kernel_rfl) (fun w hw => mawake_c w (Sh_at hsh hw memQ) (Pw_at hP hw memQ)) ?_
 | refine D_call (f := 50) rfl obQ (by kernel_rfl) (fun w hw => tree_as hbad hl (hw.rdm hSN memQ) (Sh_at hsh hw memQ)) ?_
 | refine D_call (f := 51) rfl obQ (by kernel_rfl) (fun w hw => sameI_c _ _ _ _ [] _ rfl (by simp) w (hw.rdm hSP memQ) (.inl rfl)) ?_
 | refine D_call (f := 36) rfl obQ (by kernel_rfl) (fun w hw => same_as (t := []) rfl rfl (by simp) (hw.rdm hSU memQ) (.inl rfl)) ?_
         )
 | (refine G_id ?_; first
 | refine G_then ?_
 | refine G_block ?_
 | refine G_blockX ?_
 | refine G_blockN rfl ?_
 | refine G_blockR ?_
 | refine G_thenR ?_
 | refine G_thenX ?_
 | refine G_ret rfl obQ (fun w hw => ⟨?_, hw.below⟩)
         )
         )
        all_goals rfl
end Go.Proofs.YtjkgklhjbopoaaaGreatDoor
