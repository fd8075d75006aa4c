/- The law of pictures of trees: the walk. -/
import Derived.Test.YtjkgklhjbopoaaaGreatDoorMixer87
namespace Go.Proofs.YtjkgklhjbopoaaaGreatDoor
open Go.E Go.RowKit Go.Fl
attribute [local irreducible] G C S D Calls
set_option maxRecDepth 100000
set_option linter.unusedSimpArgs false
set_option linter.unusedVariables false
set_option maxHeartbeats 8000000
theorem lPictures_c (A : Option Addr) (c : Nat) (t : List Nod) (B : Option Addr) (c2 : Nat) (l : List PV') (hm : t.length ≤ maxLen) (hm2 : l.length ≤ maxLen) (hAs : ∀ x ∈ l, x.A = none → x.p.s.length = 0 ∧ x.c = 0) (hnz : ∀ x ∈ l, x.p.nm.size ≤ maxLen) (xa xb ya yb : Int) (w : World) (hr : Rd w A (t.flatMap ndC)) (hr2 : Rd w B (l.flatMap pvC)) (hrp : ∀ x ∈ l, Rd w x.A (x.p.s.map (.float .f32))) (hsh : Sh w) (hP : Pw w) : Calls Tryz.prog 8 #[.slice A t.length c, .slice B l.length c2, .agg #[.int .i64 xa, .int .i64 xb, .int .i64 ya, .int .i64 yb]] w fun r w' => r = .returned (.bool true) ∧ Below w.heap.size w w' := by
  refine calls_of T_ok Tryz.func8 rfl Tryz.ntmps8 (Nat.le_of_ble_eq_true rfl) rfl ?_
  cases hS : shT t
  · repeat' (first
|(refine C_id ?_; first
|refine C_seq ?_
|refine C_region rfl ?_
|refine C_ret0 ?_
|refine C_condT rfl obQ ?_)
|(refine S_id ?_; first
|refine S_offG (.v (.bool false)) rfl rfl rfl rfl rfl ?_
|refine S_nil ?_
|refine S_runN rfl rfl obQ obQ ?_
|refine S_box (fun bb => ⟨_, _, rfl, obQ, ?_⟩)
|refine S_call (f := 17) rfl obQ (by kernel_rfl) (fun w hw => mawake_c w (Sh_at hsh hw memQ) (Pw_at hP hw memQ)) ?_
|refine S_call (f := 27) rfl obQ (by kernel_rfl) (fun w hw => xshort_as hS hm (hw.rdm hr.toS memQ)) ?_)
|refine G_then ?_
|refine G_thenR ?_
|refine G_ret rfl obQ (fun w hw => ⟨?_, hw.below⟩))
    all_goals rfl
  · cases hK : shortPs l
    · repeat' (first
|(refine C_id ?_; first
|refine C_seq ?_
|refine C_region rfl ?_
|refine C_ret0 ?_
|refine C_condT rfl obQ ?_)
|(refine S_id ?_; first
|refine S_unG rfl rfl rfl rfl ?_
|refine S_nil ?_
|refine S_runN rfl rfl obQ obQ ?_
|refine S_box (fun bb => ⟨_, _, rfl, obQ, ?_⟩)
|refine S_call (f := 17) rfl obQ (by kernel_rfl) (fun w hw => mawake_c w (Sh_at hsh hw memQ) (Pw_at hP hw memQ)) ?_
|refine S_call (f := 27) rfl obQ (by kernel_rfl) (fun w hw => xshort_as hS hm (hw.rdm hr.toS memQ)) ?_
|refine S_call (f := 52) rfl obQ (by kernel_rfl) (fun w hw => xShortPs_c B c2 l hm2 _ hK w (hw.rdm hr2.toS memQ)) ?_)
|refine G_then ?_
|refine G_thenR ?_
|refine G_ret rfl obQ (fun w hw => ⟨?_, hw.below⟩))
      all_goals rfl
    · have hl : t.length ≤ 1000000 := by have := shT_le hS; omega
      have hsp := shortPs_ok hK
      have hl2 : l.length ≤ 1000000 := by omega
      have hsz : ∀ x ∈ l, x.p.s.length ≤ 1000000 := fun x hx => by have := (hsp.2 x hx).2; omega
      obtain ⟨bad, hbad⟩ : ∃ e, trE t = e := ⟨_, rfl⟩
      obtain ⟨y1, e1, hV1⟩ : ∃ x e, cmR' t l = (x, e) := ⟨_, _, rfl⟩
      obtain ⟨y2, e2, hV2⟩ : ∃ x e, tlR t l xa xb ya yb = (x, e) := ⟨_, _, rfl⟩
      repeat' (first
|refine C_seq ?_
|refine C_regionNe 1 rfl rfl ?_
|refine S_nil ?_
|refine S_runN rfl rfl obQ obQ ?_
|refine S_box (fun b5 => ⟨_, _, rfl, obQ, ?_⟩)
|refine G_then ?_)
      repeat' (first
|(refine C_id ?_; first
|refine C_seq ?_
|refine C_region rfl ?_
|refine C_skip ?_
|refine C_condF rfl obQ ?_)
|(refine S_id ?_; first
|((with_reducible refine S_falseO ?_ ?_ ?_); (· rfl); (· first | rfl | (first | rfl | omega)))
|refine S_unG rfl rfl rfl rfl ?_
|(refine S_callM (f := 29) rfl obQ (by kernel_rfl) (fun w hw => lwnodes_c A c t hl w (hw.rdm hr.toS memQ)) (fun w1N w2N vN hw1N hbN hRN => ?_); obtain ⟨AN, cN, rfl, hcN, hSN⟩ := hRN)
|(refine S_callM (f := 66) rfl obQ (by kernel_rfl) (fun w hw => lpictures_c B c2 l hl2 hsz hAs w (hw.rdm hr2.toS memQ) (fun x hx => hw.rdm (hrp x hx).toS memQ)) (fun w1I w2I vI hw1I hbI hRI => ?_); obtain ⟨AI, cI, lI, rfl, hmI, hSI, hEI⟩ := hRI)
|(refine S_callM (f := 65) rfl obQ (by kernel_rfl) (fun w hw => composed_as hV1 hmI rfl hl hl2 hsz (hw.rdm hSN memQ) (hw.rdm hSI memQ) (fun x hx => hw.rdm (hEI x hx) memQ) (Sh_at hsh hw memQ)) (fun w1P w2P vP hw1P hbP hRP => ?_); obtain ⟨AP, cP, rfl, hSP⟩ := hRP)
|refine S_nil ?_
|refine S_runN rfl rfl obQ obQ ?_
|refine S_box (fun b7 => ⟨_, _, rfl, obQ, ?_⟩)
|refine S_call (f := 27) rfl obQ (by kernel_rfl) (fun w hw => xshort_as hS hm (hw.rdm hr.toS memQ)) ?_
|refine S_call (f := 52) rfl obQ (by kernel_rfl) (fun w hw => xShortPs_c B c2 l hm2 _ hK w (hw.rdm hr2.toS memQ)) ?_)
|refine G_then ?_)
      refine C_cut (fun U : SlA (y2.s.map (.float .f32)) × Nat => ([U.1.ps, (w2P, fun b => w1P.heap.size ≤ b ∧ b < w2P.heap.size), (w, fun b => b < w.heap.size)], (⟨[(0, .s (.v (.slice A t.length c))), (1, .s (.v (.slice B l.length c2))), (5, .s (.p b5 0 0)), (7, .s (.p b7 1 0)), (8, .s (.v (.int .i64 e1))), (9, .s (.p U.2 2 0)), (10, .s (.v (.int .i64 e2)))], [⟨b5, 109, [.v (.int .i64 xa), .v (.int .i64 xb), .v (.int .i64 ya), .v (.int .i64 yb)]⟩, ⟨b7, 70, [.v (.string y1.nm), .v (.int .i64 y1.w), .v (.int .i64 y1.h), .v (.slice AP y1.s.length cP)]⟩, ⟨U.2, 70, [.v (.string y2.nm), .v (.int .i64 y2.w), .v (.int .i64 y2.h), .v (.slice U.1.A y2.s.length U.1.c)]⟩], []⟩ : St))) ?_ (fun U => ?_)
      · repeat' (first
|refine C_drawTr0 (id := 4) 14 (.q 0 (.q 2 (.q 4 (.q 5 (.q 6 (.q 7 (.two 1 12 (.two 3 12 (.two 8 12 (.q 9 (.q 10 (.q 11 (.n 12 (.n 13 .nil))))) (.n 8 (.q 9 (.q 10 (.q 11 (.n 13 .nil)))))) (.n 3 (.n 8 (.q 9 (.q 10 (.q 11 (.n 13 .nil))))))) (.n 1 (.n 3 (.n 8 (.q 9 (.q 10 (.q 11 (.n 13 .nil)))))))))))))) rfl mixed (by kernel_rfl) rfl ?_
|(refine S_id ?_; first
|(refine S_callM (f := 29) rfl obQ (by kernel_rfl) (fun w hw => lwnodes_c A c t hl w (hw.rdm hr.toS memQ)) (fun w1N w2N vN hw1N hbN hRN => ?_); obtain ⟨AN, cN, rfl, hcN, hSN⟩ := hRN)
|(refine S_callM (f := 66) rfl obQ (by kernel_rfl) (fun w hw => lpictures_c B c2 l hl2 hsz hAs w (hw.rdm hr2.toS memQ) (fun x hx => hw.rdm (hrp x hx).toS memQ)) (fun w1I w2I vI hw1I hbI hRI => ?_); obtain ⟨AI, cI, lI, rfl, hmI, hSI, hEI⟩ := hRI)
|(refine S_callM (f := 67) rfl obQ (by kernel_rfl) (fun w hw => tile_as hV2 hmI rfl hl hl2 hsz (hw.rdm hSN memQ) (hw.rdm hSI memQ) (fun x hx => hw.rdm (hEI x hx) memQ) (Sh_at hsh hw memQ)) (fun w1Q w2Q vQ hw1Q hbQ hRQ => ?_); obtain ⟨AQ, cQ, rfl, hSQ⟩ := hRQ)
|refine S_nil ?_
|refine S_runN rfl rfl obQ obQ ?_
|refine S_box (fun b9 => ⟨_, _, rfl, obQ, ?_⟩))
|(refine VT_id ?_; first
|refine VT_nil ?_
|refine VT_q rfl (Yl_step rfl obQ) ?_
|refine VT_n rfl ?_
|refine VT_two rfl rfl ?_ ?_)
|refine G_VT2 ⟨_, rfl⟩ ⟨_, rfl⟩ pstQ rfl ?_
|refine G_cutB (⟨w1Q, w2Q, AQ, cQ, hSQ⟩, b9) ⟨_, rfl, obQ⟩ slB rfl psQ)
      dsimp only [SlA.ps]
      repeat' (first
|refine C_seq ?_
|refine C_regionNe 7 rfl rfl ?_
|(refine S_id ?_; first
|refine S_nil ?_
|refine S_runN rfl rfl obQ obQ ?_
|refine S_box (fun bb => ⟨_, _, rfl, obQ, ?_⟩)
|refine S_call (f := 32) rfl obQ (by kernel_rfl) (fun w hw => xtree_as hbad hl (hw.rdm hr.toS memQ)) ?_)
|refine G_then ?_)
      by_cases hC : bad = 0
      · subst hC
        have ht := tr_ok.1 hbad
        obtain ⟨pe, hpe⟩ : ∃ e, pcE t l = e := ⟨_, rfl⟩
        by_cases hD : pe = 0
        · subst hD
          have hp := pc_ok.1 hpe
          have h0 : 0 < l.length := hp.n.1
          obtain ⟨ad2, rfl⟩ := hr2.some (by rw [pv_len]; omega)
          obtain ⟨he1, hb1, hf1⟩ := cm_fin ht hp hV1
          subst he1
          obtain ⟨te, hte⟩ : ∃ e, tlE l xa xb ya yb = e := ⟨_, rfl⟩
          by_cases hE : te = 0
          · subst hE
            obtain ⟨he2, hb2, hf2⟩ := ti_fin ht hp hte hV2
            subst he2
            repeat' (first
|(refine C_id ?_; first
|refine C_seq ?_
|refine C_region rfl ?_
|refine C_ret0 ?_
|refine C_drawV (id := 12) 7 [(0, true), (1, true), (2, true), (3, true), (4, true), (5, true), (6, true)] rfl mixed (by kernel_rfl) rfl ?_
|refine C_condT rfl obQ ?_)
|(refine S_id ?_; first
|((with_reducible (first | refine S_trueE ?_ ?_ | refine S_trueB ?_ ?_ | refine S_trueL ?_ ?_ | refine S_trueD ?_ ?_ | refine S_trueN ?_ ?_)); · (first | exact beq_self_eq_true _ | rfl | omega))
|((with_reducible refine S_trueA ?_ ?_ ?_); (· rfl); (· first | rfl | (first | exact beq_self_eq_true _ | rfl | omega)))
|refine S_unG rfl rfl rfl rfl ?_
|(refine S_callM (f := 69) rfl obQ (by kernel_rfl) (fun w hw => xcomposed_as hV1 ht hp (hw.rdm hr.toS memQ) (hw.rdm hr2.toS memQ) (fun x hx => hw.rdm (hrp x hx).toS memQ)) (fun w1X w2X vX hw1X hbX hRX => ?_); obtain ⟨AX, cX, rfl, hSX⟩ := hRX)
|(refine S_callM (f := 71) rfl obQ (by kernel_rfl) (fun w hw => xtile_as hV2 ht hp hte (hw.rdm hr.toS memQ) (hw.rdm hr2.toS memQ) (fun x hx => hw.rdm (hrp x hx).toS memQ)) (fun w1Y w2Y vY hw1Y hbY hRY => ?_); obtain ⟨AY, cY, rfl, hSY⟩ := hRY)
|refine S_nil ?_
|refine S_runN rfl rfl obQ obQ ?_
|refine S_call (f := 17) rfl obQ (by kernel_rfl) (fun w hw => mawake_c w (Sh_at hsh hw memQ) (Pw_at hP hw memQ)) ?_
|refine S_call (f := 68) rfl obQ (by kernel_rfl) (fun w hw => xpics_as hpe hl hl2 hsz hnz (hw.rdm hr.toS memQ) (hw.rdm hr2.toS memQ) (fun x hx => hw.rdm (hrp x hx).toS memQ)) ?_
|refine S_call (f := 70) rfl obQ (by kernel_rfl) (fun w hw => xct_as hte) ?_
|refine S_call (f := 64) rfl obQ (by kernel_rfl) (fun w hw => lis_c y1 _ _ _ _ hb1 hf1 w (hw.rdm hSP memQ) (hw.rdm hSX memQ)) ?_
|refine S_call (f := 64) rfl obQ (by kernel_rfl) (fun w hw => lis_c y2 _ _ _ _ hb2 hf2 w (hw.rdm U.1.h memQ) (hw.rdm hSY memQ)) ?_)
|refine V_nil ?_
|refine V_q rfl (Yl_load rfl obQ rfl [.string (gQ l 0).p.nm, .int .i64 (gQ l 0).p.w, .int .i64 (gQ l 0).p.h, .slice (gQ l 0).A (gQ l 0).p.s.length (gQ l 0).c] (.past (w, fun b => b < w.heap.size) memQ _ _ hr2.toS (Int.toNat 0 * 4) _ rfl rfl (gQ_idx (l := l) (k := 0) h0)) rfl (.inl ⟨rfl, rfl⟩)) ?_
|refine V_q rfl (Yl_step rfl obQ) ?_
|refine G_then ?_
|refine G_ret rfl obQ (fun w hw => ⟨?_, hw.below⟩))
            all_goals rfl
          · have hne := hE
            obtain ⟨rfl, rfl⟩ := Prod.mk.inj ((show tlR t l xa xb ya yb = (zP, te) from by unfold tlR; rw [if_pos hbad, if_pos hpe, if_neg (by rw [hte]; exact hE), hte]).symm.trans hV2)
            repeat' (first
|(refine C_id ?_; first
|refine C_seq ?_
|refine C_region rfl ?_
|refine C_skip ?_
|refine C_ret0 ?_
|refine C_drawV (id := 12) 7 [(0, true), (1, true), (2, true), (3, true), (4, true), (5, true), (6, true)] rfl mixed (by kernel_rfl) rfl ?_
|refine C_condT rfl obQ ?_
|(refine C_cond rfl obQ ?_ ?_ <;> intro h <;> (try simp only [cdS] at h) <;> (try (exfalso; omega)) <;> (try exact cdF h) <;> (try contradiction)))
|(refine S_id ?_; first
|((with_reducible (first | refine S_trueE ?_ ?_ | refine S_trueB ?_ ?_ | refine S_trueL ?_ ?_ | refine S_trueD ?_ ?_ | refine S_trueN ?_ ?_)); · (first | exact beq_self_eq_true _ | rfl | omega))
|((with_reducible refine S_trueA ?_ ?_ ?_); (· rfl); (· first | rfl | (first | exact beq_self_eq_true _ | rfl | omega)))
|refine S_unG rfl rfl rfl rfl ?_
|(refine S_callM (f := 69) rfl obQ (by kernel_rfl) (fun w hw => xcomposed_as hV1 ht hp (hw.rdm hr.toS memQ) (hw.rdm hr2.toS memQ) (fun x hx => hw.rdm (hrp x hx).toS memQ)) (fun w1X w2X vX hw1X hbX hRX => ?_); obtain ⟨AX, cX, rfl, hSX⟩ := hRX)
|refine S_nil ?_
|refine S_runN rfl rfl obQ obQ ?_
|refine S_call (f := 17) rfl obQ (by kernel_rfl) (fun w hw => mawake_c w (Sh_at hsh hw memQ) (Pw_at hP hw memQ)) ?_
|refine S_call (f := 68) rfl obQ (by kernel_rfl) (fun w hw => xpics_as hpe hl hl2 hsz hnz (hw.rdm hr.toS memQ) (hw.rdm hr2.toS memQ) (fun x hx => hw.rdm (hrp x hx).toS memQ)) ?_
|refine S_call (f := 70) rfl obQ (by kernel_rfl) (fun w hw => xct_as hte) ?_
|refine S_call (f := 64) rfl obQ (by kernel_rfl) (fun w hw => lis_c y1 _ _ _ _ hb1 hf1 w (hw.rdm hSP memQ) (hw.rdm hSX memQ)) ?_
|refine S_call (f := 64) rfl obQ (by kernel_rfl) (fun w hw => lisE_c _ hne zP _ none _ 0 w) ?_)
|refine V_nil ?_
|refine V_q rfl (Yl_load rfl obQ rfl [.string (gQ l 0).p.nm, .int .i64 (gQ l 0).p.w, .int .i64 (gQ l 0).p.h, .slice (gQ l 0).A (gQ l 0).p.s.length (gQ l 0).c] (.past (w, fun b => b < w.heap.size) memQ _ _ hr2.toS (Int.toNat 0 * 4) _ rfl rfl (gQ_idx (l := l) (k := 0) h0)) rfl (.inl ⟨rfl, rfl⟩)) ?_
|refine V_q rfl (Yl_step rfl obQ) ?_
|refine G_then ?_
|refine G_ret rfl obQ (fun w hw => ⟨?_, hw.below⟩))
            all_goals rfl
        · have hne := hD
          obtain ⟨rfl, rfl⟩ := Prod.mk.inj ((show cmR' t l = (zP, pe) from by unfold cmR'; rw [if_pos hbad, if_neg (by rw [hpe]; exact hD), hpe]).symm.trans hV1)
          obtain ⟨rfl, rfl⟩ := Prod.mk.inj ((show tlR t l xa xb ya yb = (zP, pe) from by unfold tlR; rw [if_pos hbad, if_neg (by rw [hpe]; exact hD), hpe]).symm.trans hV2)
          repeat' (first
|(refine C_id ?_; first
|refine C_seq ?_
|refine C_region rfl ?_
|refine C_skip ?_
|refine C_ret0 ?_
|refine C_condT rfl obQ ?_
|(refine C_cond rfl obQ ?_ ?_ <;> intro h <;> (try simp only [cdS] at h) <;> (try (exfalso; omega)) <;> (try exact cdF h) <;> (try contradiction)))
|(refine S_id ?_; first
|((with_reducible (first | refine S_trueE ?_ ?_ | refine S_trueB ?_ ?_ | refine S_trueL ?_ ?_ | refine S_trueD ?_ ?_ | refine S_trueN ?_ ?_)); · (first | exact beq_self_eq_true _ | rfl | omega))
|((with_reducible refine S_trueA ?_ ?_ ?_); (· rfl); (· first | rfl | (first | exact beq_self_eq_true _ | rfl | omega)))
|refine S_unG rfl rfl rfl rfl ?_
|refine S_nil ?_
|refine S_runN rfl rfl obQ obQ ?_
|refine S_call (f := 17) rfl obQ (by kernel_rfl) (fun w hw => mawake_c w (Sh_at hsh hw memQ) (Pw_at hP hw memQ)) ?_
|refine S_call (f := 68) rfl obQ (by kernel_rfl) (fun w hw => xpics_as hpe hl hl2 hsz hnz (hw.rdm hr.toS memQ) (hw.rdm hr2.toS memQ) (fun x hx => hw.rdm (hrp x hx).toS memQ)) ?_
|refine S_call (f := 64) rfl obQ (by kernel_rfl) (fun w hw => lisE_c _ hne zP _ none _ 0 w) ?_)
|refine G_then ?_
|refine G_ret rfl obQ (fun w hw => ⟨?_, hw.below⟩))
          all_goals rfl
      · have hne := hC
        obtain ⟨rfl, rfl⟩ := Prod.mk.inj ((show cmR' t l = (zP, bad) from by unfold cmR'; rw [if_neg (by rw [hbad]; exact hC), hbad]).symm.trans hV1)
        obtain ⟨rfl, rfl⟩ := Prod.mk.inj ((show tlR t l xa xb ya yb = (zP, bad) from by unfold tlR; rw [if_neg (by rw [hbad]; exact hC), hbad]).symm.trans hV2)
        repeat' (first
|(refine C_id ?_; first
|refine C_seq ?_
|refine C_region rfl ?_
|refine C_skip ?_
|refine C_ret0 ?_
|(refine C_cond rfl obQ ?_ ?_ <;> intro h <;> (try simp only [cdS] at h) <;> (try (exfalso; omega)) <;> (try exact cdF h) <;> (try contradiction)))
|(refine S_id ?_; first
|((with_reducible refine S_trueA ?_ ?_ ?_); (· rfl); (· first | rfl | (first | exact beq_self_eq_true _ | rfl | omega)))
|refine S_unG rfl rfl rfl rfl ?_
|refine S_nil ?_
|refine S_runN rfl rfl obQ obQ ?_
|refine S_call (f := 17) rfl obQ (by kernel_rfl) (fun w hw => mawake_c w (Sh_at hsh hw memQ) (Pw_at hP hw memQ)) ?_
|refine S_call (f := 64) rfl obQ (by kernel_rfl) (fun w hw => lisE_c _ hne zP _ none _ 0 w) ?_)
|refine G_then ?_
|refine G_ret rfl obQ (fun w hw => ⟨?_, hw.below⟩))
        all_goals rfl
end Go.Proofs.YtjkgklhjbopoaaaGreatDoor
