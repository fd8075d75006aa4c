/- The law of cuts: the walk. -/
import Derived.Test.YtjkgklhjbopoaaaGreatDoorMixer91
namespace Go.Proofs.YtjkgklhjbopoaaaGreatDoor
open Go.E Go.RowKit Go.Fl
attribute [local irreducible] G C S D Calls
set_option maxRecDepth 100000
set_option linter.all false
set_option maxHeartbeats 8000000
section
variable {A B : Option Addr} {c c2 : Nat} {w : World} {t s x y : List Nod} {node m e : Int} {b : Bool}
theorem cutb_as (h : cuR t node m = (x, y, e)) (hl : t.length ≤ 1000000) (hc : t.length ≤ c) (hr : Rd w A (t.flatMap ndC)) (hsh : Sh w) : Calls Tryz.prog 28 #[.slice A t.length c, .int .i64 node, .int .i64 m] w fun r w' => ∃ v, r = .returned v ∧ Below w.heap.size w w' ∧ ∃ A c B d, v = .tuple #[.slice A x.length c, .slice B y.length d, .int .i64 e] ∧ RdS (fun b => w.heap.size ≤ b ∧ b < w'.heap.size) w' A (x.flatMap ndC) ∧ RdS (fun b => w.heap.size ≤ b ∧ b < w'.heap.size) w' B (y.flatMap ndC) := by
  have := mCut_c A c t hl hc node m w hr hsh
  rw [h] at this
  exact this
theorem joinb_as (h : joR t s m = (x, e)) (hl : t.length ≤ 1000000) (hl2 : s.length ≤ 1000000) (hr : Rd w A (t.flatMap ndC)) (hr2 : Rd w B (s.flatMap ndC)) (hsh : Sh w) : Calls Tryz.prog 30 #[.slice A t.length c, .slice B s.length c2, .int .i64 m] w fun r w' => ∃ v, r = .returned v ∧ Below w.heap.size w w' ∧ Sl2 w w' v x.length (x.flatMap ndC) (.int .i64 e) := by
  have := mJoined_c A c t hl B c2 s hl2 m w hr hr2 hsh
  rw [h] at this
  exact this
end
theorem lCuts_c (A : Option Addr) (c : Nat) (t : List Nod) (B : Option Addr) (c2 : Nat) (l : List PV') (hm : t.length ≤ maxLen) (hm2 : l.length ≤ maxLen) (hAs : ∀ x ∈ l, x.A = none → x.p.s.length = 0 ∧ x.c = 0) (hnz : ∀ x ∈ l, x.p.nm.size ≤ maxLen) (n : Nat) (hn8 : n ≤ 255) (w : World) (hr : Rd w A (t.flatMap ndC)) (hr2 : Rd w B (l.flatMap pvC)) (hrp : ∀ x ∈ l, Rd w x.A (x.p.s.map (.float .f32))) (hsh : Sh w) (hP : Pw w) : Calls Tryz.prog 9 #[.slice A t.length c, .slice B l.length c2, .int .u8 ((n : Nat) : Int)] w fun r w' => r = .returned (.bool true) ∧ Below w.heap.size w w' := by
  refine calls_of T_ok Tryz.func9 rfl Tryz.ntmps9 (Nat.le_of_ble_eq_true rfl) rfl ?_
  cases hS : shT t
  rotate_left 1
  have hl : t.length ≤ 1000000 := by have := shT_le hS; omega
  obtain ⟨bad, hbad⟩ : ∃ e, trE t = e := ⟨_, rfl⟩
  by_cases hC : bad = 0
  subst hC
  by_cases h7 : t.length ≤ 7
  by_cases h2 : 2 ≤ t.length
  cases hK : shortPs l
  rotate_left 1
  have hsp := shortPs_ok hK
  have hl2 : l.length ≤ 1000000 := by omega
  have hsz : ∀ x ∈ l, x.p.s.length ≤ 1000000 := fun x hx => by have := (hsp.2 x hx).2; omega
  by_cases h4 : l.length ≤ 4
  obtain ⟨pe, hpe⟩ : ∃ e, pcE t l = e := ⟨_, rfl⟩
  by_cases hD : pe = 0
  rotate_left 1
  iterate 7
    · repeat' (first
|(refine C_id ?_; first
|refine C_seq ?_
|refine C_region rfl ?_
|refine C_ret0 ?_
|refine C_condT rfl obQ ?_)
|(refine S_id ?_; first
|((with_reducible (first | refine S_falseN ?_ ?_ | refine S_falseB ?_ ?_ | refine S_falseL ?_ ?_ | refine S_falseD ?_ ?_ | refine S_falseE ?_ ?_)); · (first | rfl | omega | exact decide_eq_false (by omega)))
|((with_reducible refine S_falseO ?_ ?_ ?_); (· rfl); (· first | rfl | (first | rfl | omega | exact decide_eq_false (by omega))))
|((with_reducible (first | refine S_trueE ?_ ?_ | refine S_trueB ?_ ?_ | refine S_trueL ?_ ?_ | refine S_trueD ?_ ?_ | refine S_trueN ?_ ?_)); · (first | exact beq_self_eq_true _ | rfl | assumption | omega | exact decide_eq_true (by omega) | exact bne_iff_ne.2 (by assumption)))
|refine S_unG rfl rfl rfl rfl ?_
|refine S_offG (.v (.bool false)) rfl rfl rfl rfl rfl ?_
|refine S_one rfl obQ ?_
|refine S_nil ?_
|refine S_call (f := 17) rfl obQ (by kernel_rfl) (fun w hw => mawake_c w (Sh_at hsh hw memQ) (Pw_at hP hw memQ)) ?_
|refine S_call (f := 27) rfl obQ (by kernel_rfl) (fun w hw => xshort_as hS hm (hw.rdm hr.toS memQ)) ?_
|refine S_call (f := 32) rfl obQ (by kernel_rfl) (fun w hw => xtree_as hbad hl (hw.rdm hr.toS memQ)) ?_
|refine S_call (f := 52) rfl obQ (by kernel_rfl) (fun w hw => xShortPs_c B c2 l hm2 _ hK w (hw.rdm hr2.toS memQ)) ?_
|refine S_call (f := 68) rfl obQ (by kernel_rfl) (fun w hw => xpics_as hpe hl hl2 hsz hnz (hw.rdm hr.toS memQ) (hw.rdm hr2.toS memQ) (fun x hx => hw.rdm (hrp x hx).toS memQ)) ?_)
|refine G_then ?_
|refine G_thenR ?_
|refine G_ret rfl obQ (fun w hw => ⟨?_, hw.below⟩))
      all_goals rfl
  subst hD
  have ht := tr_ok.1 hbad
  have hp := pc_ok.1 hpe
  have h0 : 0 < l.length := hp.n.1
  obtain ⟨W, H, hW, hH⟩ := pc_wh hp
  obtain ⟨y1, hy1⟩ : ∃ y, tiP t l W 0 W 0 H = y := ⟨_, rfl⟩
  have hV1 := cm_of ht hp hW hH hy1
  obtain ⟨j, hj⟩ : ∃ j, n % (t.length - 1) = j := ⟨_, rfl⟩
  have hjt : j + 1 < t.length := by have := Nat.mod_lt n (show 0 < t.length - 1 by omega); omega
  have hje : ((n : Int)) % ((t.length : Int) - 1) = (j : Int) := by
    rw [← hj, show (t.length : Int) - 1 = ((t.length - 1 : Nat) : Int) by omega]
    exact (Int.natCast_emod _ _).symm
  have hV2 := cut_of ht hp hjt (by omega)
  rw [← hje] at hV2
  have hm8 : 0 ≤ (l.length : Int) ∧ (l.length : Int) ≤ 7 := by omega
  have hPt := bkP_tr ht (show j < t.length by omega)
  have hQt := bkQ_tr ht (show j < t.length by omega) hm8
  have hPt0 := tr_ok.2 hPt
  have hQt0 := tr_ok.2 hQt
  have hln := bk_len (t := t) (show j < t.length by omega) l.length
  have hkP : (bkP t j).length ≤ 1000000 := by omega
  have hkQ : (bkQ t j l.length).length ≤ 1000000 := by omega
  have hPp := bkP_pc (j := j) ht hp
  obtain ⟨yb, hyb⟩ : ∃ y, tiP (bkP t j) l W 0 W 0 H = y := ⟨_, rfl⟩
  have hVb := cm_of hPt hPp hW hH hyb
  have hyo := ti_ok hPt hPp hW hH
  rw [hyb] at hyo
  have hpb := pic_ok.2 hyo
  have hbl := pic_len hyo
  have hbb : yb.s.length ≤ 1000000 := by omega
  have hnb : yb.nm.size ≤ maxLen := by rw [← hyb]; exact hnz _ (gQ_mem h0)
  have hy1o := ti_ok ht hp hW hH
  rw [hy1] at hy1o
  have hb1l := pic_len hy1o
  have hb1 : y1.s.length ≤ 1000000 := by omega
  have hf1 : ∀ x ∈ y1.s, Fin32 x := fun x hx => (hy1o.s x hx).fin
  have hyw : yb.w = (gQ l 0).p.w := by rw [← hyb, hW]; show (W : Int) - ((0 : Nat) : Int) = W; omega
  have hyh : yb.h = (gQ l 0).p.h := by rw [← hyb, hH]; show (H : Int) - ((0 : Nat) : Int) = H; omega
  have hV3 : cmR' (bkQ t j l.length) (l ++ [⟨yb, none, 0⟩]) = (y1, 0) := cm_of hQt (bkQ_pc ht hp (by omega) (by omega) hW hH hyb.symm) (by rw [gQ_app h0]; exact hW) (by rw [gQ_app h0]; exact hH) ((bkQ_ti ht hp (by omega) (by omega) hW hH hyb.symm).trans hy1)
  have hszK : ∀ x ∈ l ++ [⟨yb, none, 0⟩], x.p.s.length ≤ 1000000 := fun x hx => (List.mem_append.1 hx).elim (hsz x) (fun hx => by obtain rfl := List.mem_singleton.1 hx; exact hbb)
  obtain ⟨ad2, rfl⟩ := hr2.some (by rw [pv_len]; omega)
  repeat' (first
|(refine C_id ?_; first
|refine C_seq ?_
|refine C_regionNe 3 rfl rfl ?_
|refine C_skip ?_
|refine C_condF rfl obQ ?_)
|(refine S_id ?_; first
|((with_reducible (first | refine S_falseN ?_ ?_ | refine S_falseB ?_ ?_ | refine S_falseL ?_ ?_ | refine S_falseD ?_ ?_ | refine S_falseE ?_ ?_)); · (first | rfl | omega | exact decide_eq_false (by omega)))
|((with_reducible refine S_falseO ?_ ?_ ?_); (· rfl); (· first | rfl | (first | rfl | omega | exact decide_eq_false (by omega))))
|refine S_unG rfl rfl rfl rfl ?_
|refine S_one rfl obQ ?_
|refine S_nil ?_
|refine S_call (f := 27) rfl obQ (by kernel_rfl) (fun w hw => xshort_as hS hm (hw.rdm hr.toS memQ)) ?_
|refine S_call (f := 32) rfl obQ (by kernel_rfl) (fun w hw => xtree_as hbad hl (hw.rdm hr.toS memQ)) ?_
|refine S_call (f := 52) rfl obQ (by kernel_rfl) (fun w hw => xShortPs_c (some ad2) c2 l hm2 _ hK w (hw.rdm hr2.toS memQ)) ?_
|refine S_call (f := 68) rfl obQ (by kernel_rfl) (fun w hw => xpics_as hpe hl hl2 hsz hnz (hw.rdm hr.toS memQ) (hw.rdm hr2.toS memQ) (fun x hx => hw.rdm (hrp x hx).toS memQ)) ?_)
|refine G_then ?_)
  refine C_trim [0, 1, 2] 0 rfl rfl ?_
  repeat' (first
|refine C_seq ?_
|refine C_regionNe 5 rfl rfl ?_
|refine C_drawV (id := 4) 17 [(0, true), (2, true), (3, true), (4, true), (5, true), (6, true), (7, true), (8, true), (9, true), (1, false), (10, false), (11, true), (12, true), (13, true), (14, true), (15, true), (16, true)] rfl mixed (by kernel_rfl) rfl ?_
|(refine S_id ?_; first
|(refine S_callM (f := 29) rfl obQ (by kernel_rfl) (fun w hw => lwnodes_c A c t hl w (hw.rdm hr.toS memQ)) (fun w1N w2N vN _ _ hRN => ?_); obtain ⟨AN, cN, rfl, hcN, hSN⟩ := hRN)
|(refine S_callM (f := 66) rfl obQ (by kernel_rfl) (fun w hw => lpictures_c (some ad2) c2 l hl2 hsz hAs w (hw.rdm hr2.toS memQ) (fun x hx => hw.rdm (hrp x hx).toS memQ)) (fun w1I w2I vI _ _ hRI => ?_); obtain ⟨AI, cI, lI, rfl, hmI, hSI, hEI⟩ := hRI)
|(refine S_callM (f := 65) rfl obQ (by kernel_rfl) (fun w hw => composed_as hV1 hmI rfl hl hl2 hsz (hw.rdm hSN memQ) (hw.rdm hSI memQ) (fun x hx => hw.rdm (hEI x hx) memQ) (Sh_at hsh hw memQ)) (fun w1P w2P vP _ _ hRP => ?_); obtain ⟨AP, cP, rfl, hSP⟩ := hRP)
|(refine S_callM (f := 28) rfl obQ (by kernel_rfl) (fun w hw => cutb_as hV2 hl hcN (hw.rdm hSN memQ) (Sh_at hsh hw memQ)) (fun w1C w2C vC _ _ hRC => ?_); obtain ⟨AC, cC, BC, dC, rfl, hSC, hTC⟩ := hRC)
|refine S_nil ?_
|refine S_runN rfl rfl obQ obQ ?_
|refine S_box (fun b7 => ⟨_, _, rfl, obQ, ?_⟩))
|refine V_nil ?_
|refine V_q rfl (Yl_step rfl obQ) ?_
|refine V_n rfl ?_
|refine G_V ⟨⟨_, rfl, trivial⟩, ⟨_, rfl⟩, rfl, pstQ⟩ rfl ?_
|refine G_then ?_)
  repeat' (first
|(refine C_id ?_; first
|refine C_seq ?_
|refine C_regionNe 7 rfl rfl ?_
|refine C_skip ?_
|refine C_condF rfl obQ ?_)
|(refine S_id ?_; first
|((with_reducible (first | refine S_falseN ?_ ?_ | refine S_falseB ?_ ?_ | refine S_falseL ?_ ?_ | refine S_falseD ?_ ?_ | refine S_falseE ?_ ?_)); · (first | rfl | omega | exact decide_eq_false (by omega)))
|((with_reducible refine S_falseO ?_ ?_ ?_); (· rfl); (· first | rfl | (first | rfl | omega | exact decide_eq_false (by omega))))
|refine S_unG rfl rfl rfl rfl ?_
|refine S_one rfl obQ ?_
|(refine S_callM (f := 37) rfl obQ (by kernel_rfl) (fun w hw => lwown_c AC cC (bkP t j) hkP w (hw.rdm hSC memQ)) (fun w1U w2U vU _ _ hRU => ?_); obtain ⟨AU, cU, rfl, hcU, hSU⟩ := hRU)
|(refine S_callM (f := 37) rfl obQ (by kernel_rfl) (fun w hw => lwown_c BC dC (bkQ t j l.length) hkQ w (hw.rdm hTC memQ)) (fun w1V w2V vV _ _ hRV => ?_); obtain ⟨AV, cV, rfl, hcV, hSV⟩ := hRV)
|refine S_nil ?_
|refine S_call (f := 32) rfl obQ (by kernel_rfl) (fun w hw => xtree_as hPt0 hkP (hw.rdm hSU memQ)) ?_
|refine S_call (f := 32) rfl obQ (by kernel_rfl) (fun w hw => xtree_as hQt0 hkQ (hw.rdm hSV memQ)) ?_)
|refine G_then ?_)
  refine C_trim [0, 1, 7, 9, 10] 1 rfl rfl ?_
  repeat' (first
|refine C_seq ?_
|refine C_region rfl ?_
|(refine S_id ?_; first
|(refine S_callM (f := 37) rfl obQ (by kernel_rfl) (fun w hw => lwown_c AC cC (bkP t j) hkP w (hw.rdm hSC memQ)) (fun w1U w2U vU _ _ hRU => ?_); obtain ⟨AU, cU, rfl, hcU, hSU⟩ := hRU)
|(refine S_callM (f := 29) rfl obQ (by kernel_rfl) (fun w hw => lwnodes_c AU cU (bkP t j) hkP w (hw.rdm hSU memQ)) (fun w1X w2X vX _ _ hRX => ?_); obtain ⟨AX, cX, rfl, hcX, hSX⟩ := hRX)
|(refine S_callM (f := 66) rfl obQ (by kernel_rfl) (fun w hw => lpictures_c (some ad2) c2 l hl2 hsz hAs w (hw.rdm hr2.toS memQ) (fun x hx => hw.rdm (hrp x hx).toS memQ)) (fun w1I w2I vI _ _ hRI => ?_); obtain ⟨AI, cI, lI, rfl, hmI, hSI, hEI⟩ := hRI)
|(refine S_callM (f := 65) rfl obQ (by kernel_rfl) (fun w hw => composed_as hVb hmI rfl hkP hl2 hsz (hw.rdm hSX memQ) (hw.rdm hSI memQ) (fun x hx => hw.rdm (hEI x hx) memQ) (Sh_at hsh hw memQ)) (fun w1D w2D vD _ _ hRD => ?_); obtain ⟨AD, cD, rfl, hSD⟩ := hRD)
|refine S_nil ?_
|refine S_runN rfl rfl obQ obQ ?_
|refine S_box (fun b12 => ⟨_, _, rfl, obQ, ?_⟩))
|refine G_then ?_)
  obtain ⟨adD, rfl⟩ := rdS_some' hSD (by rw [List.length_map]; omega)
  refine C_trim [0, 1, 7, 9, 10, 12, 13] 2 rfl rfl ?_
  repeat' (first
|(refine C_id ?_; first
|refine C_seq ?_
|refine C_skip ?_
|refine C_drawV (id := 8) 24 [(0, true), (1, false), (2, false), (3, true), (4, false), (5, false), (6, false), (7, true), (8, false), (9, true), (10, true), (11, true), (12, true), (13, true), (14, false), (15, false), (16, true), (17, false), (18, true), (19, true), (20, true), (21, true), (22, true), (23, false)] rfl mixed (by kernel_rfl) rfl ?_
|refine C_condF rfl obQ ?_)
|(refine S_id ?_; first
|((with_reducible (first | refine S_falseN ?_ ?_ | refine S_falseB ?_ ?_ | refine S_falseL ?_ ?_ | refine S_falseD ?_ ?_ | refine S_falseE ?_ ?_)); · (first | rfl | omega | exact decide_eq_false (by omega) | exact bne_eq_false_iff_eq.2 hyw | exact bne_eq_false_iff_eq.2 hyh))
|((with_reducible refine S_falseO ?_ ?_ ?_); (· rfl); (· first | rfl | (first | rfl | omega | exact decide_eq_false (by omega) | exact bne_eq_false_iff_eq.2 hyw | exact bne_eq_false_iff_eq.2 hyh)))
|refine S_unG rfl rfl rfl rfl ?_
|refine S_solid 119 rfl (by first | rfl | assumption) ?_
|refine S_solid 125 rfl (by first | rfl | assumption) ?_
|refine S_solid 126 rfl (by first | rfl | assumption) ?_
|refine S_solid 127 rfl (by first | rfl | assumption) ?_
|refine S_solid 128 rfl (by first | rfl | assumption) ?_
|refine S_solid 129 rfl (by first | rfl | assumption) ?_
|refine S_solid 134 rfl (by first | rfl | assumption) ?_
|refine S_solid 135 rfl (by first | rfl | assumption) ?_
|refine S_solid 136 rfl (by first | rfl | assumption) ?_
|refine S_solid 137 rfl (by first | rfl | assumption) ?_
|refine S_solid 138 rfl (by first | rfl | assumption) ?_
|refine S_load rfl obQ rfl [.int .i64 (gQ l 0).p.w] (.past (w, fun b => b < w.heap.size) memQ _ _ hr2.toS (Int.toNat 0 * 4 + 1) _ rfl (by first | exact add_of_add _ _ _ | rfl) (gQ_f (l := l) (k := 0) rfl h0 1 rfl)) rfl (.inr ⟨rfl, rfl⟩) ?_
|refine S_load rfl obQ rfl [.int .i64 (gQ l 0).p.h] (.past (w, fun b => b < w.heap.size) memQ _ _ hr2.toS (Int.toNat 0 * 4 + 2) _ rfl (by first | exact add_of_add _ _ _ | rfl) (gQ_f (l := l) (k := 0) rfl h0 2 rfl)) rfl (.inr ⟨rfl, rfl⟩) ?_
|refine S_one rfl obQ ?_
|refine S_nil ?_
|refine S_call (f := 72) rfl obQ (by kernel_rfl) (fun w hw => ltold_c yb (some adD) cD w) ?_
|refine S_call (f := 60) rfl obQ (by kernel_rfl) (fun w hw => xcp_as hpb hbb hnb (hw.rdm hSD memQ)) ?_)
|refine V_nil ?_
|refine V_q rfl (Yl_step rfl obQ) ?_
|refine V_n rfl ?_
|refine G_V ⟨⟨_, rfl, trivial⟩, ⟨_, rfl⟩, rfl, pstQ⟩ rfl ?_
|refine G_then ?_)
  refine C_weak (Ps' := [(w2D, fun b => w1D.heap.size ≤ b ∧ b < w2D.heap.size), (w2C, fun b => w1C.heap.size ≤ b ∧ b < w2C.heap.size), (w2P, fun b => w1P.heap.size ≤ b ∧ b < w2P.heap.size), (w, fun b => b < w.heap.size)]) (σ' := ⟨[(0, .s (.v (.slice A t.length c))), (1, .s (.v (.slice (some ad2) l.length c2))), (7, .s (.p b7 0 0)), (9, .s (.v (.slice AC (bkP t j).length cC))), (10, .s (.v (.slice BC (bkQ t j l.length).length dC))), (12, .s (.p b12 1 0))], [⟨b7, 70, [.v (.string y1.nm), .v (.int .i64 y1.w), .v (.int .i64 y1.h), .v (.slice AP y1.s.length cP)]⟩, ⟨b12, 70, [.v (.string yb.nm), .v (.int .i64 yb.w), .v (.int .i64 yb.h), .v (.slice (some adD) yb.s.length cD)]⟩], []⟩) ⟨⟨_, rfl, obQ⟩, ⟨_, rfl⟩, rfl, psQ⟩ ?_
  refine C_cut (fun U : SlA (y1.s.map (.float .f32)) × Nat => ([U.1.ps, (w2D, fun b => w1D.heap.size ≤ b ∧ b < w2D.heap.size), (w2C, fun b => w1C.heap.size ≤ b ∧ b < w2C.heap.size), (w2P, fun b => w1P.heap.size ≤ b ∧ b < w2P.heap.size), (w, fun b => b < w.heap.size)], (⟨[(0, .s (.v (.slice A t.length c))), (1, .s (.v (.slice (some ad2) l.length c2))), (7, .s (.p b7 0 0)), (9, .s (.v (.slice AC (bkP t j).length cC))), (10, .s (.v (.slice BC (bkQ t j l.length).length dC))), (12, .s (.p b12 1 0)), (14, .s (.p U.2 2 0)), (15, .s (.v (.int .i64 0)))], [⟨b7, 70, [.v (.string y1.nm), .v (.int .i64 y1.w), .v (.int .i64 y1.h), .v (.slice AP y1.s.length cP)]⟩, ⟨b12, 70, [.v (.string yb.nm), .v (.int .i64 yb.w), .v (.int .i64 yb.h), .v (.slice (some adD) yb.s.length cD)]⟩, ⟨U.2, 70, [.v (.string y1.nm), .v (.int .i64 y1.w), .v (.int .i64 y1.h), .v (.slice U.1.A y1.s.length U.1.c)]⟩], []⟩ : St))) ?_ (fun U => ?_)
  · repeat' (first
|refine C_drawTr0 (id := 10) 16 (.q 0 (.q 3 (.q 5 (.two 1 14 (.two 2 14 (.two 4 14 (.two 6 14 (.two 7 14 (.two 8 14 (.two 9 14 (.two 10 14 (.q 11 (.q 12 (.q 13 (.n 14 (.n 15 .nil))))) (.n 10 (.q 11 (.q 12 (.q 13 (.n 15 .nil)))))) (.n 9 (.n 10 (.q 11 (.q 12 (.q 13 (.n 15 .nil))))))) (.n 8 (.n 9 (.n 10 (.q 11 (.q 12 (.q 13 (.n 15 .nil)))))))) (.n 7 (.n 8 (.n 9 (.n 10 (.q 11 (.q 12 (.q 13 (.n 15 .nil))))))))) (.n 6 (.n 7 (.n 8 (.n 9 (.n 10 (.q 11 (.q 12 (.q 13 (.n 15 .nil)))))))))) (.n 4 (.n 6 (.n 7 (.n 8 (.n 9 (.n 10 (.q 11 (.q 12 (.q 13 (.n 15 .nil))))))))))) (.n 2 (.n 4 (.n 6 (.n 7 (.n 8 (.n 9 (.n 10 (.q 11 (.q 12 (.q 13 (.n 15 .nil)))))))))))) (.n 1 (.n 2 (.n 4 (.n 6 (.n 7 (.n 8 (.n 9 (.n 10 (.q 11 (.q 12 (.q 13 (.n 15 .nil)))))))))))))))) rfl mixed (by kernel_rfl) rfl ?_
|(refine S_id ?_; first
|(refine S_callM (f := 37) rfl obQ (by kernel_rfl) (fun w hw => lwown_c BC dC (bkQ t j l.length) hkQ w (hw.rdm hTC memQ)) (fun w1V w2V vV _ _ hRV => ?_); obtain ⟨AV, cV, rfl, hcV, hSV⟩ := hRV)
|(refine S_callM (f := 29) rfl obQ (by kernel_rfl) (fun w hw => lwnodes_c AV cV (bkQ t j l.length) hkQ w (hw.rdm hSV memQ)) (fun w1Y w2Y vY _ _ hRY => ?_); obtain ⟨AY, cY, rfl, hcY, hSY⟩ := hRY)
|(refine S_callMW 70 4 (f := 66) rfl obQ (by kernel_rfl) (fun w hw => lpicturesW_c (some ad2) c2 l hl2 hsz hAs w (hw.rdm hr2.toS memQ) (fun x hx => hw.rdm (hrp x hx).toS memQ)) (fun w1J w2J vJ TJ nJ xJ hbJ hRJ => ?_); obtain ⟨AJ, cJ, lJ, rfl, rfl, rfl, hmJ, hEJ⟩ := hRJ; clear hbJ)
|(refine S_callM (f := 42) rfl obQ (by kernel_rfl) (fun w hw => lgiven_c yb (some adD) cD hbb (fun h => by cases h) w (hw.rdm hSD memQ)) (fun w1G w2G vG _ _ hRG => ?_); obtain ⟨AG, cG, rfl, hSG⟩ := hRG)
|refine S_asRow 147 0 rfl rfl rfl ?_
|refine S_append rfl obQ rfl rfl rfl ⟨by decide, rfl⟩ rfl ⟨rfl, rfl, rfl, rfl⟩ [.string yb.nm, .int .i64 yb.w, .int .i64 yb.h, .slice AG yb.s.length cG] ⟨by decide, rfl⟩ (by simp [Value.oneCell']) (fun w hw => by first | exact hw.src (i := 0) rfl rfl | exact hw.src (i := 1) rfl rfl | exact hw.src (i := 2) rfl rfl | exact hw.src (i := 3) rfl rfl | exact hw.src (i := 4) rfl rfl | exact hw.src (i := 5) rfl rfl | exact hw.src (i := 6) rfl rfl | exact hw.src (i := 7) rfl rfl | exact hw.src (i := 8) rfl rfl) (by unfold maxLen; dsimp only; omega) (fun gb cap' => ⟨_, rfl, ?_⟩)
|(refine S_callM (f := 65) rfl obQ (by kernel_rfl) (fun w hw => composedK_as hV3 hmJ hkQ hsp.1 hsz hbb (hw.rdm hSY memQ) (hw.rdRow (i := 0) rfl rfl) (fun x hx => hw.rdm (hEJ x hx) memQ) (hw.rdm hSG memQ) (Sh_at hsh hw memQ)) (fun w1K w2K vK _ _ hRK => ?_); obtain ⟨AK, cK, rfl, hSK⟩ := hRK)
|refine S_nil ?_
|refine S_run rfl rfl obQ obQ ?_
|refine S_box (fun b14 => ⟨_, _, rfl, obQ, ?_⟩)
|refine S_slice (fun b => ⟨_, _, rfl, obQ, ?_⟩)
|refine S_call (f := 72) rfl obQ (by kernel_rfl) (fun w hw => ltold_c yb (some adD) cD w) ?_)
|(refine VT_id ?_; first
|refine VT_nil ?_
|refine VT_q rfl (Yl_step rfl obQ) ?_
|refine VT_n rfl ?_
|refine VT_two rfl rfl ?_ ?_)
|refine G_VT2 ⟨_, rfl⟩ ⟨_, rfl⟩ pstQ rfl ?_
|refine G_cutB (⟨w1K, w2K, AK, cK, hSK⟩, b14) ⟨_, rfl, obQ⟩ slB rfl psQ)
  dsimp only [SlA.ps]
  repeat' (first
|(refine C_id ?_; first
|refine C_seq ?_
|refine C_skip ?_
|refine C_drawV (id := 11) 6 [(0, true), (1, false), (2, false), (3, true), (5, true), (4, false)] rfl mixed (by kernel_rfl) rfl ?_
|refine C_condF rfl obQ ?_)
|(refine S_id ?_; first
|((with_reducible (first | refine S_falseN ?_ ?_ | refine S_falseB ?_ ?_ | refine S_falseL ?_ ?_ | refine S_falseD ?_ ?_ | refine S_falseE ?_ ?_)); · (first | rfl | omega | exact decide_eq_false (by omega)))
|((with_reducible refine S_falseO ?_ ?_ ?_); (· rfl); (· first | rfl | (first | rfl | omega | exact decide_eq_false (by omega))))
|refine S_unG rfl rfl rfl rfl ?_
|refine S_solid 159 rfl (by first | rfl | assumption) ?_
|refine S_solid 161 rfl (by first | rfl | assumption) ?_
|refine S_one rfl obQ ?_
|refine S_nil ?_
|refine S_call (f := 72) rfl obQ (by kernel_rfl) (fun w hw => ltold_c y1 AP cP w) ?_
|refine S_call (f := 72) rfl obQ (by kernel_rfl) (fun w hw => ltold_c y1 U.1.A U.1.c w) ?_
|refine S_call (f := 73) rfl obQ (by kernel_rfl) (fun w hw => rSameP_c y1 U.1.A AP U.1.c cP hb1 hf1 w (hw.rdm U.1.h memQ) (hw.rdm hSP memQ)) ?_)
|refine V_nil ?_
|refine V_q rfl (Yl_step rfl obQ) ?_
|refine V_n rfl ?_
|refine G_V ⟨⟨_, rfl, trivial⟩, ⟨_, rfl⟩, rfl, pstQ⟩ rfl ?_
|refine G_then ?_)
  cases hh : (bkQ t j l.length).any (nqB (opN l.length))
  · have hsa := (src_any hQt hm8).trans hh
    have hV4 := join_no ht (show j < t.length by omega) hm8 hh
    repeat' (first
|(refine C_id ?_; first
|refine C_seq ?_
|refine C_region rfl ?_
|refine C_ret0 ?_
|refine C_condT rfl obQ ?_)
|(refine S_id ?_; first
|((with_reducible (first | refine S_trueE ?_ ?_ | refine S_trueB ?_ ?_ | refine S_trueL ?_ ?_ | refine S_trueD ?_ ?_ | refine S_trueN ?_ ?_)); · (first | exact beq_self_eq_true _ | rfl | assumption | omega | exact decide_eq_true (by omega)))
|((with_reducible refine S_trueA ?_ ?_ ?_); (· rfl); (· first | rfl | (first | exact beq_self_eq_true _ | rfl | assumption | omega | exact decide_eq_true (by omega))))
|refine S_unG rfl rfl rfl rfl ?_
|refine S_one rfl obQ ?_
|(refine S_callM (f := 37) rfl obQ (by kernel_rfl) (fun w hw => lwown_c AC cC (bkP t j) hkP w (hw.rdm hSC memQ)) (fun w1U w2U vU _ _ hRU => ?_); obtain ⟨AU, cU, rfl, hcU, hSU⟩ := hRU)
|(refine S_callM (f := 29) rfl obQ (by kernel_rfl) (fun w hw => lwnodes_c AU cU (bkP t j) hkP w (hw.rdm hSU memQ)) (fun w1X w2X vX _ _ hRX => ?_); obtain ⟨AX, cX, rfl, hcX, hSX⟩ := hRX)
|(refine S_callM (f := 37) rfl obQ (by kernel_rfl) (fun w hw => lwown_c BC dC (bkQ t j l.length) hkQ w (hw.rdm hTC memQ)) (fun w1V w2V vV _ _ hRV => ?_); obtain ⟨AV, cV, rfl, hcV, hSV⟩ := hRV)
|(refine S_callM (f := 29) rfl obQ (by kernel_rfl) (fun w hw => lwnodes_c AV cV (bkQ t j l.length) hkQ w (hw.rdm hSV memQ)) (fun w1Y w2Y vY _ _ hRY => ?_); obtain ⟨AY, cY, rfl, hcY, hSY⟩ := hRY)
|(refine S_callM (f := 30) rfl obQ (by kernel_rfl) (fun w hw => joinb_as hV4 hkP hkQ (hw.rdm hSX memQ) (hw.rdm hSY memQ) (Sh_at hsh hw memQ)) (fun w1L w2L vL _ _ hRL => ?_); obtain ⟨AL, cL, rfl, hSL⟩ := hRL)
|(refine S_callM (f := 46) rfl obQ (by kernel_rfl) (fun w hw => xSources_c AV cV (bkQ t j l.length) hkQ w (hw.rdm hSV memQ)) (fun w1S w2S vS _ _ hRS => ?_); obtain ⟨AS, cS, rfl, hSS⟩ := hRS)
|refine S_nil ?_
|refine S_call (f := 17) rfl obQ (by kernel_rfl) (fun w hw => mawake_c w (Sh_at hsh hw memQ) (Pw_at hP hw memQ)) ?_
|refine S_call (f := 74) rfl obQ (by kernel_rfl) (fun w hw => xHasInt_as hsa rfl (sc_len _) w (hw.rdm hSS memQ)) ?_)
|refine G_then ?_
|refine G_thenR ?_
|refine G_ret rfl obQ (fun w hw => ⟨?_, hw.below⟩))
    all_goals rfl
  · have hsa := (src_any hQt hm8).trans hh
    have hV4 := join_of ht (show j < t.length by omega) h7 hm8 hh
    have hJt := bkJ_tr ht (show j < t.length by omega) h7 hm8
    have hJt0 := tr_ok.2 hJt
    have hkJ : (bkJ t j l.length).length ≤ 1000000 := by have := hJt.n; omega
    have hV5 : cmR' (bkJ t j l.length) l = (y1, 0) := cm_of hJt (bkJ_pc ht hp (by omega) (by omega)) hW hH ((bkJ_ti ht hp (by omega) h7 (by omega) hW hH).trans hy1)
    repeat' (first
|(refine C_id ?_; first
|refine C_seq ?_
|refine C_region rfl ?_
|refine C_skip ?_
|refine C_ret0 ?_
|refine C_drawV (id := 19) 6 [(0, true), (1, false), (2, false), (3, true), (5, true), (4, false)] rfl mixed (by kernel_rfl) rfl ?_
|refine C_condF rfl obQ ?_)
|(refine S_id ?_; first
|((with_reducible (first | refine S_falseN ?_ ?_ | refine S_falseB ?_ ?_ | refine S_falseL ?_ ?_ | refine S_falseD ?_ ?_ | refine S_falseE ?_ ?_)); · (first | rfl | omega | exact decide_eq_false (by omega)))
|((with_reducible refine S_falseO ?_ ?_ ?_); (· rfl); (· first | rfl | (first | rfl | omega | exact decide_eq_false (by omega))))
|((with_reducible (first | refine S_trueE ?_ ?_ | refine S_trueB ?_ ?_ | refine S_trueL ?_ ?_ | refine S_trueD ?_ ?_ | refine S_trueN ?_ ?_)); · (first | exact beq_self_eq_true _ | rfl | assumption | omega | exact decide_eq_true (by omega)))
|((with_reducible refine S_trueA ?_ ?_ ?_); (· rfl); (· first | rfl | (first | exact beq_self_eq_true _ | rfl | assumption | omega | exact decide_eq_true (by omega))))
|refine S_unG rfl rfl rfl rfl ?_
|refine S_solid 210 rfl (by first | rfl | assumption) ?_
|refine S_solid 212 rfl (by first | rfl | assumption) ?_
|refine S_one rfl obQ ?_
|(refine S_callM (f := 37) rfl obQ (by kernel_rfl) (fun w hw => lwown_c AC cC (bkP t j) hkP w (hw.rdm hSC memQ)) (fun w1U w2U vU _ _ hRU => ?_); obtain ⟨AU, cU, rfl, hcU, hSU⟩ := hRU)
|(refine S_callM (f := 29) rfl obQ (by kernel_rfl) (fun w hw => lwnodes_c AU cU (bkP t j) hkP w (hw.rdm hSU memQ)) (fun w1X w2X vX _ _ hRX => ?_); obtain ⟨AX, cX, rfl, hcX, hSX⟩ := hRX)
|(refine S_callM (f := 37) rfl obQ (by kernel_rfl) (fun w hw => lwown_c BC dC (bkQ t j l.length) hkQ w (hw.rdm hTC memQ)) (fun w1V w2V vV _ _ hRV => ?_); obtain ⟨AV, cV, rfl, hcV, hSV⟩ := hRV)
|(refine S_callM (f := 29) rfl obQ (by kernel_rfl) (fun w hw => lwnodes_c AV cV (bkQ t j l.length) hkQ w (hw.rdm hSV memQ)) (fun w1Y w2Y vY _ _ hRY => ?_); obtain ⟨AY, cY, rfl, hcY, hSY⟩ := hRY)
|(refine S_callM (f := 30) rfl obQ (by kernel_rfl) (fun w hw => joinb_as hV4 hkP hkQ (hw.rdm hSX memQ) (hw.rdm hSY memQ) (Sh_at hsh hw memQ)) (fun w1L w2L vL _ _ hRL => ?_); obtain ⟨AL, cL, rfl, hSL⟩ := hRL)
|(refine S_callM (f := 46) rfl obQ (by kernel_rfl) (fun w hw => xSources_c AV cV (bkQ t j l.length) hkQ w (hw.rdm hSV memQ)) (fun w1S w2S vS _ _ hRS => ?_); obtain ⟨AS, cS, rfl, hSS⟩ := hRS)
|(refine S_callM (f := 37) rfl obQ (by kernel_rfl) (fun w hw => lwown_c AL cL (bkJ t j l.length) hkJ w (hw.rdm hSL memQ)) (fun w1Z w2Z vZ _ _ hRZ => ?_); obtain ⟨AZ, cZ, rfl, hcZ, hSZ⟩ := hRZ)
|(refine S_callM (f := 29) rfl obQ (by kernel_rfl) (fun w hw => lwnodes_c AZ cZ (bkJ t j l.length) hkJ w (hw.rdm hSZ memQ)) (fun w1R w2R vR _ _ hRR => ?_); obtain ⟨AR, cR, rfl, hcR, hSR⟩ := hRR)
|(refine S_callM (f := 66) rfl obQ (by kernel_rfl) (fun w hw => lpictures_c (some ad2) c2 l hl2 hsz hAs w (hw.rdm hr2.toS memQ) (fun x hx => hw.rdm (hrp x hx).toS memQ)) (fun w1I w2I vI _ _ hRI => ?_); obtain ⟨AI, cI, lI, rfl, hmI, hSI, hEI⟩ := hRI)
|(refine S_callM (f := 65) rfl obQ (by kernel_rfl) (fun w hw => composed_as hV5 hmI rfl hkJ hl2 hsz (hw.rdm hSR memQ) (hw.rdm hSI memQ) (fun x hx => hw.rdm (hEI x hx) memQ) (Sh_at hsh hw memQ)) (fun w1M w2M vM _ _ hRM => ?_); obtain ⟨AM, cM, rfl, hSM⟩ := hRM)
|refine S_nil ?_
|refine S_box (fun bb => ⟨_, _, rfl, obQ, ?_⟩)
|refine S_call (f := 17) rfl obQ (by kernel_rfl) (fun w hw => mawake_c w (Sh_at hsh hw memQ) (Pw_at hP hw memQ)) ?_
|refine S_call (f := 72) rfl obQ (by kernel_rfl) (fun w hw => ltold_c y1 AP cP w) ?_
|refine S_call (f := 72) rfl obQ (by kernel_rfl) (fun w hw => ltold_c y1 AM cM w) ?_
|refine S_call (f := 73) rfl obQ (by kernel_rfl) (fun w hw => rSameP_c y1 AM AP cM cP hb1 hf1 w (hw.rdm hSM memQ) (hw.rdm hSP memQ)) ?_
|refine S_call (f := 74) rfl obQ (by kernel_rfl) (fun w hw => xHasInt_as hsa rfl (sc_len _) w (hw.rdm hSS memQ)) ?_
|refine S_call (f := 32) rfl obQ (by kernel_rfl) (fun w hw => xtree_as hJt0 hkJ (hw.rdm hSZ memQ)) ?_)
|refine V_nil ?_
|refine V_q rfl (Yl_step rfl obQ) ?_
|refine V_n rfl ?_
|refine G_V ⟨⟨_, rfl, trivial⟩, ⟨_, rfl⟩, rfl, pstQ⟩ rfl ?_
|refine G_then ?_
|refine G_ret rfl obQ (fun w hw => ⟨?_, hw.below⟩))
    all_goals rfl
end Go.Proofs.YtjkgklhjbopoaaaGreatDoor
