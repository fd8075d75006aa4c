/- The law between pictures: the walk. -/
import Derived.Test.YtjkgklhjbopoaaaGreatDoorMixer101
namespace Go.Proofs.YtjkgklhjbopoaaaGreatDoor
open Go.E Go.RowKit Go.Fl
attribute [local irreducible] G C S D Calls
set_option maxRecDepth 100000
set_option linter.all false
set_option maxHeartbeats 8000000
theorem lBetween_c (p q : Pic) (A : Option Addr) (c : Nat) (B : Option Addr) (c2 : Nat) (D : Option Addr) (c3 : Nat) (k : List Int) (E : Option Addr) (c4 : Nat) (k2 : List Int) (hnm : p.nm.size ≤ maxLen) (hnm2 : q.nm.size ≤ maxLen) (w : World) (hr : Rd w A (p.s.map (.float .f32))) (hr2 : Rd w B (q.s.map (.float .f32))) (hr3 : Rd w D (k.map (.int .i64))) (hr4 : Rd w E (k2.map (.int .i64))) (hsh : Sh w) (hP : Pw w) : Calls Tryz.prog 13 #[.agg #[.string p.nm, .int .i64 p.w, .int .i64 p.h, .slice A p.s.length c, .string q.nm, .int .i64 q.w, .int .i64 q.h, .slice B q.s.length c2], .agg #[.slice D k.length c3, .slice E k2.length c4]] w fun r w' => r = .returned (.bool true) ∧ Below w.heap.size w w' := by
  refine calls_of T_ok Tryz.func13 rfl Tryz.ntmps13 (Nat.le_of_ble_eq_true rfl) rfl ?_
  cases hS : (shortB p && shortB q)
  rotate_left 1
  have hS2 := (Bool.and_eq_true _ _).mp hS
  have hs : p.s.length ≤ 1000000 := by have := (shortB_ok hS2.1).2; omega
  have hs2 : q.s.length ≤ 1000000 := by have := (shortB_ok hS2.2).2; omega
  obtain ⟨t, hT⟩ : ∃ e, twE p q = e := ⟨_, rfl⟩
  by_cases hC : t = 0
  subst hC
  obtain ⟨u, hU⟩ : ∃ e, kdE p k = e := ⟨_, rfl⟩
  by_cases hC2 : u = 0
  subst hC2
  obtain ⟨v, hV⟩ : ∃ e, kdE p k2 = e := ⟨_, rfl⟩
  by_cases hC3 : v = 0
  rotate_left 1
  iterate 4
    · repeat' (first
|(refine C_id ?_; first
|refine C_seq ?_
|refine C_region rfl ?_
|refine C_ret0 ?_
|refine C_condT rfl obQ ?_)
|(refine S_id ?_; first
|((with_reducible (first | refine S_falseN ?_ ?_ | refine S_falseB ?_ ?_ | refine S_falseL ?_ ?_ | refine S_falseD ?_ ?_ | refine S_falseE ?_ ?_)); · (first | rfl | omega | exact decide_eq_false (by omega) | exact bne_eq_false_iff_eq.2 (by omega) | exact beq_eq_false_iff_ne.2 (by omega)))
|((with_reducible refine S_falseO ?_ ?_ ?_); (· rfl); (· first | rfl | (first | rfl | omega | exact decide_eq_false (by omega) | exact bne_eq_false_iff_eq.2 (by omega) | exact beq_eq_false_iff_ne.2 (by omega))))
|((with_reducible (first | refine S_trueE ?_ ?_ | refine S_trueB ?_ ?_ | refine S_trueL ?_ ?_ | refine S_trueD ?_ ?_ | refine S_trueN ?_ ?_)); · (first | rfl | assumption | omega | exact decide_eq_true (by omega) | exact beq_self_eq_true _ | exact bne_iff_ne.2 (by assumption)))
|refine S_unG rfl rfl rfl rfl ?_
|refine S_pure (sliceX_pure rfl obQ (fun w => sl_arr Tryz.underlying87 (by kernel_rfl) _ w)) ?_
|refine S_offG (.v (.bool false)) rfl rfl rfl rfl rfl ?_
|refine S_one rfl obQ ?_
|refine S_nil ?_
|refine S_box (fun bb => ⟨_, _, rfl, obQ, ?_⟩)
|refine S_call (f := 17) rfl obQ (by kernel_rfl) (fun w hw => mawake_c w (Sh_at hsh hw memQ) (Pw_at hP hw memQ)) ?_
|refine S_call (f := 52) rfl obQ (by kernel_rfl) (fun w hw => shps_as (p := p) (q := q) (A := A) (B := B) (c := c) (c2 := c2) hS (.inr ⟨_, rfl, hw.src (i := 0) rfl rfl⟩)) ?_
|refine S_call (f := 57) rfl obQ (by kernel_rfl) (fun w hw => tw_as hT hs hs2 hnm hnm2 (hw.rdm hr.toS memQ) (hw.rdm hr2.toS memQ)) ?_
|refine S_call (f := 61) rfl obQ (by kernel_rfl) (fun w hw => xckdU_as hU (hw.rdm hr3.toS memQ)) ?_
|refine S_call (f := 61) rfl obQ (by kernel_rfl) (fun w hw => xckdU_as hV (hw.rdm hr4.toS memQ)) ?_)
|refine G_then ?_
|refine G_thenR ?_
|refine G_ret rfl obQ (fun w hw => ⟨?_, hw.below⟩))
      all_goals rfl
  subst hC3
  obtain ⟨hp, hq, hpw, hph⟩ := tw_ok.1 hT
  have hpq := tw_len hT
  obtain ⟨hk, hkl⟩ := kd_ok.1 hU
  obtain ⟨hk2, hkl2⟩ := kd_ok.1 hV
  have hp0 := pic_len hp
  have hn0 := Kp.mk hk.n
  have hl : k.length ≤ 1000000 := by omega
  have hl2 : k2.length ≤ 1000000 := by omega
  obtain ⟨adA, rfl⟩ := hr.some (by rw [List.length_map]; omega)
  obtain ⟨adB, rfl⟩ := hr2.some (by rw [List.length_map]; omega)
  obtain ⟨adD, rfl⟩ := hr3.some (by rw [List.length_map]; omega)
  obtain ⟨adE, rfl⟩ := hr4.some (by rw [List.length_map]; omega)
  obtain ⟨lm, hlm⟩ : ∃ l, mxL p q k = l := ⟨_, rfl⟩
  have hlml : Kp (lm.length = p.s.length) := ⟨by rw [← hlm]; simp [mxL]⟩
  have hlmb : lvB lm = true := by rw [← hlm]; exact mx_lv hp hq hk hkl hpq
  obtain ⟨s1, hs1⟩ : ∃ s, lm.map smp = s := ⟨_, rfl⟩
  have hn1 : Kp (s1.length = p.s.length) := ⟨by rw [← hs1, List.length_map]; exact hlml.h⟩
  have hV1 : mxR p q k = (⟨p.nm, p.w, p.h, s1⟩, 0) := by rw [← hs1]; exact mx_ev hT hk hkl hlm
  obtain ⟨ki, hki⟩ : ∃ l, (k.map fun x => 256 - x) = l := ⟨_, rfl⟩
  have hkin : Kp (ki.length = k.length) := ⟨by rw [← hki, List.length_map]⟩
  have hkio : KeOk ki := by rw [← hki]; exact iv_ok hk
  have hV2 : kvR k = (ki, 0) := by rw [← hki]; exact if_pos (ke_ok.2 hk)
  have hV3 : mxR q p ki = (⟨q.nm, q.w, q.h, s1⟩, 0) := by rw [← hs1]; exact mx_ev (tw_sym hT) hkio (hkin.h.trans (hkl.trans hpq.symm)) (by rw [← hki, mx_inv hpq hkl]; exact hlm)
  have hbet := bet_all hT hk hkl hlm hlml.h hs1
  have hf1 : ∀ x ∈ s1, Fin32 x := by rw [← hs1]; exact wi_fin (p := p) hlmb
  obtain ⟨kz, hkz⟩ : ∃ l, zKy k.length = l := ⟨_, rfl⟩
  obtain ⟨kf, hkf⟩ : ∃ l, fKy k.length = l := ⟨_, rfl⟩
  have hkzl : Kp (kz.length = k.length) := ⟨by rw [← hkz, zK_len]⟩
  have hkfl : Kp (kf.length = k.length) := ⟨by rw [← hkf, fK_len]⟩
  have hzo : KeOk kz := by rw [← hkz]; exact zK_ok hn0.h
  have hfo : KeOk kf := by rw [← hkf]; exact fK_ok hn0.h
  obtain ⟨sa, hsa⟩ : ∃ s, (lvs p).map smp = s := ⟨_, rfl⟩
  obtain ⟨sq, hsq⟩ : ∃ s, (lvs q).map smp = s := ⟨_, rfl⟩
  have hnsa : Kp (sa.length = p.s.length) := ⟨by rw [← hsa, List.length_map, lvs_len]⟩
  have hnsq : Kp (sq.length = p.s.length) := ⟨by rw [← hsq, List.length_map, lvs_len]; exact hpq⟩
  have hBa : sa.map B32 = p.s.map B32 := by rw [← hsa]; exact wi_B32 (p' := p) hp
  have hBq : sq.map B32 = q.s.map B32 := by rw [← hsq]; exact wi_B32 (p' := p) hq
  have hfa : ∀ x ∈ sa, Fin32 x := by rw [← hsa]; exact wi_fin' hp (p' := p)
  have hfq : ∀ x ∈ sq, Fin32 x := by rw [← hsq]; exact wi_fin' hq (p' := p)
  have hfp := pic_fin hp
  have hfq2 := pic_fin hq
  have hVa : mxR p q kz = (⟨p.nm, p.w, p.h, sa⟩, 0) := by rw [← hsa]; exact mx_ev hT hzo (hkzl.h.trans hkl) (by rw [← hkz]; exact mx_zero _)
  have hVb : mxR p q kf = (⟨p.nm, p.w, p.h, sq⟩, 0) := by rw [← hsq]; exact mx_ev hT hfo (hkfl.h.trans hkl) (by rw [← hkf, hkl]; exact mx_fullK hpq)
  have hVu : usR p kf = (⟨p.nm, p.w, p.h, sa⟩, 0) := by rw [← hsa]; exact us_ev hp hfo (hkfl.h.trans hkl) (by rw [← hkf, hkl]; exact us_fullK)
  have hVv : ovR p q kf = (⟨p.nm, p.w, p.h, sa⟩, 0) := by rw [← hsa]; exact ov_ev hT hfo (hkfl.h.trans hkl) (by rw [← hkf, hkl]; exact ov_fullK) (lvs_bd hp)
  obtain ⟨lc, hlc⟩ : ∃ l, zwI (fun x y => min x y) k k2 = l := ⟨_, rfl⟩
  obtain ⟨ld, hld⟩ : ∃ l, zwI (fun x y => max x y) k k2 = l := ⟨_, rfl⟩
  have hlcn : Kp (lc.length = k.length) := ⟨by rw [← hlc, zwI_len]⟩
  have hldn : Kp (ld.length = k.length) := ⟨by rw [← hld, zwI_len]⟩
  have hkk : kkE k k2 = 0 := kk_ok.2 ⟨hk, hk2, hkl.trans hkl2.symm⟩
  have hVc : tgR (fun x y => min x y) k k2 = (lc, 0) := by rw [← hlc]; exact if_pos hkk
  have hVd : tgR (fun x y => max x y) k k2 = (ld, 0) := by rw [← hld]; exact if_pos hkk
  have hcd := cd_all hk hk2 (hkl.trans hkl2.symm) hlc hld
  obtain ⟨sp, hsp⟩ : ∃ s, p.s.map fAb = s := ⟨_, rfl⟩
  have hnsp : Kp (sp.length = p.s.length) := ⟨by rw [← hsp, List.length_map]⟩
  obtain ⟨lf, hlf⟩ : ∃ l, zwI paF (lvs (abP p)) k = l := ⟨_, rfl⟩
  obtain ⟨hfb, hlfn, hCf0⟩ := pos_fill hp hk hkl hlf
  replace hlfn := Kp.mk hlfn
  obtain ⟨sf, hsf⟩ : ∃ s, lf.map smp = s := ⟨_, rfl⟩
  have hnsf : Kp (sf.length = p.s.length) := ⟨by rw [← hsf, List.length_map]; exact hlfn.h⟩
  have hVp : pmR ⟨p.nm, p.w, p.h, sp⟩ k = (⟨p.nm, p.w, p.h, sf⟩, 0) := by rw [← hsp, ← hsf]; exact pm_ev (abP_ok hp) hk (hkl.trans abP_len.symm) hlf
  have hfok : PicOk ⟨p.nm, p.w, p.h, sf⟩ := by rw [← hsf]; exact wi_ok (p := abP p) (abP_ok hp) (hlfn.h.trans abP_len.symm) hfb
  have hpf := Kp.mk (pic_ok.2 hfok)
  have hCf : Kp (cfE ⟨p.nm, p.w, p.h, sf⟩ k = 0) := by rw [← hsf]; exact ⟨hCf0⟩
  clear hCf0
  have hff := pic_fin hfok
  obtain ⟨W, hW⟩ := Int.eq_ofNat_of_zero_le (Int.le_trans (by decide) hp.w.1)
  obtain ⟨H, hH⟩ := Int.eq_ofNat_of_zero_le (Int.le_trans (by decide) hp.h.1)
  have hWH : Kp (W * H = p.s.length) := ⟨by
    have h := hp.n
    rw [hW, hH, ← Int.natCast_mul] at h
    exact Int.ofNat.inj h.symm⟩
  obtain ⟨sbk, hsbk⟩ : ∃ s, List.replicate (W * H) 0 = s := ⟨_, rfl⟩
  have hnbk : Kp (sbk.length = p.s.length) := ⟨by rw [← hsbk, List.length_replicate]; exact hWH.h⟩
  have hVo : ∀ nm, isName nm = true → ovR ⟨p.nm, p.w, p.h, sf⟩ ⟨nm, p.w, p.h, sbk⟩ k = (⟨p.nm, p.w, p.h, sf⟩, 0) := fun nm h => by
    have h1 := over_black h hfok hk (hkl.trans hnsf.h.symm) hW hH
    have h2 : wiP ⟨p.nm, p.w, p.h, sf⟩ (lvs ⟨p.nm, p.w, p.h, sf⟩) = ⟨p.nm, p.w, p.h, sf⟩ := by rw [← hsf]; exact wi_wi (p := abP p) hfb
    rw [h2, hsbk, ← hW, ← hH] at h1
    exact h1
  replace hT := Kp.mk hT
  replace hU := Kp.mk hU
  replace hV := Kp.mk hV
  clear hlf hfb hsf hlc hld hkk hki hsa hsq hlm hlmb hs1 hS2 hkio hzo hfo
  repeat' (first
|refine C_seq ?_
|refine C_regionNe 1 rfl rfl ?_
|refine S_nil ?_
|refine S_runN rfl rfl obQ obQ ?_
|refine S_box (fun b3 => ⟨_, _, rfl, obQ, ?_⟩)
|refine G_then ?_)
  rename_i b2
  repeat' (first
|(refine C_id ?_; first
|refine C_seq ?_
|refine C_region rfl ?_
|refine C_skip ?_
|refine C_condF rfl obQ ?_)
|(refine S_id ?_; first
|((with_reducible (first | refine S_falseN ?_ ?_ | refine S_falseB ?_ ?_ | refine S_falseL ?_ ?_ | refine S_falseD ?_ ?_ | refine S_falseE ?_ ?_)); · (first | rfl | omega | exact decide_eq_false (by omega) | exact bne_eq_false_iff_eq.2 (by omega) | exact beq_eq_false_iff_ne.2 (by omega)))
|((with_reducible refine S_falseO ?_ ?_ ?_); (· rfl); (· first | rfl | (first | rfl | omega | exact decide_eq_false (by omega) | exact bne_eq_false_iff_eq.2 (by omega) | exact beq_eq_false_iff_ne.2 (by omega))))
|refine S_unG rfl rfl rfl rfl ?_
|refine S_pure (sliceX_pure rfl obQ (fun w => sl_arr Tryz.underlying87 (by kernel_rfl) _ w)) ?_
|refine S_one rfl obQ ?_
|refine S_nil ?_
|refine S_call (f := 52) rfl obQ (by kernel_rfl) (fun w hw => shps_as (p := p) (q := q) (A := some adA) (B := some adB) (c := c) (c2 := c2) hS (.inr ⟨_, rfl, hw.src (i := 0) rfl rfl⟩)) ?_
|refine S_call (f := 57) rfl obQ (by kernel_rfl) (fun w hw => tw_as hT.h hs hs2 hnm hnm2 (hw.rdm hr.toS memQ) (hw.rdm hr2.toS memQ)) ?_
|refine S_call (f := 61) rfl obQ (by kernel_rfl) (fun w hw => xckdU_as hU.h (hw.rdm hr3.toS memQ)) ?_
|refine S_call (f := 61) rfl obQ (by kernel_rfl) (fun w hw => xckdU_as hV.h (hw.rdm hr4.toS memQ)) ?_)
|refine G_then ?_)
  refine C_cut (fun U : SlA (s1.map (.float .f32)) × Nat => ([U.1.ps, (w, fun b => b < w.heap.size)], (⟨[(2, .s (.p b2 0 0)), (3, .s (.p b3 1 0)), (5, .s (.p U.2 2 0)), (6, .s (.v (.int .i64 0)))], [⟨b2, 87, [.v (.string p.nm), .v (.int .i64 p.w), .v (.int .i64 p.h), .v (.slice (some adA) p.s.length c), .v (.string q.nm), .v (.int .i64 q.w), .v (.int .i64 q.h), .v (.slice (some adB) q.s.length c2)]⟩, ⟨b3, 135, [.v (.slice (some adD) k.length c3), .v (.slice (some adE) k2.length c4)]⟩, ⟨U.2, 70, [.v (.string p.nm), .v (.int .i64 p.w), .v (.int .i64 p.h), .v (.slice U.1.A s1.length U.1.c)]⟩], []⟩ : St))) ?_ (fun U => ?_)
  · repeat' (first
|refine C_drawTr0 (id := 3) 15 (.q 0 (.q 1 (.q 3 (.q 4 (.q 6 (.q 7 (.two 2 13 (.two 5 13 (.two 8 13 (.two 9 13 (.q 10 (.q 11 (.q 12 (.n 13 (.n 14 .nil))))) (.n 9 (.q 10 (.q 11 (.q 12 (.n 14 .nil)))))) (.n 8 (.n 9 (.q 10 (.q 11 (.q 12 (.n 14 .nil))))))) (.n 5 (.n 8 (.n 9 (.q 10 (.q 11 (.q 12 (.n 14 .nil)))))))) (.n 2 (.n 5 (.n 8 (.n 9 (.q 10 (.q 11 (.q 12 (.n 14 .nil))))))))))))))) rfl mixed (by kernel_rfl) rfl ?_
|(refine S_id ?_; first
|(refine S_callM (f := 42) rfl obQ (by kernel_rfl) (fun w hw => lgiven_c p (some adA) c hs (fun h => by cases h) w (hw.rdm hr.toS memQ)) (fun w1O w2O vO hw1O hbO hRO => ?_); obtain ⟨AO, cO, rfl, hSO⟩ := hRO; clear hw1O hbO)
|(refine S_callM (f := 42) rfl obQ (by kernel_rfl) (fun w hw => lgiven_c q (some adB) c2 hs2 (fun h => by cases h) w (hw.rdm hr2.toS memQ)) (fun w1R w2R vR hw1R hbR hRR => ?_); obtain ⟨AR, cR, rfl, hSR⟩ := hRR; clear hw1R hbR)
|(refine S_callM (f := 56) rfl obQ (by kernel_rfl) (fun w hw => lints_c (some adD) c3 k hl (fun h => by cases h) w (hw.rdm hr3.toS memQ)) (fun w1I w2I vI hw1I hbI hRI => ?_); obtain ⟨AI, cI, rfl, hSI⟩ := hRI; clear hw1I hbI)
|(refine S_callM (f := 75) rfl obQ (by kernel_rfl) (fun w hw => mixed_as hV1 hs hs2 hl (hw.rdm hSO memQ) (hw.rdm hSR memQ) (hw.rdm hSI memQ)) (fun w1P w2P vP hw1P hbP hRP => ?_); obtain ⟨AP, cP, rfl, hSP⟩ := hRP; clear hw1P hbP)
|refine S_nil ?_
|refine S_runN rfl rfl obQ obQ ?_
|refine S_box (fun b5 => ⟨_, _, rfl, obQ, ?_⟩))
|(refine VT_id ?_; first
|refine VT_nil ?_
|refine VT_q rfl (Yl_step rfl obQ) ?_
|refine VT_n rfl ?_
|refine VT_two rfl rfl ?_ ?_)
|refine G_VT2 ⟨_, rfl⟩ ⟨_, rfl⟩ pstQ rfl ?_
|refine G_cutB (⟨w1P, w2P, AP, cP, hSP⟩, b5) ⟨_, rfl, obQ⟩ slB rfl psQ)
  obtain ⟨⟨v1, v2, AU, cU, hSU⟩, bU⟩ := U
  dsimp only [SlA.ps]
  obtain ⟨adU, rfl⟩ := rdS_some hSU (by rw [List.length_map, hn1.h]; omega)
  repeat' (first
|refine C_seq ?_
|refine C_region rfl ?_
|(refine S_id ?_; first
|(refine S_callM (f := 56) rfl obQ (by kernel_rfl) (fun w hw => lints_c (some adD) c3 k hl (fun h => by cases h) w (hw.rdm hr3.toS memQ)) (fun w1K w2K vK hw1K hbK hRK => ?_); obtain ⟨AK, cK, rfl, hSK⟩ := hRK; clear hw1K hbK)
|(refine S_callM (f := 87) rfl obQ (by kernel_rfl) (fun w hw => inverted_as hV2 hl (hw.rdm hSK memQ)) (fun w1N w2N vN hw1N hbN hRN => ?_); obtain ⟨AN, cN, rfl, hSN⟩ := hRN; clear hw1N hbN)
|refine S_nil ?_
|refine S_runN rfl rfl obQ obQ ?_)
|refine G_then ?_)
  obtain ⟨adN, rfl⟩ := rdS_some hSN (by rw [List.length_map, hkin.h]; omega)
  refine C_cut (fun U : SlA (s1.map (.float .f32)) × Nat => ([U.1.ps, (v2, fun b => v1.heap.size ≤ b ∧ b < v2.heap.size), (w, fun b => b < w.heap.size)], (⟨[(2, .s (.p b2 0 0)), (3, .s (.p b3 1 0)), (5, .s (.p bU 2 0)), (6, .s (.v (.int .i64 0))), (8, .s (.v (.int .i64 0))), (9, .s (.p U.2 3 0)), (10, .s (.v (.int .i64 0)))], [⟨b2, 87, [.v (.string p.nm), .v (.int .i64 p.w), .v (.int .i64 p.h), .v (.slice (some adA) p.s.length c), .v (.string q.nm), .v (.int .i64 q.w), .v (.int .i64 q.h), .v (.slice (some adB) q.s.length c2)]⟩, ⟨b3, 135, [.v (.slice (some adD) k.length c3), .v (.slice (some adE) k2.length c4)]⟩, ⟨bU, 70, [.v (.string p.nm), .v (.int .i64 p.w), .v (.int .i64 p.h), .v (.slice (some adU) s1.length cU)]⟩, ⟨U.2, 70, [.v (.string q.nm), .v (.int .i64 q.w), .v (.int .i64 q.h), .v (.slice U.1.A s1.length U.1.c)]⟩], []⟩ : St))) ?_ (fun U => ?_)
  · repeat' (first
|refine C_drawTr0 (id := 5) 14 (.q 0 (.q 1 (.q 3 (.q 4 (.q 6 (.two 2 12 (.two 5 12 (.two 7 12 (.two 8 12 (.q 9 (.q 10 (.q 11 (.n 12 (.n 13 .nil))))) (.n 8 (.q 9 (.q 10 (.q 11 (.n 13 .nil)))))) (.n 7 (.n 8 (.q 9 (.q 10 (.q 11 (.n 13 .nil))))))) (.n 5 (.n 7 (.n 8 (.q 9 (.q 10 (.q 11 (.n 13 .nil)))))))) (.n 2 (.n 5 (.n 7 (.n 8 (.q 9 (.q 10 (.q 11 (.n 13 .nil)))))))))))))) rfl mixed (by kernel_rfl) rfl ?_
|(refine S_id ?_; first
|(refine S_callM (f := 42) rfl obQ (by kernel_rfl) (fun w hw => lgiven_c q (some adB) c2 hs2 (fun h => by cases h) w (hw.rdm hr2.toS memQ)) (fun w1R w2R vR hw1R hbR hRR => ?_); obtain ⟨AR, cR, rfl, hSR⟩ := hRR; clear hw1R hbR)
|(refine S_callM (f := 42) rfl obQ (by kernel_rfl) (fun w hw => lgiven_c p (some adA) c hs (fun h => by cases h) w (hw.rdm hr.toS memQ)) (fun w1O w2O vO hw1O hbO hRO => ?_); obtain ⟨AO, cO, rfl, hSO⟩ := hRO; clear hw1O hbO)
|(refine S_callM (f := 56) rfl obQ (by kernel_rfl) (fun w hw => lints_c (some adN) cN ki (by rw [hkin.h]; exact hl) (fun h => by cases h) w (hw.rdm hSN memQ)) (fun w1L w2L vL hw1L hbL hRL => ?_); obtain ⟨AL, cL, rfl, hSL⟩ := hRL; clear hw1L hbL)
|(refine S_callM (f := 75) rfl obQ (by kernel_rfl) (fun w hw => mixed_as hV3 hs2 hs (by rw [hkin.h]; exact hl) (hw.rdm hSR memQ) (hw.rdm hSO memQ) (hw.rdm hSL memQ)) (fun w1P w2P vP hw1P hbP hRP => ?_); obtain ⟨AP, cP, rfl, hSP⟩ := hRP; clear hw1P hbP)
|refine S_nil ?_
|refine S_runN rfl rfl obQ obQ ?_
|refine S_box (fun b9 => ⟨_, _, rfl, obQ, ?_⟩))
|(refine VT_id ?_; first
|refine VT_nil ?_
|refine VT_q rfl (Yl_step rfl obQ) ?_
|refine VT_n rfl ?_
|refine VT_two rfl rfl ?_ ?_)
|refine G_VT2 ⟨_, rfl⟩ ⟨_, rfl⟩ pstQ rfl ?_
|refine G_cutB (⟨w1P, w2P, AP, cP, hSP⟩, b9) ⟨_, rfl, obQ⟩ slB rfl psQ)
  obtain ⟨⟨z1, z2, A9, c9, hS9⟩, b9⟩ := U
  dsimp only [SlA.ps]
  have hn1v := hn1.h
  repeat' (first
|(refine C_id ?_; first
|refine C_seq ?_
|refine C_regionNe 8 rfl rfl ?_
|refine C_skip ?_
|refine C_condF rfl obQ ?_)
|(refine S_id ?_; first
|((with_reducible (first | refine S_falseN ?_ ?_ | refine S_falseB ?_ ?_ | refine S_falseL ?_ ?_ | refine S_falseD ?_ ?_ | refine S_falseE ?_ ?_)); · (first | rfl | omega | exact decide_eq_false (by omega) | exact bne_eq_false_iff_eq.2 (by omega) | exact beq_eq_false_iff_ne.2 (by omega)))
|((with_reducible refine S_falseO ?_ ?_ ?_); (· rfl); (· first | rfl | (first | rfl | omega | exact decide_eq_false (by omega) | exact bne_eq_false_iff_eq.2 (by omega) | exact beq_eq_false_iff_ne.2 (by omega))))
|refine S_unG rfl rfl rfl rfl ?_
|refine S_one rfl obQ ?_
|refine S_nil ?_
|refine S_call (f := 97) rfl obQ (by kernel_rfl) (fun w hw => sameSamplesT_c A9 (some adU) c9 cU s1 s1.length rfl (by rw [hn1.h]; exact hs) hf1 w (hw.rdm hS9 memQ) (hw.rdm hSU memQ)) ?_)
|refine G_then ?_)
  refine C_trim [2, 3, 5] 3 rfl rfl ?_
  repeat' (first
|refine C_seq ?_
|refine C_region rfl ?_
|refine C_block ?_
|refine S_nil ?_
|refine S_runN rfl rfl obQ obQ ?_
|refine G_then ?_)
  refine C_loopS (fun j : Nat => ⟨[(127, .s (.v (.int .i64 j))), (126, .s (.v (.int .i64 s1.length))), (125, .s (.v (.slice (some adU) s1.length cU))), (2, .s (.p b2 0 0)), (3, .s (.p b3 1 0))], [⟨b2, 87, [.v (.string p.nm), .v (.int .i64 p.w), .v (.int .i64 p.h), .v (.slice (some adA) p.s.length c), .v (.string q.nm), .v (.int .i64 q.w), .v (.int .i64 q.h), .v (.slice (some adB) q.s.length c2)]⟩, ⟨b3, 135, [.v (.slice (some adD) k.length c3), .v (.slice (some adE) k2.length c4)]⟩], []⟩) (fun j => j ≤ s1.length) (fun j => s1.length - j) 0 (Nat.zero_le _) ?_ (fun j hj => ?_)
  · exact svQ
  by_cases hlt : j < s1.length
  · have hjp : j < p.s.length := by omega
    obtain ⟨hx1, hx2, hx3⟩ := hbet j hjp
    have hpj := sm_at hp hjp
    have hqj := sm_at hq (k := j) (by omega)
    have hmn := fMn_smp hpj hqj
    have hmx := fMx_smp hpj hqj
    have hF1 : (FloatKind.f32.format.order (gB s1 j) (fMn .f32 (gB p.s j) (gB q.s j)) == some .lt) = false := by rw [smp_lt' hx1 hmn.1]; exact decide_eq_false (by omega)
    have hF2 : (FloatKind.f32.format.order (gB s1 j) (fMx .f32 (gB p.s j) (gB q.s j)) == some .gt) = false := by rw [smp_gt' hx1 hmx.1]; exact decide_eq_false (by omega)
    repeat' (first
|(refine C_id ?_; first
|refine C_seq ?_
|refine C_region rfl ?_
|refine C_block ?_
|refine C_skip ?_
|refine C_drawV (id := 11) 30 [(0, true), (1, true), (2, true), (3, true), (4, true), (5, true), (6, true), (7, true), (8, true), (9, true), (10, true), (11, true), (12, true), (13, true), (14, true), (15, true), (16, true), (17, true), (18, true), (19, true), (20, true), (21, true), (22, true), (23, true), (24, true), (25, true), (26, true), (27, true), (28, true), (29, true)] rfl mixed (by kernel_rfl) rfl ?_
|refine C_condT rfl obQ ?_
|refine C_condF rfl obQ ?_)
|(refine S_id ?_; first
|((with_reducible refine S_falseO ?_ ?_ ?_); (· rfl); (· first | rfl | (first | exact hF1 | exact hF2 | rfl | omega | exact decide_eq_false (by omega) | exact bne_eq_false_iff_eq.2 (by omega) | exact beq_eq_false_iff_ne.2 (by omega))))
|((with_reducible (first | refine S_trueE ?_ ?_ | refine S_trueB ?_ ?_ | refine S_trueL ?_ ?_ | refine S_trueD ?_ ?_ | refine S_trueN ?_ ?_)); · (first | rfl | assumption | omega | exact decide_eq_true (by omega) | exact beq_self_eq_true _ | exact bne_iff_ne.2 (by assumption)))
|refine S_unG rfl rfl rfl rfl ?_
|refine S_load rfl obQ rfl [.float .f32 (gB s1 j)] (.past (v2, fun b => v1.heap.size ≤ b ∧ b < v2.heap.size) memQ _ _ hSU _ adU rfl rfl (gB_ixZ (k := j) rfl (by omega))) rfl (.inr ⟨rfl, rfl⟩) ?_
|refine S_pure (binX_pure (v := .bool false) rfl obQ (fun w => (fl_gt .f32 _ _ _ _ _ w).trans (by rw [hF2]))) ?_
|refine S_one rfl obQ ?_
|refine S_nil ?_)
|(refine V_id ?_; first
|refine V_nil ?_
|refine V_q rfl (Yl_unG rfl rfl rfl (Yl_load rfl obQ rfl [.float .f32 (gB p.s j)] (.past (w, fun b => b < w.heap.size) memQ _ _ hr.toS _ adA rfl rfl (gB_ixZ (k := j) rfl (by omega))) rfl (.inr ⟨rfl, rfl⟩))) ?_
|refine V_q rfl (Yl_load rfl obQ rfl [.float .f32 (gB p.s j)] (.past (w, fun b => b < w.heap.size) memQ _ _ hr.toS _ adA rfl rfl (gB_ixZ (k := j) rfl (by omega))) rfl (.inr ⟨rfl, rfl⟩)) ?_
|refine V_q rfl (Yl_unG rfl rfl rfl (Yl_load rfl obQ rfl [.float .f32 (gB q.s j)] (.past (w, fun b => b < w.heap.size) memQ _ _ hr2.toS _ adB rfl rfl (gB_ixZ (k := j) rfl (by omega))) rfl (.inr ⟨rfl, rfl⟩))) ?_
|refine V_q rfl (Yl_load rfl obQ rfl [.float .f32 (gB q.s j)] (.past (w, fun b => b < w.heap.size) memQ _ _ hr2.toS _ adB rfl rfl (gB_ixZ (k := j) rfl (by omega))) rfl (.inr ⟨rfl, rfl⟩)) ?_
|refine V_q rfl (Yl_pure (fmin_pure rfl obQ (ord32 hpj.fin hqj.fin))) ?_
|refine V_q rfl (Yl_unG rfl rfl rfl (Yl_pure (fmax_pure rfl obQ (ord32 hpj.fin hqj.fin)))) ?_
|refine V_q rfl (Yl_pure (binX_pure (v := .bool false) rfl obQ (fun w => (fl_lt .f32 _ _ _ _ _ w).trans (by rw [hF1])))) ?_
|refine V_q rfl (Yl_unG rfl rfl rfl (Yl_step rfl obQ)) ?_
|refine V_q rfl (Yl_step rfl obQ) ?_)
|refine G_loop (j + 1) (show j + 1 ≤ s1.length by omega) (by omega) svQ
|refine G_then ?_
|refine G_block ?_)
  · obtain rfl : j = s1.length := by omega
    clear hn1v
    repeat' (first
|(refine C_id ?_; first
|refine C_seq ?_
|refine C_region rfl ?_
|refine C_exit ?_
|refine C_condF rfl obQ ?_)
|((with_reducible (first | refine S_falseN ?_ ?_ | refine S_falseB ?_ ?_ | refine S_falseL ?_ ?_ | refine S_falseD ?_ ?_ | refine S_falseE ?_ ?_)); · (first | rfl | omega | exact decide_eq_false (by omega) | exact bne_eq_false_iff_eq.2 (by omega) | exact beq_eq_false_iff_ne.2 (by omega)))
|refine S_nil ?_
|refine S_runN rfl rfl obQ obQ ?_
|refine G_then ?_
|refine G_blockX ?_
|refine G_thenX ?_)
    refine C_cut (fun g : Nat × Nat => ([(w, fun b => b < w.heap.size)], (⟨[(2, .s (.p b2 0 0)), (3, .s (.p b3 1 0)), (13, .s (.v (.slice (some ⟨g.1, 0, none⟩) k.length k.length))), (14, .s (.v (.slice (some ⟨g.2, 0, none⟩) k.length k.length)))], [⟨b2, 87, [.v (.string p.nm), .v (.int .i64 p.w), .v (.int .i64 p.h), .v (.slice (some adA) p.s.length c), .v (.string q.nm), .v (.int .i64 q.w), .v (.int .i64 q.h), .v (.slice (some adB) q.s.length c2)]⟩, ⟨b3, 135, [.v (.slice (some adD) k.length c3), .v (.slice (some adE) k2.length c4)]⟩], [⟨3, 1, k.length, (List.replicate k.length [Value.int .i64 0]).flatten, .slice (some ⟨g.1, 0, none⟩) k.length k.length⟩, ⟨3, 1, k.length, (List.replicate k.length [Value.int .i64 0]).flatten, .slice (some ⟨g.2, 0, none⟩) k.length k.length⟩]⟩ : St))) ?_ (fun U => ?_)
    · repeat' (first
|refine C_drawTr0 (id := 14) 9 (.q 0 (.q 1 (.q 2 (.q 4 (.q 5 (.q 6 (.two 3 7 (.q 8 (.n 7 .nil)) (.n 3 (.q 8 .nil))))))))) rfl mixed (by kernel_rfl) rfl ?_
|(refine S_id ?_; first
|refine S_make (d := 168) k.length rfl obQ rfl rfl rfl rfl rfl (by unfold maxLen; dsimp only; omega) (fun gZ => ?_)
|refine S_make (d := 172) k.length rfl obQ rfl rfl rfl rfl rfl (by unfold maxLen; dsimp only; omega) (fun gF => ?_)
|refine S_nil ?_
|refine S_runN rfl rfl obQ obQ ?_)
|(refine VT_id ?_; first
|refine VT_nil ?_
|refine VT_q rfl (Yl_step rfl obQ) ?_
|refine VT_n rfl ?_
|refine VT_two rfl rfl ?_ ?_)
|refine G_VT2 ⟨_, rfl⟩ ⟨_, rfl⟩ pstQ rfl ?_
|refine G_cutBR (gZ, gF) ⟨_, rfl, obQ⟩ slB (by first | exact List.Perm.refl _ | exact List.Perm.swap _ _ _) psQ)
    obtain ⟨gZ, gF⟩ := U
    dsimp only
    rw [zK_row, hkz]
    repeat' (first
|refine C_seq ?_
|refine C_region rfl ?_
|refine C_block ?_
|refine S_nil ?_
|refine S_runN rfl rfl obQ obQ ?_
|refine G_then ?_)
    refine C_loopS (fun j : Nat => ⟨[(175, .s (.v (.int .i64 j))), (174, .s (.v (.int .i64 k.length))), (14, .s (.v (.slice (some ⟨gF, 0, none⟩) k.length k.length))), (2, .s (.p b2 0 0)), (3, .s (.p b3 1 0)), (13, .s (.v (.slice (some ⟨gZ, 0, none⟩) k.length k.length)))], [⟨b2, 87, [.v (.string p.nm), .v (.int .i64 p.w), .v (.int .i64 p.h), .v (.slice (some adA) p.s.length c), .v (.string q.nm), .v (.int .i64 q.w), .v (.int .i64 q.h), .v (.slice (some adB) q.s.length c2)]⟩, ⟨b3, 135, [.v (.slice (some adD) k.length c3), .v (.slice (some adE) k2.length c4)]⟩], [⟨3, 1, k.length, kz.map (.int .i64), .slice (some ⟨gZ, 0, none⟩) k.length k.length⟩, ⟨3, 1, k.length, (upI k.length (fun _ => 256) (fun _ => 0) j).map (.int .i64), .slice (some ⟨gF, 0, none⟩) k.length k.length⟩]⟩) (fun j => j ≤ k.length) (fun j => k.length - j) 0 (Nat.zero_le _) ?_ (fun j hj => ?_)
    · exact ⟨⟨_, rfl, obQ⟩, ⟨_, rfl⟩, (by dsimp only; rw [upF_0, hkz]), pstQ⟩
    by_cases hlt : j < k.length
    · repeat' (first
|(refine C_id ?_; first
|refine C_seq ?_
|refine C_region rfl ?_
|refine C_block ?_
|refine C_skip ?_
|refine C_condT rfl obQ ?_)
|(refine S_id ?_; first
|((with_reducible (first | refine S_trueE ?_ ?_ | refine S_trueB ?_ ?_ | refine S_trueL ?_ ?_ | refine S_trueD ?_ ?_ | refine S_trueN ?_ ?_)); · (first | rfl | assumption | omega | exact decide_eq_true (by omega) | exact beq_self_eq_true _ | exact bne_iff_ne.2 (by assumption)))
|refine S_storeRow rfl obQ rfl rfl rfl 1 rfl rfl ((j : Int).toNat * 1) rfl (by dsimp only; rw [List.length_map, upI_len]; omega) (xs' := (upI k.length (fun _ => 256) (fun _ => 0) (j + 1)).map (.int .i64)) (upI_put (f := fun _ => 256) rfl (by omega)) rfl ?_
|refine S_nil ?_
|refine S_runN rfl rfl obQ obQ ?_)
|refine G_loop (j + 1) (show j + 1 ≤ k.length by omega) (by omega) svQ
|refine G_then ?_
|refine G_block ?_)
    · obtain rfl : j = k.length := by omega
      rw [upF_n, hkf]
      repeat' (first
|(refine C_id ?_; first
|refine C_seq ?_
|refine C_region rfl ?_
|refine C_exit ?_
|refine C_condF rfl obQ ?_)
|((with_reducible (first | refine S_falseN ?_ ?_ | refine S_falseB ?_ ?_ | refine S_falseL ?_ ?_ | refine S_falseD ?_ ?_ | refine S_falseE ?_ ?_)); · (first | rfl | omega | exact decide_eq_false (by omega) | exact bne_eq_false_iff_eq.2 (by omega) | exact beq_eq_false_iff_ne.2 (by omega)))
|refine S_nil ?_
|refine S_runN rfl rfl obQ obQ ?_
|refine G_then ?_
|refine G_blockX ?_
|refine G_thenX ?_)
      refine C_rowPast rfl rfl rfl (fun WZ SZ hZ => ?_)
      refine C_rowPast rfl rfl rfl (fun WF SF hF => ?_)
      refine C_cut (fun U : SlA (sa.map (.float .f32)) × Nat => ([U.1.ps, (WF, SF), (w, fun b => b < w.heap.size)], (⟨[(2, .s (.p b2 0 0)), (3, .s (.p b3 1 0)), (14, .s (.v (.slice (some ⟨gF, 0, none⟩) k.length k.length))), (16, .s (.p U.2 2 0)), (17, .s (.v (.int .i64 0)))], [⟨b2, 87, [.v (.string p.nm), .v (.int .i64 p.w), .v (.int .i64 p.h), .v (.slice (some adA) p.s.length c), .v (.string q.nm), .v (.int .i64 q.w), .v (.int .i64 q.h), .v (.slice (some adB) q.s.length c2)]⟩, ⟨b3, 135, [.v (.slice (some adD) k.length c3), .v (.slice (some adE) k2.length c4)]⟩, ⟨U.2, 70, [.v (.string p.nm), .v (.int .i64 p.w), .v (.int .i64 p.h), .v (.slice U.1.A sa.length U.1.c)]⟩], []⟩ : St))) ?_ (fun U => ?_)
      · repeat' (first
|refine C_drawTr0 (id := 20) 13 (.q 0 (.q 1 (.q 3 (.q 4 (.q 6 (.two 2 11 (.two 5 11 (.two 7 11 (.q 8 (.q 9 (.q 10 (.n 11 (.n 12 .nil))))) (.n 7 (.q 8 (.q 9 (.q 10 (.n 12 .nil)))))) (.n 5 (.n 7 (.q 8 (.q 9 (.q 10 (.n 12 .nil))))))) (.n 2 (.n 5 (.n 7 (.q 8 (.q 9 (.q 10 (.n 12 .nil))))))))))))) rfl mixed (by kernel_rfl) rfl ?_
|(refine S_id ?_; first
|(refine S_callM (f := 42) rfl obQ (by kernel_rfl) (fun w hw => lgiven_c p (some adA) c hs (fun h => by cases h) w (hw.rdm hr.toS memQ)) (fun w1O w2O vO hw1O hbO hRO => ?_); obtain ⟨AO, cO, rfl, hSO⟩ := hRO; clear hw1O hbO)
|(refine S_callM (f := 42) rfl obQ (by kernel_rfl) (fun w hw => lgiven_c q (some adB) c2 hs2 (fun h => by cases h) w (hw.rdm hr2.toS memQ)) (fun w1R w2R vR hw1R hbR hRR => ?_); obtain ⟨AR, cR, rfl, hSR⟩ := hRR; clear hw1R hbR)
|(refine S_callM (f := 75) rfl obQ (by kernel_rfl) (fun w hw => mixedN_as hkzl.h hVa hs hs2 (by rw [hkzl.h]; exact hl) (hw.rdm hSO memQ) (hw.rdm hSR memQ) (hw.rdm hZ memQ)) (fun w1P w2P vP hw1P hbP hRP => ?_); obtain ⟨AP, cP, rfl, hSP⟩ := hRP; clear hw1P hbP)
|refine S_nil ?_
|refine S_runN rfl rfl obQ obQ ?_
|refine S_box (fun b16 => ⟨_, _, rfl, obQ, ?_⟩))
|(refine VT_id ?_; first
|refine VT_nil ?_
|refine VT_q rfl (Yl_step rfl obQ) ?_
|refine VT_n rfl ?_
|refine VT_two rfl rfl ?_ ?_)
|refine G_VT2 ⟨_, rfl⟩ ⟨_, rfl⟩ pstQ rfl ?_
|refine G_cutB (⟨w1P, w2P, AP, cP, hSP⟩, b16) ⟨_, rfl, obQ⟩ slB rfl psQ)
      obtain ⟨⟨u1, u2, A6, c6, hS6⟩, b6⟩ := U
      dsimp only [SlA.ps]
      repeat' (first
|refine C_seq ?_)
      refine C_cut (fun U : SlA (sq.map (.float .f32)) × Nat => ([U.1.ps, (u2, fun b => u1.heap.size ≤ b ∧ b < u2.heap.size), (WF, SF), (w, fun b => b < w.heap.size)], (⟨[(2, .s (.p b2 0 0)), (3, .s (.p b3 1 0)), (14, .s (.v (.slice (some ⟨gF, 0, none⟩) k.length k.length))), (16, .s (.p b6 2 0)), (17, .s (.v (.int .i64 0))), (18, .s (.p U.2 3 0)), (19, .s (.v (.int .i64 0)))], [⟨b2, 87, [.v (.string p.nm), .v (.int .i64 p.w), .v (.int .i64 p.h), .v (.slice (some adA) p.s.length c), .v (.string q.nm), .v (.int .i64 q.w), .v (.int .i64 q.h), .v (.slice (some adB) q.s.length c2)]⟩, ⟨b3, 135, [.v (.slice (some adD) k.length c3), .v (.slice (some adE) k2.length c4)]⟩, ⟨b6, 70, [.v (.string p.nm), .v (.int .i64 p.w), .v (.int .i64 p.h), .v (.slice A6 sa.length c6)]⟩, ⟨U.2, 70, [.v (.string p.nm), .v (.int .i64 p.w), .v (.int .i64 p.h), .v (.slice U.1.A sq.length U.1.c)]⟩], []⟩ : St))) ?_ (fun U => ?_)
      · repeat' (first
|refine C_drawTr0 (id := 21) 14 (.q 0 (.q 1 (.q 3 (.q 4 (.q 6 (.two 2 12 (.two 5 12 (.two 7 12 (.two 8 12 (.q 9 (.q 10 (.q 11 (.n 12 (.n 13 .nil))))) (.n 8 (.q 9 (.q 10 (.q 11 (.n 13 .nil)))))) (.n 7 (.n 8 (.q 9 (.q 10 (.q 11 (.n 13 .nil))))))) (.n 5 (.n 7 (.n 8 (.q 9 (.q 10 (.q 11 (.n 13 .nil)))))))) (.n 2 (.n 5 (.n 7 (.n 8 (.q 9 (.q 10 (.q 11 (.n 13 .nil)))))))))))))) rfl mixed (by kernel_rfl) rfl ?_
|(refine S_id ?_; first
|(refine S_callM (f := 42) rfl obQ (by kernel_rfl) (fun w hw => lgiven_c p (some adA) c hs (fun h => by cases h) w (hw.rdm hr.toS memQ)) (fun w1O w2O vO hw1O hbO hRO => ?_); obtain ⟨AO, cO, rfl, hSO⟩ := hRO; clear hw1O hbO)
|(refine S_callM (f := 42) rfl obQ (by kernel_rfl) (fun w hw => lgiven_c q (some adB) c2 hs2 (fun h => by cases h) w (hw.rdm hr2.toS memQ)) (fun w1R w2R vR hw1R hbR hRR => ?_); obtain ⟨AR, cR, rfl, hSR⟩ := hRR; clear hw1R hbR)
|(refine S_callM (f := 56) rfl obQ (by kernel_rfl) (fun w hw => lintsN_as hkfl.h (by rw [hkfl.h]; exact hl) (fun h => by cases h) (hw.rdm hF memQ)) (fun w1M w2M vM hw1M hbM hRM => ?_); obtain ⟨AM, cM, rfl, hSM⟩ := hRM; clear hw1M hbM)
|(refine S_callM (f := 75) rfl obQ (by kernel_rfl) (fun w hw => mixedN_as hkfl.h hVb hs hs2 (by rw [hkfl.h]; exact hl) (hw.rdm hSO memQ) (hw.rdm hSR memQ) (hw.rdm hSM memQ)) (fun w1P w2P vP hw1P hbP hRP => ?_); obtain ⟨AP, cP, rfl, hSP⟩ := hRP; clear hw1P hbP)
|refine S_nil ?_
|refine S_runN rfl rfl obQ obQ ?_
|refine S_box (fun b18 => ⟨_, _, rfl, obQ, ?_⟩))
|(refine VT_id ?_; first
|refine VT_nil ?_
|refine VT_q rfl (Yl_step rfl obQ) ?_
|refine VT_n rfl ?_
|refine VT_two rfl rfl ?_ ?_)
|refine G_VT2 ⟨_, rfl⟩ ⟨_, rfl⟩ pstQ rfl ?_
|refine G_cutB (⟨w1P, w2P, AP, cP, hSP⟩, b18) ⟨_, rfl, obQ⟩ slB rfl psQ)
      obtain ⟨⟨x1, x2, A8, c8, hS8⟩, b8⟩ := U
      dsimp only [SlA.ps]
      repeat' (first
|refine C_seq ?_
|refine C_region rfl ?_
|(refine S_id ?_; first
|(refine S_callM (f := 42) rfl obQ (by kernel_rfl) (fun w hw => lgiven_c p (some adA) c hs (fun h => by cases h) w (hw.rdm hr.toS memQ)) (fun w1O w2O vO hw1O hbO hRO => ?_); obtain ⟨AO, cO, rfl, hSO⟩ := hRO; clear hw1O hbO)
|(refine S_callM (f := 56) rfl obQ (by kernel_rfl) (fun w hw => lintsN_as hkfl.h (by rw [hkfl.h]; exact hl) (fun h => by cases h) (hw.rdm hF memQ)) (fun w1M w2M vM hw1M hbM hRM => ?_); obtain ⟨AM, cM, rfl, hSM⟩ := hRM; clear hw1M hbM)
|(refine S_callM (f := 55) rfl obQ (by kernel_rfl) (fun w hw => unspN_as hkfl.h hVu hs (by rw [hkfl.h]; exact hl) (hw.rdm hSO memQ) (hw.rdm hSM memQ)) (fun w1G w2G vG hw1G hbG hRG => ?_); obtain ⟨AG, cG, rfl, hSG⟩ := hRG; clear hw1G hbG)
|refine S_nil ?_
|refine S_runN rfl rfl obQ obQ ?_
|refine S_box (fun b20 => ⟨_, _, rfl, obQ, ?_⟩))
|refine G_then ?_)
      refine C_cut (fun U : SlA (sa.map (.float .f32)) × Nat => ([U.1.ps, (w2G, fun b => w1G.heap.size ≤ b ∧ b < w2G.heap.size), (x2, fun b => x1.heap.size ≤ b ∧ b < x2.heap.size), (u2, fun b => u1.heap.size ≤ b ∧ b < u2.heap.size), (w, fun b => b < w.heap.size)], (⟨[(2, .s (.p b2 0 0)), (3, .s (.p b3 1 0)), (16, .s (.p b6 2 0)), (17, .s (.v (.int .i64 0))), (18, .s (.p b8 3 0)), (19, .s (.v (.int .i64 0))), (20, .s (.p b20 4 0)), (21, .s (.v (.int .i64 0))), (22, .s (.p U.2 5 0)), (23, .s (.v (.int .i64 0)))], [⟨b2, 87, [.v (.string p.nm), .v (.int .i64 p.w), .v (.int .i64 p.h), .v (.slice (some adA) p.s.length c), .v (.string q.nm), .v (.int .i64 q.w), .v (.int .i64 q.h), .v (.slice (some adB) q.s.length c2)]⟩, ⟨b3, 135, [.v (.slice (some adD) k.length c3), .v (.slice (some adE) k2.length c4)]⟩, ⟨b6, 70, [.v (.string p.nm), .v (.int .i64 p.w), .v (.int .i64 p.h), .v (.slice A6 sa.length c6)]⟩, ⟨b8, 70, [.v (.string p.nm), .v (.int .i64 p.w), .v (.int .i64 p.h), .v (.slice A8 sq.length c8)]⟩, ⟨b20, 70, [.v (.string p.nm), .v (.int .i64 p.w), .v (.int .i64 p.h), .v (.slice AG sa.length cG)]⟩, ⟨U.2, 70, [.v (.string p.nm), .v (.int .i64 p.w), .v (.int .i64 p.h), .v (.slice U.1.A sa.length U.1.c)]⟩], []⟩ : St))) ?_ (fun U => ?_)
      · repeat' (first
|refine C_drawTr0 (id := 23) 14 (.q 0 (.q 1 (.q 3 (.q 4 (.q 6 (.two 2 12 (.two 5 12 (.two 7 12 (.two 8 12 (.q 9 (.q 10 (.q 11 (.n 12 (.n 13 .nil))))) (.n 8 (.q 9 (.q 10 (.q 11 (.n 13 .nil)))))) (.n 7 (.n 8 (.q 9 (.q 10 (.q 11 (.n 13 .nil))))))) (.n 5 (.n 7 (.n 8 (.q 9 (.q 10 (.q 11 (.n 13 .nil)))))))) (.n 2 (.n 5 (.n 7 (.n 8 (.q 9 (.q 10 (.q 11 (.n 13 .nil)))))))))))))) rfl mixed (by kernel_rfl) rfl ?_
|(refine S_id ?_; first
|(refine S_callM (f := 42) rfl obQ (by kernel_rfl) (fun w hw => lgiven_c p (some adA) c hs (fun h => by cases h) w (hw.rdm hr.toS memQ)) (fun w1O w2O vO hw1O hbO hRO => ?_); obtain ⟨AO, cO, rfl, hSO⟩ := hRO; clear hw1O hbO)
|(refine S_callM (f := 42) rfl obQ (by kernel_rfl) (fun w hw => lgiven_c q (some adB) c2 hs2 (fun h => by cases h) w (hw.rdm hr2.toS memQ)) (fun w1R w2R vR hw1R hbR hRR => ?_); obtain ⟨AR, cR, rfl, hSR⟩ := hRR; clear hw1R hbR)
|(refine S_callM (f := 56) rfl obQ (by kernel_rfl) (fun w hw => lintsN_as hkfl.h (by rw [hkfl.h]; exact hl) (fun h => by cases h) (hw.rdm hF memQ)) (fun w1M w2M vM hw1M hbM hRM => ?_); obtain ⟨AM, cM, rfl, hSM⟩ := hRM; clear hw1M hbM)
|(refine S_callM (f := 77) rfl obQ (by kernel_rfl) (fun w hw => overN_as hkfl.h hVv hs hs2 (by rw [hkfl.h]; exact hl) (hw.rdm hSO memQ) (hw.rdm hSR memQ) (hw.rdm hSM memQ)) (fun w1P w2P vP hw1P hbP hRP => ?_); obtain ⟨AP, cP, rfl, hSP⟩ := hRP; clear hw1P hbP)
|refine S_nil ?_
|refine S_runN rfl rfl obQ obQ ?_
|refine S_box (fun b22 => ⟨_, _, rfl, obQ, ?_⟩))
|(refine VT_id ?_; first
|refine VT_nil ?_
|refine VT_q rfl (Yl_step rfl obQ) ?_
|refine VT_n rfl ?_
|refine VT_two rfl rfl ?_ ?_)
|refine G_VT2 ⟨_, rfl⟩ ⟨_, rfl⟩ pstQ rfl ?_
|refine G_cutB (⟨w1P, w2P, AP, cP, hSP⟩, b22) ⟨_, rfl, obQ⟩ slB rfl psQ)
      obtain ⟨⟨y1, y2, AT, cT, hST⟩, bT⟩ := U
      dsimp only [SlA.ps]
      repeat' (first
|(refine C_id ?_; first
|refine C_seq ?_
|refine C_skip ?_
|refine C_drawV (id := 24) 44 [(0, true), (1, false), (2, true), (3, true), (4, false), (5, true), (6, true), (7, true), (8, false), (9, true), (10, true), (11, true), (12, false), (13, true), (14, true), (15, true), (17, true), (18, true), (16, false), (19, false), (20, true), (21, true), (22, true), (23, true), (24, true), (25, true), (26, true), (27, true), (28, false), (29, true), (30, true), (31, true), (32, true), (34, true), (35, true), (33, false), (36, false), (37, true), (38, true), (39, true), (40, true), (42, true), (43, true), (41, false)] rfl mixed (by kernel_rfl) rfl ?_
|refine C_condF rfl obQ ?_)
|(refine S_id ?_; first
|((with_reducible (first | refine S_falseN ?_ ?_ | refine S_falseB ?_ ?_ | refine S_falseL ?_ ?_ | refine S_falseD ?_ ?_ | refine S_falseE ?_ ?_)); · (first | rfl | omega | exact decide_eq_false (by omega) | exact bne_eq_false_iff_eq.2 (by omega) | exact beq_eq_false_iff_ne.2 (by omega)))
|((with_reducible refine S_falseO ?_ ?_ ?_); (· rfl); (· first | rfl | (first | rfl | omega | exact decide_eq_false (by omega) | exact bne_eq_false_iff_eq.2 (by omega) | exact beq_eq_false_iff_ne.2 (by omega))))
|refine S_unG rfl rfl rfl rfl ?_
|refine S_one rfl obQ ?_
|refine S_nil ?_
|refine S_call (f := 72) rfl obQ (by kernel_rfl) (fun w hw => ltold_c ⟨p.nm, p.w, p.h, sa⟩ A6 c6 w) ?_
|refine S_call (f := 72) rfl obQ (by kernel_rfl) (fun w hw => ltold_c ⟨p.nm, p.w, p.h, sa⟩ AG cG w) ?_
|refine S_call (f := 72) rfl obQ (by kernel_rfl) (fun w hw => ltold_c ⟨p.nm, p.w, p.h, sa⟩ AT cT w) ?_
|refine S_call (f := 73) rfl obQ (by kernel_rfl) (fun w hw => rSameW_c ⟨p.nm, p.w, p.h, sa⟩ p A6 (some adA) c6 c (by show sa.length ≤ 1000000; rw [hnsa.h]; exact hs) hfa hs hfp rfl rfl rfl hBa w (hw.rdm hS6 memQ) (hw.rdm hr.toS memQ)) ?_
|refine S_call (f := 73) rfl obQ (by kernel_rfl) (fun w hw => rSameW_c ⟨p.nm, p.w, p.h, sa⟩ p AG (some adA) cG c (by show sa.length ≤ 1000000; rw [hnsa.h]; exact hs) hfa hs hfp rfl rfl rfl hBa w (hw.rdm hSG memQ) (hw.rdm hr.toS memQ)) ?_
|refine S_call (f := 73) rfl obQ (by kernel_rfl) (fun w hw => rSameW_c ⟨p.nm, p.w, p.h, sa⟩ p AT (some adA) cT c (by show sa.length ≤ 1000000; rw [hnsa.h]; exact hs) hfa hs hfp rfl rfl rfl hBa w (hw.rdm hST memQ) (hw.rdm hr.toS memQ)) ?_
|refine S_call (f := 97) rfl obQ (by kernel_rfl) (fun w hw => sameV_c A8 (some adB) c8 c2 sq q.s (by rw [hnsq.h]; exact hs) hs2 hfq hfq2 hBq w (hw.rdm hS8 memQ) (hw.rdm hr2.toS memQ)) ?_)
|(refine V_id ?_; first
|refine V_nil ?_
|refine V_q rfl (Yl_unG rfl rfl rfl (Yl_step rfl obQ)) ?_
|refine V_q rfl (Yl_step rfl obQ) ?_
|refine V_n rfl ?_)
|refine G_V ⟨⟨_, rfl, trivial⟩, ⟨_, rfl⟩, rfl, pstQ⟩ rfl ?_
|refine G_then ?_)
      refine C_trim [2, 3] 2 rfl rfl ?_
      repeat' (first
|refine C_seq ?_
|refine C_drawV (id := 26) 11 [(0, true), (1, true), (3, true), (4, true), (2, false), (5, false), (6, false), (7, true), (8, true), (9, true), (10, true)] rfl mixed (by kernel_rfl) rfl ?_
|refine C_drawV (id := 27) 11 [(0, true), (1, true), (3, true), (4, true), (2, false), (5, false), (6, false), (7, true), (8, true), (9, true), (10, true)] rfl mixed (by kernel_rfl) rfl ?_
|(refine S_id ?_; first
|(refine S_callM (f := 56) rfl obQ (by kernel_rfl) (fun w hw => lints_c (some adD) c3 k hl (fun h => by cases h) w (hw.rdm hr3.toS memQ)) (fun w1I w2I vI hw1I hbI hRI => ?_); obtain ⟨AI, cI, rfl, hSI⟩ := hRI; clear hw1I hbI)
|(refine S_callM (f := 56) rfl obQ (by kernel_rfl) (fun w hw => lints_c (some adE) c4 k2 hl2 (fun h => by cases h) w (hw.rdm hr4.toS memQ)) (fun w1J w2J vJ hw1J hbJ hRJ => ?_); obtain ⟨AJ, cJ, rfl, hSJ⟩ := hRJ; clear hw1J hbJ)
|(refine S_callM (f := 88) rfl obQ (by kernel_rfl) (fun w hw => lesser_as hVc hl hl2 (hw.rdm hSI memQ) (hw.rdm hSJ memQ)) (fun w1X w2X vX hw1X hbX hRX => ?_); obtain ⟨AX, cX, rfl, hSX⟩ := hRX; clear hw1X hbX)
|(refine S_callM (f := 89) rfl obQ (by kernel_rfl) (fun w hw => greater_as hVd hl hl2 (hw.rdm hSI memQ) (hw.rdm hSJ memQ)) (fun w1Y w2Y vY hw1Y hbY hRY => ?_); obtain ⟨AY, cY, rfl, hSY⟩ := hRY; clear hw1Y hbY)
|refine S_nil ?_
|refine S_runN rfl rfl obQ obQ ?_)
|refine V_nil ?_
|refine V_q rfl (Yl_step rfl obQ) ?_
|refine V_n rfl ?_
|refine G_V ⟨⟨_, rfl, trivial⟩, ⟨_, rfl⟩, rfl, pstQ⟩ rfl ?_
|refine G_then ?_)
      have hlcv := hlcn.h
      have hldv := hldn.h
      repeat' (first
|(refine C_id ?_; first
|refine C_seq ?_
|refine C_regionNe 30 rfl rfl ?_
|refine C_skip ?_
|refine C_condF rfl obQ ?_)
|(refine S_id ?_; first
|((with_reducible (first | refine S_falseN ?_ ?_ | refine S_falseB ?_ ?_ | refine S_falseL ?_ ?_ | refine S_falseD ?_ ?_ | refine S_falseE ?_ ?_)); · (first | rfl | omega | exact decide_eq_false (by omega) | exact bne_eq_false_iff_eq.2 (by omega) | exact beq_eq_false_iff_ne.2 (by omega)))
|((with_reducible refine S_falseO ?_ ?_ ?_); (· rfl); (· first | rfl | (first | rfl | omega | exact decide_eq_false (by omega) | exact bne_eq_false_iff_eq.2 (by omega) | exact beq_eq_false_iff_ne.2 (by omega))))
|refine S_unG rfl rfl rfl rfl ?_
|refine S_one rfl obQ ?_
|refine S_nil ?_)
|refine G_then ?_)
      obtain ⟨adX, rfl⟩ := rdS_some hSX (by rw [List.length_map]; omega)
      obtain ⟨adY, rfl⟩ := rdS_some hSY (by rw [List.length_map]; omega)
      refine C_trim [2, 3, 24, 26] 2 rfl rfl ?_
      repeat' (first
|refine C_seq ?_
|refine C_region rfl ?_
|refine C_block ?_
|refine S_nil ?_
|refine S_runN rfl rfl obQ obQ ?_
|refine G_then ?_)
      refine C_loopS (fun j : Nat => ⟨[(317, .s (.v (.int .i64 j))), (316, .s (.v (.int .i64 lc.length))), (24, .s (.v (.slice (some adX) lc.length cX))), (26, .s (.v (.slice (some adY) ld.length cY))), (2, .s (.p b2 0 0)), (3, .s (.p b3 1 0))], [⟨b2, 87, [.v (.string p.nm), .v (.int .i64 p.w), .v (.int .i64 p.h), .v (.slice (some adA) p.s.length c), .v (.string q.nm), .v (.int .i64 q.w), .v (.int .i64 q.h), .v (.slice (some adB) q.s.length c2)]⟩, ⟨b3, 135, [.v (.slice (some adD) k.length c3), .v (.slice (some adE) k2.length c4)]⟩], []⟩) (fun j => j ≤ lc.length) (fun j => lc.length - j) 0 (Nat.zero_le _) ?_ (fun j hj => ?_)
      · exact svQ
      by_cases hlt : j < lc.length
      · have hcj := hcd j (by omega)
        repeat' (first
|(refine C_id ?_; first
|refine C_seq ?_
|refine C_region rfl ?_
|refine C_block ?_
|refine C_skip ?_
|refine C_drawV (id := 33) 30 [(0, true), (1, true), (2, true), (3, true), (4, true), (5, true), (6, true), (7, true), (8, false), (9, true), (10, true), (11, true), (12, true), (13, true), (14, true), (15, true), (16, true), (17, true), (18, true), (19, true), (20, true), (21, true), (22, true), (23, true), (24, true), (25, true), (26, true), (27, true), (28, true), (29, true)] rfl mixed (by kernel_rfl) rfl ?_
|refine C_condT rfl obQ ?_
|refine C_condF rfl obQ ?_)
|(refine S_id ?_; first
|((with_reducible (first | refine S_falseN ?_ ?_ | refine S_falseB ?_ ?_ | refine S_falseL ?_ ?_ | refine S_falseD ?_ ?_ | refine S_falseE ?_ ?_)); · (first | rfl | omega | exact decide_eq_false (by omega) | exact bne_eq_false_iff_eq.2 (by omega) | exact beq_eq_false_iff_ne.2 (by omega)))
|((with_reducible refine S_falseO ?_ ?_ ?_); (· rfl); (· first | rfl | (first | rfl | omega | exact decide_eq_false (by omega) | exact bne_eq_false_iff_eq.2 (by omega) | exact beq_eq_false_iff_ne.2 (by omega))))
|((with_reducible (first | refine S_trueE ?_ ?_ | refine S_trueB ?_ ?_ | refine S_trueL ?_ ?_ | refine S_trueD ?_ ?_ | refine S_trueN ?_ ?_)); · (first | rfl | assumption | omega | exact decide_eq_true (by omega) | exact beq_self_eq_true _ | exact bne_iff_ne.2 (by assumption)))
|refine S_unG rfl rfl rfl rfl ?_
|refine S_one rfl obQ ?_
|refine S_nil ?_)
|(refine V_id ?_; first
|refine V_nil ?_
|refine V_q rfl (Yl_unG rfl rfl rfl (Yl_load rfl obQ rfl [.int .i64 (gI lc j)] (.past (w2X, fun b => w1X.heap.size ≤ b ∧ b < w2X.heap.size) memQ _ _ hSX _ adX rfl rfl (gI_idxZ (k := j) rfl (by omega))) rfl (.inr ⟨rfl, rfl⟩))) ?_
|refine V_q rfl (Yl_load rfl obQ rfl [.int .i64 (gI lc j)] (.past (w2X, fun b => w1X.heap.size ≤ b ∧ b < w2X.heap.size) memQ _ _ hSX _ adX rfl rfl (gI_idxZ (k := j) rfl (by omega))) rfl (.inr ⟨rfl, rfl⟩)) ?_
|refine V_q rfl (Yl_unG rfl rfl rfl (Yl_load rfl obQ rfl [.int .i64 (gI ld j)] (.past (w2Y, fun b => w1Y.heap.size ≤ b ∧ b < w2Y.heap.size) memQ _ _ hSY _ adY rfl rfl (gI_idxZ (k := j) rfl (by omega))) rfl (.inr ⟨rfl, rfl⟩))) ?_
|refine V_q rfl (Yl_load rfl obQ rfl [.int .i64 (gI ld j)] (.past (w2Y, fun b => w1Y.heap.size ≤ b ∧ b < w2Y.heap.size) memQ _ _ hSY _ adY rfl rfl (gI_idxZ (k := j) rfl (by omega))) rfl (.inr ⟨rfl, rfl⟩)) ?_
|refine V_q rfl (Yl_unG rfl rfl rfl (Yl_load rfl obQ rfl [.int .i64 (gI k j)] (.past (w, fun b => b < w.heap.size) memQ _ _ hr3.toS _ adD rfl rfl (gI_idxZ (k := j) rfl (by omega))) rfl (.inr ⟨rfl, rfl⟩))) ?_
|refine V_q rfl (Yl_unG rfl rfl rfl (Yl_load rfl obQ rfl [.int .i64 (gI k2 j)] (.past (w, fun b => b < w.heap.size) memQ _ _ hr4.toS _ adE rfl rfl (gI_idxZ (k := j) rfl (by omega))) rfl (.inr ⟨rfl, rfl⟩))) ?_
|refine V_q rfl (Yl_unG rfl rfl rfl (Yl_step rfl obQ)) ?_
|refine V_q rfl (Yl_step rfl obQ) ?_
|refine V_n rfl ?_)
|(refine G_id ?_; first
|refine G_V ⟨⟨_, rfl, trivial⟩, ⟨_, rfl⟩, rfl, pstQ⟩ rfl ?_
|refine G_loop (j + 1) (show j + 1 ≤ lc.length by omega) (by omega) svQ
|refine G_then ?_
|refine G_block ?_))
      · obtain rfl : j = lc.length := by omega
        repeat' (first
|(refine C_id ?_; first
|refine C_seq ?_
|refine C_region rfl ?_
|refine C_block ?_
|refine C_exit ?_
|refine C_condF rfl obQ ?_)
|(refine S_id ?_; first
|((with_reducible (first | refine S_falseN ?_ ?_ | refine S_falseB ?_ ?_ | refine S_falseL ?_ ?_ | refine S_falseD ?_ ?_ | refine S_falseE ?_ ?_)); · (first | rfl | omega | exact decide_eq_false (by omega) | exact bne_eq_false_iff_eq.2 (by omega) | exact beq_eq_false_iff_ne.2 (by omega)))
|(refine S_callRws (f := 40) rfl obQ (by kernel_rfl) (fun w hw => own_as (s := p.s) rfl (by omega) hs (fun h => by cases h) (hw.rdm hr.toS memQ)) (fun v rs hR => ?_); obtain ⟨g, cR, rfl, rfl⟩ := hR)
|refine S_nil ?_
|refine S_runN rfl rfl obQ obQ ?_
|refine S_box (fun b29 => ⟨_, _, rfl, obQ, ?_⟩))
|refine G_then ?_
|refine G_blockX ?_
|refine G_thenX ?_)
        refine C_loopS (fun j : Nat => ⟨[(359, .s (.v (.int .i64 j))), (358, .s (.v (.int .i64 p.s.length))), (357, .s (.v (.slice (some ⟨g, 0, none⟩) p.s.length cR))), (29, .s (.p b29 2 0)), (2, .s (.p b2 0 0)), (3, .s (.p b3 1 0))], [⟨b2, 87, [.v (.string p.nm), .v (.int .i64 p.w), .v (.int .i64 p.h), .v (.slice (some adA) p.s.length c), .v (.string q.nm), .v (.int .i64 q.w), .v (.int .i64 q.h), .v (.slice (some adB) q.s.length c2)]⟩, ⟨b3, 135, [.v (.slice (some adD) k.length c3), .v (.slice (some adE) k2.length c4)]⟩, ⟨b29, 65, [.v (.string p.nm), .v (.int .i64 p.w), .v (.int .i64 p.h), .v (.slice (some ⟨g, 0, none⟩) p.s.length cR)]⟩], [⟨62, 1, p.s.length, (upX p.s (fun j => fAb (gB p.s j)) j).map (.float .f32), .slice (some ⟨g, 0, none⟩) p.s.length cR⟩]⟩) (fun j => j ≤ p.s.length) (fun j => p.s.length - j) 0 (Nat.zero_le _) ?_ (fun j hj => ?_)
        · exact ⟨⟨_, rfl, obQ⟩, ⟨_, rfl⟩, (by dsimp only; rw [upX_0]; rfl), pstQ⟩
        by_cases hlt : j < p.s.length
        · have hpj := sm_at hp hlt
          have hid : ∀ (i : Nat) (u : Value), ([.float .f32 (gB p.s j)] : List Value)[i]? = some u → ((upX p.s (fun j => fAb (gB p.s j)) j).map (Value.float .f32))[(((j : Nat) : Int).toNat * 1 + i)]? = some u := by
            have := gB_ixZ (s := upX p.s (fun j => fAb (gB p.s j)) j) (k := j) (z := (j : Int)) rfl (by rw [upX_len]; exact hlt)
            rwa [upX_at hlt] at this
          repeat' (first
|(refine C_id ?_; first
|refine C_seq ?_
|refine C_region rfl ?_
|refine C_block ?_
|refine C_skip ?_
|refine C_condT rfl obQ ?_)
|(refine S_id ?_; first
|((with_reducible (first | refine S_trueE ?_ ?_ | refine S_trueB ?_ ?_ | refine S_trueL ?_ ?_ | refine S_trueD ?_ ?_ | refine S_trueN ?_ ?_)); · (first | rfl | assumption | omega | exact decide_eq_true (by omega) | exact beq_self_eq_true _ | exact bne_iff_ne.2 (by assumption)))
|refine S_load rfl obQ rfl [.float .f32 (gB p.s j)] (.row 0 _ rfl g p.s.length cR (((j : Nat) : Int).toNat * 1) rfl rfl hid) rfl (.inr ⟨rfl, rfl⟩) ?_
|refine S_pure (unX_pure rfl obQ (fun w => fNg_run)) ?_
|refine S_pure (fmax_pure rfl obQ (ord32 hpj.fin (fNg_smp hpj).1.fin)) ?_
|refine S_storeRow rfl obQ rfl rfl rfl 0 rfl rfl ((j : Int).toNat * 1) rfl (by dsimp only; rw [List.length_map, upX_len]; omega) (xs' := (upX p.s (fun j => fAb (gB p.s j)) (j + 1)).map (.float .f32)) (by rw [upX_put (z := (j : Int)) rfl (by omega)]; rfl) rfl ?_
|refine S_nil ?_
|refine S_runN rfl rfl obQ obQ ?_)
|refine G_loop (j + 1) (show j + 1 ≤ p.s.length by omega) (by omega) svQ
|refine G_then ?_
|refine G_block ?_)
        · obtain rfl : j = p.s.length := by omega
          rw [upX_abs, hsp]
          repeat' (first
|(refine C_id ?_; first
|refine C_seq ?_
|refine C_region rfl ?_
|refine C_exit ?_
|refine C_condF rfl obQ ?_)
|((with_reducible (first | refine S_falseN ?_ ?_ | refine S_falseB ?_ ?_ | refine S_falseL ?_ ?_ | refine S_falseD ?_ ?_ | refine S_falseE ?_ ?_)); · (first | rfl | omega | exact decide_eq_false (by omega) | exact bne_eq_false_iff_eq.2 (by omega) | exact beq_eq_false_iff_ne.2 (by omega)))
|refine S_nil ?_
|refine S_runN rfl rfl obQ obQ ?_
|refine G_then ?_
|refine G_blockX ?_
|refine G_thenX ?_)
          refine C_rowPast rfl rfl rfl (fun WA SA hA_ => ?_)
          refine C_cut (fun U : SlA (sf.map (.float .f32)) × Nat => ([U.1.ps, (w, fun b => b < w.heap.size)], (⟨[(2, .s (.p b2 0 0)), (3, .s (.p b3 1 0)), (32, .s (.p U.2 2 0)), (33, .s (.v (.int .i64 0)))], [⟨b2, 87, [.v (.string p.nm), .v (.int .i64 p.w), .v (.int .i64 p.h), .v (.slice (some adA) p.s.length c), .v (.string q.nm), .v (.int .i64 q.w), .v (.int .i64 q.h), .v (.slice (some adB) q.s.length c2)]⟩, ⟨b3, 135, [.v (.slice (some adD) k.length c3), .v (.slice (some adE) k2.length c4)]⟩, ⟨U.2, 70, [.v (.string p.nm), .v (.int .i64 p.w), .v (.int .i64 p.h), .v (.slice U.1.A sf.length U.1.c)]⟩], []⟩ : St))) ?_ (fun U => ?_)
          · repeat' (first
|refine C_drawTr0 (id := 42) 11 (.q 0 (.q 2 (.q 3 (.two 1 9 (.two 4 9 (.two 5 9 (.q 6 (.q 7 (.q 8 (.n 9 (.n 10 .nil))))) (.n 5 (.q 6 (.q 7 (.q 8 (.n 10 .nil)))))) (.n 4 (.n 5 (.q 6 (.q 7 (.q 8 (.n 10 .nil))))))) (.n 1 (.n 4 (.n 5 (.q 6 (.q 7 (.q 8 (.n 10 .nil))))))))))) rfl mixed (by kernel_rfl) rfl ?_
|(refine S_id ?_; first
|(refine S_callM (f := 42) rfl obQ (by kernel_rfl) (fun w hw => given_as (s := sp) hnsp.h hs (fun h => by cases h) (hw.rdm hA_ memQ)) (fun w1O w2O vO hw1O hbO hRO => ?_); obtain ⟨AO, cO, rfl, hSO⟩ := hRO; clear hw1O hbO)
|(refine S_callM (f := 56) rfl obQ (by kernel_rfl) (fun w hw => lints_c (some adD) c3 k hl (fun h => by cases h) w (hw.rdm hr3.toS memQ)) (fun w1I w2I vI hw1I hbI hRI => ?_); obtain ⟨AI, cI, rfl, hSI⟩ := hRI; clear hw1I hbI)
|(refine S_callM (f := 76) rfl obQ (by kernel_rfl) (fun w hw => premultiplied_as hVp (by show sp.length ≤ 1000000; rw [hnsp.h]; exact hs) hl (hw.rdm hSO memQ) (hw.rdm hSI memQ)) (fun w1P w2P vP hw1P hbP hRP => ?_); obtain ⟨AP, cP, rfl, hSP⟩ := hRP; clear hw1P hbP)
|refine S_nil ?_
|refine S_runN rfl rfl obQ obQ ?_
|refine S_box (fun b32 => ⟨_, _, rfl, obQ, ?_⟩))
|(refine VT_id ?_; first
|refine VT_nil ?_
|refine VT_q rfl (Yl_step rfl obQ) ?_
|refine VT_n rfl ?_
|refine VT_two rfl rfl ?_ ?_)
|refine G_VT2 ⟨_, rfl⟩ ⟨_, rfl⟩ pstQ rfl ?_
|refine G_cutB (⟨w1P, w2P, AP, cP, hSP⟩, b32) ⟨_, rfl, obQ⟩ slB rfl psQ)
          obtain ⟨⟨f1, f2, Af, cf, hSf⟩, bf⟩ := U
          dsimp only [SlA.ps]
          obtain ⟨adf, rfl⟩ := rdS_some hSf (by rw [List.length_map, hnsf.h]; omega)
          repeat' (first
|(refine C_id ?_; first
|refine C_seq ?_
|refine C_skip ?_
|refine C_drawV (id := 43) 14 [(0, true), (1, false), (2, true), (3, true), (4, false), (5, false), (6, false), (7, true), (8, true), (9, true), (12, true), (13, true), (10, false), (11, false)] rfl mixed (by kernel_rfl) rfl ?_
|refine C_condF rfl obQ ?_)
|(refine S_id ?_; first
|((with_reducible (first | refine S_falseN ?_ ?_ | refine S_falseB ?_ ?_ | refine S_falseL ?_ ?_ | refine S_falseD ?_ ?_ | refine S_falseE ?_ ?_)); · (first | rfl | omega | exact decide_eq_false (by omega) | exact bne_eq_false_iff_eq.2 (by omega) | exact beq_eq_false_iff_ne.2 (by omega)))
|((with_reducible refine S_falseO ?_ ?_ ?_); (· rfl); (· first | rfl | (first | rfl | omega | exact decide_eq_false (by omega) | exact bne_eq_false_iff_eq.2 (by omega) | exact beq_eq_false_iff_ne.2 (by omega))))
|refine S_unG rfl rfl rfl rfl ?_
|refine S_one rfl obQ ?_
|(refine S_callM (f := 42) rfl obQ (by kernel_rfl) (fun w hw => given_as (s := sf) rfl (by rw [hnsf.h]; exact hs) (fun h => by cases h) (hw.rdm hSf memQ)) (fun w1O w2O vO hw1O hbO hRO => ?_); obtain ⟨AO, cO, rfl, hSO⟩ := hRO; clear hw1O hbO)
|(refine S_callM (f := 56) rfl obQ (by kernel_rfl) (fun w hw => lints_c (some adD) c3 k hl (fun h => by cases h) w (hw.rdm hr3.toS memQ)) (fun w1I w2I vI hw1I hbI hRI => ?_); obtain ⟨AI, cI, rfl, hSI⟩ := hRI; clear hw1I hbI)
|refine S_nil ?_
|refine S_call (f := 72) rfl obQ (by kernel_rfl) (fun w hw => ltold_c ⟨p.nm, p.w, p.h, sf⟩ (some adf) cf w) ?_
|refine S_call (f := 60) rfl obQ (by kernel_rfl) (fun w hw => xcp_as hpf.h (by show sf.length ≤ 1000000; rw [hnsf.h]; exact hs) hnm (hw.rdm hSf memQ)) ?_
|refine S_call (f := 83) rfl obQ (by kernel_rfl) (fun w hw => cfill_as hCf.h (by show sf.length ≤ 1000000; rw [hnsf.h]; exact hs) hl (hw.rdm hSO memQ) (hw.rdm hSI memQ)) ?_)
|(refine V_id ?_; first
|refine V_nil ?_
|refine V_q rfl (Yl_unG rfl rfl rfl (Yl_step rfl obQ)) ?_
|refine V_q rfl (Yl_step rfl obQ) ?_
|refine V_n rfl ?_)
|refine G_V ⟨⟨_, rfl, trivial⟩, ⟨_, rfl⟩, rfl, pstQ⟩ rfl ?_
|refine G_then ?_)
          refine C_trim [2, 3, 32] 3 rfl rfl ?_
          refine C_cut (fun U : SlA (sf.map (.float .f32)) × Nat => ([U.1.ps, (f2, fun b => f1.heap.size ≤ b ∧ b < f2.heap.size), (w, fun b => b < w.heap.size)], (⟨[(32, .s (.p bf 2 0)), (34, .s (.p U.2 3 0)), (35, .s (.v (.int .i64 0)))], [⟨b2, 87, [.v (.string p.nm), .v (.int .i64 p.w), .v (.int .i64 p.h), .v (.slice (some adA) p.s.length c), .v (.string q.nm), .v (.int .i64 q.w), .v (.int .i64 q.h), .v (.slice (some adB) q.s.length c2)]⟩, ⟨b3, 135, [.v (.slice (some adD) k.length c3), .v (.slice (some adE) k2.length c4)]⟩, ⟨bf, 70, [.v (.string p.nm), .v (.int .i64 p.w), .v (.int .i64 p.h), .v (.slice (some adf) sf.length cf)]⟩, ⟨U.2, 70, [.v (.string p.nm), .v (.int .i64 p.w), .v (.int .i64 p.h), .v (.slice U.1.A sf.length U.1.c)]⟩], []⟩ : St))) ?_ (fun U => ?_)
          · repeat' (first
|refine C_drawTr0 (id := 45) 18 (.q 0 (.q 3 (.q 4 (.q 5 (.q 6 (.q 9 (.q 10 (.two 1 16 (.two 2 16 (.two 7 16 (.two 8 16 (.two 11 16 (.two 12 16 (.q 13 (.q 14 (.q 15 (.n 16 (.n 17 .nil))))) (.n 12 (.q 13 (.q 14 (.q 15 (.n 17 .nil)))))) (.n 11 (.n 12 (.q 13 (.q 14 (.q 15 (.n 17 .nil))))))) (.n 8 (.n 11 (.n 12 (.q 13 (.q 14 (.q 15 (.n 17 .nil)))))))) (.n 7 (.n 8 (.n 11 (.n 12 (.q 13 (.q 14 (.q 15 (.n 17 .nil))))))))) (.n 2 (.n 7 (.n 8 (.n 11 (.n 12 (.q 13 (.q 14 (.q 15 (.n 17 .nil)))))))))) (.n 1 (.n 2 (.n 7 (.n 8 (.n 11 (.n 12 (.q 13 (.q 14 (.q 15 (.n 17 .nil)))))))))))))))))) rfl mixed (by kernel_rfl) rfl ?_
|(refine S_id ?_; first
|(refine S_callM (f := 42) rfl obQ (by kernel_rfl) (fun w hw => given_as (s := sf) rfl (by rw [hnsf.h]; exact hs) (fun h => by cases h) (hw.rdm hSf memQ)) (fun w1O w2O vO hw1O hbO hRO => ?_); obtain ⟨AO, cO, rfl, hSO⟩ := hRO; clear hw1O hbO)
|(refine S_callM (f := 98) rfl obQ (by kernel_rfl) (fun w hw => rFilled_as hW hH hsbk (by rw [hWH.h]; omega)) (fun w1B w2B vB hw1B hbB hRB => ?_); obtain ⟨AB, cB, rfl, hSB⟩ := hRB; obtain ⟨adB, rfl⟩ := rdS_some hSB (by show 0 < (sbk.map _).length; rw [List.length_map, hnbk.h]; omega); clear hw1B hbB)
|(refine S_callM (f := 42) rfl obQ (by kernel_rfl) (fun w hw => given_as (s := sbk) rfl (by rw [hnbk.h]; exact hs) (fun h => by cases h) (hw.rdm hSB memQ)) (fun w1C w2C vC hw1C hbC hRC => ?_); obtain ⟨AC, cC, rfl, hSC⟩ := hRC; clear hw1C hbC)
|(refine S_callM (f := 56) rfl obQ (by kernel_rfl) (fun w hw => lints_c (some adD) c3 k hl (fun h => by cases h) w (hw.rdm hr3.toS memQ)) (fun w1I w2I vI hw1I hbI hRI => ?_); obtain ⟨AI, cI, rfl, hSI⟩ := hRI; clear hw1I hbI)
|(refine S_callM (f := 77) rfl obQ (by kernel_rfl) (fun w hw => over_as (hVo _ (by kernel_rfl)) (by show sf.length ≤ 1000000; rw [hnsf.h]; exact hs) (by show sbk.length ≤ 1000000; rw [hnbk.h]; exact hs) hl (hw.rdm hSO memQ) (hw.rdm hSC memQ) (hw.rdm hSI memQ)) (fun w1P w2P vP hw1P hbP hRP => ?_); obtain ⟨AP, cP, rfl, hSP⟩ := hRP; clear hw1P hbP)
|refine S_nil ?_
|refine S_runN rfl rfl obQ obQ ?_
|refine S_box (fun b34 => ⟨_, _, rfl, obQ, ?_⟩)
|refine S_call (f := 72) rfl obQ (by kernel_rfl) (fun w hw => ltold_c ⟨p.nm, p.w, p.h, sf⟩ (some adf) cf w) ?_)
|(refine VT_id ?_; first
|refine VT_nil ?_
|refine VT_q rfl (Yl_step rfl obQ) ?_
|refine VT_n rfl ?_
|refine VT_two rfl rfl ?_ ?_)
|refine G_VT2 ⟨_, rfl⟩ ⟨_, rfl⟩ pstQ rfl ?_
|refine G_cutB (⟨w1P, w2P, AP, cP, hSP⟩, b34) ⟨_, rfl, obQ⟩ slB rfl psQ)
          obtain ⟨⟨o1, o2, Ah, ch, hSh⟩, bh⟩ := U
          dsimp only [SlA.ps]
          repeat' (first
|refine C_seq ?_
|refine C_ret0 ?_
|refine C_drawV (id := 46) 6 [(0, true), (1, false), (2, true), (3, true), (5, true), (4, false)] rfl mixed (by kernel_rfl) rfl ?_
|(refine S_id ?_; first
|((with_reducible (first | refine S_trueE ?_ ?_ | refine S_trueB ?_ ?_ | refine S_trueL ?_ ?_ | refine S_trueD ?_ ?_ | refine S_trueN ?_ ?_)); · (first | rfl | assumption | omega | exact decide_eq_true (by omega) | exact beq_self_eq_true _ | exact bne_iff_ne.2 (by assumption)))
|((with_reducible refine S_trueA ?_ ?_ ?_); (· rfl); (· first | rfl | (first | rfl | assumption | omega | exact decide_eq_true (by omega) | exact beq_self_eq_true _ | exact bne_iff_ne.2 (by assumption))))
|refine S_unG rfl rfl rfl rfl ?_
|refine S_one rfl obQ ?_
|refine S_nil ?_
|refine S_call (f := 17) rfl obQ (by kernel_rfl) (fun w hw => mawake_c w (Sh_at hsh hw memQ) (Pw_at hP hw memQ)) ?_
|refine S_call (f := 72) rfl obQ (by kernel_rfl) (fun w hw => ltold_c ⟨p.nm, p.w, p.h, sf⟩ Ah ch w) ?_
|refine S_call (f := 72) rfl obQ (by kernel_rfl) (fun w hw => ltold_c ⟨p.nm, p.w, p.h, sf⟩ (some adf) cf w) ?_
|refine S_call (f := 73) rfl obQ (by kernel_rfl) (fun w hw => rSameP_c ⟨p.nm, p.w, p.h, sf⟩ Ah (some adf) ch cf (by show sf.length ≤ 1000000; rw [hnsf.h]; exact hs) hff w (hw.rdm hSh memQ) (hw.rdm hSf memQ)) ?_)
|(refine V_id ?_; first
|refine V_nil ?_
|refine V_q rfl (Yl_unG rfl rfl rfl (Yl_step rfl obQ)) ?_
|refine V_q rfl (Yl_step rfl obQ) ?_
|refine V_n rfl ?_)
|refine G_V ⟨⟨_, rfl, trivial⟩, ⟨_, rfl⟩, rfl, pstQ⟩ rfl ?_
|refine G_then ?_
|refine G_ret rfl obQ (fun w hw => ⟨?_, hw.below⟩))
          all_goals rfl
end Go.Proofs.YtjkgklhjbopoaaaGreatDoor
