/- The law of openings: the walk. -/
import Derived.Test.YtjkgklhjbopoaaaGreatDoorMixer99
namespace Go.Proofs.YtjkgklhjbopoaaaGreatDoor
open Go.E Go.RowKit Go.Fl
attribute [local irreducible] G C S D Calls
set_option maxRecDepth 100000
set_option linter.all false
set_option maxHeartbeats 8000000
theorem lOpens_c (x : Wip) (n : Nat) (hn8 : n ≤ 255) (a b : Nat) (ha8 : a ≤ 255) (hb8 : b ≤ 255) (w : World) (hsh : Sh w) (hP : Pw w) : Calls Tryz.prog 5 #[.agg #[.string x.sh, .int .i64 x.a, .int .i64 x.b, .int .i64 x.at_, .int .i64 x.soft], .int .u8 ((n : Nat) : Int), .agg #[.int .u8 ((a : Nat) : Int), .int .u8 ((b : Nat) : Int)]] w fun r w' => r = .returned (.bool true) ∧ Below w.heap.size w w' := by
  refine calls_of T_ok Tryz.func5 rfl Tryz.ntmps5 (Nat.le_of_ble_eq_true rfl) rfl ?_
  by_cases hS : (x.sh.size : Int) ≤ 40
  obtain ⟨bad, hbad⟩ : ∃ e, wpE x = e := ⟨_, rfl⟩
  by_cases hC : bad = 0
  subst hC
  have hx := wp_ok.1 hbad
  have hat := hx.at_
  have hso := hx.soft
  by_cases hA : x.at_ + n ≤ 100000
  rotate_left 1
  iterate 3
    · repeat' (first
|(refine C_id ?_; first
|refine C_seq ?_
|refine C_region rfl ?_
|refine C_ret0 ?_
|refine C_condT rfl obQ ?_)
|(refine S_id ?_; first
|((with_reducible (first | refine S_falseN ?_ ?_ | refine S_falseB ?_ ?_ | refine S_falseL ?_ ?_ | refine S_falseD ?_ ?_ | refine S_falseE ?_ ?_)); · (first | rfl | omega | exact decide_eq_false (by omega) | exact bne_eq_false_iff_eq.2 (by omega)))
|((with_reducible refine S_falseO ?_ ?_ ?_); (· rfl); (· first | rfl | (first | rfl | omega | exact decide_eq_false (by omega) | exact bne_eq_false_iff_eq.2 (by omega))))
|((with_reducible (first | refine S_trueE ?_ ?_ | refine S_trueB ?_ ?_ | refine S_trueL ?_ ?_ | refine S_trueD ?_ ?_ | refine S_trueN ?_ ?_)); · (first | exact beq_self_eq_true _ | rfl | assumption | omega | exact decide_eq_true (by omega) | exact bne_iff_ne.2 (by assumption)))
|refine S_unG rfl rfl rfl rfl ?_
|refine S_offG (.v (.bool false)) rfl rfl rfl rfl rfl ?_
|refine S_one rfl obQ ?_
|refine S_nil ?_
|refine S_box (fun b3 => ⟨_, _, rfl, obQ, ?_⟩)
|refine S_call (f := 17) rfl obQ (by kernel_rfl) (fun w hw => mawake_c w (Sh_at hsh hw memQ) (Pw_at hP hw memQ)) ?_
|refine S_call (f := 16) rfl obQ (by kernel_rfl) (fun w hw => xShortWipe_c x w) ?_
|refine S_call (f := 21) rfl obQ (by kernel_rfl) (fun w hw => (by have h := xCheckWipe_c x w; rw [hbad] at h; exact h)) ?_)
|refine G_then ?_
|refine G_thenR ?_
|refine G_ret rfl obQ (fun w hw => ⟨?_, hw.below⟩))
      all_goals rfl
  obtain ⟨W, hWd⟩ : ∃ W, 1 + a % 8 = W := ⟨_, rfl⟩
  obtain ⟨H, hHd⟩ : ∃ H, 1 + b % 8 = H := ⟨_, rfl⟩
  have hWi : 1 + (a : Int) % 8 = (W : Int) := by omega
  have hHi : 1 + (b : Int) % 8 = (H : Int) := by omega
  have hW8 : 1 ≤ W ∧ W ≤ 8 := by omega
  have hH8 : 1 ≤ H ∧ H ≤ 8 := by omega
  have hE3 : bdE x n W H = 0 := op_bd hx hn8 hA (by omega) (by omega)
  obtain ⟨la, hla⟩ : ∃ l, wsL x W H = l := ⟨_, rfl⟩
  obtain ⟨lb, hlb⟩ : ∃ l, wsL (x.wide n) W H = l := ⟨_, rfl⟩
  obtain ⟨lc, hlc⟩ : ∃ l, zwI sbI (wsL (x.wide n) W H) (wsL x W H) = l := ⟨_, rfl⟩
  have hR1 : wdR x W H = (la, 0) := by rw [← hla]; exact if_pos (op_wd hx (by omega) (by omega))
  have hR2 : wdR (x.wide n) W H = (lb, 0) := by rw [← hlb]; exact if_pos (op_wd (bdd_ok hE3).2.1 (by omega) (by omega))
  have hR3 : brR x n W H = (lc, 0) := by rw [← hlc]; exact if_pos hE3
  have hnl : la.length = H * W := by rw [← hla, wsL_len]
  have hnb : lb.length = H * W := by rw [← hlb, wsL_len]
  have hnc : lc.length = H * W := by rw [← hlc, zwI_len, wsL_len]
  have hNN : (la.length : Int) = (W : Int) * (H : Int) := by rw [hnl, Int.natCast_mul, Int.mul_comm]
  have hN1 : 0 < H * W := Nat.mul_pos (by omega) (by omega)
  have hN64 : H * W ≤ 8 * 8 := Nat.mul_le_mul (by omega) (by omega)
  repeat' (first
|refine C_seq ?_
|refine C_regionNe 1 rfl rfl ?_
|refine S_nil ?_
|refine S_runN rfl rfl obQ obQ ?_
|refine S_box (fun b5 => ⟨_, _, rfl, obQ, ?_⟩)
|refine G_then ?_)
  rename_i b3
  repeat' (first
|(refine C_id ?_; first
|refine C_seq ?_
|refine C_regionNe 3 rfl rfl ?_
|refine C_skip ?_
|refine C_condF rfl obQ ?_)
|(refine S_id ?_; first
|((with_reducible (first | refine S_falseN ?_ ?_ | refine S_falseB ?_ ?_ | refine S_falseL ?_ ?_ | refine S_falseD ?_ ?_ | refine S_falseE ?_ ?_)); · (first | rfl | omega | exact decide_eq_false (by omega) | exact bne_eq_false_iff_eq.2 (by omega)))
|((with_reducible refine S_falseO ?_ ?_ ?_); (· rfl); (· first | rfl | (first | rfl | omega | exact decide_eq_false (by omega) | exact bne_eq_false_iff_eq.2 (by omega))))
|((with_reducible (first | refine S_trueE ?_ ?_ | refine S_trueB ?_ ?_ | refine S_trueL ?_ ?_ | refine S_trueD ?_ ?_ | refine S_trueN ?_ ?_)); · (first | exact beq_self_eq_true _ | rfl | assumption | omega | exact decide_eq_true (by omega) | exact bne_iff_ne.2 (by assumption)))
|refine S_unG rfl rfl rfl rfl ?_
|refine S_one rfl obQ ?_
|refine S_nil ?_
|refine S_call (f := 16) rfl obQ (by kernel_rfl) (fun w hw => xShortWipe_c x w) ?_
|refine S_call (f := 21) rfl obQ (by kernel_rfl) (fun w hw => (by have h := xCheckWipe_c x w; rw [hbad] at h; exact h)) ?_)
|refine G_then ?_)
  repeat' (first
|refine C_seq ?_
|refine C_drawV (id := 3) 11 [(0, true), (1, true), (2, true), (3, true), (4, true), (5, true), (6, true), (7, true), (8, true), (9, true), (10, true)] rfl mixed (by kernel_rfl) rfl ?_
|refine S_nil ?_
|refine S_runN rfl rfl obQ obQ ?_
|refine V_nil ?_
|refine V_q rfl (Yl_step rfl obQ) ?_
|refine G_then ?_)
  refine C_valD 7 rfl (show Value.int .i64 (1 + (a : Int) % 8) = .int .i64 (W : Int) by rw [hWi]) ?_
  refine C_valD 8 rfl (show Value.int .i64 (1 + (b : Int) % 8) = .int .i64 (H : Int) by rw [hHi]) ?_
  repeat' (first
|refine C_seq ?_
|refine C_regionNe 9 rfl rfl ?_
|(refine S_id ?_; first
|(refine S_callM (f := 18) rfl obQ (by kernel_rfl) (fun w hw => wiped_as hR1 (Sh_at hsh hw memQ)) (fun w1P w2P vP hw1P hbP hRP => ?_); obtain ⟨AP, cP, rfl, hSP⟩ := hRP; clear hw1P hbP)
|(refine S_callM (f := 18) rfl obQ (by kernel_rfl) (fun w hw => wiped_as (x := x.wide n) hR2 (Sh_at hsh hw memQ)) (fun w1Q w2Q vQ hw1Q hbQ hRQ => ?_); obtain ⟨AQ, cQ, rfl, hSQ⟩ := hRQ; clear hw1Q hbQ)
|(refine S_callM (f := 19) rfl obQ (by kernel_rfl) (fun w hw => border_as hR3 (Sh_at hsh hw memQ)) (fun w1R w2R vR hw1R hbR hRR => ?_); obtain ⟨AR, cR, rfl, hSR⟩ := hRR; clear hw1R hbR)
|refine S_nil ?_
|refine S_runN rfl rfl obQ obQ ?_
|refine S_box (fun b9 => ⟨_, _, rfl, obQ, ?_⟩))
|refine G_then ?_)
  repeat' (first
|(refine C_id ?_; first
|refine C_seq ?_
|refine C_regionNe 11 rfl rfl ?_
|refine C_skip ?_
|refine C_condF rfl obQ ?_)
|(refine S_id ?_; first
|((with_reducible (first | refine S_falseN ?_ ?_ | refine S_falseB ?_ ?_ | refine S_falseL ?_ ?_ | refine S_falseD ?_ ?_ | refine S_falseE ?_ ?_)); · (first | rfl | omega | exact decide_eq_false (by omega) | exact bne_eq_false_iff_eq.2 (by omega)))
|((with_reducible refine S_falseO ?_ ?_ ?_); (· rfl); (· first | rfl | (first | rfl | omega | exact decide_eq_false (by omega) | exact bne_eq_false_iff_eq.2 (by omega))))
|refine S_unG rfl rfl rfl rfl ?_
|refine S_one rfl obQ ?_
|refine S_nil ?_)
|refine G_then ?_)
  obtain ⟨adP, rfl⟩ := rdS_some hSP (by rw [List.length_map]; omega)
  obtain ⟨adQ, rfl⟩ := rdS_some hSQ (by rw [List.length_map]; omega)
  obtain ⟨adR, rfl⟩ := rdS_some hSR (by rw [List.length_map]; omega)
  refine C_trim [3, 5, 7, 8, 10, 12, 14] 2 rfl rfl ?_
  repeat' (first
|refine C_seq ?_
|refine C_region rfl ?_
|refine C_block ?_
|refine S_nil ?_
|refine S_runN rfl rfl obQ obQ ?_
|refine G_then ?_)
  refine C_row0 16 62 1 rfl ?_
  refine C_loopS (fun i : Nat × Option Addr × Nat => ⟨[(119, .s (.v (.int .i64 i.1))), (118, .s (.v (.int .i64 la.length))), (3, .s (.p b3 0 0)), (5, .s (.p b5 1 0)), (7, .s (.v (.int .i64 ((W : Nat) : Int)))), (8, .s (.v (.int .i64 ((H : Nat) : Int)))), (10, .s (.v (.slice (some adP) la.length cP))), (12, .s (.v (.slice (some adQ) lb.length cQ))), (14, .s (.v (.slice (some adR) lc.length cR))), (16, .s (.r i.2.1 i.1 i.2.2 0))], [⟨b3, 23, [.v (.string x.sh), .v (.int .i64 x.a), .v (.int .i64 x.b), .v (.int .i64 x.at_), .v (.int .i64 x.soft)]⟩, ⟨b5, 59, [.v (.int .u8 ((a : Nat) : Int)), .v (.int .u8 ((b : Nat) : Int))]⟩], [⟨62, 1, i.1, ((la.take i.1).map smp).map (.float .f32), .slice i.2.1 i.1 i.2.2⟩]⟩) (fun i => i.1 ≤ la.length ∧ (i.2.1 = none → i.1 = 0 ∧ i.2.2 = 0)) (fun i => la.length - i.1) (0, none, 0) ⟨Nat.zero_le _, fun _ => ⟨rfl, rfl⟩⟩ ?_ (fun i hi => ?_)
  · exact svQ
  obtain ⟨k, A', c'⟩ := i
  have hk : k ≤ la.length := hi.1
  have hA0 : A' = none → k = 0 ∧ c' = 0 := hi.2
  dsimp only
  by_cases hlt : k < la.length
  · have hpt := op_at hx (Int.natCast_nonneg n) (show 0 < W by omega) (show k < H * W by omega)
    rw [hla, hlb] at hpt
    simp only [Int.natCast_emod, Int.natCast_ediv] at hpt
    have hcc : gI lc k = gI lb k - gI la k := by
      rw [← hlc, zwI_at (by rw [wsL_len]; omega), hla, hlb]
      rfl
    have hX : 0 ≤ (k : Int) % (W : Int) ∧ (k : Int) % (W : Int) < W := ⟨Int.emod_nonneg _ (by omega), Int.emod_lt_of_pos _ (by omega)⟩
    have hY : 0 ≤ (k : Int) / (W : Int) ∧ (k : Int) / (W : Int) ≤ 64 := ⟨Int.ediv_nonneg (by omega) (by omega), Int.le_trans (Int.ediv_le_self _ (by omega)) (by omega)⟩
    obtain ⟨v, hv⟩ : ∃ v, wvF x ((k : Int) % (W : Int)) ((k : Int) / (W : Int)) = v := ⟨_, rfl⟩
    rw [hv] at hpt
    obtain ⟨hp1, hp2, hp3, hp4, hp5⟩ := hpt
    have hst : (la.take (k + 1)).map smp = (la.take k).map smp ++ [smp (gI la k)] := by rw [List.take_succ_eq_append_getElem hlt, List.map_append, gI_at hlt]; rfl
    by_cases hva : v = x.at_
    · have hp6 := hp5 hva
      by_cases hs0 : x.soft = 0
      · have hq := hp6.2 hs0
        repeat' (first
|(refine C_id ?_; first
|refine C_seq ?_
|refine C_region rfl ?_
|refine C_block ?_
|refine C_skip ?_
|refine C_drawV (id := 15) 7 [(0, true), (1, true), (2, true), (3, true), (4, true), (5, true), (6, true)] rfl mixed (by kernel_rfl) rfl ?_
|refine C_drawV (id := 16) 53 [(0, true), (1, true), (2, true), (3, true), (4, false), (5, true), (6, true), (7, true), (8, true), (9, true), (10, false), (11, true), (12, true), (13, true), (14, true), (15, true), (16, true), (17, true), (18, true), (19, true), (20, true), (21, false), (22, true), (23, true), (24, true), (25, true), (26, true), (27, true), (28, true), (29, true), (30, true), (31, true), (32, true), (33, true), (34, true), (35, true), (36, true), (37, false), (38, true), (39, true), (40, true), (41, true), (42, false), (43, true), (44, true), (45, true), (46, true), (47, true), (48, false), (49, true), (50, true), (51, true), (52, true)] rfl mixed (by kernel_rfl) rfl ?_
|refine C_condT rfl obQ ?_
|refine C_condF rfl obQ ?_)
|(refine S_id ?_; first
|((with_reducible (first | refine S_falseN ?_ ?_ | refine S_falseB ?_ ?_ | refine S_falseL ?_ ?_ | refine S_falseD ?_ ?_ | refine S_falseE ?_ ?_)); · (first | rfl | omega | exact decide_eq_false (by omega) | exact bne_eq_false_iff_eq.2 (by omega) | exact beq_eq_false_iff_ne.2 (by omega)))
|((with_reducible refine S_falseO ?_ ?_ ?_); (· rfl); (· first | rfl | (first | rfl | omega | exact decide_eq_false (by omega) | exact bne_eq_false_iff_eq.2 (by omega) | exact beq_eq_false_iff_ne.2 (by omega))))
|((with_reducible (first | refine S_trueE ?_ ?_ | refine S_trueB ?_ ?_ | refine S_trueL ?_ ?_ | refine S_trueD ?_ ?_ | refine S_trueN ?_ ?_)); · (first | rfl | assumption | omega | exact decide_eq_true (by omega) | exact beq_iff_eq.2 (by omega) | exact bne_iff_ne.2 (by omega)))
|refine S_unG rfl rfl rfl rfl ?_
|refine S_offG (.v (.bool false)) rfl rfl rfl rfl rfl ?_
|refine S_load rfl obQ rfl [.int .i64 (gI la k)] (.past (w2P, fun b => w1P.heap.size ≤ b ∧ b < w2P.heap.size) memQ _ _ hSP _ adP rfl rfl (gI_idxZ (k := k) rfl (by omega))) rfl (.inr ⟨rfl, rfl⟩) ?_
|refine S_one rfl obQ ?_
|refine S_append rfl obQ rfl rfl rfl ⟨by decide, rfl⟩ rfl ⟨rfl, rfl, rfl, rfl⟩ [.float .f32 (smp (gI la k))] ⟨by decide, rfl⟩ (by simp [Value.oneCell']) (fun w hw => by first | exact hw.src (i := 0) rfl rfl | exact hw.src (i := 1) rfl rfl | exact hw.src (i := 2) rfl rfl | exact hw.src (i := 3) rfl rfl | exact hw.src (i := 4) rfl rfl | exact hw.src (i := 5) rfl rfl | exact hw.src (i := 6) rfl rfl | exact hw.src (i := 7) rfl rfl | exact hw.src (i := 8) rfl rfl) (by unfold maxLen; dsimp only; omega) (fun gb cap' => ⟨_, rfl, ?_⟩)
|refine S_nil ?_
|refine S_slice (fun b => ⟨_, _, rfl, obQ, ?_⟩)
|refine S_call (f := 38) rfl obQ (by kernel_rfl) (fun w hw => (by have h := xValue_c x hx ((k : Int) % (W : Int)) ((k : Int) / (W : Int)) (by omega) (by omega) w; rw [hv] at h; exact h)) ?_
|refine S_call (f := 39) rfl obQ (by kernel_rfl) (fun w hw => rSample_c (gI la k) (by omega) w) ?_)
|(refine V_id ?_; first
|refine V_nil ?_
|refine V_q rfl (Yl_unG rfl rfl rfl (Yl_load rfl obQ rfl [.int .i64 (gI la k)] (.past (w2P, fun b => w1P.heap.size ≤ b ∧ b < w2P.heap.size) memQ _ _ hSP _ adP rfl rfl (gI_idxZ (k := k) rfl (by omega))) rfl (.inr ⟨rfl, rfl⟩))) ?_
|refine V_q rfl (Yl_load rfl obQ rfl [.int .i64 (gI la k)] (.past (w2P, fun b => w1P.heap.size ≤ b ∧ b < w2P.heap.size) memQ _ _ hSP _ adP rfl rfl (gI_idxZ (k := k) rfl (by omega))) rfl (.inr ⟨rfl, rfl⟩)) ?_
|refine V_q rfl (Yl_unG rfl rfl rfl (Yl_load rfl obQ rfl [.int .i64 (gI lb k)] (.past (w2Q, fun b => w1Q.heap.size ≤ b ∧ b < w2Q.heap.size) memQ _ _ hSQ _ adQ rfl rfl (gI_idxZ (k := k) rfl (by omega))) rfl (.inr ⟨rfl, rfl⟩))) ?_
|refine V_q rfl (Yl_unG rfl rfl rfl (Yl_load rfl obQ rfl [.int .i64 (gI lc k)] (.past (w2R, fun b => w1R.heap.size ≤ b ∧ b < w2R.heap.size) memQ _ _ hSR _ adR rfl rfl (gI_idxZ (k := k) rfl (by omega))) rfl (.inr ⟨rfl, rfl⟩))) ?_
|refine V_q rfl (Yl_unG rfl rfl rfl (Yl_step rfl obQ)) ?_
|refine V_q rfl (Yl_offG (.v (.bool false)) rfl rfl rfl rfl rfl) ?_
|refine V_q rfl (Yl_step rfl obQ) ?_
|refine V_n rfl ?_)
|(refine G_id ?_; first
|refine G_V ⟨⟨_, rfl, trivial⟩, ⟨_, rfl⟩, rfl, pstQ⟩ rfl ?_
|refine G_loop (k + 1, some ⟨gb, 0, none⟩, cap') ⟨show k + 1 ≤ la.length by omega, fun h => by cases h⟩ (by show la.length - (k + 1) < la.length - k; omega) (by dsimp only; rw [hst, List.map_append]; exact svQ)
|refine G_then ?_
|refine G_block ?_))
      · have hq := hp6.1 (by omega)
        repeat' (first
|(refine C_id ?_; first
|refine C_seq ?_
|refine C_region rfl ?_
|refine C_block ?_
|refine C_skip ?_
|refine C_drawV (id := 15) 7 [(0, true), (1, true), (2, true), (3, true), (4, true), (5, true), (6, true)] rfl mixed (by kernel_rfl) rfl ?_
|refine C_drawV (id := 16) 53 [(0, true), (1, true), (2, true), (3, true), (4, false), (5, true), (6, true), (7, true), (8, true), (9, true), (10, false), (11, true), (12, true), (13, true), (14, true), (15, true), (16, true), (17, true), (18, true), (19, true), (20, true), (21, false), (22, true), (23, true), (24, true), (25, true), (26, true), (27, true), (28, true), (29, true), (30, true), (31, true), (32, true), (33, true), (34, true), (35, true), (36, true), (37, false), (38, true), (39, true), (40, true), (41, true), (42, false), (43, true), (44, true), (45, true), (46, true), (47, true), (48, false), (49, true), (50, true), (51, true), (52, true)] rfl mixed (by kernel_rfl) rfl ?_
|refine C_condT rfl obQ ?_
|refine C_condF rfl obQ ?_)
|(refine S_id ?_; first
|((with_reducible (first | refine S_falseN ?_ ?_ | refine S_falseB ?_ ?_ | refine S_falseL ?_ ?_ | refine S_falseD ?_ ?_ | refine S_falseE ?_ ?_)); · (first | rfl | omega | exact decide_eq_false (by omega) | exact bne_eq_false_iff_eq.2 (by omega) | exact beq_eq_false_iff_ne.2 (by omega)))
|((with_reducible refine S_falseO ?_ ?_ ?_); (· rfl); (· first | rfl | (first | rfl | omega | exact decide_eq_false (by omega) | exact bne_eq_false_iff_eq.2 (by omega) | exact beq_eq_false_iff_ne.2 (by omega))))
|((with_reducible (first | refine S_trueE ?_ ?_ | refine S_trueB ?_ ?_ | refine S_trueL ?_ ?_ | refine S_trueD ?_ ?_ | refine S_trueN ?_ ?_)); · (first | rfl | assumption | omega | exact decide_eq_true (by omega) | exact beq_iff_eq.2 (by omega) | exact bne_iff_ne.2 (by omega)))
|refine S_unG rfl rfl rfl rfl ?_
|refine S_offG (.v (.bool false)) rfl rfl rfl rfl rfl ?_
|refine S_load rfl obQ rfl [.int .i64 (gI la k)] (.past (w2P, fun b => w1P.heap.size ≤ b ∧ b < w2P.heap.size) memQ _ _ hSP _ adP rfl rfl (gI_idxZ (k := k) rfl (by omega))) rfl (.inr ⟨rfl, rfl⟩) ?_
|refine S_one rfl obQ ?_
|refine S_append rfl obQ rfl rfl rfl ⟨by decide, rfl⟩ rfl ⟨rfl, rfl, rfl, rfl⟩ [.float .f32 (smp (gI la k))] ⟨by decide, rfl⟩ (by simp [Value.oneCell']) (fun w hw => by first | exact hw.src (i := 0) rfl rfl | exact hw.src (i := 1) rfl rfl | exact hw.src (i := 2) rfl rfl | exact hw.src (i := 3) rfl rfl | exact hw.src (i := 4) rfl rfl | exact hw.src (i := 5) rfl rfl | exact hw.src (i := 6) rfl rfl | exact hw.src (i := 7) rfl rfl | exact hw.src (i := 8) rfl rfl) (by unfold maxLen; dsimp only; omega) (fun gb cap' => ⟨_, rfl, ?_⟩)
|refine S_nil ?_
|refine S_slice (fun b => ⟨_, _, rfl, obQ, ?_⟩)
|refine S_call (f := 38) rfl obQ (by kernel_rfl) (fun w hw => (by have h := xValue_c x hx ((k : Int) % (W : Int)) ((k : Int) / (W : Int)) (by omega) (by omega) w; rw [hv] at h; exact h)) ?_
|refine S_call (f := 39) rfl obQ (by kernel_rfl) (fun w hw => rSample_c (gI la k) (by omega) w) ?_)
|(refine V_id ?_; first
|refine V_nil ?_
|refine V_q rfl (Yl_unG rfl rfl rfl (Yl_load rfl obQ rfl [.int .i64 (gI la k)] (.past (w2P, fun b => w1P.heap.size ≤ b ∧ b < w2P.heap.size) memQ _ _ hSP _ adP rfl rfl (gI_idxZ (k := k) rfl (by omega))) rfl (.inr ⟨rfl, rfl⟩))) ?_
|refine V_q rfl (Yl_load rfl obQ rfl [.int .i64 (gI la k)] (.past (w2P, fun b => w1P.heap.size ≤ b ∧ b < w2P.heap.size) memQ _ _ hSP _ adP rfl rfl (gI_idxZ (k := k) rfl (by omega))) rfl (.inr ⟨rfl, rfl⟩)) ?_
|refine V_q rfl (Yl_unG rfl rfl rfl (Yl_load rfl obQ rfl [.int .i64 (gI lb k)] (.past (w2Q, fun b => w1Q.heap.size ≤ b ∧ b < w2Q.heap.size) memQ _ _ hSQ _ adQ rfl rfl (gI_idxZ (k := k) rfl (by omega))) rfl (.inr ⟨rfl, rfl⟩))) ?_
|refine V_q rfl (Yl_unG rfl rfl rfl (Yl_load rfl obQ rfl [.int .i64 (gI lc k)] (.past (w2R, fun b => w1R.heap.size ≤ b ∧ b < w2R.heap.size) memQ _ _ hSR _ adR rfl rfl (gI_idxZ (k := k) rfl (by omega))) rfl (.inr ⟨rfl, rfl⟩))) ?_
|refine V_q rfl (Yl_unG rfl rfl rfl (Yl_step rfl obQ)) ?_
|refine V_q rfl (Yl_offG (.v (.bool false)) rfl rfl rfl rfl rfl) ?_
|refine V_q rfl (Yl_step rfl obQ) ?_
|refine V_n rfl ?_)
|(refine G_id ?_; first
|refine G_V ⟨⟨_, rfl, trivial⟩, ⟨_, rfl⟩, rfl, pstQ⟩ rfl ?_
|refine G_loop (k + 1, some ⟨gb, 0, none⟩, cap') ⟨show k + 1 ≤ la.length by omega, fun h => by cases h⟩ (by show la.length - (k + 1) < la.length - k; omega) (by dsimp only; rw [hst, List.map_append]; exact svQ)
|refine G_then ?_
|refine G_block ?_))
    · by_cases hs0 : x.soft = 0
      · rcases hp4 hs0 with hq | hq
        · repeat' (first
|(refine C_id ?_; first
|refine C_seq ?_
|refine C_region rfl ?_
|refine C_block ?_
|refine C_skip ?_
|refine C_drawV (id := 15) 7 [(0, true), (1, true), (2, true), (3, true), (4, true), (5, true), (6, true)] rfl mixed (by kernel_rfl) rfl ?_
|refine C_drawV (id := 16) 53 [(0, true), (1, true), (2, true), (3, true), (4, false), (5, true), (6, true), (7, true), (8, true), (9, true), (10, false), (11, true), (12, true), (13, true), (14, true), (15, true), (16, true), (17, true), (18, true), (19, true), (20, true), (21, false), (22, true), (23, true), (24, true), (25, true), (26, true), (27, true), (28, true), (29, true), (30, true), (31, true), (32, true), (33, true), (34, true), (35, true), (36, true), (37, false), (38, true), (39, true), (40, true), (41, true), (42, false), (43, true), (44, true), (45, true), (46, true), (47, true), (48, false), (49, true), (50, true), (51, true), (52, true)] rfl mixed (by kernel_rfl) rfl ?_
|refine C_condT rfl obQ ?_
|refine C_condF rfl obQ ?_)
|(refine S_id ?_; first
|((with_reducible (first | refine S_falseN ?_ ?_ | refine S_falseB ?_ ?_ | refine S_falseL ?_ ?_ | refine S_falseD ?_ ?_ | refine S_falseE ?_ ?_)); · (first | rfl | omega | exact decide_eq_false (by omega) | exact bne_eq_false_iff_eq.2 (by omega) | exact beq_eq_false_iff_ne.2 (by omega)))
|((with_reducible refine S_falseO ?_ ?_ ?_); (· rfl); (· first | rfl | (first | rfl | omega | exact decide_eq_false (by omega) | exact bne_eq_false_iff_eq.2 (by omega) | exact beq_eq_false_iff_ne.2 (by omega))))
|((with_reducible (first | refine S_trueE ?_ ?_ | refine S_trueB ?_ ?_ | refine S_trueL ?_ ?_ | refine S_trueD ?_ ?_ | refine S_trueN ?_ ?_)); · (first | rfl | assumption | omega | exact decide_eq_true (by omega) | exact beq_iff_eq.2 (by omega) | exact bne_iff_ne.2 (by omega)))
|refine S_unG rfl rfl rfl rfl ?_
|refine S_offG (.v (.bool false)) rfl rfl rfl rfl rfl ?_
|refine S_load rfl obQ rfl [.int .i64 (gI la k)] (.past (w2P, fun b => w1P.heap.size ≤ b ∧ b < w2P.heap.size) memQ _ _ hSP _ adP rfl rfl (gI_idxZ (k := k) rfl (by omega))) rfl (.inr ⟨rfl, rfl⟩) ?_
|refine S_one rfl obQ ?_
|refine S_append rfl obQ rfl rfl rfl ⟨by decide, rfl⟩ rfl ⟨rfl, rfl, rfl, rfl⟩ [.float .f32 (smp (gI la k))] ⟨by decide, rfl⟩ (by simp [Value.oneCell']) (fun w hw => by first | exact hw.src (i := 0) rfl rfl | exact hw.src (i := 1) rfl rfl | exact hw.src (i := 2) rfl rfl | exact hw.src (i := 3) rfl rfl | exact hw.src (i := 4) rfl rfl | exact hw.src (i := 5) rfl rfl | exact hw.src (i := 6) rfl rfl | exact hw.src (i := 7) rfl rfl | exact hw.src (i := 8) rfl rfl) (by unfold maxLen; dsimp only; omega) (fun gb cap' => ⟨_, rfl, ?_⟩)
|refine S_nil ?_
|refine S_slice (fun b => ⟨_, _, rfl, obQ, ?_⟩)
|refine S_call (f := 38) rfl obQ (by kernel_rfl) (fun w hw => (by have h := xValue_c x hx ((k : Int) % (W : Int)) ((k : Int) / (W : Int)) (by omega) (by omega) w; rw [hv] at h; exact h)) ?_
|refine S_call (f := 39) rfl obQ (by kernel_rfl) (fun w hw => rSample_c (gI la k) (by omega) w) ?_)
|(refine V_id ?_; first
|refine V_nil ?_
|refine V_q rfl (Yl_unG rfl rfl rfl (Yl_load rfl obQ rfl [.int .i64 (gI la k)] (.past (w2P, fun b => w1P.heap.size ≤ b ∧ b < w2P.heap.size) memQ _ _ hSP _ adP rfl rfl (gI_idxZ (k := k) rfl (by omega))) rfl (.inr ⟨rfl, rfl⟩))) ?_
|refine V_q rfl (Yl_load rfl obQ rfl [.int .i64 (gI la k)] (.past (w2P, fun b => w1P.heap.size ≤ b ∧ b < w2P.heap.size) memQ _ _ hSP _ adP rfl rfl (gI_idxZ (k := k) rfl (by omega))) rfl (.inr ⟨rfl, rfl⟩)) ?_
|refine V_q rfl (Yl_unG rfl rfl rfl (Yl_load rfl obQ rfl [.int .i64 (gI lb k)] (.past (w2Q, fun b => w1Q.heap.size ≤ b ∧ b < w2Q.heap.size) memQ _ _ hSQ _ adQ rfl rfl (gI_idxZ (k := k) rfl (by omega))) rfl (.inr ⟨rfl, rfl⟩))) ?_
|refine V_q rfl (Yl_unG rfl rfl rfl (Yl_load rfl obQ rfl [.int .i64 (gI lc k)] (.past (w2R, fun b => w1R.heap.size ≤ b ∧ b < w2R.heap.size) memQ _ _ hSR _ adR rfl rfl (gI_idxZ (k := k) rfl (by omega))) rfl (.inr ⟨rfl, rfl⟩))) ?_
|refine V_q rfl (Yl_unG rfl rfl rfl (Yl_step rfl obQ)) ?_
|refine V_q rfl (Yl_offG (.v (.bool false)) rfl rfl rfl rfl rfl) ?_
|refine V_q rfl (Yl_step rfl obQ) ?_
|refine V_n rfl ?_)
|(refine G_id ?_; first
|refine G_V ⟨⟨_, rfl, trivial⟩, ⟨_, rfl⟩, rfl, pstQ⟩ rfl ?_
|refine G_loop (k + 1, some ⟨gb, 0, none⟩, cap') ⟨show k + 1 ≤ la.length by omega, fun h => by cases h⟩ (by show la.length - (k + 1) < la.length - k; omega) (by dsimp only; rw [hst, List.map_append]; exact svQ)
|refine G_then ?_
|refine G_block ?_))
        · repeat' (first
|(refine C_id ?_; first
|refine C_seq ?_
|refine C_region rfl ?_
|refine C_block ?_
|refine C_skip ?_
|refine C_drawV (id := 15) 7 [(0, true), (1, true), (2, true), (3, true), (4, true), (5, true), (6, true)] rfl mixed (by kernel_rfl) rfl ?_
|refine C_drawV (id := 16) 53 [(0, true), (1, true), (2, true), (3, true), (4, false), (5, true), (6, true), (7, true), (8, true), (9, true), (10, false), (11, true), (12, true), (13, true), (14, true), (15, true), (16, true), (17, true), (18, true), (19, true), (20, true), (21, false), (22, true), (23, true), (24, true), (25, true), (26, true), (27, true), (28, true), (29, true), (30, true), (31, true), (32, true), (33, true), (34, true), (35, true), (36, true), (37, false), (38, true), (39, true), (40, true), (41, true), (42, false), (43, true), (44, true), (45, true), (46, true), (47, true), (48, false), (49, true), (50, true), (51, true), (52, true)] rfl mixed (by kernel_rfl) rfl ?_
|refine C_condT rfl obQ ?_
|refine C_condF rfl obQ ?_)
|(refine S_id ?_; first
|((with_reducible (first | refine S_falseN ?_ ?_ | refine S_falseB ?_ ?_ | refine S_falseL ?_ ?_ | refine S_falseD ?_ ?_ | refine S_falseE ?_ ?_)); · (first | rfl | omega | exact decide_eq_false (by omega) | exact bne_eq_false_iff_eq.2 (by omega) | exact beq_eq_false_iff_ne.2 (by omega)))
|((with_reducible refine S_falseO ?_ ?_ ?_); (· rfl); (· first | rfl | (first | rfl | omega | exact decide_eq_false (by omega) | exact bne_eq_false_iff_eq.2 (by omega) | exact beq_eq_false_iff_ne.2 (by omega))))
|((with_reducible (first | refine S_trueE ?_ ?_ | refine S_trueB ?_ ?_ | refine S_trueL ?_ ?_ | refine S_trueD ?_ ?_ | refine S_trueN ?_ ?_)); · (first | rfl | assumption | omega | exact decide_eq_true (by omega) | exact beq_iff_eq.2 (by omega) | exact bne_iff_ne.2 (by omega)))
|refine S_unG rfl rfl rfl rfl ?_
|refine S_offG (.v (.bool false)) rfl rfl rfl rfl rfl ?_
|refine S_load rfl obQ rfl [.int .i64 (gI la k)] (.past (w2P, fun b => w1P.heap.size ≤ b ∧ b < w2P.heap.size) memQ _ _ hSP _ adP rfl rfl (gI_idxZ (k := k) rfl (by omega))) rfl (.inr ⟨rfl, rfl⟩) ?_
|refine S_one rfl obQ ?_
|refine S_append rfl obQ rfl rfl rfl ⟨by decide, rfl⟩ rfl ⟨rfl, rfl, rfl, rfl⟩ [.float .f32 (smp (gI la k))] ⟨by decide, rfl⟩ (by simp [Value.oneCell']) (fun w hw => by first | exact hw.src (i := 0) rfl rfl | exact hw.src (i := 1) rfl rfl | exact hw.src (i := 2) rfl rfl | exact hw.src (i := 3) rfl rfl | exact hw.src (i := 4) rfl rfl | exact hw.src (i := 5) rfl rfl | exact hw.src (i := 6) rfl rfl | exact hw.src (i := 7) rfl rfl | exact hw.src (i := 8) rfl rfl) (by unfold maxLen; dsimp only; omega) (fun gb cap' => ⟨_, rfl, ?_⟩)
|refine S_nil ?_
|refine S_slice (fun b => ⟨_, _, rfl, obQ, ?_⟩)
|refine S_call (f := 38) rfl obQ (by kernel_rfl) (fun w hw => (by have h := xValue_c x hx ((k : Int) % (W : Int)) ((k : Int) / (W : Int)) (by omega) (by omega) w; rw [hv] at h; exact h)) ?_
|refine S_call (f := 39) rfl obQ (by kernel_rfl) (fun w hw => rSample_c (gI la k) (by omega) w) ?_)
|(refine V_id ?_; first
|refine V_nil ?_
|refine V_q rfl (Yl_unG rfl rfl rfl (Yl_load rfl obQ rfl [.int .i64 (gI la k)] (.past (w2P, fun b => w1P.heap.size ≤ b ∧ b < w2P.heap.size) memQ _ _ hSP _ adP rfl rfl (gI_idxZ (k := k) rfl (by omega))) rfl (.inr ⟨rfl, rfl⟩))) ?_
|refine V_q rfl (Yl_load rfl obQ rfl [.int .i64 (gI la k)] (.past (w2P, fun b => w1P.heap.size ≤ b ∧ b < w2P.heap.size) memQ _ _ hSP _ adP rfl rfl (gI_idxZ (k := k) rfl (by omega))) rfl (.inr ⟨rfl, rfl⟩)) ?_
|refine V_q rfl (Yl_unG rfl rfl rfl (Yl_load rfl obQ rfl [.int .i64 (gI lb k)] (.past (w2Q, fun b => w1Q.heap.size ≤ b ∧ b < w2Q.heap.size) memQ _ _ hSQ _ adQ rfl rfl (gI_idxZ (k := k) rfl (by omega))) rfl (.inr ⟨rfl, rfl⟩))) ?_
|refine V_q rfl (Yl_unG rfl rfl rfl (Yl_load rfl obQ rfl [.int .i64 (gI lc k)] (.past (w2R, fun b => w1R.heap.size ≤ b ∧ b < w2R.heap.size) memQ _ _ hSR _ adR rfl rfl (gI_idxZ (k := k) rfl (by omega))) rfl (.inr ⟨rfl, rfl⟩))) ?_
|refine V_q rfl (Yl_unG rfl rfl rfl (Yl_step rfl obQ)) ?_
|refine V_q rfl (Yl_offG (.v (.bool false)) rfl rfl rfl rfl rfl) ?_
|refine V_q rfl (Yl_step rfl obQ) ?_
|refine V_n rfl ?_)
|(refine G_id ?_; first
|refine G_V ⟨⟨_, rfl, trivial⟩, ⟨_, rfl⟩, rfl, pstQ⟩ rfl ?_
|refine G_loop (k + 1, some ⟨gb, 0, none⟩, cap') ⟨show k + 1 ≤ la.length by omega, fun h => by cases h⟩ (by show la.length - (k + 1) < la.length - k; omega) (by dsimp only; rw [hst, List.map_append]; exact svQ)
|refine G_then ?_
|refine G_block ?_))
      · repeat' (first
|(refine C_id ?_; first
|refine C_seq ?_
|refine C_region rfl ?_
|refine C_block ?_
|refine C_skip ?_
|refine C_drawV (id := 15) 7 [(0, true), (1, true), (2, true), (3, true), (4, true), (5, true), (6, true)] rfl mixed (by kernel_rfl) rfl ?_
|refine C_drawV (id := 16) 53 [(0, true), (1, true), (2, true), (3, true), (4, false), (5, true), (6, true), (7, true), (8, true), (9, true), (10, false), (11, true), (12, true), (13, true), (14, true), (15, true), (16, true), (17, true), (18, true), (19, true), (20, true), (21, false), (22, true), (23, true), (24, true), (25, true), (26, true), (27, true), (28, true), (29, true), (30, true), (31, true), (32, true), (33, true), (34, true), (35, true), (36, true), (37, false), (38, true), (39, true), (40, true), (41, true), (42, false), (43, true), (44, true), (45, true), (46, true), (47, true), (48, false), (49, true), (50, true), (51, true), (52, true)] rfl mixed (by kernel_rfl) rfl ?_
|refine C_condT rfl obQ ?_
|refine C_condF rfl obQ ?_)
|(refine S_id ?_; first
|((with_reducible (first | refine S_falseN ?_ ?_ | refine S_falseB ?_ ?_ | refine S_falseL ?_ ?_ | refine S_falseD ?_ ?_ | refine S_falseE ?_ ?_)); · (first | rfl | omega | exact decide_eq_false (by omega) | exact bne_eq_false_iff_eq.2 (by omega) | exact beq_eq_false_iff_ne.2 (by omega)))
|((with_reducible refine S_falseO ?_ ?_ ?_); (· rfl); (· first | rfl | (first | rfl | omega | exact decide_eq_false (by omega) | exact bne_eq_false_iff_eq.2 (by omega) | exact beq_eq_false_iff_ne.2 (by omega))))
|((with_reducible (first | refine S_trueE ?_ ?_ | refine S_trueB ?_ ?_ | refine S_trueL ?_ ?_ | refine S_trueD ?_ ?_ | refine S_trueN ?_ ?_)); · (first | rfl | assumption | omega | exact decide_eq_true (by omega) | exact beq_iff_eq.2 (by omega) | exact bne_iff_ne.2 (by omega)))
|refine S_unG rfl rfl rfl rfl ?_
|refine S_offG (.v (.bool false)) rfl rfl rfl rfl rfl ?_
|refine S_load rfl obQ rfl [.int .i64 (gI la k)] (.past (w2P, fun b => w1P.heap.size ≤ b ∧ b < w2P.heap.size) memQ _ _ hSP _ adP rfl rfl (gI_idxZ (k := k) rfl (by omega))) rfl (.inr ⟨rfl, rfl⟩) ?_
|refine S_one rfl obQ ?_
|refine S_append rfl obQ rfl rfl rfl ⟨by decide, rfl⟩ rfl ⟨rfl, rfl, rfl, rfl⟩ [.float .f32 (smp (gI la k))] ⟨by decide, rfl⟩ (by simp [Value.oneCell']) (fun w hw => by first | exact hw.src (i := 0) rfl rfl | exact hw.src (i := 1) rfl rfl | exact hw.src (i := 2) rfl rfl | exact hw.src (i := 3) rfl rfl | exact hw.src (i := 4) rfl rfl | exact hw.src (i := 5) rfl rfl | exact hw.src (i := 6) rfl rfl | exact hw.src (i := 7) rfl rfl | exact hw.src (i := 8) rfl rfl) (by unfold maxLen; dsimp only; omega) (fun gb cap' => ⟨_, rfl, ?_⟩)
|refine S_nil ?_
|refine S_slice (fun b => ⟨_, _, rfl, obQ, ?_⟩)
|refine S_call (f := 38) rfl obQ (by kernel_rfl) (fun w hw => (by have h := xValue_c x hx ((k : Int) % (W : Int)) ((k : Int) / (W : Int)) (by omega) (by omega) w; rw [hv] at h; exact h)) ?_
|refine S_call (f := 39) rfl obQ (by kernel_rfl) (fun w hw => rSample_c (gI la k) (by omega) w) ?_)
|(refine V_id ?_; first
|refine V_nil ?_
|refine V_q rfl (Yl_unG rfl rfl rfl (Yl_load rfl obQ rfl [.int .i64 (gI la k)] (.past (w2P, fun b => w1P.heap.size ≤ b ∧ b < w2P.heap.size) memQ _ _ hSP _ adP rfl rfl (gI_idxZ (k := k) rfl (by omega))) rfl (.inr ⟨rfl, rfl⟩))) ?_
|refine V_q rfl (Yl_load rfl obQ rfl [.int .i64 (gI la k)] (.past (w2P, fun b => w1P.heap.size ≤ b ∧ b < w2P.heap.size) memQ _ _ hSP _ adP rfl rfl (gI_idxZ (k := k) rfl (by omega))) rfl (.inr ⟨rfl, rfl⟩)) ?_
|refine V_q rfl (Yl_unG rfl rfl rfl (Yl_load rfl obQ rfl [.int .i64 (gI lb k)] (.past (w2Q, fun b => w1Q.heap.size ≤ b ∧ b < w2Q.heap.size) memQ _ _ hSQ _ adQ rfl rfl (gI_idxZ (k := k) rfl (by omega))) rfl (.inr ⟨rfl, rfl⟩))) ?_
|refine V_q rfl (Yl_unG rfl rfl rfl (Yl_load rfl obQ rfl [.int .i64 (gI lc k)] (.past (w2R, fun b => w1R.heap.size ≤ b ∧ b < w2R.heap.size) memQ _ _ hSR _ adR rfl rfl (gI_idxZ (k := k) rfl (by omega))) rfl (.inr ⟨rfl, rfl⟩))) ?_
|refine V_q rfl (Yl_unG rfl rfl rfl (Yl_step rfl obQ)) ?_
|refine V_q rfl (Yl_offG (.v (.bool false)) rfl rfl rfl rfl rfl) ?_
|refine V_q rfl (Yl_step rfl obQ) ?_
|refine V_n rfl ?_)
|(refine G_id ?_; first
|refine G_V ⟨⟨_, rfl, trivial⟩, ⟨_, rfl⟩, rfl, pstQ⟩ rfl ?_
|refine G_loop (k + 1, some ⟨gb, 0, none⟩, cap') ⟨show k + 1 ≤ la.length by omega, fun h => by cases h⟩ (by show la.length - (k + 1) < la.length - k; omega) (by dsimp only; rw [hst, List.map_append]; exact svQ)
|refine G_then ?_
|refine G_block ?_))
  · obtain rfl : k = la.length := by omega
    rw [List.take_length]
    have hab : ∀ k, k < la.length → (0 ≤ gI la k ∧ gI la k ≤ 256) ∧ (0 ≤ gI lb k ∧ gI lb k ≤ 256) ∧ gI la k ≤ gI lb k := fun k hk => by
      have := op_at hx (Int.natCast_nonneg n) (show 0 < W by omega) (show k < H * W by omega)
      rw [hla, hlb] at this
      exact ⟨this.1, this.2.1, this.2.2.1⟩
    have hso2 : SlOk ((a : Nat) : Int) (1 + 4 * ((b : Nat) : Int)) := ⟨by omega, by omega⟩
    have hbda := mem_gI (l := la) (P := fun n => -16384 ≤ n ∧ n ≤ 16384) fun k hk => by have := hab k hk; omega
    have hbdb := mem_gI (l := lb) (P := fun n => -16384 ≤ n ∧ n ≤ 16384) fun k hk => by have := hab k (by omega); omega
    have hL1' := fun nm (hnm : isName nm = true) => ln_smp (nm := nm) (W := W) (H := H) (l := la) hnm (by omega) (by omega) hNN hbda hso2
    have hL2' := fun nm (hnm : isName nm = true) => ln_smp (nm := nm) (W := W) (H := H) (l := lb) hnm (by omega) (by omega) (by rw [show lb.length = la.length by omega]; exact hNN) hbdb hso2
    have hup : upX (la.map smp) (fun j => smp (gI lb j)) la.length = lb.map smp := by
      have h1 := upX_end (la.map smp) (fun j => smp (gI lb j))
      rw [List.length_map] at h1
      rw [h1, show la.length = lb.length by omega]
      exact smp_list
    have hsl : (la.map smp).length = la.length := List.length_map _
    have hsbl : (lb.map smp).length = la.length := by rw [List.length_map]; omega
    obtain ⟨dl, hdl⟩ : ∃ l, la.map (shF ((a : Nat) : Int) (1 + 4 * ((b : Nat) : Int))) = l := ⟨_, rfl⟩
    obtain ⟨fl, hfl⟩ : ∃ l, lb.map (shF ((a : Nat) : Int) (1 + 4 * ((b : Nat) : Int))) = l := ⟨_, rfl⟩
    have hdll : dl.length = la.length := by rw [← hdl, List.length_map]
    have hfll : fl.length = la.length := by rw [← hfl, List.length_map]; omega
    have hdf : ∀ k, k < dl.length → gI dl k ≤ gI fl k := fun k hk => by
      have := (hab k (by omega)).2.2
      rw [← hdl, ← hfl, gI_map (by omega), gI_map (by omega)]
      exact shF_mono hso2 this
    obtain ⟨sa, hsa⟩ : ∃ s, la.map smp = s := ⟨_, rfl⟩
    obtain ⟨sb, hsb⟩ : ∃ s, lb.map smp = s := ⟨_, rfl⟩
    have hL1 : ∀ nm, isName nm = true → lnR ⟨nm, W, H, sa⟩ ((a : Nat) : Int) (1 + 4 * ((b : Nat) : Int)) = (dl, 0) := fun nm h => by rw [← hsa, ← hdl]; exact hL1' nm h
    have hL2 : ∀ nm, isName nm = true → lnR ⟨nm, W, H, sb⟩ ((a : Nat) : Int) (1 + 4 * ((b : Nat) : Int)) = (fl, 0) := fun nm h => by rw [← hsb, ← hfl]; exact hL2' nm h
    rw [hsa, hsb] at hup
    rw [hsa] at hsl ⊢
    rw [hsb] at hsbl
    have hs1 : sa.length ≤ 1000000 := by omega
    have hs2 : sb.length ≤ 1000000 := by omega
    clear hL1' hL2' hbda hbdb hdl hfl hla hlb hlc hsa hsb
    repeat' (first
|(refine C_id ?_; first
|refine C_seq ?_
|refine C_regionNe 23 rfl rfl ?_
|refine C_exit ?_
|refine C_condF rfl obQ ?_)
|(refine S_id ?_; first
|((with_reducible (first | refine S_falseN ?_ ?_ | refine S_falseB ?_ ?_ | refine S_falseL ?_ ?_ | refine S_falseD ?_ ?_ | refine S_falseE ?_ ?_)); · (first | rfl | omega | exact decide_eq_false (by omega) | exact bne_eq_false_iff_eq.2 (by omega)))
|refine S_nil ?_
|refine S_runN rfl rfl obQ obQ ?_
|refine S_box (fun b19 => ⟨_, _, rfl, obQ, ?_⟩))
|refine G_then ?_
|refine G_blockX ?_
|refine G_thenX ?_)
    repeat' (first
|refine C_seq ?_
|refine C_regionNe 24 rfl rfl ?_
|(refine S_id ?_; first
|(refine S_callRws (f := 40) rfl obQ (by kernel_rfl) (fun w hw => own_as (s := sa) hsl (by omega) (by omega) hA0 (hw.rdRow (i := 0) rfl rfl)) (fun v rs hR => ?_); obtain ⟨g, cR, rfl, rfl⟩ := hR)
|refine S_nil ?_
|refine S_runN rfl rfl obQ obQ ?_
|refine S_box (fun b20 => ⟨_, _, rfl, obQ, ?_⟩))
|refine G_then ?_)
    repeat' (first
|refine C_region rfl ?_
|refine C_block ?_
|refine S_nil ?_
|refine S_runN rfl rfl obQ obQ ?_
|refine G_then ?_)
    refine C_loopS (fun k : Nat => ⟨[(234, .s (.v (.int .i64 ((k : Nat) : Int)))), (233, .s (.v (.int .i64 la.length))), (5, .s (.p b5 1 0)), (10, .s (.v (.slice (some adP) la.length cP))), (12, .s (.v (.slice (some adQ) lb.length cQ))), (19, .s (.p b19 2 0)), (20, .s (.p b20 3 0))], [⟨b3, 23, [.v (.string x.sh), .v (.int .i64 x.a), .v (.int .i64 x.b), .v (.int .i64 x.at_), .v (.int .i64 x.soft)]⟩, ⟨b5, 59, [.v (.int .u8 ((a : Nat) : Int)), .v (.int .u8 ((b : Nat) : Int))]⟩, ⟨b19, 65, [.v (.string bWip), .v (.int .i64 ((W : Nat) : Int)), .v (.int .i64 ((H : Nat) : Int)), .v (.slice A' la.length c')]⟩, ⟨b20, 65, [.v (.string bWip), .v (.int .i64 ((W : Nat) : Int)), .v (.int .i64 ((H : Nat) : Int)), .v (.slice (some ⟨g, 0, none⟩) la.length cR)]⟩], [⟨62, 1, la.length, sa.map (.float .f32), .slice A' la.length c'⟩, ⟨62, 1, la.length, (upX sa (fun j => smp (gI lb j)) k).map (.float .f32), .slice (some ⟨g, 0, none⟩) la.length cR⟩]⟩) (fun k => k ≤ la.length) (fun k => la.length - k) 0 (Nat.zero_le _) ?_ (fun k hk => ?_)
    · exact ⟨⟨_, rfl, obQ⟩, ⟨_, rfl⟩, (by rw [upX_0]; rfl), pstQ⟩
    by_cases hlt : k < la.length
    · have hbk := (hab k hlt).2.1
      repeat' (first
|(refine C_id ?_; first
|refine C_seq ?_
|refine C_region rfl ?_
|refine C_block ?_
|refine C_skip ?_
|refine C_drawV (id := 27) 8 [(0, true), (1, true), (2, true), (3, true), (4, true), (5, true), (6, true), (7, false)] rfl mixed (by kernel_rfl) rfl ?_
|refine C_condT rfl obQ ?_)
|(refine S_id ?_; first
|((with_reducible (first | refine S_trueE ?_ ?_ | refine S_trueB ?_ ?_ | refine S_trueL ?_ ?_ | refine S_trueD ?_ ?_ | refine S_trueN ?_ ?_)); · (first | rfl | assumption | omega | exact decide_eq_true (by omega) | exact beq_iff_eq.2 (by omega) | exact bne_iff_ne.2 (by omega)))
|refine S_storeRow rfl obQ rfl rfl rfl 1 rfl rfl ((k : Int).toNat * 1) rfl (by dsimp only; rw [List.length_map, upX_len]; omega) (xs' := (upX sa (fun j => smp (gI lb j)) (k + 1)).map (.float .f32)) (by rw [upX_put (z := (k : Int)) rfl (by omega)]; rfl) rfl ?_
|refine S_nil ?_
|refine S_runN rfl rfl obQ obQ ?_
|refine S_call (f := 39) rfl obQ (by kernel_rfl) (fun w hw => rSample_c (gI lb k) (by omega) w) ?_)
|(refine V_id ?_; first
|refine V_nil ?_
|refine V_q rfl (Yl_load rfl obQ rfl [.int .i64 (gI lb k)] (.past (w2Q, fun b => w1Q.heap.size ≤ b ∧ b < w2Q.heap.size) memQ _ _ hSQ _ adQ rfl rfl (gI_idxZ (k := k) rfl (by omega))) rfl (.inr ⟨rfl, rfl⟩)) ?_
|refine V_q rfl (Yl_step rfl obQ) ?_
|refine V_n rfl ?_)
|(refine G_id ?_; first
|refine G_V ⟨⟨_, rfl, trivial⟩, ⟨_, rfl⟩, rfl, pstQ⟩ rfl ?_
|refine G_loop (k + 1) (show k + 1 ≤ la.length by omega) (by omega) svQ
|refine G_then ?_
|refine G_block ?_))
    · obtain rfl : k = la.length := by omega
      repeat' (first
|(refine C_id ?_; first
|refine C_seq ?_
|refine C_regionNe 29 rfl rfl ?_
|refine C_exit ?_
|refine C_condF rfl obQ ?_)
|((with_reducible (first | refine S_falseN ?_ ?_ | refine S_falseB ?_ ?_ | refine S_falseL ?_ ?_ | refine S_falseD ?_ ?_ | refine S_falseE ?_ ?_)); · (first | rfl | omega | exact decide_eq_false (by omega) | exact bne_eq_false_iff_eq.2 (by omega)))
|refine S_nil ?_
|refine S_runN rfl rfl obQ obQ ?_
|refine G_then ?_
|refine G_blockX ?_
|refine G_thenX ?_)
      rw [hup]
      repeat' (first
|refine C_seq ?_
|refine C_region rfl ?_
|refine S_nil ?_
|refine S_runN rfl rfl obQ obQ ?_
|refine S_box (fun b22 => ⟨_, _, rfl, obQ, ?_⟩)
|refine G_then ?_)
      repeat' (first
|refine C_seq ?_
|refine C_drawV (id := 30) 8 [(0, true), (2, true), (1, false), (3, false), (4, true), (5, true), (6, true), (7, true)] rfl mixed (by kernel_rfl) rfl ?_
|refine C_drawV (id := 31) 8 [(0, true), (2, true), (1, false), (3, false), (4, true), (5, true), (6, true), (7, true)] rfl mixed (by kernel_rfl) rfl ?_
|(refine S_id ?_; first
|(refine S_callM (f := 42) rfl obQ (by kernel_rfl) (fun w hw => given_as (s := sa) hsl (by omega) hA0 (hw.rdRow (i := 0) rfl rfl)) (fun w1G w2G vG hw1G hbG hRG => ?_); obtain ⟨AG, cG, rfl, hSG⟩ := hRG; clear hw1G hbG)
|(refine S_callM (f := 42) rfl obQ (by kernel_rfl) (fun w hw => given_as (s := sb) hsbl (by omega) (fun h => by cases h) (hw.rdRow (i := 1) rfl rfl)) (fun w1H w2H vH hw1H hbH hRH => ?_); obtain ⟨AH, cH, rfl, hSH⟩ := hRH; clear hw1H hbH)
|(refine S_callM (f := 41) rfl obQ (by kernel_rfl) (fun w hw => linear_as (hL1 _ (by kernel_rfl)) hs1 (hw.rdm hSG memQ)) (fun w1L w2L vL hw1L hbL hRL => ?_); obtain ⟨AL, cL, rfl, hSL⟩ := hRL; clear hw1L hbL)
|(refine S_callM (f := 41) rfl obQ (by kernel_rfl) (fun w hw => linear_as (hL2 _ (by kernel_rfl)) hs2 (hw.rdm hSH memQ)) (fun w1M w2M vM hw1M hbM hRM => ?_); obtain ⟨AM, cM, rfl, hSM⟩ := hRM; clear hw1M hbM)
|refine S_nil ?_
|refine S_runN rfl rfl obQ obQ ?_)
|refine V_nil ?_
|refine V_q rfl (Yl_step rfl obQ) ?_
|refine V_n rfl ?_
|refine G_V ⟨⟨_, rfl, trivial⟩, ⟨_, rfl⟩, rfl, pstQ⟩ rfl ?_
|refine G_then ?_)
      repeat' (first
|(refine C_id ?_; first
|refine C_seq ?_
|refine C_regionNe 34 rfl rfl ?_
|refine C_skip ?_
|refine C_condF rfl obQ ?_)
|(refine S_id ?_; first
|((with_reducible (first | refine S_falseN ?_ ?_ | refine S_falseB ?_ ?_ | refine S_falseL ?_ ?_ | refine S_falseD ?_ ?_ | refine S_falseE ?_ ?_)); · (first | rfl | omega | exact decide_eq_false (by omega) | exact bne_eq_false_iff_eq.2 (by omega) | exact beq_eq_false_iff_ne.2 (by omega)))
|((with_reducible refine S_falseO ?_ ?_ ?_); (· rfl); (· first | rfl | (first | rfl | omega | exact decide_eq_false (by omega) | exact bne_eq_false_iff_eq.2 (by omega) | exact beq_eq_false_iff_ne.2 (by omega))))
|refine S_unG rfl rfl rfl rfl ?_
|refine S_one rfl obQ ?_
|refine S_nil ?_)
|refine G_then ?_)
      obtain ⟨adL, rfl⟩ := rdS_some hSL (by rw [List.length_map]; omega)
      obtain ⟨adM, rfl⟩ := rdS_some hSM (by rw [List.length_map]; omega)
      refine C_trim [23, 25] 0 rfl rfl ?_
      refine C_norow ?_
      repeat' (first
|refine C_region rfl ?_
|refine C_block ?_
|refine S_nil ?_
|refine S_runN rfl rfl obQ obQ ?_
|refine G_then ?_)
      refine C_loopS (fun k : Nat => ⟨[(292, .s (.v (.int .i64 k))), (291, .s (.v (.int .i64 dl.length))), (23, .s (.v (.slice (some adL) dl.length cL))), (25, .s (.v (.slice (some adM) fl.length cM)))], [], []⟩) (fun k => k ≤ dl.length) (fun k => dl.length - k) 0 (Nat.zero_le _) ?_ (fun k hk => ?_)
      · exact svQ
      by_cases hlt : k < dl.length
      · have hdk := hdf k hlt
        repeat' (first
|(refine C_id ?_; first
|refine C_seq ?_
|refine C_region rfl ?_
|refine C_block ?_
|refine C_skip ?_
|refine C_drawV (id := 37) 8 [(0, true), (1, true), (2, true), (3, true), (4, true), (5, true), (6, true), (7, true)] rfl mixed (by kernel_rfl) rfl ?_
|refine C_condT rfl obQ ?_
|refine C_condF rfl obQ ?_)
|(refine S_id ?_; first
|((with_reducible (first | refine S_falseN ?_ ?_ | refine S_falseB ?_ ?_ | refine S_falseL ?_ ?_ | refine S_falseD ?_ ?_ | refine S_falseE ?_ ?_)); · (first | rfl | omega | exact decide_eq_false (by omega) | exact bne_eq_false_iff_eq.2 (by omega) | exact beq_eq_false_iff_ne.2 (by omega)))
|((with_reducible (first | refine S_trueE ?_ ?_ | refine S_trueB ?_ ?_ | refine S_trueL ?_ ?_ | refine S_trueD ?_ ?_ | refine S_trueN ?_ ?_)); · (first | rfl | assumption | omega | exact decide_eq_true (by omega) | exact beq_iff_eq.2 (by omega) | exact bne_iff_ne.2 (by omega)))
|refine S_nil ?_
|refine S_runN rfl rfl obQ obQ ?_)
|(refine V_id ?_; first
|refine V_nil ?_
|refine V_q rfl (Yl_load rfl obQ rfl [.int .i64 (gI dl k)] (.past (w2L, fun b => w1L.heap.size ≤ b ∧ b < w2L.heap.size) memQ _ _ hSL _ adL rfl rfl (gI_idxZ (k := k) rfl (by omega))) rfl (.inr ⟨rfl, rfl⟩)) ?_
|refine V_q rfl (Yl_load rfl obQ rfl [.int .i64 (gI fl k)] (.past (w2M, fun b => w1M.heap.size ≤ b ∧ b < w2M.heap.size) memQ _ _ hSM _ adM rfl rfl (gI_idxZ (k := k) rfl (by omega))) rfl (.inr ⟨rfl, rfl⟩)) ?_
|refine V_q rfl (Yl_step rfl obQ) ?_)
|refine G_loop (k + 1) (show k + 1 ≤ dl.length by omega) (by omega) svQ
|refine G_then ?_
|refine G_block ?_)
      · obtain rfl : k = dl.length := by omega
        repeat' (first
|(refine C_id ?_; first
|refine C_seq ?_
|refine C_region rfl ?_
|refine C_exit ?_
|refine C_ret0 ?_
|refine C_condF rfl obQ ?_)
|(refine S_id ?_; first
|((with_reducible (first | refine S_falseN ?_ ?_ | refine S_falseB ?_ ?_ | refine S_falseL ?_ ?_ | refine S_falseD ?_ ?_ | refine S_falseE ?_ ?_)); · (first | rfl | omega | exact decide_eq_false (by omega) | exact bne_eq_false_iff_eq.2 (by omega) | exact beq_eq_false_iff_ne.2 (by omega)))
|refine S_nil ?_
|refine S_runN rfl rfl obQ obQ ?_
|refine S_call (f := 17) rfl obQ (by kernel_rfl) (fun w hw => mawake_c w (Sh_at hsh hw memQ) (Pw_at hP hw memQ)) ?_)
|(refine G_id ?_; first
|refine G_then ?_
|refine G_blockX ?_
|refine G_thenX ?_
|refine G_ret rfl obQ (fun w hw => ⟨?_, hw.below⟩)))
        all_goals rfl
end Go.Proofs.YtjkgklhjbopoaaaGreatDoor
