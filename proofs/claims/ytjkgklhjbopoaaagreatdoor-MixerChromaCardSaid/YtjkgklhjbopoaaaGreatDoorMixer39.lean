/- Mixer: wipes, chroma keys: contracts of the reference. -/
import Derived.Test.YtjkgklhjbopoaaaGreatDoorMixer38
namespace Go.Proofs.YtjkgklhjbopoaaaGreatDoor
open Go.E Go.RowKit Go.Fl
attribute [local irreducible] G C S D Calls
set_option maxRecDepth 100000
set_option linter.unusedSimpArgs false
set_option linter.unusedVariables false
set_option maxHeartbeats 8000000
theorem xValue_c (x : Wip) (hx : WpOk x) (X Y : Int) (hX : 0 ≤ X ∧ X ≤ 64) (hY : 0 ≤ Y ∧ Y ≤ 64) (w : World) : Calls Tryz.prog 38 #[.agg #[.string x.sh, .int .i64 x.a, .int .i64 x.b, .int .i64 x.at_, .int .i64 x.soft], .int .i64 X, .int .i64 Y] w fun r w' => r = .returned (.int .i64 (wvF x X Y)) ∧ Below w.heap.size w w' := by
  have ha := hx.a
  have hb := hx.b
  have m1 := mul_ab ha (show -64 ≤ X ∧ X ≤ 64 by omega)
  have m2 := mul_ab hb (show -64 ≤ Y ∧ Y ≤ 64 by omega)
  refine calls_of T_ok Tryz.func38 rfl Tryz.ntmps38 (Nat.le_of_ble_eq_true rfl) rfl ?_
  repeat' (first
 | (refine C_id ?_; first
 | refine C_seq ?_
 | refine C_region rfl ?_
 | refine C_skip ?_
 | refine C_ret0 ?_
 | refine C_drawV (id := 3) 11 [(0, true), (1, true), (2, true), (3, true), (4, true), (6, true), (7, true), (8, true), (9, true), (10, true), (5, false)] rfl mixed (by kernel_rfl) rfl ?_
 | (refine C_cond rfl obQ (fun h => ?_) (fun h => ?_) <;> (try simp only [cdS] at h))
 )
 | (refine S_id ?_; first
 | refine S_nil ?_
 | refine S_run rfl rfl obQ obQ ?_
 | refine S_box (fun b => ⟨_, _, rfl, obQ, ?_⟩)
 | refine S_call (f := 126) rfl obQ (by kernel_rfl) (fun w hw => xabs_c (2 * X - x.a) (by omega) w) ?_
 | refine S_call (f := 126) rfl obQ (by kernel_rfl) (fun w hw => xabs_c (2 * Y - x.b) (by omega) w) ?_
 )
 | refine V_nil ?_
 | refine V_q rfl (Yl_step rfl obQ) ?_
 | refine V_n rfl ?_
 | (refine G_id ?_; first
 | refine G_V ⟨⟨_, rfl, trivial⟩, ⟨_, rfl⟩, rfl, pstQ⟩ rfl ?_
 | refine G_then ?_
 | refine G_thenR ?_
 | refine G_ret rfl obQ (fun w hw => ⟨?_, hw.below⟩)
 )
 )
  · exact rI (by unfold wvF; rw [if_pos (show x.sh = bHalf from toL h)])
  · rename_i h1
    exact rI (by unfold wvF abZ; rw [if_neg (show ¬ x.sh = bHalf from toL_n h1), if_pos (show x.sh = bBox from toL h)]; omega)
  · rename_i h1
    exact rI (by unfold wvF abZ; rw [if_neg (show ¬ x.sh = bHalf from toL_n h1), if_neg (show ¬ x.sh = bBox from toL_n h)]; omega)
theorem xOpened_c (x : Wip) (hx : WpOk x) (X Y : Int) (hX : 0 ≤ X ∧ X ≤ 64) (hY : 0 ≤ Y ∧ Y ≤ 64) (w : World) : Calls Tryz.prog 115 #[.agg #[.string x.sh, .int .i64 x.a, .int .i64 x.b, .int .i64 x.at_, .int .i64 x.soft], .int .i64 X, .int .i64 Y] w fun r w' => r = .returned (.int .i64 (wsF x X Y)) ∧ Below w.heap.size w w' := by
  have hv := wv_bd hx hX hY
  have hat := hx.at_
  have hso := hx.soft
  unfold wsF
  generalize hV : wvF x X Y = V at *
  refine calls_of T_ok Tryz.func115 rfl Tryz.ntmps115 (Nat.le_of_ble_eq_true rfl) rfl ?_
  repeat' (first
 | (refine C_id ?_; first
 | refine C_seq ?_
 | refine C_region rfl ?_
 | refine C_skip ?_
 | refine C_ret0 ?_
 | (refine C_cond rfl obQ (fun h => ?_) (fun h => ?_) <;> (try simp only [cdS] at h))
 )
 | (refine S_id ?_; first
 | refine S_nil ?_
 | refine S_run rfl rfl obQ obQ ?_
 | refine S_box (fun b => ⟨_, _, rfl, obQ, ?_⟩)
 | refine S_call (f := 38) rfl obQ (by kernel_rfl) (fun w hw => (by have h := xValue_c x hx X Y hX hY w; rw [hV] at h; exact h)) ?_
 | refine S_call (f := 181) rfl obQ (by kernel_rfl) (fun w hw => rRound_c _ _ (by omega) (by omega) w) ?_
 )
 | refine G_then ?_
 | refine G_thenR ?_
 | refine G_ret rfl obQ (fun w hw => ⟨?_, hw.below⟩)
 )
  · exact rI (by rw [if_pos (by omega)])
  · exact rI (by rw [if_neg (by omega), if_pos (by omega)])
  · exact rI (by rw [if_neg (by omega), if_neg (by omega)])
theorem xWiped_c (x : Wip) (hx : WpOk x) (W H : Nat) (hW : W ≤ 64) (hH : H ≤ 64) (w : World) : Calls Tryz.prog 24 #[.agg #[.string x.sh, .int .i64 x.a, .int .i64 x.b, .int .i64 x.at_, .int .i64 x.soft], .int .i64 W, .int .i64 H] w fun r w' => ∃ v, r = .returned v ∧ Below w.heap.size w w' ∧ w'.ownsRow w.heap.size 3 1 v (wsL x W H).length ((wsL x W H).map (.int .i64)) := by
  refine calls_of T_ok Tryz.func24 rfl Tryz.ntmps24 (Nat.le_of_ble_eq_true rfl) rfl ?_
  repeat' (first
 | refine C_seq ?_
 | refine C_region rfl ?_
 | refine C_block ?_
 | refine S_nil ?_
 | refine S_run rfl rfl obQ obQ ?_
 | refine S_box (fun b => ⟨_, _, rfl, obQ, ?_⟩)
 | refine G_then ?_
   )
  obtain ⟨b3, rfl⟩ : ∃ z, z = b := ⟨b, rfl⟩
  refine C_row0 7 3 1 rfl ?_
  refine C_loopS (fun i : Nat × Option Addr × Nat => ⟨[(8, .s (.v (.int .i64 i.1))), (7, .s (.r i.2.1 (wsL x W i.1).length i.2.2 0)), (3, .s (.p b3 0 0)), (1, .s (.v (.int .i64 W))), (2, .s (.v (.int .i64 H)))], [⟨b3, 23, [.v (.string x.sh), .v (.int .i64 x.a), .v (.int .i64 x.b), .v (.int .i64 x.at_), .v (.int .i64 x.soft)]⟩], [⟨3, 1, (wsL x W i.1).length, (wsL x W i.1).map (.int .i64), .slice i.2.1 (wsL x W i.1).length i.2.2⟩]⟩) (fun i => i.1 ≤ H) (fun i => H - i.1) (0, none, 0) (Nat.zero_le _) ?_ (fun i hi => ?_)
  · exact svQ
  obtain ⟨y, A', c'⟩ := i
  have hy : y ≤ H := hi
  dsimp only
  by_cases hyl : y < H
  · repeat' (first
 | (refine C_id ?_; first
 | refine C_seq ?_
 | refine C_region rfl ?_
 | refine C_block ?_
 | refine C_skip ?_
 | refine C_exit ?_
 | refine C_ret0 ?_
 | (refine C_cond rfl obQ (fun h => ?_) (fun h => ?_) <;> (try simp only [cdS] at h) <;> (try (exfalso; omega)) <;> (try exact cdF h) <;> (try (exfalso; omega)))
     )
 | refine S_nil ?_
 | refine S_run rfl rfl obQ obQ ?_
 | (refine G_id ?_; first
 | refine G_then ?_
 | refine G_blockX ?_
 | refine G_thenX ?_
 | refine G_ret rfl obQ (fun w hw => ⟨?_, hw.below⟩)
     )
     )
    rw [← wsX_0 x W y]
    refine C_loopS (fun i : Nat × Option Addr × Nat => ⟨[(9, .s (.v (.int .i64 i.1))), (8, .s (.v (.int .i64 y))), (7, .s (.r i.2.1 (wsX x W y i.1).length i.2.2 0)), (3, .s (.p b3 0 0)), (1, .s (.v (.int .i64 W))), (2, .s (.v (.int .i64 H)))], [⟨b3, 23, [.v (.string x.sh), .v (.int .i64 x.a), .v (.int .i64 x.b), .v (.int .i64 x.at_), .v (.int .i64 x.soft)]⟩], [⟨3, 1, (wsX x W y i.1).length, (wsX x W y i.1).map (.int .i64), .slice i.2.1 (wsX x W y i.1).length i.2.2⟩]⟩) (fun i => i.1 ≤ W) (fun i => W - i.1) (0, A', c') (Nat.zero_le _) ?_ (fun j hj => ?_)
    · exact svQ
    obtain ⟨k, A2, c2⟩ := j
    have hk : k ≤ W := hj
    dsimp only
    have hle := wsX_le (w := x) (W := W) (y := y) (x := k) hW (by omega) (by omega)
    by_cases hlt : k < W
    · have hst := wsX_step x W y k
      repeat' (first
 | (refine C_id ?_; first
 | refine C_seq ?_
 | refine C_region rfl ?_
 | refine C_block ?_
 | refine C_skip ?_
 | (refine C_cond rfl obQ (fun h => ?_) (fun h => ?_) <;> (try simp only [cdS] at h) <;> (try (exfalso; omega)) <;> (try exact cdF h) <;> (try (exfalso; omega)))
       )
 | (refine S_id ?_; first
 | refine S_append rfl obQ rfl rfl rfl ⟨by decide, rfl⟩ rfl ⟨rfl, rfl, rfl, rfl⟩ [.int .i64 (wsF x (k : Int) (y : Int))] ⟨by decide, rfl⟩ (by simp [Value.oneCell']) (fun w hw => by first | exact hw.src (i := 0) rfl rfl | exact hw.src (i := 1) rfl rfl | exact hw.src (i := 2) rfl rfl | exact hw.src (i := 3) rfl rfl | exact hw.src (i := 4) rfl rfl | exact hw.src (i := 5) rfl rfl | exact hw.src (i := 6) rfl rfl | exact hw.src (i := 7) rfl rfl | exact hw.src (i := 8) rfl rfl) (by unfold maxLen; dsimp only; omega) (fun gb cap' => ⟨_, rfl, ?_⟩)
 | refine S_nil ?_
 | refine S_run rfl rfl obQ obQ ?_
 | refine S_slice (fun b => ⟨_, _, rfl, obQ, ?_⟩)
 | refine S_call (f := 115) rfl obQ (by kernel_rfl) (fun w hw => xOpened_c x hx _ _ (by omega) (by omega) w) ?_
       )
 | refine G_loop (k + 1, some ⟨gb, 0, none⟩, cap') (show k + 1 ≤ W by omega) (by show W - (k + 1) < W - k; omega) (by dsimp only; rw [hst, List.map_append, List.length_append]; exact svQ)
 | refine G_then ?_
 | refine G_block ?_
       )
    · obtain rfl : k = W := by omega
      rw [wsX_end]
      repeat' (first
 | (refine C_id ?_; first
 | refine C_seq ?_
 | refine C_region rfl ?_
 | refine C_exit ?_
 | (refine C_cond rfl obQ (fun h => ?_) (fun h => ?_) <;> (try simp only [cdS] at h) <;> (try (exfalso; omega)) <;> (try exact cdF h) <;> (try (exfalso; omega)))
       )
 | refine S_nil ?_
 | refine S_run rfl rfl obQ obQ ?_
 | (refine G_id ?_; first
 | refine G_loop (y + 1, A2, c2) (show y + 1 ≤ H by omega) (by show H - (y + 1) < H - y; omega) svQ
 | refine G_then ?_
 | refine G_block ?_
 | refine G_blockX ?_
 | refine G_thenX ?_
       )
       )
  · obtain rfl : y = H := by omega
    repeat' (first
 | (refine C_id ?_; first
 | refine C_seq ?_
 | refine C_region rfl ?_
 | refine C_exit ?_
 | refine C_ret0 ?_
 | (refine C_cond rfl obQ (fun h => ?_) (fun h => ?_) <;> (try simp only [cdS] at h) <;> (try (exfalso; omega)) <;> (try exact cdF h) <;> (try (exfalso; omega)))
     )
 | refine S_nil ?_
 | refine S_run rfl rfl obQ obQ ?_
 | (refine G_id ?_; first
 | refine G_then ?_
 | refine G_blockX ?_
 | refine G_thenX ?_
 | refine G_ret rfl obQ (fun w2 hw => ⟨_, rfl, hw.below, HW.ownRow (i := 0) hw rfl rfl rfl rfl⟩)
     )
     )
theorem xCheckColour_c (u v : Int) (w : World) : Calls Tryz.prog 58 #[.agg #[.int .i64 u, .int .i64 v]] w fun r w' => r = .returned (.int .i64 (firstL [lvE u, lvE v])) ∧ Below w.heap.size w w' := by
  refine calls_of T_ok Tryz.func58 rfl Tryz.ntmps58 (Nat.le_of_ble_eq_true rfl) rfl ?_
  repeat' (first
 | (refine C_id ?_; first
 | refine C_seq ?_
 | refine C_region rfl ?_
 | refine C_ret0 ?_
 | refine C_drawV (id := 1) 5 [(0, true), (1, true), (3, true), (4, true), (2, false)] rfl mixed (by kernel_rfl) rfl ?_
 )
 | (refine S_id ?_; first
 | refine S_nil ?_
 | refine S_run rfl rfl obQ obQ ?_
 | refine S_box (fun b => ⟨_, _, rfl, obQ, ?_⟩)
 | refine S_slice (fun b => ⟨_, _, rfl, obQ, ?_⟩)
 | refine S_call (f := 141) rfl obQ (by kernel_rfl) (fun w hw => xCheckLevel_c _ w) ?_
 | refine S_call (f := 113) rfl obQ (by kernel_rfl) (fun w hw => rFirst_c _ _ [lvE u, lvE v] (by simp) w (.inr ⟨_, rfl, hw.src (i := 1) rfl rfl⟩)) ?_
 )
 | refine V_nil ?_
 | refine V_q rfl (Yl_step rfl obQ) ?_
 | refine V_n rfl ?_
 | refine G_V ⟨⟨_, rfl, trivial⟩, ⟨_, rfl⟩, rfl, pstQ⟩ rfl ?_
 | refine G_then ?_
 | refine G_ret rfl obQ (fun w hw => ⟨?_, hw.below⟩)
 )
  rfl
end Go.Proofs.YtjkgklhjbopoaaaGreatDoor
