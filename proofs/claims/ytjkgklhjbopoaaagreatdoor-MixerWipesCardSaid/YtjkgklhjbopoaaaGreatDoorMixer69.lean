/- Mixer: borders: contracts of the reference. -/
import Derived.Test.YtjkgklhjbopoaaaGreatDoorMixer39
namespace Go.Proofs.YtjkgklhjbopoaaaGreatDoor
open Go.E Go.RowKit Go.Fl
attribute [local irreducible] G C S D Calls
set_option maxRecDepth 100000
set_option linter.unusedSimpArgs false
set_option linter.unusedVariables false
set_option maxHeartbeats 8000000
theorem xBorder_c (x : Wip) (hx : WpOk x) (d : Int) (hxw : WpOk (x.wide d)) (W H : Nat) (hW : 1 ≤ W ∧ W ≤ 64) (hH : 1 ≤ H ∧ H ≤ 64) (w : World) : Calls Tryz.prog 25 #[.agg #[.string x.sh, .int .i64 x.a, .int .i64 x.b, .int .i64 x.at_, .int .i64 x.soft], .int .i64 d, .int .i64 W, .int .i64 H] w fun r w' => ∃ v, r = .returned v ∧ Below w.heap.size w w' ∧ Sl w w' v (zwI sbI (wsL (x.wide d) W H) (wsL x W H)).length ((zwI sbI (wsL (x.wide d) W H) (wsL x W H)).map (.int .i64)) := by
  refine calls_of T_ok Tryz.func25 rfl Tryz.ntmps25 (Nat.le_of_ble_eq_true rfl) rfl ?_
  have h4 := hx.at_
  have h5 : -100000 ≤ x.at_ + d ∧ x.at_ + d ≤ 100000 := hxw.at_
  have hl1 := wsL_len (x.wide d) W H
  have hl2 := wsL_len x W H
  have hl3 : H * W ≤ 64 * 64 := Nat.mul_le_mul hH.2 hW.2
  have hl4 : 0 < H * W := Nat.mul_pos hH.1 hW.1
  repeat' (first
 | (refine C_id ?_; first
 | refine C_seq ?_
 | refine C_region rfl ?_
 | refine C_block ?_
 | refine C_drawTr0 (id := 3) 7 (.q 0 (.q 1 (.q 2 (.q 4 (.q 5 (.q 6 (.n 3 .nil))))))) rfl mixed (by kernel_rfl) rfl ?_
   )
 | (refine S_id ?_; first
 | (refine S_callRowG 3 1 (wsL (x.wide d) W H).length ((wsL (x.wide d) W H).map (.int .i64)) (by omega) rfl obQ (by kernel_rfl) (fun w hw => xWiped_c (x.wide d) hxw W H hW.2 hH.2 w) (fun gL cL => ?_))
 | (refine S_callRowG 3 1 (wsL x W H).length ((wsL x W H).map (.int .i64)) (by omega) rfl obQ (by kernel_rfl) (fun w hw => xWiped_c x hx W H hW.2 hH.2 w) (fun gM cM => ?_))
 | refine S_nil ?_
 | refine S_run rfl rfl obQ obQ ?_
 | refine S_box (fun bb => ⟨_, _, rfl, obQ, ?_⟩)
   )
 | refine VT_nil ?_
 | refine VT_q rfl (Yl_step rfl obQ) ?_
 | refine VT_n rfl ?_
 | refine G_VT2 ⟨_, rfl⟩ ⟨_, rfl⟩ pstQ rfl ?_
 | refine G_then ?_
   )
  rename_i b4
  obtain ⟨b9, rfl⟩ : ∃ z, z = bb := ⟨bb, rfl⟩
  refine C_loopS (fun k : Nat => ⟨[(12, .s (.v (.int .i64 k))), (10, .s (.r (some ⟨gL, 0, none⟩) (wsL (x.wide d) W H).length cL 0)), (11, .s (.r (some ⟨gM, 0, none⟩) (wsL x W H).length cM 1)), (8, .s (.v (.slice none 0 0)))], [⟨b4, 23, [.v (.string x.sh), .v (.int .i64 x.a), .v (.int .i64 x.b), .v (.int .i64 (x.at_)), .v (.int .i64 x.soft)]⟩, ⟨b9, 23, [.v (.string x.sh), .v (.int .i64 x.a), .v (.int .i64 x.b), .v (.int .i64 (x.at_ + d)), .v (.int .i64 x.soft)]⟩], [⟨3, 1, (wsL (x.wide d) W H).length, (upI (wsL (x.wide d) W H).length (fun j => sbI (gI (wsL (x.wide d) W H) j) (gI (wsL x W H) j)) (gI (wsL (x.wide d) W H)) k).map (.int .i64), .slice (some ⟨gL, 0, none⟩) (wsL (x.wide d) W H).length cL⟩, ⟨3, 1, (wsL x W H).length, (wsL x W H).map (.int .i64), .slice (some ⟨gM, 0, none⟩) (wsL x W H).length cM⟩]⟩) (fun k => k ≤ (wsL (x.wide d) W H).length) (fun k => (wsL (x.wide d) W H).length - k) 0 (Nat.zero_le _) ?_ (fun k hk0 => ?_)
  · rw [upI_0]
    exact svQ
  have hk1 : k ≤ (wsL (x.wide d) W H).length := hk0
  by_cases hlt : k < (wsL (x.wide d) W H).length
  · have hb1 : 0 ≤ gI (wsL (x.wide d) W H) k ∧ gI (wsL (x.wide d) W H) k ≤ 256 := wsL_bd hxw _ (gI_mem (by omega))
    have hb2 : 0 ≤ gI (wsL x W H) k ∧ gI (wsL x W H) k ≤ 256 := wsL_bd hx _ (gI_mem (by omega))
    repeat' (first
 | (refine C_id ?_; first
 | refine C_seq ?_
 | refine C_region rfl ?_
 | refine C_block ?_
 | refine C_skip ?_
 | refine C_drawV (id := 7) 11 [(0, true), (1, true), (2, true), (3, true), (4, true), (5, true), (6, true), (7, true), (8, true), (9, true), (10, true)] rfl mixed (by kernel_rfl) rfl ?_
 | (refine C_cond rfl obQ (fun h => ?_) (fun h => ?_) <;> (try simp only [cdS] at h) <;> (try (exfalso; omega)) <;> (try exact cdF h) <;> (try (exfalso; omega)))
     )
 | refine S_storeRow rfl obQ rfl rfl rfl 0 rfl rfl (((k : Nat) : Int).toNat * 1) rfl (by dsimp only; rw [List.length_map, upI_len]; omega) (xs' := (upI ((wsL (x.wide d) W H).length) (fun j => sbI (gI (wsL (x.wide d) W H) j) (gI (wsL x W H) j)) (gI (wsL (x.wide d) W H)) (k + 1)).map (.int .i64)) (upI_put (f := (fun j => sbI (gI (wsL (x.wide d) W H) j) (gI (wsL x W H) j))) rfl (by omega)) rfl ?_
 | refine S_nil ?_
 | refine S_run rfl rfl obQ obQ ?_
 | (refine V_id ?_; first
 | refine V_nil ?_
 | refine V_q rfl (Yl_load rfl obQ rfl [.int .i64 (gI (wsL (x.wide d) W H) k)] (.row 0 _ rfl gL (wsL (x.wide d) W H).length cL (((k : Nat) : Int).toNat * 1) rfl rfl (upI_idx (by omega) rfl rfl)) rfl (.inr ⟨rfl, rfl⟩)) ?_
 | refine V_q rfl (Yl_load rfl obQ rfl [.int .i64 (gI (wsL x W H) k)] (.row 1 _ rfl gM (wsL x W H).length cM (((k : Nat) : Int).toNat * 1) rfl rfl (gI_idxZ (k := k) rfl (by omega))) rfl (.inr ⟨rfl, rfl⟩)) ?_
 | refine V_q rfl (Yl_step rfl obQ) ?_
     )
 | refine G_loop (k + 1) (show k + 1 ≤ (wsL (x.wide d) W H).length by omega) (by show (wsL (x.wide d) W H).length - (k + 1) < (wsL (x.wide d) W H).length - k; omega) svQ
 | refine G_then ?_
 | refine G_block ?_
     )
  · obtain rfl : k = (wsL (x.wide d) W H).length := by omega
    repeat' (first
 | (refine C_id ?_; first
 | refine C_seq ?_
 | refine C_region rfl ?_
 | refine C_exit ?_
 | refine C_ret0 ?_
 | (refine C_cond rfl obQ (fun h => ?_) (fun h => ?_) <;> (try simp only [cdS] at h) <;> (try (exfalso; omega)) <;> (try exact cdF h) <;> (try (exfalso; omega)))
     )
 | refine S_nil ?_
 | refine S_run rfl rfl obQ obQ ?_
 | (refine G_id ?_; first
 | refine G_then ?_
 | refine G_blockX ?_
 | refine G_thenX ?_
 | refine G_ret rfl obQ (fun w2 hw => ⟨_, rfl, hw.below, HW.rowSl (i := 0) hw rfl rfl (by rw [zwI_len]) (by dsimp only; rw [upI_end]; rfl)⟩)
     )
     )
end Go.Proofs.YtjkgklhjbopoaaaGreatDoor
