/- Mixer: two pictures, chroma keys, wipes: contracts of the reference. -/
import Derived.Test.YtjkgklhjbopoaaaGreatDoorMixer38
import Derived.Test.YtjkgklhjbopoaaaGreatDoorPartA
import Derived.Test.YtjkgklhjbopoaaaGreatDoorEng4
namespace Go.Proofs.YtjkgklhjbopoaaaGreatDoor
open Go.E Go.RowKit Go.Fl
attribute [local irreducible] G C S D Calls
set_option maxRecDepth 100000
set_option linter.unusedSimpArgs false
set_option linter.unusedVariables false
set_option maxHeartbeats 8000000
theorem bne_t {a b : Int} (h : ¬ a = b) : (a != b) = true := bne_iff_ne.2 h
theorem bne_f {a b : Int} (h : a = b) : (a != b) = false := by rw [h]; exact bne_self_eq_false b
theorem tw_t {p q : Pic} (h : ¬ p.w = q.w) : twE p q = firstL [picE p, picE q, wh true 2] := by unfold twE; rw [bne_t h]; rfl
theorem tw_f {p q : Pic} (h : p.w = q.w) : twE p q = firstL [picE p, picE q, wh (p.h != q.h) 2] := by unfold twE; rw [bne_f h]; rfl
theorem xCheckSizes_c (p q : Pic) (A A2 : Option Addr) (c c2 : Nat) (hs : p.s.length ≤ 1000000) (hs2 : q.s.length ≤ 1000000) (hn1 : p.nm.size ≤ maxLen) (hn2 : q.nm.size ≤ maxLen) (w : World) (hr : Rd w A (p.s.map (.float .f32))) (hr2 : Rd w A2 (q.s.map (.float .f32))) : Calls Tryz.prog 57 #[.agg #[.string p.nm, .int .i64 p.w, .int .i64 p.h, .slice A p.s.length c], .agg #[.string q.nm, .int .i64 q.w, .int .i64 q.h, .slice A2 q.s.length c2]] w fun r w' => r = .returned (.int .i64 (twE p q)) ∧ Below w.heap.size w w' := by
  refine calls_of T_ok Tryz.func57 rfl Tryz.ntmps57 (Nat.le_of_ble_eq_true rfl) rfl ?_
  by_cases hpw : p.w = q.w
  · rw [tw_f hpw]
    repeat' (first
 | (refine C_id ?_; first
 | refine C_seq ?_
 | refine C_region rfl ?_
 | refine C_ret0 ?_
 | refine C_drawV (id := 1) 14 [(0, true), (2, true), (4, true), (5, true), (6, true), (7, true), (8, true), (1, false), (3, false), (9, true), (10, true), (11, true), (12, true), (13, true)] rfl mixed (by kernel_rfl) rfl ?_
     )
 | (refine S_id ?_; first
 | ((with_reducible (first | refine S_falseN ?_ ?_ | refine S_falseB ?_ ?_ | refine S_falseL ?_ ?_ | refine S_falseD ?_ ?_ | refine S_falseE ?_ ?_)); · (first | rfl | exact bne_f hpw))
 | refine S_unG rfl rfl rfl rfl ?_
 | refine S_solid 16 rfl rfl ?_
 | refine S_solid 18 rfl rfl ?_
 | refine S_one rfl obQ ?_
 | refine S_nil ?_
 | refine S_box (fun b => ⟨_, _, rfl, obQ, ?_⟩)
 | refine S_slice (fun b => ⟨_, _, rfl, obQ, ?_⟩)
 | refine S_call (f := 60) rfl obQ (by kernel_rfl) (fun w hw => rCheckPicture_c p A c hs hn1 w (hw.rdm hr.toS memQ)) ?_
 | refine S_call (f := 60) rfl obQ (by kernel_rfl) (fun w hw => rCheckPicture_c q A2 c2 hs2 hn2 w (hw.rdm hr2.toS memQ)) ?_
 | refine S_call (f := 81) rfl obQ (by kernel_rfl) (fun w hw => rWhen_c _ _ w) ?_
 | refine S_call (f := 113) rfl obQ (by kernel_rfl) (fun w hw => rFirst_c _ _ [picE p, picE q, wh (p.h != q.h) 2] (by simp) w (.inr ⟨_, rfl, hw.src (i := 2) rfl rfl⟩)) ?_
     )
 | refine V_nil ?_
 | refine V_q rfl (Yl_step rfl obQ) ?_
 | refine V_n rfl ?_
 | refine G_V ⟨⟨_, rfl, trivial⟩, ⟨_, rfl⟩, rfl, pstQ⟩ rfl ?_
 | refine G_then ?_
 | refine G_ret rfl obQ (fun w hw => ⟨?_, hw.below⟩)
     )
    all_goals rfl
  · rw [tw_t hpw]
    repeat' (first
 | (refine C_id ?_; first
 | refine C_seq ?_
 | refine C_region rfl ?_
 | refine C_ret0 ?_
 | refine C_drawV (id := 1) 14 [(0, true), (2, true), (4, true), (5, true), (6, true), (7, true), (8, true), (1, false), (3, false), (9, true), (10, true), (11, true), (12, true), (13, true)] rfl mixed (by kernel_rfl) rfl ?_
     )
 | (refine S_id ?_; first
 | ((with_reducible (first | refine S_trueE ?_ ?_ | refine S_trueB ?_ ?_ | refine S_trueL ?_ ?_ | refine S_trueD ?_ ?_ | refine S_trueN ?_ ?_)); · (first | rfl | exact bne_t hpw | exact bne_f hpw))
 | refine S_one rfl obQ ?_
 | refine S_nil ?_
 | refine S_box (fun b => ⟨_, _, rfl, obQ, ?_⟩)
 | refine S_slice (fun b => ⟨_, _, rfl, obQ, ?_⟩)
 | refine S_call (f := 60) rfl obQ (by kernel_rfl) (fun w hw => rCheckPicture_c p A c hs hn1 w (hw.rdm hr.toS memQ)) ?_
 | refine S_call (f := 60) rfl obQ (by kernel_rfl) (fun w hw => rCheckPicture_c q A2 c2 hs2 hn2 w (hw.rdm hr2.toS memQ)) ?_
 | refine S_call (f := 81) rfl obQ (by kernel_rfl) (fun w hw => rWhen_c _ _ w) ?_
 | refine S_call (f := 113) rfl obQ (by kernel_rfl) (fun w hw => rFirst_c _ _ [picE p, picE q, wh true 2] (by simp) w (.inr ⟨_, rfl, hw.src (i := 2) rfl rfl⟩)) ?_
     )
 | refine V_nil ?_
 | refine V_q rfl (Yl_step rfl obQ) ?_
 | refine V_n rfl ?_
 | refine G_V ⟨⟨_, rfl, trivial⟩, ⟨_, rfl⟩, rfl, pstQ⟩ rfl ?_
 | refine G_then ?_
 | refine G_ret rfl obQ (fun w hw => ⟨?_, hw.below⟩)
     )
    all_goals rfl
theorem xChroma_c (p q : Pic) (A A2 : Option Addr) (c c2 : Nat) (hs : p.s.length ≤ 1000000) (hs2 : q.s.length ≤ 1000000) (hp : PicOk p) (hq : PicOk q) (hpq : q.s.length = p.s.length) (cu cv sc sg : Int) (hcu : -16384 ≤ cu ∧ cu ≤ 16384) (hcv : -16384 ≤ cv ∧ cv ≤ 16384) (hsl : SlOk sc sg) (w : World) (hr : Rd w A (p.s.map (.float .f32))) (hr2 : Rd w A2 (q.s.map (.float .f32))) : Calls Tryz.prog 62 #[.agg #[.string p.nm, .int .i64 p.w, .int .i64 p.h, .slice A p.s.length c], .agg #[.string q.nm, .int .i64 q.w, .int .i64 q.h, .slice A2 q.s.length c2], .agg #[.int .i64 cu, .int .i64 cv], .agg #[.int .i64 sc, .int .i64 sg]] w fun r w' => ∃ v, r = .returned v ∧ Below w.heap.size w w' ∧ w'.ownsRow w.heap.size 3 1 v p.s.length ((rfI (fun j => shF sc sg (max (lvl (gB p.s j) - cu) (0 - (lvl (gB p.s j) - cu)) + max (lvl (gB q.s j) - cv) (0 - (lvl (gB q.s j) - cv)))) p.s.length).map (.int .i64)) := by
  refine calls_of T_ok Tryz.func62 rfl Tryz.ntmps62 (Nat.le_of_ble_eq_true rfl) rfl ?_
  have hp0 := (pic_len hp).2
  have hq0 := (pic_len hq).2
  repeat' (first
 | (refine C_id ?_; first
 | refine C_seq ?_
 | refine C_region rfl ?_
 | refine C_block ?_
 | refine C_drawTr0 (id := 1) 3 (.q 0 (.q 2 (.n 1 .nil))) rfl mixed (by kernel_rfl) rfl ?_
   )
 | (refine S_id ?_; first
 | (refine S_callRowG 3 1 p.s.length ((rfI (fun j => lvl (gB p.s j)) p.s.length).map (.int .i64)) (by omega) rfl obQ (by kernel_rfl) (fun w hw => xLevels_c p A c hs hp.s w (hw.rdm hr.toS memQ)) (fun gL cL => ?_))
 | (refine S_callRowG 3 1 q.s.length ((rfI (fun j => lvl (gB q.s j)) q.s.length).map (.int .i64)) (by omega) rfl obQ (by kernel_rfl) (fun w hw => xLevels_c q A2 c2 hs2 hq.s w (hw.rdm hr2.toS memQ)) (fun gM cM => ?_))
 | refine S_nil ?_
 | refine S_run rfl rfl obQ obQ ?_
 | refine S_box (fun bb => ⟨_, _, rfl, obQ, ?_⟩)
   )
 | refine VT_nil ?_
 | refine VT_q rfl (Yl_step rfl obQ) ?_
 | refine VT_n rfl ?_
 | refine G_VT2 ⟨_, rfl⟩ ⟨_, rfl⟩ pstQ rfl ?_
 | refine G_then ?_
   )
  rename_i b4 b5 b6
  obtain ⟨b7, rfl⟩ : ∃ z, z = bb := ⟨bb, rfl⟩
  refine C_row0 11 3 1 rfl ?_
  refine C_loopS (fun i : Nat × Option Addr × Nat => ⟨[(12, .s (.v (.int .i64 i.1))), (9, .s (.r (some ⟨gL, 0, none⟩) p.s.length cL 0)), (10, .s (.r (some ⟨gM, 0, none⟩) q.s.length cM 1)), (6, .s (.p b6 2 0)), (7, .s (.p b7 3 0)), (11, .s (.r i.2.1 i.1 i.2.2 2))], [⟨b4, 65, [.v (.string p.nm), .v (.int .i64 p.w), .v (.int .i64 p.h), .v (.slice A p.s.length c)]⟩, ⟨b5, 65, [.v (.string q.nm), .v (.int .i64 q.w), .v (.int .i64 q.h), .v (.slice A2 q.s.length c2)]⟩, ⟨b6, 24, [.v (.int .i64 cu), .v (.int .i64 cv)]⟩, ⟨b7, 88, [.v (.int .i64 sc), .v (.int .i64 sg)]⟩], [⟨3, 1, p.s.length, (rfI (fun j => lvl (gB p.s j)) p.s.length).map (.int .i64), .slice (some ⟨gL, 0, none⟩) p.s.length cL⟩, ⟨3, 1, q.s.length, (rfI (fun j => lvl (gB q.s j)) q.s.length).map (.int .i64), .slice (some ⟨gM, 0, none⟩) q.s.length cM⟩, ⟨3, 1, i.1, (rfI (fun j => shF sc sg (max (lvl (gB p.s j) - cu) (0 - (lvl (gB p.s j) - cu)) + max (lvl (gB q.s j) - cv) (0 - (lvl (gB q.s j) - cv)))) i.1).map (.int .i64), .slice i.2.1 i.1 i.2.2⟩]⟩) (fun i => i.1 ≤ p.s.length) (fun i => p.s.length - i.1) (0, none, 0) (Nat.zero_le _) ?_ (fun i hi => ?_)
  · exact svQ
  obtain ⟨k, A', c'⟩ := i
  have hk : k ≤ p.s.length := hi
  have hrs := rfI_succ (fun j => shF sc sg (max (lvl (gB p.s j) - cu) (0 - (lvl (gB p.s j) - cu)) + max (lvl (gB q.s j) - cv) (0 - (lvl (gB q.s j) - cv)))) k
  dsimp only
  by_cases hlt : k < p.s.length
  · have hb := lv_bd2 hp hlt
    have hb2 := lv_bd2 hq (k := k) (by omega)
    repeat' (first
 | (refine C_id ?_; first
 | refine C_seq ?_
 | refine C_region rfl ?_
 | refine C_block ?_
 | refine C_skip ?_
 | refine C_drawV (id := 6) 21 [(0, true), (1, true), (2, true), (3, true), (4, true), (5, true), (6, true), (7, true), (8, true), (10, true), (11, true), (12, true), (13, true), (14, true), (15, true), (16, true), (9, false), (17, false), (18, true), (19, false), (20, false)] rfl mixed (by kernel_rfl) rfl ?_
 | (refine C_cond rfl obQ (fun h => ?_) (fun h => ?_) <;> (try simp only [cdS] at h) <;> (try (exfalso; omega)) <;> (try exact cdF h) <;> (try (exfalso; omega)))
     )
 | (refine S_id ?_; first
 | refine S_append rfl obQ rfl rfl rfl ⟨by decide, rfl⟩ rfl ⟨rfl, rfl, rfl, rfl⟩ [.int .i64 ((fun j => shF sc sg (max (lvl (gB p.s j) - cu) (0 - (lvl (gB p.s j) - cu)) + max (lvl (gB q.s j) - cv) (0 - (lvl (gB q.s j) - cv)))) k)] ⟨by decide, rfl⟩ (by simp [Value.oneCell']) (fun w hw => by first | exact hw.src (i := 0) rfl rfl | exact hw.src (i := 1) rfl rfl | exact hw.src (i := 2) rfl rfl | exact hw.src (i := 3) rfl rfl | exact hw.src (i := 4) rfl rfl | exact hw.src (i := 5) rfl rfl | exact hw.src (i := 6) rfl rfl | exact hw.src (i := 7) rfl rfl | exact hw.src (i := 8) rfl rfl) (by unfold maxLen; dsimp only; omega) (fun gb cap' => ⟨_, rfl, ?_⟩)
 | refine S_nil ?_
 | refine S_run rfl rfl obQ obQ ?_
 | refine S_slice (fun b => ⟨_, _, rfl, obQ, ?_⟩)
 | refine S_call (f := 153) rfl obQ (by kernel_rfl) (fun w hw => xShare_c sc sg _ hsl (by omega) w) ?_
 | refine S_call (f := 126) rfl obQ (by kernel_rfl) (fun w hw => xabs_c (lvl (gB p.s k) - cu) (by omega) w) ?_
 | refine S_call (f := 126) rfl obQ (by kernel_rfl) (fun w hw => xabs_c (lvl (gB q.s k) - cv) (by omega) w) ?_
     )
 | (refine V_id ?_; first
 | refine V_nil ?_
 | refine V_q rfl (Yl_load rfl obQ rfl [.int .i64 (lvl (gB p.s k))] (.row 0 _ rfl gL p.s.length cL (((k : Nat) : Int).toNat * 1) rfl rfl (rfI_idx (f := fun j => lvl (gB p.s j)) (k := k) rfl (by omega))) rfl (.inr ⟨rfl, rfl⟩)) ?_
 | refine V_q rfl (Yl_load rfl obQ rfl [.int .i64 (lvl (gB q.s k))] (.row 1 _ rfl gM q.s.length cM (((k : Nat) : Int).toNat * 1) rfl rfl (rfI_idx (f := fun j => lvl (gB q.s j)) (k := k) rfl (by omega))) rfl (.inr ⟨rfl, rfl⟩)) ?_
 | refine V_q rfl (Yl_step rfl obQ) ?_
 | refine V_n rfl ?_
     )
 | (refine G_id ?_; first
 | refine G_V ⟨⟨_, rfl, trivial⟩, ⟨_, rfl⟩, rfl, pstQ⟩ rfl ?_
 | refine G_loop (k + 1, some ⟨gb, 0, none⟩, cap') (show k + 1 ≤ p.s.length by omega) (by show p.s.length - (k + 1) < p.s.length - k; omega) (by dsimp only; rw [hrs, List.map_append]; exact svQ)
 | refine G_then ?_
 | refine G_block ?_
     )
     )
  · obtain rfl : k = p.s.length := by omega
    repeat' (first
 | (refine C_id ?_; first
 | refine C_seq ?_
 | refine C_region rfl ?_
 | refine C_exit ?_
 | refine C_ret0 ?_
 | (refine C_cond rfl obQ (fun h => ?_) (fun h => ?_) <;> (try simp only [cdS] at h) <;> (try (exfalso; omega)) <;> (try exact cdF h) <;> (try (exfalso; omega)))
     )
 | refine S_nil ?_
 | refine S_run rfl rfl obQ obQ ?_
 | (refine G_id ?_; first
 | refine G_then ?_
 | refine G_blockX ?_
 | refine G_thenX ?_
 | refine G_ret rfl obQ (fun w2 hw => ⟨_, rfl, hw.below, HW.ownRow (i := 2) hw rfl rfl rfl rfl⟩)
     )
     )
end Go.Proofs.YtjkgklhjbopoaaaGreatDoor
