/- Mixer: two pictures, chroma keys, wipes: contracts of the reference. -/
import Derived.Test.YtjkgklhjbopoaaaGreatDoorMixer38
import Derived.Test.YtjkgklhjbopoaaaGreatDoorPartA
import Derived.Test.YtjkgklhjbopoaaaGreatDoorEng4
namespace Go.Proofs.YtjkgklhjbopoaaaGreatDoor
open Go.E Go.RowKit Go.Fl
attribute [local irreducible] G C S D Calls
set_option maxRecDepth 100000
set_option linter.all false
set_option maxHeartbeats 8000000
theorem bne_t {a b : Int} (h : ¬ a = b) : (a != b) = true := bne_iff_ne.2 h
theorem bne_f {a b : Int} (h : a = b) : (a != b) = false := by rw [h]; exact bne_self_eq_false b
theorem tw_t {p q : Pic} (h : ¬ p.w = q.w) : twE p q = firstL [picE p, picE q, wh true 2] := by unfold twE; rw [bne_t h]; rfl
theorem tw_f {p q : Pic} (h : p.w = q.w) : twE p q = firstL [picE p, picE q, wh (p.h != q.h) 2] := by unfold twE; rw [bne_f h]; rfl
theorem xCheckSizes_c (p q : Pic) (A A2 : Option Addr) (c c2 : Nat) (hs : p.s.length ≤ 1000000) (hs2 : q.s.length ≤ 1000000) (hn1 : p.nm.size ≤ maxLen) (hn2 : q.nm.size ≤ maxLen) (w : World) (hr : Rd w A (p.s.map (.float .f32))) (hr2 : Rd w A2 (q.s.map (.float .f32))) : Calls Tryz.prog 57 #[.agg #[.string p.nm, .int .i64 p.w, .int .i64 p.h, .slice A p.s.length c], .agg #[.string q.nm, .int .i64 q.w, .int .i64 q.h, .slice A2 q.s.length c2]] w fun r w' => r = .returned (.int .i64 (twE p q)) ∧ Below w.heap.size w w' := by
  refine calls_of T_ok Tryz.func57 rfl Tryz.ntmps57 (Nat.le_of_ble_eq_true rfl) rfl ?_
  by_cases hpw : p.w = q.w
  · rw [tw_f hpw]
    repeat' (first
|(refine C_id ?_; first
|refine C_seq ?_
|refine C_region rfl ?_
|refine C_ret0 ?_
|refine C_drawV (id := 1) 14 [(0, true), (2, true), (4, true), (5, true), (6, true), (7, true), (8, true), (1, false), (3, false), (9, true), (10, true), (11, true), (12, true), (13, true)] rfl mixed (by kernel_rfl) rfl ?_)
|(refine S_id ?_; first
|((with_reducible (first | refine S_falseN ?_ ?_ | refine S_falseB ?_ ?_ | refine S_falseL ?_ ?_ | refine S_falseD ?_ ?_ | refine S_falseE ?_ ?_)); · (first | rfl | exact bne_f hpw))
|refine S_unG rfl rfl rfl rfl ?_
|refine S_solid 16 rfl rfl ?_
|refine S_solid 18 rfl rfl ?_
|refine S_one rfl obQ ?_
|refine S_nil ?_
|refine S_box (fun b => ⟨_, _, rfl, obQ, ?_⟩)
|refine S_slice (fun b => ⟨_, _, rfl, obQ, ?_⟩)
|refine S_call (f := 60) rfl obQ (by kernel_rfl) (fun w hw => rCheckPicture_c p A c hs hn1 w (hw.rdm hr.toS memQ)) ?_
|refine S_call (f := 60) rfl obQ (by kernel_rfl) (fun w hw => rCheckPicture_c q A2 c2 hs2 hn2 w (hw.rdm hr2.toS memQ)) ?_
|refine S_call (f := 81) rfl obQ (by kernel_rfl) (fun w hw => rWhen_c _ _ w) ?_
|refine S_call (f := 113) rfl obQ (by kernel_rfl) (fun w hw => rFirst_c _ _ [picE p, picE q, wh (p.h != q.h) 2] (by simp) w (.inr ⟨_, rfl, hw.src (i := 2) rfl rfl⟩)) ?_)
|refine V_nil ?_
|refine V_q rfl (Yl_step rfl obQ) ?_
|refine V_n rfl ?_
|refine G_V ⟨⟨_, rfl, trivial⟩, ⟨_, rfl⟩, rfl, pstQ⟩ rfl ?_
|refine G_then ?_
|refine G_ret rfl obQ (fun w hw => ⟨?_, hw.below⟩))
    all_goals rfl
  · rw [tw_t hpw]
    repeat' (first
|(refine C_id ?_; first
|refine C_seq ?_
|refine C_region rfl ?_
|refine C_ret0 ?_
|refine C_drawV (id := 1) 14 [(0, true), (2, true), (4, true), (5, true), (6, true), (7, true), (8, true), (1, false), (3, false), (9, true), (10, true), (11, true), (12, true), (13, true)] rfl mixed (by kernel_rfl) rfl ?_)
|(refine S_id ?_; first
|((with_reducible (first | refine S_trueE ?_ ?_ | refine S_trueB ?_ ?_ | refine S_trueL ?_ ?_ | refine S_trueD ?_ ?_ | refine S_trueN ?_ ?_)); · (first | rfl | exact bne_t hpw | exact bne_f hpw))
|refine S_one rfl obQ ?_
|refine S_nil ?_
|refine S_box (fun b => ⟨_, _, rfl, obQ, ?_⟩)
|refine S_slice (fun b => ⟨_, _, rfl, obQ, ?_⟩)
|refine S_call (f := 60) rfl obQ (by kernel_rfl) (fun w hw => rCheckPicture_c p A c hs hn1 w (hw.rdm hr.toS memQ)) ?_
|refine S_call (f := 60) rfl obQ (by kernel_rfl) (fun w hw => rCheckPicture_c q A2 c2 hs2 hn2 w (hw.rdm hr2.toS memQ)) ?_
|refine S_call (f := 81) rfl obQ (by kernel_rfl) (fun w hw => rWhen_c _ _ w) ?_
|refine S_call (f := 113) rfl obQ (by kernel_rfl) (fun w hw => rFirst_c _ _ [picE p, picE q, wh true 2] (by simp) w (.inr ⟨_, rfl, hw.src (i := 2) rfl rfl⟩)) ?_)
|refine V_nil ?_
|refine V_q rfl (Yl_step rfl obQ) ?_
|refine V_n rfl ?_
|refine G_V ⟨⟨_, rfl, trivial⟩, ⟨_, rfl⟩, rfl, pstQ⟩ rfl ?_
|refine G_then ?_
|refine G_ret rfl obQ (fun w hw => ⟨?_, hw.below⟩))
    all_goals rfl
end Go.Proofs.YtjkgklhjbopoaaaGreatDoor
