/- Mixer: wipes are checked: contracts of the reference. -/
import Derived.Test.YtjkgklhjbopoaaaGreatDoorMixer39
namespace Go.Proofs.YtjkgklhjbopoaaaGreatDoor
open Go.E Go.RowKit Go.Fl
attribute [local irreducible] G C S D Calls
set_option maxRecDepth 100000
set_option linter.all false
set_option maxHeartbeats 8000000
theorem al0 {a b : ByteArray} (h : a = b) : (a.toList == b.toList) = true := by rw [h]; exact beq_self_eq_true _
theorem V8 {a b : ByteArray} (h : ¬ a = b) : (a.toList == b.toList) = false := by
  cases e : (a.toList == b.toList)
  · rfl
  · exact absurd (toL (beq_iff_eq.1 e)) h
def shX (s : ByteArray) : Bool := (!(s.toList == bHalf.toList) && !(s.toList == bBox.toList)) && !(s.toList == bDia.toList)
theorem bs4 (s : ByteArray) : shX s = !shB s := by
  unfold shX
  by_cases h1 : s = bHalf
  · rw [al0 h1, h1, bA1]; rfl
  · by_cases h2 : s = bBox
    · rw [V8 h1, al0 h2, h2, bs9]; rfl
    · by_cases h3 : s = bDia
      · rw [V8 h1, V8 h2, al0 h3, h3, bz0]; rfl
      · rw [V8 h1, V8 h2, V8 h3, bj5 (Ne.symm h1) (Ne.symm h2) (Ne.symm h3)]; rfl
theorem bB1 (x : Wip) : wpE x = firstL [wh (shX x.sh) 13, wi x.a (-100) 100, wi x.b (-100) 100, wi x.at_ (-100000) 100000, wi x.soft 0 100000] := by
  rw [bs4]
  rfl
theorem ao1 (x : Wip) (w : World) : Calls Tryz.prog 21 #[.agg #[.string x.sh, .int .i64 x.a, .int .i64 x.b, .int .i64 x.at_, .int .i64 x.soft]] w fun r w' => r = .returned (.int .i64 (wpE x)) ∧ Below w.heap.size w w' := by
  rw [bB1 x]
  refine i7 n9 Tryz.func21 rfl Tryz.ntmps21 (Nat.le_of_ble_eq_true rfl) rfl ?_
  repeat' (first
|(refine j7 ?_; first
|refine e8 ?_
|refine a6 rfl ?_
|refine i6 ?_
|refine n8 (id := 1) 25 [(0, true), (1, true), (2, true), (3, true), (4, true), (5, true), (6, true), (7, true), (8, true), (9, true), (10, true), (11, true), (12, true), (14, true), (15, true), (17, true), (18, true), (20, true), (21, true), (23, true), (24, true), (13, false), (16, false), (19, false), (22, false)] rfl mixed (by kernel_rfl) rfl ?_)
|(refine k6 ?_; first
|refine e7 ?_
|refine e9 rfl rfl obQ obQ ?_
|refine k7 (fun b => ⟨_, _, rfl, obQ, ?_⟩)
|refine j9 (fun b => ⟨_, _, rfl, obQ, ?_⟩)
|refine a8 (f := 81) rfl obQ (by kernel_rfl) (fun w hw => F3 _ _ w) ?_
|refine a8 (f := 114) rfl obQ (by kernel_rfl) (fun w hw => J8 _ _ _ w) ?_
|refine a8 (f := 113) rfl obQ (by kernel_rfl) (fun w hw => H9 _ _ [wh (shX x.sh) 13, wi x.a (-100) 100, wi x.b (-100) 100, wi x.at_ (-100000) 100000, wi x.soft 0 100000] (by simp) w (.inr ⟨_, rfl, hw.src (i := 1) rfl rfl⟩)) ?_)
|refine r5 ?_
|refine V_q rfl (k8 rfl obQ) ?_
|refine V_n rfl ?_
|refine G_V ⟨⟨_, rfl, trivial⟩, ⟨_, rfl⟩, rfl, pstQ⟩ rfl ?_
|refine a7 ?_
|refine j4 rfl obQ (fun w hw => ⟨?_, hw.below⟩))
  rfl
end Go.Proofs.YtjkgklhjbopoaaaGreatDoor
