/- The fixed examples of the chapter on timing hold: the walk. -/
import Derived.Test.YtmfophoejjcnlaaGreatDoorTiming35
import Derived.Test.YtmfophoejjcnlaaGreatDoorTiming17
namespace Go.Proofs.YtmfophoejjcnlaaGreatDoor
open Go.E Go.RowKit
attribute [local irreducible] G C S D Calls
set_option maxRecDepth 100000
set_option linter.unusedSimpArgs false
set_option linter.unusedVariables false

theorem sameIntsT_c (A B : Option Addr) (c c2 : Nat) (xs : List Int) (n : Nat) (hn : xs.length = n) (hl : n ≤ 1000000) (w : World) (hr : Rd w A (xs.map (.int .i64))) (hr2 : Rd w B (xs.map (.int .i64))) : Calls Tryz.prog 47 #[.slice A n c, .slice B n c2] w fun r w' => r = .returned (.bool true) ∧ Below w.heap.size w w' := by
  subst hn
  have h := rSameInts_c A B c c2 xs xs hl hl w hr hr2
  rw [decide_eq_true (show xs = xs from rfl)] at h
  exact h
theorem sameSamplesT_c (A B : Option Addr) (c c2 : Nat) (xs : List Nat) (n : Nat) (hn : xs.length = n) (hl : n ≤ 1000000) (hx : ∀ x ∈ xs, isLvl x) (w : World) (hr : Rd w A (xs.map (.float .f32))) (hr2 : Rd w B (xs.map (.float .f32))) : Calls Tryz.prog 37 #[.slice A n c, .slice B n c2] w fun r w' => r = .returned (.bool true) ∧ Below w.heap.size w w' := by
  subst hn
  have h := rSameSamples_c A B c c2 xs xs hl hl hx hx w hr hr2
  rw [decide_eq_true (show xs = xs from rfl)] at h
  exact h
theorem lvl5 : ∀ x ∈ ([0, 3263168512, 0, 0, 1098907648] : List Nat), isLvl x := by
  intro x hx
  simp only [List.mem_cons, List.mem_nil_iff, or_false] at hx
  unfold isLvl
  omega

set_option maxHeartbeats 8000000 in
/-- genlocklaw04.awake -/
theorem awake_c  (w : World) (hE : Ex w) (hP : Pw w) : Calls Tryz.prog 27 #[] w fun r w' => r = .returned (.bool true) ∧ Below w.heap.size w w' := by
  refine calls_of (args := []) T_ok Tryz.func27 rfl Tryz.ntmps27 (Nat.le_of_ble_eq_true rfl) rfl ?_
  repeat' (first
 | (refine C_id ?_; first
 | refine C_seq ?_
 | refine C_region rfl ?_
 | refine C_skip ?_
 | refine C_ret0 ?_
 | refine C_condF rfl obQ ?_
 )
 | (refine S_id ?_; first
 | refine S_unG rfl rfl (by kernel_rfl) rfl ?_
 | (refine S_callM (f := 93) rfl obQ (by kernel_rfl) (fun w hw => studio_c 100 w) (fun w1N w2N vN hw1N hbN hRN => ?_); obtain ⟨AN, AN2, cN, cN2, rfl, hSN, hTN⟩ := hRN)
 | (refine S_callM (f := 93) rfl obQ (by kernel_rfl) (fun w hw => studio_c 30 w) (fun w1M w2M vM hw1M hbM hRM => ?_); obtain ⟨AM, AM2, cM, cM2, rfl, hSM, hTM⟩ := hRM)
 | (refine S_callM (f := 94) rfl obQ (by kernel_rfl) (fun w hw => round_c w) (fun w1R w2R vR hw1R hbR hRR => ?_); obtain ⟨AR, cR, rfl, hSR⟩ := hRR)
 | (refine S_callM (f := 31) rfl obQ (by kernel_rfl) (fun w hw => aw11 w (hw.rdm hE.toS memQ)) (fun w1S w2S vS hw1S hbS hRS => ?_); obtain ⟨AS, cS, rfl, hSS⟩ := hRS)
 | (refine S_callM (f := 49) rfl obQ (by kernel_rfl) (fun w hw => aw12 w (hw.rdm hSN memQ) (hw.rdm hTN memQ)) (fun w1P w2P vP hw1P hbP hRP => ?_); obtain ⟨AP, cP, rfl, hSP⟩ := hRP)
 | (refine S_callM (f := 49) rfl obQ (by kernel_rfl) (fun w hw => aw16 w (hw.rdm hSM memQ) (hw.rdm hTM memQ)) (fun w1Q w2Q vQ hw1Q hbQ hRQ => ?_); obtain ⟨AQ, cQ, rfl, hSQ⟩ := hRQ)
 | (refine S_callM (f := 53) rfl obQ (by kernel_rfl) (fun w hw => aw13 w (hw.rdm hSN memQ) (hw.rdm hTN memQ) (by first | exact .inr ⟨_, rfl, hw.src (i := 14) rfl rfl⟩ | exact .inr ⟨_, rfl, hw.src (i := 13) rfl rfl⟩ | exact .inr ⟨_, rfl, hw.src (i := 12) rfl rfl⟩ | exact .inr ⟨_, rfl, hw.src (i := 11) rfl rfl⟩ | exact .inr ⟨_, rfl, hw.src (i := 10) rfl rfl⟩ | exact .inr ⟨_, rfl, hw.src (i := 9) rfl rfl⟩ | exact .inr ⟨_, rfl, hw.src (i := 8) rfl rfl⟩ | exact .inr ⟨_, rfl, hw.src (i := 7) rfl rfl⟩ | exact .inr ⟨_, rfl, hw.src (i := 6) rfl rfl⟩ | exact .inr ⟨_, rfl, hw.src (i := 5) rfl rfl⟩ | exact .inr ⟨_, rfl, hw.src (i := 4) rfl rfl⟩ | exact .inr ⟨_, rfl, hw.src (i := 3) rfl rfl⟩ | exact .inr ⟨_, rfl, hw.src (i := 2) rfl rfl⟩ | exact .inr ⟨_, rfl, hw.src (i := 1) rfl rfl⟩ | exact .inr ⟨_, rfl, hw.src (i := 0) rfl rfl⟩)) (fun w1T w2T vT hw1T hbT hRT => ?_); obtain ⟨AT, cT, rfl, hST⟩ := hRT)
 | (refine S_callM (f := 38) rfl obQ (by kernel_rfl) (fun w hw => aw18 w) (fun w1L w2L vL hw1L hbL hRL => ?_); obtain ⟨AL, cL, rfl, hSL⟩ := hRL)
 | (refine S_callM (f := 38) rfl obQ (by kernel_rfl) (fun w hw => aw19 w) (fun w1K w2K vK hw1K hbK hRK => ?_); obtain ⟨AK, cK, rfl, hSK⟩ := hRK)
 | refine S_pure (binX_pure rfl obQ (fun w => ne_flat (k := .i64) (xs := [0, 1, 0, 4]) (ys := [0, 1, 0, 4]) (by kernel_rfl) rfl rfl _ _ w)) ?_
 | refine S_pure (binX_pure rfl obQ (fun w => ne_flat (k := .i64) (xs := [1, 0, 2, 5]) (ys := [1, 0, 2, 5]) (by kernel_rfl) rfl rfl _ _ w)) ?_
 | refine S_pure (binX_pure rfl obQ (fun w => ne_flat (k := .i64) (xs := [30, 40]) (ys := [30, 40]) (by kernel_rfl) rfl rfl _ _ w)) ?_
 | refine S_pure (binX_pure rfl obQ (fun w => ne_flat (k := .i64) (xs := [50, 60]) (ys := [50, 60]) (by kernel_rfl) rfl rfl _ _ w)) ?_
 | refine S_pure (binX_pure rfl obQ (fun w => eq_flat (k := .i64) (xs := [100, 110]) (ys := [100, 110]) (by kernel_rfl) rfl rfl _ _ w)) ?_
 | refine S_pure (binX_pure rfl obQ (fun w => eq_flat (k := .i64) (xs := [40, 60]) (ys := [40, 60]) (by kernel_rfl) rfl rfl _ _ w)) ?_
 | refine S_nil ?_
 | refine S_runN rfl rfl obQ obQ ?_
 | refine S_box (fun b => ⟨_, _, rfl, obQ, ?_⟩)
 | refine S_slice (fun b => ⟨_, _, rfl, obQ, ?_⟩)
 | refine S_call (f := 92) rfl obQ (by kernel_rfl) (fun w hw => small_c w) ?_
 | refine S_call (f := 14) rfl obQ (by kernel_rfl) (fun w hw => aw1 w (hw.rdm hE.toS memQ)) ?_
 | refine S_call (f := 14) rfl obQ (by kernel_rfl) (fun w hw => aw2 w (hw.rdm hE.toS memQ)) ?_
 | refine S_call (f := 15) rfl obQ (by kernel_rfl) (fun w hw => aw3 w (hw.rdm hE.toS memQ)) ?_
 | refine S_call (f := 16) rfl obQ (by kernel_rfl) (fun w hw => aw4 w (hw.rdm hE.toS memQ)) ?_
 | refine S_call (f := 17) rfl obQ (by kernel_rfl) (fun w hw => aw5 w (hw.rdm hE.toS memQ)) ?_
 | refine S_call (f := 28) rfl obQ (by kernel_rfl) (fun w hw => aw6 w (hw.rdm hE.toS memQ)) ?_
 | refine S_call (f := 28) rfl obQ (by kernel_rfl) (fun w hw => aw7 w (hw.rdm hE.toS memQ)) ?_
 | refine S_call (f := 29) rfl obQ (by kernel_rfl) (fun w hw => aw8 w (hw.rdm hE.toS memQ)) ?_
 | refine S_call (f := 30) rfl obQ (by kernel_rfl) (fun w hw => aw9 w (hw.rdm hE.toS memQ)) ?_
 | refine S_call (f := 30) rfl obQ (by kernel_rfl) (fun w hw => aw10 w (hw.rdm hE.toS memQ)) ?_
 | refine S_call (f := 54) rfl obQ (by kernel_rfl) (fun w hw => aw14 w (hw.rdm hSN memQ) (hw.rdm hTN memQ)) ?_
 | refine S_call (f := 54) rfl obQ (by kernel_rfl) (fun w hw => aw15 w (hw.rdm hSN memQ) (hw.rdm hTN memQ)) ?_
 | refine S_call (f := 69) rfl obQ (by kernel_rfl) (fun w hw => aw17 w (hw.rdm hSM memQ) (hw.rdm hTM memQ) (hw.rdm hSR memQ)) ?_
 | refine S_call (f := 39) rfl obQ (by kernel_rfl) (fun w hw => aw20 w) ?_
 | refine S_call (f := 40) rfl obQ (by kernel_rfl) (fun w hw => aw21 w) ?_
 | refine S_call (f := 40) rfl obQ (by kernel_rfl) (fun w hw => aw22 w) ?_
 | refine S_call (f := 76) rfl obQ (by kernel_rfl) (fun w hw => aw23 w (hw.rdm hSN memQ) (hw.rdm hTN memQ) (Pw_at hP hw memQ)) ?_
 | refine S_call (f := 37) rfl obQ (by kernel_rfl) (fun w hw => sameSamplesT_c _ _ _ _ [0, 3263168512, 0, 0, 1098907648] 5 rfl (by omega) lvl5 w (hw.rdm hSS memQ) (by first | exact .inr ⟨_, rfl, hw.src (i := 14) rfl rfl⟩ | exact .inr ⟨_, rfl, hw.src (i := 13) rfl rfl⟩ | exact .inr ⟨_, rfl, hw.src (i := 12) rfl rfl⟩ | exact .inr ⟨_, rfl, hw.src (i := 11) rfl rfl⟩ | exact .inr ⟨_, rfl, hw.src (i := 10) rfl rfl⟩ | exact .inr ⟨_, rfl, hw.src (i := 9) rfl rfl⟩ | exact .inr ⟨_, rfl, hw.src (i := 8) rfl rfl⟩ | exact .inr ⟨_, rfl, hw.src (i := 7) rfl rfl⟩ | exact .inr ⟨_, rfl, hw.src (i := 6) rfl rfl⟩ | exact .inr ⟨_, rfl, hw.src (i := 5) rfl rfl⟩ | exact .inr ⟨_, rfl, hw.src (i := 4) rfl rfl⟩ | exact .inr ⟨_, rfl, hw.src (i := 3) rfl rfl⟩ | exact .inr ⟨_, rfl, hw.src (i := 2) rfl rfl⟩ | exact .inr ⟨_, rfl, hw.src (i := 1) rfl rfl⟩ | exact .inr ⟨_, rfl, hw.src (i := 0) rfl rfl⟩)) ?_
 | refine S_call (f := 47) rfl obQ (by kernel_rfl) (fun w hw => sameIntsT_c _ _ _ _ [0, 40, 20, 100] 4 rfl (by omega) w (hw.rdm hSP memQ) (by first | exact .inr ⟨_, rfl, hw.src (i := 14) rfl rfl⟩ | exact .inr ⟨_, rfl, hw.src (i := 13) rfl rfl⟩ | exact .inr ⟨_, rfl, hw.src (i := 12) rfl rfl⟩ | exact .inr ⟨_, rfl, hw.src (i := 11) rfl rfl⟩ | exact .inr ⟨_, rfl, hw.src (i := 10) rfl rfl⟩ | exact .inr ⟨_, rfl, hw.src (i := 9) rfl rfl⟩ | exact .inr ⟨_, rfl, hw.src (i := 8) rfl rfl⟩ | exact .inr ⟨_, rfl, hw.src (i := 7) rfl rfl⟩ | exact .inr ⟨_, rfl, hw.src (i := 6) rfl rfl⟩ | exact .inr ⟨_, rfl, hw.src (i := 5) rfl rfl⟩ | exact .inr ⟨_, rfl, hw.src (i := 4) rfl rfl⟩ | exact .inr ⟨_, rfl, hw.src (i := 3) rfl rfl⟩ | exact .inr ⟨_, rfl, hw.src (i := 2) rfl rfl⟩ | exact .inr ⟨_, rfl, hw.src (i := 1) rfl rfl⟩ | exact .inr ⟨_, rfl, hw.src (i := 0) rfl rfl⟩)) ?_
 | refine S_call (f := 47) rfl obQ (by kernel_rfl) (fun w hw => sameIntsT_c _ _ _ _ [40, 60, 20, 80] 4 rfl (by omega) w (hw.rdm hST memQ) (by first | exact .inr ⟨_, rfl, hw.src (i := 14) rfl rfl⟩ | exact .inr ⟨_, rfl, hw.src (i := 13) rfl rfl⟩ | exact .inr ⟨_, rfl, hw.src (i := 12) rfl rfl⟩ | exact .inr ⟨_, rfl, hw.src (i := 11) rfl rfl⟩ | exact .inr ⟨_, rfl, hw.src (i := 10) rfl rfl⟩ | exact .inr ⟨_, rfl, hw.src (i := 9) rfl rfl⟩ | exact .inr ⟨_, rfl, hw.src (i := 8) rfl rfl⟩ | exact .inr ⟨_, rfl, hw.src (i := 7) rfl rfl⟩ | exact .inr ⟨_, rfl, hw.src (i := 6) rfl rfl⟩ | exact .inr ⟨_, rfl, hw.src (i := 5) rfl rfl⟩ | exact .inr ⟨_, rfl, hw.src (i := 4) rfl rfl⟩ | exact .inr ⟨_, rfl, hw.src (i := 3) rfl rfl⟩ | exact .inr ⟨_, rfl, hw.src (i := 2) rfl rfl⟩ | exact .inr ⟨_, rfl, hw.src (i := 1) rfl rfl⟩ | exact .inr ⟨_, rfl, hw.src (i := 0) rfl rfl⟩)) ?_
 | refine S_call (f := 47) rfl obQ (by kernel_rfl) (fun w hw => sameIntsT_c _ _ _ _ [13, 8, 3, 0] 4 rfl (by omega) w (hw.rdm hSL memQ) (by first | exact .inr ⟨_, rfl, hw.src (i := 14) rfl rfl⟩ | exact .inr ⟨_, rfl, hw.src (i := 13) rfl rfl⟩ | exact .inr ⟨_, rfl, hw.src (i := 12) rfl rfl⟩ | exact .inr ⟨_, rfl, hw.src (i := 11) rfl rfl⟩ | exact .inr ⟨_, rfl, hw.src (i := 10) rfl rfl⟩ | exact .inr ⟨_, rfl, hw.src (i := 9) rfl rfl⟩ | exact .inr ⟨_, rfl, hw.src (i := 8) rfl rfl⟩ | exact .inr ⟨_, rfl, hw.src (i := 7) rfl rfl⟩ | exact .inr ⟨_, rfl, hw.src (i := 6) rfl rfl⟩ | exact .inr ⟨_, rfl, hw.src (i := 5) rfl rfl⟩ | exact .inr ⟨_, rfl, hw.src (i := 4) rfl rfl⟩ | exact .inr ⟨_, rfl, hw.src (i := 3) rfl rfl⟩ | exact .inr ⟨_, rfl, hw.src (i := 2) rfl rfl⟩ | exact .inr ⟨_, rfl, hw.src (i := 1) rfl rfl⟩ | exact .inr ⟨_, rfl, hw.src (i := 0) rfl rfl⟩)) ?_
 | refine S_call (f := 47) rfl obQ (by kernel_rfl) (fun w hw => sameIntsT_c _ _ _ _ [40, 45, 0] 3 rfl (by omega) w (hw.rdm hSK memQ) (by first | exact .inr ⟨_, rfl, hw.src (i := 14) rfl rfl⟩ | exact .inr ⟨_, rfl, hw.src (i := 13) rfl rfl⟩ | exact .inr ⟨_, rfl, hw.src (i := 12) rfl rfl⟩ | exact .inr ⟨_, rfl, hw.src (i := 11) rfl rfl⟩ | exact .inr ⟨_, rfl, hw.src (i := 10) rfl rfl⟩ | exact .inr ⟨_, rfl, hw.src (i := 9) rfl rfl⟩ | exact .inr ⟨_, rfl, hw.src (i := 8) rfl rfl⟩ | exact .inr ⟨_, rfl, hw.src (i := 7) rfl rfl⟩ | exact .inr ⟨_, rfl, hw.src (i := 6) rfl rfl⟩ | exact .inr ⟨_, rfl, hw.src (i := 5) rfl rfl⟩ | exact .inr ⟨_, rfl, hw.src (i := 4) rfl rfl⟩ | exact .inr ⟨_, rfl, hw.src (i := 3) rfl rfl⟩ | exact .inr ⟨_, rfl, hw.src (i := 2) rfl rfl⟩ | exact .inr ⟨_, rfl, hw.src (i := 1) rfl rfl⟩ | exact .inr ⟨_, rfl, hw.src (i := 0) rfl rfl⟩)) ?_
 )
 | (refine G_id ?_; first
 | refine G_then ?_
 | refine G_ret rfl obQ (fun w hw => ⟨?_, hw.below⟩)
 )
 )
  kernel_rfl

end Go.Proofs.YtmfophoejjcnlaaGreatDoor
