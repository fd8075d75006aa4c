/- The fixed examples of the chapter on colour hold: the walk. -/
import Derived.Test.YtdbffbcobghbeaaGreatDoorColour27
import Derived.Test.YtdbffbcobghbeaaGreatDoorEng3
namespace Go.Proofs.YtdbffbcobghbeaaGreatDoor
open Go.E Go.RowKit Go.Fl
attribute [local irreducible] G C S D Calls
set_option maxRecDepth 100000
set_option linter.unusedSimpArgs false
set_option linter.unusedVariables false

theorem sameIntsT_c (A B : Option Addr) (c c2 : Nat) (xs : List (Int)) (n : Nat) (hn : xs.length = n) (hl : n ≤ 1000000) (w : World) (hr : Rd w A (xs.map (.int .i64))) (hr2 : Rd w B (xs.map (.int .i64))) : Calls Tryz.prog 84 #[.slice A n c, .slice B n c2] w fun r w' => r = .returned (.bool true) ∧ Below w.heap.size w w' := by
  subst hn
  have h := rSameInts_c A B c c2 xs xs hl hl w hr hr2
  rw [decide_eq_true (show xs = xs from rfl)] at h
  exact h

theorem sameColoursT_c (A B : Option Addr) (c c2 : Nat) (xs : List (Col)) (n : Nat) (hn : xs.length = n) (hl : n ≤ 1000000) (w : World) (hr : Rd w A (xs.flatMap coC)) (hr2 : Rd w B (xs.flatMap coC)) : Calls Tryz.prog 52 #[.slice A n c, .slice B n c2] w fun r w' => r = .returned (.bool true) ∧ Below w.heap.size w w' := by
  subst hn
  have h := rSameColours_c A B c c2 xs xs hl hl w hr hr2
  rw [decide_eq_true (show xs = xs from rfl)] at h
  exact h

theorem sameCurveT_c (A B : Option Addr) (c c2 : Nat) (xs : List (Pt)) (n : Nat) (hn : xs.length = n) (hl : n ≤ 1000000) (w : World) (hr : Rd w A (xs.flatMap ptC)) (hr2 : Rd w B (xs.flatMap ptC)) : Calls Tryz.prog 36 #[.slice A n c, .slice B n c2] w fun r w' => r = .returned (.bool true) ∧ Below w.heap.size w w' := by
  subst hn
  have h := rSameCurve_c A B c c2 xs xs hl hl w hr hr2
  rw [decide_eq_true (show xs = xs from rfl)] at h
  exact h

theorem sameSamplesT_c (A B : Option Addr) (c c2 : Nat) (xs : List Nat) (n : Nat) (hn : xs.length = n) (hl : n ≤ 1000000) (hx : ∀ x ∈ xs, Fin32 x) (w : World) (hr : Rd w A (xs.map (.float .f32))) (hr2 : Rd w B (xs.map (.float .f32))) : Calls Tryz.prog 109 #[.slice A n c, .slice B n c2] w fun r w' => r = .returned (.bool true) ∧ Below w.heap.size w w' := by
  subst hn
  have h := rSameSamples_c A B c c2 xs xs hl hl hx hx w hr hr2
  rw [decide_eq_true (show xs.map B32 = xs.map B32 from rfl)] at h
  exact h
theorem fin_of {b : Nat} (h : smpE b = 0) : Fin32 b := (smp_iff.1 h).fin
theorem fin_a : ∀ x ∈ ([1056964608, 1048576000] : List Nat), Fin32 x := by
  intro x hx
  simp only [List.mem_cons, List.mem_nil_iff, or_false] at hx
  rcases hx with rfl | rfl
  · exact fin_of (by kernel_rfl)
  · exact fin_of (by kernel_rfl)
theorem fin_b : ∀ x ∈ ([1067450368] : List Nat), Fin32 x := by
  intro x hx
  simp only [List.mem_cons, List.mem_nil_iff, or_false] at hx
  subst hx
  exact fin_of (by kernel_rfl)

set_option maxHeartbeats 8000000 in
/-- genlocklaw02.awake -/
theorem awake_c  (w : World) (hO : Ot w) (hP : Pw w) : Calls Tryz.prog 20 #[] w fun r w' => r = .returned (.bool true) ∧ Below w.heap.size w w' := by
  refine calls_of (args := []) T_ok Tryz.func20 rfl Tryz.ntmps20 (Nat.le_of_ble_eq_true rfl) rfl ?_
  repeat' (first
 | (refine C_id ?_; first
 | refine C_rounds 5 ?_
 | refine C_seq ?_
 | refine C_regionNe 10 rfl rfl ?_
 | refine C_block ?_
 | refine C_skip ?_
 | refine C_exit ?_
 | refine C_condT rfl obQ ?_
 | refine C_condF rfl obQ ?_
 )
 | (refine S_id ?_; first
 | (refine S_callM (f := 107) rfl obQ (by kernel_rfl) (fun w hw => lshown_c w) (fun w1W w2W vW hw1W hbW hRW => ?_); obtain ⟨AW, cW, rfl, hSW⟩ := hRW)
 | refine S_nil ?_
 | refine S_run rfl rfl obQ obQ ?_
 | refine S_box (fun b => ⟨_, _, rfl, obQ, ?_⟩)
 | refine S_call (f := 21) rfl obQ (by kernel_rfl) (fun w hw => awV50 w (hw.rdm hSW memQ)) ?_
 | refine S_call (f := 21) rfl obQ (by kernel_rfl) (fun w hw => awV101 w (hw.rdm hSW memQ)) ?_
 | refine S_call (f := 21) rfl obQ (by kernel_rfl) (fun w hw => awV200 w (hw.rdm hSW memQ)) ?_
 | refine S_call (f := 21) rfl obQ (by kernel_rfl) (fun w hw => awVm5 w (hw.rdm hSW memQ)) ?_
 | refine S_call (f := 21) rfl obQ (by kernel_rfl) (fun w hw => awV400 w (hw.rdm hSW memQ)) ?_
 )
 | (refine G_id ?_; first
 | (refine G_rounds ?_; refine C_trim [0, 1, 2, 46, 47] 1 rfl rfl ?_)
 | refine G_then ?_
 | refine G_block ?_
 | refine G_blockX ?_
 | refine G_thenX ?_
 )
 )
  refine C_trim [0, 1, 2] 1 rfl rfl ?_
  repeat' (first
 | (refine C_id ?_; first
 | refine C_seq ?_
 | refine C_regionNe 18 rfl rfl ?_
 | refine C_skip ?_
 | refine C_condF rfl obQ ?_
   )
 | (refine S_id ?_; first
 | refine S_unG rfl rfl (by kernel_rfl) rfl ?_
 | (refine S_callM (f := 107) rfl obQ (by kernel_rfl) (fun w hw => lshown_c w) (fun w1W w2W vW hw1W hbW hRW => ?_); obtain ⟨AW, cW, rfl, hSW⟩ := hRW)
 | (refine S_callM (f := 23) rfl obQ (by kernel_rfl) (fun w hw => awI w (hw.rdm hSW memQ)) (fun w1I w2I vI hw1I hbI hRI => ?_); obtain ⟨AI, cI, rfl, hSI⟩ := hRI)
 | (refine S_callM (f := 25) rfl obQ (by kernel_rfl) (fun w hw => awK w) (fun w1K w2K vK hw1K hbK hRK => ?_); obtain ⟨AK, cK, rfl, hSK⟩ := hRK)
 | (refine S_callM (f := 55) rfl obQ (by kernel_rfl) (fun w hw => awSh w (.inr ⟨_, rfl, hw.src (i := 1) rfl rfl⟩) (.inr ⟨_, rfl, hw.src (i := 2) rfl rfl⟩) (.inr ⟨_, rfl, hw.src (i := 3) rfl rfl⟩)) (fun w1S w2S vS hw1S hbS hRS => ?_); obtain ⟨AS, cS, rfl, hSS⟩ := hRS)
 | (refine S_callM (f := 37) rfl obQ (by kernel_rfl) (fun w hw => lpoints_c _ _ [(0, 0), (200, 100), (300, 300)] (by decide) w (hw.rdm hSI memQ)) (fun w1P w2P vP hw1P hbP hRP => ?_); obtain ⟨AP, cP, rfl, hSP⟩ := hRP)
 | (refine S_callM (f := 37) rfl obQ (by kernel_rfl) (fun w hw => lpoints_c _ _ knL (by decide) w (hw.rdm hSK memQ)) (fun w1Q w2Q vQ hw1Q hbQ hRQ => ?_); obtain ⟨AQ, cQ, rfl, hSQ⟩ := hRQ)
 | refine S_pure (binX_pure rfl obQ (fun w => ne_deep (k := .i64) (n := 5) (xs := [100, 201, 250, 0, 300]) (ys := [100, 201, 250, 0, 300]) (by kernel_rfl) rfl rfl _ _ w)) ?_
 | refine S_nil ?_
 | refine S_runN rfl rfl obQ obQ ?_
 | refine S_box (fun b => ⟨_, _, rfl, obQ, ?_⟩)
 | refine S_slice (fun b => ⟨_, _, rfl, obQ, ?_⟩)
 | refine S_call (f := 24) rfl obQ (by kernel_rfl) (fun w hw => awS102 w (hw.rdm hSW memQ)) ?_
 | refine S_call (f := 24) rfl obQ (by kernel_rfl) (fun w hw => awS101 w (hw.rdm hSW memQ)) ?_
 | refine S_call (f := 21) rfl obQ (by kernel_rfl) (fun w hw => awKV w (hw.rdm hSK memQ)) ?_
 | refine S_call (f := 108) rfl obQ (by kernel_rfl) (fun w hw => lrow_c _ _ _ (by omega) w) ?_
 | refine S_call (f := 36) rfl obQ (by kernel_rfl) (fun w hw => sameCurveT_c _ _ _ _ [(0, 0), (200, 100), (300, 300)] 3 rfl (by omega) w (hw.rdm hSP memQ) (by first | exact .inr ⟨_, rfl, hw.src (i := 5) rfl rfl⟩ | exact .inr ⟨_, rfl, hw.src (i := 4) rfl rfl⟩ | exact .inr ⟨_, rfl, hw.src (i := 3) rfl rfl⟩ | exact .inr ⟨_, rfl, hw.src (i := 2) rfl rfl⟩ | exact .inr ⟨_, rfl, hw.src (i := 1) rfl rfl⟩ | exact .inr ⟨_, rfl, hw.src (i := 0) rfl rfl⟩)) ?_
 | refine S_call (f := 36) rfl obQ (by kernel_rfl) (fun w hw => sameCurveT_c _ _ _ _ knL 3 rfl (by omega) w (hw.rdm hSQ memQ) (by first | exact .inr ⟨_, rfl, hw.src (i := 6) rfl rfl⟩ | exact .inr ⟨_, rfl, hw.src (i := 5) rfl rfl⟩ | exact .inr ⟨_, rfl, hw.src (i := 4) rfl rfl⟩ | exact .inr ⟨_, rfl, hw.src (i := 3) rfl rfl⟩ | exact .inr ⟨_, rfl, hw.src (i := 2) rfl rfl⟩ | exact .inr ⟨_, rfl, hw.src (i := 1) rfl rfl⟩ | exact .inr ⟨_, rfl, hw.src (i := 0) rfl rfl⟩)) ?_
 | refine S_call (f := 109) rfl obQ (by kernel_rfl) (fun w hw => sameSamplesT_c _ _ _ _ [1056964608, 1048576000] 2 rfl (by omega) fin_a w (hw.rdm hSS memQ) (by first | exact .inr ⟨_, rfl, hw.src (i := 7) rfl rfl⟩ | exact .inr ⟨_, rfl, hw.src (i := 6) rfl rfl⟩ | exact .inr ⟨_, rfl, hw.src (i := 5) rfl rfl⟩ | exact .inr ⟨_, rfl, hw.src (i := 4) rfl rfl⟩ | exact .inr ⟨_, rfl, hw.src (i := 3) rfl rfl⟩ | exact .inr ⟨_, rfl, hw.src (i := 2) rfl rfl⟩ | exact .inr ⟨_, rfl, hw.src (i := 1) rfl rfl⟩ | exact .inr ⟨_, rfl, hw.src (i := 0) rfl rfl⟩)) ?_
   )
 | (refine G_id ?_; first
 | refine G_then ?_
   )
   )
  refine C_trim [0] 0 rfl rfl ?_
  repeat' (first
 | (refine C_id ?_; first
 | refine C_seq ?_
 | refine C_regionNe 27 rfl rfl ?_
 | refine C_skip ?_
 | refine C_condF rfl obQ ?_
   )
 | (refine S_id ?_; first
 | refine S_unG rfl rfl (by kernel_rfl) rfl ?_
 | (refine S_callM (f := 48) rfl obQ (by kernel_rfl) (fun w hw => awL w) (fun w1L w2L vL hw1L hbL hRL => ?_); obtain ⟨AL, cL, rfl, hSL⟩ := hRL)
 | refine S_pure (binX_pure rfl obQ (fun w => ne_deep (k := .i64) (n := 3) (xs := [4, 2, 5]) (ys := [4, 2, 5]) (by kernel_rfl) rfl rfl _ _ w)) ?_
 | refine S_pure (binX_pure rfl obQ (fun w => ne_deep (k := .i64) (n := 10) (xs := [1, 2, 0, 0, 1, 0, 0, 0, 4, 4]) (ys := [1, 2, 0, 0, 1, 0, 0, 0, 4, 4]) (by kernel_rfl) rfl rfl _ _ w)) ?_
 | refine S_pure (binX_pure rfl obQ (fun w => ne_deep (k := .i64) (n := 6) (xs := [2, 1, -2, 1, 0, 1]) (ys := [2, 1, -2, 1, 0, 1]) (by kernel_rfl) rfl rfl _ _ w)) ?_
 | refine S_pure (binX_pure rfl obQ (fun w => ne_deep (k := .i64) (n := 2) (xs := [1, 1]) (ys := [1, 1]) (by kernel_rfl) rfl rfl _ _ w)) ?_
 | refine S_nil ?_
 | refine S_runN rfl rfl obQ obQ ?_
 | refine S_box (fun b => ⟨_, _, rfl, obQ, ?_⟩)
 | refine S_slice (fun b => ⟨_, _, rfl, obQ, ?_⟩)
 | refine S_call (f := 110) rfl obQ (by kernel_rfl) (fun w hw => lhalves_c w) ?_
 | refine S_call (f := 38) rfl obQ (by kernel_rfl) (fun w hw => awC w) ?_
 | refine S_call (f := 47) rfl obQ (by kernel_rfl) (fun w hw => awCm w) ?_
 | refine S_call (f := 39) rfl obQ (by kernel_rfl) (fun w hw => awD w (hw.rdm hO.toS memQ)) ?_
 | refine S_call (f := 40) rfl obQ (by kernel_rfl) (fun w hw => awIv w (hw.rdm hO.toS memQ)) ?_
 | refine S_call (f := 86) rfl obQ (by kernel_rfl) (fun w hw => awG3 w (by first | exact .inr ⟨_, rfl, hw.src (i := 3) rfl rfl⟩ | exact .inr ⟨_, rfl, hw.src (i := 2) rfl rfl⟩ | exact .inr ⟨_, rfl, hw.src (i := 1) rfl rfl⟩ | exact .inr ⟨_, rfl, hw.src (i := 0) rfl rfl⟩)) ?_
 | refine S_call (f := 86) rfl obQ (by kernel_rfl) (fun w hw => awG4 w (by first | exact .inr ⟨_, rfl, hw.src (i := 4) rfl rfl⟩ | exact .inr ⟨_, rfl, hw.src (i := 3) rfl rfl⟩ | exact .inr ⟨_, rfl, hw.src (i := 2) rfl rfl⟩ | exact .inr ⟨_, rfl, hw.src (i := 1) rfl rfl⟩ | exact .inr ⟨_, rfl, hw.src (i := 0) rfl rfl⟩)) ?_
 | refine S_call (f := 52) rfl obQ (by kernel_rfl) (fun w hw => sameColoursT_c _ _ _ _ lsL 2 rfl (by omega) w (hw.rdm hSL memQ) (by first | exact .inr ⟨_, rfl, hw.src (i := 5) rfl rfl⟩ | exact .inr ⟨_, rfl, hw.src (i := 4) rfl rfl⟩ | exact .inr ⟨_, rfl, hw.src (i := 3) rfl rfl⟩ | exact .inr ⟨_, rfl, hw.src (i := 2) rfl rfl⟩ | exact .inr ⟨_, rfl, hw.src (i := 1) rfl rfl⟩ | exact .inr ⟨_, rfl, hw.src (i := 0) rfl rfl⟩)) ?_
   )
 | (refine G_id ?_; first
 | refine G_then ?_
   )
   )
  refine C_trim [0] 0 rfl rfl ?_
  repeat' (first
 | (refine C_id ?_; first
 | refine C_seq ?_
 | refine C_region rfl ?_
 | refine C_ret0 ?_
   )
 | (refine S_id ?_; first
 | refine S_unG rfl rfl (by kernel_rfl) rfl ?_
 | (refine S_callM (f := 107) rfl obQ (by kernel_rfl) (fun w hw => lshown_c w) (fun w1W w2W vW hw1W hbW hRW => ?_); obtain ⟨AW, cW, rfl, hSW⟩ := hRW)
 | (refine S_callM (f := 61) rfl obQ (by kernel_rfl) (fun w hw => awLu w (.inr ⟨_, rfl, hw.src (i := 0) rfl rfl⟩) (.inr ⟨_, rfl, hw.src (i := 1) rfl rfl⟩) (.inr ⟨_, rfl, hw.src (i := 2) rfl rfl⟩)) (fun w1U w2U vU hw1U hbU hRU => ?_); obtain ⟨AU, cU, rfl, hSU⟩ := hRU)
 | (refine S_callM (f := 67) rfl obQ (by kernel_rfl) (fun w hw => awF w (.inr ⟨_, rfl, hw.src (i := 8) rfl rfl⟩) (.inr ⟨_, rfl, hw.src (i := 4) rfl rfl⟩) (.inr ⟨_, rfl, hw.src (i := 5) rfl rfl⟩) (.inr ⟨_, rfl, hw.src (i := 6) rfl rfl⟩) (.inr ⟨_, rfl, hw.src (i := 7) rfl rfl⟩)) (fun w1F w2F vF hw1F hbF hRF => ?_); obtain ⟨AF, cF, rfl, hSF⟩ := hRF)
 | (refine S_callM (f := 69) rfl obQ (by kernel_rfl) (fun w hw => awB w (.inr ⟨_, rfl, hw.src (i := 8) rfl rfl⟩) (.inr ⟨_, rfl, hw.src (i := 4) rfl rfl⟩) (.inr ⟨_, rfl, hw.src (i := 5) rfl rfl⟩) (.inr ⟨_, rfl, hw.src (i := 6) rfl rfl⟩) (.inr ⟨_, rfl, hw.src (i := 7) rfl rfl⟩)) (fun w1B w2B vB hw1B hbB hRB => ?_); obtain ⟨AB, cB, rfl, hSB⟩ := hRB)
 | (refine S_callM (f := 77) rfl obQ (by kernel_rfl) (fun w hw => awLo w (.inr ⟨_, rfl, hw.src (i := 9) rfl rfl⟩) (.inr ⟨_, rfl, hw.src (i := 10) rfl rfl⟩)) (fun w1O w2O vO hw1O hbO hRO => ?_); obtain ⟨AO, cO, rfl, hSO⟩ := hRO)
 | (refine S_callM (f := 78) rfl obQ (by kernel_rfl) (fun w hw => awLd w (.inr ⟨_, rfl, hw.src (i := 11) rfl rfl⟩) (.inr ⟨_, rfl, hw.src (i := 12) rfl rfl⟩)) (fun w1D w2D vD hw1D hbD hRD => ?_); obtain ⟨AD, cD, rfl, hSD⟩ := hRD)
 | refine S_nil ?_
 | refine S_runN rfl rfl obQ obQ ?_
 | refine S_box (fun b => ⟨_, _, rfl, obQ, ?_⟩)
 | refine S_slice (fun b => ⟨_, _, rfl, obQ, ?_⟩)
 | refine S_call (f := 108) rfl obQ (by kernel_rfl) (fun w hw => lrow_c _ _ _ (by omega) w) ?_
 | refine S_call (f := 102) rfl obQ (by kernel_rfl) (fun w hw => awP w (hw.rdm hSW memQ) (Pw_at hP hw memQ)) ?_
 | refine S_call (f := 109) rfl obQ (by kernel_rfl) (fun w hw => sameSamplesT_c _ _ _ _ [1067450368] 1 rfl (by omega) fin_b w (hw.rdm hSU memQ) (by first | exact .inr ⟨_, rfl, hw.src (i := 13) rfl rfl⟩ | exact .inr ⟨_, rfl, hw.src (i := 12) rfl rfl⟩ | exact .inr ⟨_, rfl, hw.src (i := 11) rfl rfl⟩ | exact .inr ⟨_, rfl, hw.src (i := 10) rfl rfl⟩ | exact .inr ⟨_, rfl, hw.src (i := 9) rfl rfl⟩ | exact .inr ⟨_, rfl, hw.src (i := 8) rfl rfl⟩ | exact .inr ⟨_, rfl, hw.src (i := 7) rfl rfl⟩ | exact .inr ⟨_, rfl, hw.src (i := 6) rfl rfl⟩ | exact .inr ⟨_, rfl, hw.src (i := 5) rfl rfl⟩ | exact .inr ⟨_, rfl, hw.src (i := 4) rfl rfl⟩ | exact .inr ⟨_, rfl, hw.src (i := 3) rfl rfl⟩ | exact .inr ⟨_, rfl, hw.src (i := 2) rfl rfl⟩ | exact .inr ⟨_, rfl, hw.src (i := 1) rfl rfl⟩ | exact .inr ⟨_, rfl, hw.src (i := 0) rfl rfl⟩)) ?_
 | refine S_call (f := 84) rfl obQ (by kernel_rfl) (fun w hw => sameIntsT_c _ _ _ _ [1, 3] 2 rfl (by omega) w (hw.rdm hSF memQ) (by first | exact .inr ⟨_, rfl, hw.src (i := 18) rfl rfl⟩ | exact .inr ⟨_, rfl, hw.src (i := 17) rfl rfl⟩ | exact .inr ⟨_, rfl, hw.src (i := 16) rfl rfl⟩ | exact .inr ⟨_, rfl, hw.src (i := 15) rfl rfl⟩ | exact .inr ⟨_, rfl, hw.src (i := 14) rfl rfl⟩ | exact .inr ⟨_, rfl, hw.src (i := 13) rfl rfl⟩ | exact .inr ⟨_, rfl, hw.src (i := 12) rfl rfl⟩ | exact .inr ⟨_, rfl, hw.src (i := 11) rfl rfl⟩ | exact .inr ⟨_, rfl, hw.src (i := 10) rfl rfl⟩ | exact .inr ⟨_, rfl, hw.src (i := 9) rfl rfl⟩ | exact .inr ⟨_, rfl, hw.src (i := 8) rfl rfl⟩ | exact .inr ⟨_, rfl, hw.src (i := 7) rfl rfl⟩ | exact .inr ⟨_, rfl, hw.src (i := 6) rfl rfl⟩ | exact .inr ⟨_, rfl, hw.src (i := 5) rfl rfl⟩ | exact .inr ⟨_, rfl, hw.src (i := 4) rfl rfl⟩ | exact .inr ⟨_, rfl, hw.src (i := 3) rfl rfl⟩ | exact .inr ⟨_, rfl, hw.src (i := 2) rfl rfl⟩ | exact .inr ⟨_, rfl, hw.src (i := 1) rfl rfl⟩ | exact .inr ⟨_, rfl, hw.src (i := 0) rfl rfl⟩)) ?_
 | refine S_call (f := 84) rfl obQ (by kernel_rfl) (fun w hw => sameIntsT_c _ _ _ _ [3] 1 rfl (by omega) w (hw.rdm hSB memQ) (by first | exact .inr ⟨_, rfl, hw.src (i := 18) rfl rfl⟩ | exact .inr ⟨_, rfl, hw.src (i := 17) rfl rfl⟩ | exact .inr ⟨_, rfl, hw.src (i := 16) rfl rfl⟩ | exact .inr ⟨_, rfl, hw.src (i := 15) rfl rfl⟩ | exact .inr ⟨_, rfl, hw.src (i := 14) rfl rfl⟩ | exact .inr ⟨_, rfl, hw.src (i := 13) rfl rfl⟩ | exact .inr ⟨_, rfl, hw.src (i := 12) rfl rfl⟩ | exact .inr ⟨_, rfl, hw.src (i := 11) rfl rfl⟩ | exact .inr ⟨_, rfl, hw.src (i := 10) rfl rfl⟩ | exact .inr ⟨_, rfl, hw.src (i := 9) rfl rfl⟩ | exact .inr ⟨_, rfl, hw.src (i := 8) rfl rfl⟩ | exact .inr ⟨_, rfl, hw.src (i := 7) rfl rfl⟩ | exact .inr ⟨_, rfl, hw.src (i := 6) rfl rfl⟩ | exact .inr ⟨_, rfl, hw.src (i := 5) rfl rfl⟩ | exact .inr ⟨_, rfl, hw.src (i := 4) rfl rfl⟩ | exact .inr ⟨_, rfl, hw.src (i := 3) rfl rfl⟩ | exact .inr ⟨_, rfl, hw.src (i := 2) rfl rfl⟩ | exact .inr ⟨_, rfl, hw.src (i := 1) rfl rfl⟩ | exact .inr ⟨_, rfl, hw.src (i := 0) rfl rfl⟩)) ?_
 | refine S_call (f := 84) rfl obQ (by kernel_rfl) (fun w hw => sameIntsT_c _ _ _ _ [512, 1280] 2 rfl (by omega) w (hw.rdm hSO memQ) (by first | exact .inr ⟨_, rfl, hw.src (i := 18) rfl rfl⟩ | exact .inr ⟨_, rfl, hw.src (i := 17) rfl rfl⟩ | exact .inr ⟨_, rfl, hw.src (i := 16) rfl rfl⟩ | exact .inr ⟨_, rfl, hw.src (i := 15) rfl rfl⟩ | exact .inr ⟨_, rfl, hw.src (i := 14) rfl rfl⟩ | exact .inr ⟨_, rfl, hw.src (i := 13) rfl rfl⟩ | exact .inr ⟨_, rfl, hw.src (i := 12) rfl rfl⟩ | exact .inr ⟨_, rfl, hw.src (i := 11) rfl rfl⟩ | exact .inr ⟨_, rfl, hw.src (i := 10) rfl rfl⟩ | exact .inr ⟨_, rfl, hw.src (i := 9) rfl rfl⟩ | exact .inr ⟨_, rfl, hw.src (i := 8) rfl rfl⟩ | exact .inr ⟨_, rfl, hw.src (i := 7) rfl rfl⟩ | exact .inr ⟨_, rfl, hw.src (i := 6) rfl rfl⟩ | exact .inr ⟨_, rfl, hw.src (i := 5) rfl rfl⟩ | exact .inr ⟨_, rfl, hw.src (i := 4) rfl rfl⟩ | exact .inr ⟨_, rfl, hw.src (i := 3) rfl rfl⟩ | exact .inr ⟨_, rfl, hw.src (i := 2) rfl rfl⟩ | exact .inr ⟨_, rfl, hw.src (i := 1) rfl rfl⟩ | exact .inr ⟨_, rfl, hw.src (i := 0) rfl rfl⟩)) ?_
 | refine S_call (f := 84) rfl obQ (by kernel_rfl) (fun w hw => sameIntsT_c _ _ _ _ [1] 1 rfl (by omega) w (hw.rdm hSD memQ) (by first | exact .inr ⟨_, rfl, hw.src (i := 18) rfl rfl⟩ | exact .inr ⟨_, rfl, hw.src (i := 17) rfl rfl⟩ | exact .inr ⟨_, rfl, hw.src (i := 16) rfl rfl⟩ | exact .inr ⟨_, rfl, hw.src (i := 15) rfl rfl⟩ | exact .inr ⟨_, rfl, hw.src (i := 14) rfl rfl⟩ | exact .inr ⟨_, rfl, hw.src (i := 13) rfl rfl⟩ | exact .inr ⟨_, rfl, hw.src (i := 12) rfl rfl⟩ | exact .inr ⟨_, rfl, hw.src (i := 11) rfl rfl⟩ | exact .inr ⟨_, rfl, hw.src (i := 10) rfl rfl⟩ | exact .inr ⟨_, rfl, hw.src (i := 9) rfl rfl⟩ | exact .inr ⟨_, rfl, hw.src (i := 8) rfl rfl⟩ | exact .inr ⟨_, rfl, hw.src (i := 7) rfl rfl⟩ | exact .inr ⟨_, rfl, hw.src (i := 6) rfl rfl⟩ | exact .inr ⟨_, rfl, hw.src (i := 5) rfl rfl⟩ | exact .inr ⟨_, rfl, hw.src (i := 4) rfl rfl⟩ | exact .inr ⟨_, rfl, hw.src (i := 3) rfl rfl⟩ | exact .inr ⟨_, rfl, hw.src (i := 2) rfl rfl⟩ | exact .inr ⟨_, rfl, hw.src (i := 1) rfl rfl⟩ | exact .inr ⟨_, rfl, hw.src (i := 0) rfl rfl⟩)) ?_
   )
 | (refine G_id ?_; first
 | refine G_then ?_
 | refine G_ret rfl obQ (fun w hw => ⟨?_, hw.below⟩)
   )
   )
  all_goals kernel_rfl

end Go.Proofs.YtdbffbcobghbeaaGreatDoor
