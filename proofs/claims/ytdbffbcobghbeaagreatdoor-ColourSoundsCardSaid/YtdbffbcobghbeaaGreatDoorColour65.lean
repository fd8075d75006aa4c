/- The law of sounds: the walk. -/
import Derived.Test.YtdbffbcobghbeaaGreatDoorColour28
import Derived.Test.YtdbffbcobghbeaaGreatDoorColour64
import Derived.Test.YtdbffbcobghbeaaGreatDoorEngAL
import Derived.Test.YtdbffbcobghbeaaGreatDoorEngZ
namespace Go.Proofs.YtdbffbcobghbeaaGreatDoor
open Go.E Go.RowKit Go.Fl
attribute [local irreducible] G C S D DY DS V VT Yl QV QT Calls
set_option maxRecDepth 100000
set_option linter.unusedSimpArgs false
set_option linter.unusedVariables false

section
variable {s : List Nat} {t : List Int} {w : World}
theorem lfirstE_c {A : Option Addr} {n : Nat} {l : List Int} {e : Int} (he : firstL l = e) (h6 : l.length ≤ 1000000) (hl : l.length = n) (c : Nat) (w : World) (hr : Rd w A (l.map (.int .i64))) : Calls Tryz.prog 27 #[.slice A n c] w fun r w' => r = .returned (.int .i64 e) ∧ Below w.heap.size w w' := by
  subst hl he
  exact lfirst_c A c l h6 w hr
theorem loud_as {xs : List Int} {e blk : Int} {n n1 n2 : Nat} (h : loR s t blk = (xs, e)) (hn : xs.length = n) {A B : Option Addr} {c c2 : Nat} (hs : s.length ≤ 1000000) (ht : t.length ≤ 1000000) (e1 : n1 = s.length) (e2 : n2 = t.length) (hr : Rd w A (s.map (.float .f32))) (hr2 : Rd w B (t.map (.int .i64))) :
    Calls Tryz.prog 77 #[.slice A n1 c, .slice B n2 c2, .int .i64 blk] w fun r w' => ∃ v, r = .returned v ∧ Below w.heap.size w w' ∧ Sl2 w w' v n (xs.map (.int .i64)) (.int .i64 e) := by
  subst hn e1 e2
  have := Loudness_c A c s hs B c2 t ht blk w hr hr2
  rw [h] at this
  exact this
theorem loudB_as {xs : List Nat} {e blk lim : Int} {n n1 n2 : Nat} (h : ldR s t blk lim = (xs, e)) (hn : xs.length = n) {A B : Option Addr} {c c2 : Nat} (hs : s.length ≤ 1000000) (ht : t.length ≤ 1000000) (e1 : n1 = s.length) (e2 : n2 = t.length) (hr : Rd w A (s.map (.float .f32))) (hr2 : Rd w B (t.map (.int .i64))) :
    Calls Tryz.prog 78 #[.slice A n1 c, .slice B n2 c2, .int .i64 blk, .int .i64 lim] w fun r w' => ∃ v, r = .returned v ∧ Below w.heap.size w w' ∧ Sl2 w w' v n (natC xs) (.int .i64 e) := by
  subst hn e1 e2
  have := Loud_c A c s hs B c2 t ht blk lim w hr hr2
  rw [h] at this
  exact this
theorem natC_map (l : List Nat) : natC l = (l.map fun (k : Nat) => (k : Int)).map (Value.int .i64) := by unfold natC; rw [List.map_map]; rfl
theorem llistedN_c (A B : Option Addr) (c c2 : Nat) (xs : List Nat) (n : Nat) (hn : xs.length = n) (hl : n ≤ 1000000) (w : World) (hr : Rd w A (natC xs)) (hr2 : Rd w B (natC xs)) : Calls Tryz.prog 74 #[.slice A n c, .int .i64 0, .int .i64 0, .slice B n c2] w fun r w' => r = .returned (.bool true) ∧ Below w.heap.size w w' := by
  rw [natC_map] at hr hr2
  exact llisted_c A B c c2 _ n (by rw [List.length_map]; exact hn) hl w hr hr2
end

set_option maxHeartbeats 8000000 in
/-- genlocklaw02.ColourSounds -/
theorem lSounds_c (A A2 : Option Addr) (c c2 : Nat) (s : List Nat) (t : List Int) (hsm : s.length ≤ maxLen) (htm : t.length ≤ maxLen) (hA : A = none → s.length = 0 ∧ c = 0) (hB : A2 = none → t.length = 0 ∧ c2 = 0) (k0 k1 : Int) (w : World) (hr : Rd w A (s.map (.float .f32))) (hr2 : Rd w A2 (t.map (.int .i64))) (hO : Ot w) (hP : Pw w) : Calls Tryz.prog 11 #[.slice A s.length c, .slice A2 t.length c2, .agg #[.int .i64 k0, .int .i64 k1]] w fun r w' => r = .returned (.bool true) ∧ Below w.heap.size w w' := by
  refine calls_of (args := [.slice A s.length c, .slice A2 t.length c2, .agg #[.int .i64 k0, .int .i64 k1]]) T_ok Tryz.func11 rfl Tryz.ntmps11 (Nat.le_of_ble_eq_true rfl) rfl ?_
  cases hSs : (decide ((s.length : Int) ≤ 40) || ((s.length : Int) == 4097))
  · repeat' (first
 | (refine C_id ?_; first
 | refine C_seq ?_
 | refine C_region rfl ?_
 | refine C_block ?_
 | refine C_skip ?_
 | refine C_exit ?_
 | refine C_ret0 ?_
 | refine C_drawT (id := 3) 0 rfl mixed (by kernel_rfl) rfl rfl ?_
 | refine C_drawT (id := 4) 0 rfl mixed (by kernel_rfl) rfl rfl ?_
 | refine C_drawT (id := 5) 7 rfl mixed (by kernel_rfl) rfl rfl ?_
 | refine C_condT rfl obQ ?_
 | refine C_condF rfl obQ ?_
 | (refine C_cond rfl obQ (fun h => ?_) (fun h => ?_) <;> (try simp only [Bool.or_eq_true, Bool.and_eq_true, Bool.or_eq_false_iff, Bool.and_eq_false_iff, decide_eq_true_eq, decide_eq_false_iff_not, beq_iff_eq, bne_iff_ne, beq_eq_false_iff_ne, bne_eq_false_iff_eq, ne_eq, Decidable.not_not, List.cons.injEq, and_true, Bool.not_eq_true', Bool.not_eq_false', Int.not_lt, Int.not_le] at h) <;> (try (exfalso; omega)) <;> (try (exfalso; simp at h; done)) <;> (try (exfalso; simp only [not_true_eq_false, false_or, or_false] at h; omega)) <;> (try contradiction))
     )
 | (refine S_id ?_; first
 | ((with_reducible (first | refine S_falseN ?_ ?_ | refine S_falseB ?_ ?_ | refine S_falseL ?_ ?_ | refine S_falseD ?_ ?_ | refine S_falseE ?_ ?_)); · (first | rfl | omega))
 | ((with_reducible refine S_falseO ?_ ?_ ?_); (· rfl); (· first | rfl | (first | rfl | omega)))
 | ((with_reducible (first | refine S_trueE ?_ ?_ | refine S_trueB ?_ ?_ | refine S_trueL ?_ ?_ | refine S_trueD ?_ ?_ | refine S_trueN ?_ ?_)); · (first | exact beq_self_eq_true _ | rfl | omega))
 | ((with_reducible refine S_trueA ?_ ?_ ?_); (· rfl); (· first | rfl | (first | exact beq_self_eq_true _ | rfl | omega)))
 | refine S_unG rfl rfl rfl rfl ?_
 | refine S_offG (.v (.bool false)) rfl rfl rfl rfl rfl ?_
 | refine S_nil ?_
 | refine S_runN rfl rfl obQ obQ ?_
 | refine S_box (fun bb => ⟨_, _, rfl, obQ, ?_⟩)
 | refine S_slice (fun b => ⟨_, _, rfl, obQ, ?_⟩)
 | refine S_call (f := 20) rfl obQ (by kernel_rfl) (fun w hw => awake_c w (hw.rdm hO.toS memQ) (Pw_at hP hw memQ)) ?_
 | refine S_call (f := 75) rfl obQ (by kernel_rfl) (fun w hw => rShortSound_c _ _ _ _ hSs w) ?_
 | refine S_call (f := 76) rfl obQ (by kernel_rfl) (fun w hw => rShortTaps_c _ _ _ _ hSt w) ?_
     )
 | (refine D_id ?_; first
 | refine D_nil ?_
 | refine D_tail ?_
 | refine D_run rfl rfl obQ obQ ?_
 | refine D_call (f := 20) rfl obQ (by kernel_rfl) (fun w hw => awake_c w (hw.rdm hO.toS memQ) (Pw_at hP hw memQ)) ?_
 | refine D_call (f := 75) rfl obQ (by kernel_rfl) (fun w hw => rShortSound_c _ _ _ _ hSs w) ?_
 | refine D_call (f := 76) rfl obQ (by kernel_rfl) (fun w hw => rShortTaps_c _ _ _ _ hSt w) ?_
     )
 | (refine G_id ?_; first
 | refine G_then ?_
 | refine G_block ?_
 | refine G_blockX ?_
 | refine G_blockN rfl ?_
 | refine G_blockR ?_
 | refine G_thenR ?_
 | refine G_thenX ?_
 | refine G_ret rfl obQ (fun w hw => ⟨?_, hw.below⟩)
     )
     )
    all_goals rfl
  cases hSt : decide ((t.length : Int) ≤ 9)
  · repeat' (first
 | (refine C_id ?_; first
 | refine C_seq ?_
 | refine C_region rfl ?_
 | refine C_block ?_
 | refine C_skip ?_
 | refine C_exit ?_
 | refine C_ret0 ?_
 | refine C_drawT (id := 3) 0 rfl mixed (by kernel_rfl) rfl rfl ?_
 | refine C_drawT (id := 4) 0 rfl mixed (by kernel_rfl) rfl rfl ?_
 | refine C_drawT (id := 5) 7 rfl mixed (by kernel_rfl) rfl rfl ?_
 | refine C_condT rfl obQ ?_
 | refine C_condF rfl obQ ?_
 | (refine C_cond rfl obQ (fun h => ?_) (fun h => ?_) <;> (try simp only [Bool.or_eq_true, Bool.and_eq_true, Bool.or_eq_false_iff, Bool.and_eq_false_iff, decide_eq_true_eq, decide_eq_false_iff_not, beq_iff_eq, bne_iff_ne, beq_eq_false_iff_ne, bne_eq_false_iff_eq, ne_eq, Decidable.not_not, List.cons.injEq, and_true, Bool.not_eq_true', Bool.not_eq_false', Int.not_lt, Int.not_le] at h) <;> (try (exfalso; omega)) <;> (try (exfalso; simp at h; done)) <;> (try (exfalso; simp only [not_true_eq_false, false_or, or_false] at h; omega)) <;> (try contradiction))
     )
 | (refine S_id ?_; first
 | ((with_reducible (first | refine S_falseN ?_ ?_ | refine S_falseB ?_ ?_ | refine S_falseL ?_ ?_ | refine S_falseD ?_ ?_ | refine S_falseE ?_ ?_)); · (first | rfl | omega))
 | ((with_reducible refine S_falseO ?_ ?_ ?_); (· rfl); (· first | rfl | (first | rfl | omega)))
 | ((with_reducible (first | refine S_trueE ?_ ?_ | refine S_trueB ?_ ?_ | refine S_trueL ?_ ?_ | refine S_trueD ?_ ?_ | refine S_trueN ?_ ?_)); · (first | exact beq_self_eq_true _ | rfl | omega))
 | ((with_reducible refine S_trueA ?_ ?_ ?_); (· rfl); (· first | rfl | (first | exact beq_self_eq_true _ | rfl | omega)))
 | refine S_unG rfl rfl rfl rfl ?_
 | refine S_offG (.v (.bool false)) rfl rfl rfl rfl rfl ?_
 | refine S_nil ?_
 | refine S_runN rfl rfl obQ obQ ?_
 | refine S_box (fun bb => ⟨_, _, rfl, obQ, ?_⟩)
 | refine S_slice (fun b => ⟨_, _, rfl, obQ, ?_⟩)
 | refine S_call (f := 20) rfl obQ (by kernel_rfl) (fun w hw => awake_c w (hw.rdm hO.toS memQ) (Pw_at hP hw memQ)) ?_
 | refine S_call (f := 75) rfl obQ (by kernel_rfl) (fun w hw => rShortSound_c _ _ _ _ hSs w) ?_
 | refine S_call (f := 76) rfl obQ (by kernel_rfl) (fun w hw => rShortTaps_c _ _ _ _ hSt w) ?_
     )
 | (refine D_id ?_; first
 | refine D_nil ?_
 | refine D_tail ?_
 | refine D_run rfl rfl obQ obQ ?_
 | refine D_call (f := 20) rfl obQ (by kernel_rfl) (fun w hw => awake_c w (hw.rdm hO.toS memQ) (Pw_at hP hw memQ)) ?_
 | refine D_call (f := 75) rfl obQ (by kernel_rfl) (fun w hw => rShortSound_c _ _ _ _ hSs w) ?_
 | refine D_call (f := 76) rfl obQ (by kernel_rfl) (fun w hw => rShortTaps_c _ _ _ _ hSt w) ?_
     )
 | (refine G_id ?_; first
 | refine G_then ?_
 | refine G_block ?_
 | refine G_blockX ?_
 | refine G_blockN rfl ?_
 | refine G_blockR ?_
 | refine G_thenR ?_
 | refine G_thenX ?_
 | refine G_ret rfl obQ (fun w hw => ⟨?_, hw.below⟩)
     )
     )
    all_goals rfl
  have hs : s.length ≤ 1000000 := by
    simp only [Bool.or_eq_true, decide_eq_true_eq, beq_iff_eq] at hSs
    omega
  have ht : t.length ≤ 1000000 := by
    simp only [decide_eq_true_eq] at hSt
    omega
  have hT0 := sd_eq s t k0
  by_cases hd : sdE s t k0 = 0
  · have hSD0 := sd_ok.1 hd
    have hk0 := hSD0.b
    have hSD : SdOk s t k0.toNat := by rw [Int.toNat_of_nonneg (by omega)]; exact hSD0
    obtain ⟨nb, rfl⟩ := Int.eq_ofNat_of_zero_le (show 0 ≤ k0 by omega)
    rw [Int.toNat_natCast] at hSD
    have hT : firstL [ssE s, ttE t, wi (nb : Int) 1 4096] = 0 := hT0.trans hd
    have hV : loR s t (nb : Int) = (lsR s t nb, 0) := if_pos hd
    have hVn : (lsR s t nb).length = (lsR s t nb).length := rfl
    have hll : (lsR s t nb).length ≤ 1000000 := by
      have := lsR_len s t (blk := nb) (by omega)
      omega
    have hlf := ldF_len (lsR s t nb) k1 (lsR s t nb).length
    have hlf : (ldF (lsR s t nb) k1 (lsR s t nb).length).length ≤ 1000000 := by omega
    by_cases hl0 : ldE s t (nb : Int) k1 = 0
    · have hU : firstL [0, wi k1 0 1152921504606846976] = 0 := by have := hl0; unfold ldE at this; rwa [hd] at this
      have hX : ldR s t (nb : Int) k1 = (ldF (lsR s t nb) k1 (lsR s t nb).length, 0) := if_pos hl0
      have hXn : (ldF (lsR s t nb) k1 (lsR s t nb).length).length = (ldF (lsR s t nb) k1 (lsR s t nb).length).length := rfl
      repeat' (first
 | (refine C_id ?_; first
 | refine C_seq ?_
 | refine C_region rfl ?_
 | refine C_block ?_
 | refine C_skip ?_
 | refine C_exit ?_
 | refine C_ret0 ?_
 | refine C_drawT (id := 4) 0 rfl mixed (by kernel_rfl) rfl rfl ?_
 | refine C_drawT (id := 5) 7 rfl mixed (by kernel_rfl) rfl rfl ?_
 | refine C_condT rfl obQ ?_
 | refine C_condF rfl obQ ?_
 | (refine C_cond rfl obQ (fun h => ?_) (fun h => ?_) <;> (try simp only [Bool.or_eq_true, Bool.and_eq_true, Bool.or_eq_false_iff, Bool.and_eq_false_iff, decide_eq_true_eq, decide_eq_false_iff_not, beq_iff_eq, bne_iff_ne, beq_eq_false_iff_ne, bne_eq_false_iff_eq, ne_eq, Decidable.not_not, List.cons.injEq, and_true, Bool.not_eq_true', Bool.not_eq_false', Int.not_lt, Int.not_le] at h) <;> (try (exfalso; omega)) <;> (try (exfalso; simp at h; done)) <;> (try (exfalso; simp only [not_true_eq_false, false_or, or_false] at h; omega)) <;> (try contradiction))
       )
 | (refine S_id ?_; first
 | ((with_reducible (first | refine S_falseN ?_ ?_ | refine S_falseB ?_ ?_ | refine S_falseL ?_ ?_ | refine S_falseD ?_ ?_ | refine S_falseE ?_ ?_)); · (first | rfl | omega))
 | ((with_reducible refine S_falseO ?_ ?_ ?_); (· rfl); (· first | rfl | (first | rfl | omega)))
 | ((with_reducible (first | refine S_trueE ?_ ?_ | refine S_trueB ?_ ?_ | refine S_trueL ?_ ?_ | refine S_trueD ?_ ?_ | refine S_trueN ?_ ?_)); · (first | exact beq_self_eq_true _ | rfl | omega))
 | ((with_reducible refine S_trueA ?_ ?_ ?_); (· rfl); (· first | rfl | (first | exact beq_self_eq_true _ | rfl | omega)))
 | refine S_unG rfl rfl rfl rfl ?_
 | refine S_offG (.v (.bool false)) rfl rfl rfl rfl rfl ?_
 | refine S_row00 rfl rfl rfl (fun g => ?_)
 | refine S_appendS rfl obQ rfl rfl rfl ⟨by decide, rfl⟩ rfl ⟨rfl, rfl, rfl, rfl⟩ (s.map (.float .f32)) (by simp) hA (one_fl _) (srcS hr memQ) (by unfold maxLen; dsimp only; omega) (fun A' cap' => ⟨_, rfl, ?_⟩)
 | refine S_appendS rfl obQ rfl rfl rfl ⟨by decide, rfl⟩ rfl ⟨rfl, rfl, rfl, rfl⟩ (t.map (.int .i64)) (by simp) hB (one_int _) (srcS hr2 memQ) (by unfold maxLen; dsimp only; omega) (fun A' cap' => ⟨_, rfl, ?_⟩)
 | (refine S_callM (f := 77) rfl obQ (by kernel_rfl) (fun w hw => loud_as hV hVn hs ht (by simp) (by simp) (hw.rdRow (i := 0) rfl rfl) (hw.rdRow (i := 1) rfl rfl)) (fun w1L w2L vL hw1L hbL hRL => ?_); obtain ⟨AL, cL, rfl, hSL⟩ := hRL)
 | (refine S_callM (f := 77) rfl obQ (by kernel_rfl) (fun w hw => loud_as hV hVn hs ht (by simp) (by simp) (hw.rdRow (i := 1) rfl rfl) (hw.rdRow (i := 0) rfl rfl)) (fun w1L w2L vL hw1L hbL hRL => ?_); obtain ⟨AL, cL, rfl, hSL⟩ := hRL)
 | refine S_nil ?_
 | refine S_runN rfl rfl obQ obQ ?_
 | refine S_box (fun b => ⟨_, _, rfl, obQ, ?_⟩)
 | refine S_slice (fun b => ⟨_, _, rfl, obQ, ?_⟩)
 | refine S_call (f := 20) rfl obQ (by kernel_rfl) (fun w hw => awake_c w (hw.rdm hO.toS memQ) (Pw_at hP hw memQ)) ?_
 | refine S_call (f := 75) rfl obQ (by kernel_rfl) (fun w hw => rShortSound_c _ _ _ _ hSs w) ?_
 | refine S_call (f := 76) rfl obQ (by kernel_rfl) (fun w hw => rShortTaps_c _ _ _ _ hSt w) ?_
 | refine S_call (f := 79) rfl obQ (by kernel_rfl) (fun w hw => rCheckSound_c A c s hs w (hw.rdm hr.toS memQ)) ?_
 | refine S_call (f := 80) rfl obQ (by kernel_rfl) (fun w hw => rCheckTaps_c A2 c2 t ht w (hw.rdm hr2.toS memQ)) ?_
 | refine S_call (f := 29) rfl obQ (by kernel_rfl) (fun w hw => rRange_c _ _ _ w) ?_
 | refine S_call (f := 27) rfl obQ (by kernel_rfl) (fun w hw => lfirstE_c (l := [ssE s, ttE t, wi (nb : Int) 1 4096]) hT (by simp) rfl _ w (.inr ⟨_, rfl, hw.src (i := 1) rfl rfl⟩)) ?_
 | refine S_call (f := 27) rfl obQ (by kernel_rfl) (fun w hw => lfirstE_c (l := [_, wi k1 0 1152921504606846976]) hU (by simp) rfl _ w (.inr ⟨_, rfl, hw.src (i := 2) rfl rfl⟩)) ?_
 | refine S_call (f := 74) rfl obQ (by kernel_rfl) (fun w hw => llisted_c _ _ _ _ (lsR s t nb) _ rfl hll w (hw.rdm B.h memQ) (hw.rdm hSM memQ)) ?_
 | refine S_call (f := 74) rfl obQ (by kernel_rfl) (fun w hw => llistedN_c _ _ _ _ (ldF (lsR s t nb) k1 (lsR s t nb).length) _ rfl hlf w (hw.rdm hSU memQ) (hw.rdm hSN memQ)) ?_
       )
 | (refine D_id ?_; first
 | refine D_nil ?_
 | refine D_tail ?_
 | refine D_run rfl rfl obQ obQ ?_
 | refine D_call (f := 20) rfl obQ (by kernel_rfl) (fun w hw => awake_c w (hw.rdm hO.toS memQ) (Pw_at hP hw memQ)) ?_
 | refine D_call (f := 75) rfl obQ (by kernel_rfl) (fun w hw => rShortSound_c _ _ _ _ hSs w) ?_
 | refine D_call (f := 76) rfl obQ (by kernel_rfl) (fun w hw => rShortTaps_c _ _ _ _ hSt w) ?_
 | refine D_call (f := 79) rfl obQ (by kernel_rfl) (fun w hw => rCheckSound_c A c s hs w (hw.rdm hr.toS memQ)) ?_
 | refine D_call (f := 80) rfl obQ (by kernel_rfl) (fun w hw => rCheckTaps_c A2 c2 t ht w (hw.rdm hr2.toS memQ)) ?_
 | refine D_call (f := 29) rfl obQ (by kernel_rfl) (fun w hw => rRange_c _ _ _ w) ?_
 | refine D_call (f := 27) rfl obQ (by kernel_rfl) (fun w hw => lfirstE_c (l := [ssE s, ttE t, wi (nb : Int) 1 4096]) hT (by simp) rfl _ w (.inr ⟨_, rfl, hw.src (i := 1) rfl rfl⟩)) ?_
 | refine D_call (f := 27) rfl obQ (by kernel_rfl) (fun w hw => lfirstE_c (l := [_, wi k1 0 1152921504606846976]) hU (by simp) rfl _ w (.inr ⟨_, rfl, hw.src (i := 2) rfl rfl⟩)) ?_
 | refine D_call (f := 74) rfl obQ (by kernel_rfl) (fun w hw => llisted_c _ _ _ _ (lsR s t nb) _ rfl hll w (hw.rdm B.h memQ) (hw.rdm hSM memQ)) ?_
 | refine D_call (f := 74) rfl obQ (by kernel_rfl) (fun w hw => llistedN_c _ _ _ _ (ldF (lsR s t nb) k1 (lsR s t nb).length) _ rfl hlf w (hw.rdm hSU memQ) (hw.rdm hSN memQ)) ?_
       )
 | (refine G_id ?_; first
 | refine G_then ?_
 | refine G_block ?_
 | refine G_blockX ?_
 | refine G_blockN rfl ?_
 | refine G_blockR ?_
 | refine G_thenR ?_
 | refine G_thenX ?_
 | refine G_ret rfl obQ (fun w hw => ⟨?_, hw.below⟩)
       )
       )
      obtain ⟨b5, rfl⟩ : ∃ z, z = b := ⟨b, rfl⟩
      refine C_cut (fun B : SlA ((lsR s t nb).map (.int .i64)) => ([B.ps, (w, fun b => b < w.heap.size)], ⟨[(0, .s (.v (.slice A s.length c))), (1, .s (.v (.slice A2 t.length c2))), (5, .s (.p b5 0 0)), (7, .s (.v (.slice B.A (lsR s t nb).length B.c))), (8, .s (.v (.int .i64 (0))))], [⟨b5, 23, [.v (.int .i64 (nb : Int)), .v (.int .i64 k1)]⟩], []⟩)) ?_ (fun B => ?_)
      · repeat' (first
 | (refine C_id ?_; first
 | refine C_seq ?_
 | refine C_region rfl ?_
 | refine C_block ?_
 | refine C_skip ?_
 | refine C_exit ?_
 | refine C_ret0 ?_
 | refine C_drawTr (id := 3) 13 (.q 1 (.q 4 (.q 6 (.q 7 (.two 0 3 (.two 2 3 (.n 3 (.n 5 (.n 8 (.q 9 (.q 10 (.q 11 (.q 12 .nil))))))) (.n 2 (.n 5 (.n 8 (.q 9 (.q 10 (.q 11 (.q 12 .nil)))))))) (.n 0 (.n 2 (.n 5 (.n 8 (.q 9 (.q 10 (.q 11 (.q 12 .nil))))))))))))) rfl mixed (by kernel_rfl) rfl ?_
 | refine C_drawT (id := 4) 0 rfl mixed (by kernel_rfl) rfl rfl ?_
 | refine C_drawT (id := 5) 7 rfl mixed (by kernel_rfl) rfl rfl ?_
 | refine C_condT rfl obQ ?_
 | refine C_condF rfl obQ ?_
 | (refine C_cond rfl obQ (fun h => ?_) (fun h => ?_) <;> (try simp only [Bool.or_eq_true, Bool.and_eq_true, Bool.or_eq_false_iff, Bool.and_eq_false_iff, decide_eq_true_eq, decide_eq_false_iff_not, beq_iff_eq, bne_iff_ne, beq_eq_false_iff_ne, bne_eq_false_iff_eq, ne_eq, Decidable.not_not, List.cons.injEq, and_true, Bool.not_eq_true', Bool.not_eq_false', Int.not_lt, Int.not_le] at h) <;> (try (exfalso; omega)) <;> (try (exfalso; simp at h; done)) <;> (try (exfalso; simp only [not_true_eq_false, false_or, or_false] at h; omega)) <;> (try contradiction))
         )
 | (refine S_id ?_; first
 | ((with_reducible (first | refine S_falseN ?_ ?_ | refine S_falseB ?_ ?_ | refine S_falseL ?_ ?_ | refine S_falseD ?_ ?_ | refine S_falseE ?_ ?_)); · (first | rfl | omega))
 | ((with_reducible refine S_falseO ?_ ?_ ?_); (· rfl); (· first | rfl | (first | rfl | omega)))
 | ((with_reducible (first | refine S_trueE ?_ ?_ | refine S_trueB ?_ ?_ | refine S_trueL ?_ ?_ | refine S_trueD ?_ ?_ | refine S_trueN ?_ ?_)); · (first | exact beq_self_eq_true _ | rfl | omega))
 | ((with_reducible refine S_trueA ?_ ?_ ?_); (· rfl); (· first | rfl | (first | exact beq_self_eq_true _ | rfl | omega)))
 | refine S_unG rfl rfl rfl rfl ?_
 | refine S_offG (.v (.bool false)) rfl rfl rfl rfl rfl ?_
 | refine S_row00 rfl rfl rfl (fun g => ?_)
 | refine S_appendS rfl obQ rfl rfl rfl ⟨by decide, rfl⟩ rfl ⟨rfl, rfl, rfl, rfl⟩ (s.map (.float .f32)) (by simp) hA (one_fl _) (srcS hr memQ) (by unfold maxLen; dsimp only; omega) (fun A' cap' => ⟨_, rfl, ?_⟩)
 | refine S_appendS rfl obQ rfl rfl rfl ⟨by decide, rfl⟩ rfl ⟨rfl, rfl, rfl, rfl⟩ (t.map (.int .i64)) (by simp) hB (one_int _) (srcS hr2 memQ) (by unfold maxLen; dsimp only; omega) (fun A' cap' => ⟨_, rfl, ?_⟩)
 | (refine S_callM (f := 77) rfl obQ (by kernel_rfl) (fun w hw => loud_as hV hVn hs ht (by simp) (by simp) (hw.rdRow (i := 0) rfl rfl) (hw.rdRow (i := 1) rfl rfl)) (fun w1L w2L vL hw1L hbL hRL => ?_); obtain ⟨AL, cL, rfl, hSL⟩ := hRL)
 | (refine S_callM (f := 77) rfl obQ (by kernel_rfl) (fun w hw => loud_as hV hVn hs ht (by simp) (by simp) (hw.rdRow (i := 1) rfl rfl) (hw.rdRow (i := 0) rfl rfl)) (fun w1L w2L vL hw1L hbL hRL => ?_); obtain ⟨AL, cL, rfl, hSL⟩ := hRL)
 | refine S_nil ?_
 | refine S_runN rfl rfl obQ obQ ?_
 | refine S_box (fun bb => ⟨_, _, rfl, obQ, ?_⟩)
 | refine S_slice (fun b => ⟨_, _, rfl, obQ, ?_⟩)
 | refine S_call (f := 20) rfl obQ (by kernel_rfl) (fun w hw => awake_c w (hw.rdm hO.toS memQ) (Pw_at hP hw memQ)) ?_
 | refine S_call (f := 75) rfl obQ (by kernel_rfl) (fun w hw => rShortSound_c _ _ _ _ hSs w) ?_
 | refine S_call (f := 76) rfl obQ (by kernel_rfl) (fun w hw => rShortTaps_c _ _ _ _ hSt w) ?_
 | refine S_call (f := 79) rfl obQ (by kernel_rfl) (fun w hw => rCheckSound_c A c s hs w (hw.rdm hr.toS memQ)) ?_
 | refine S_call (f := 80) rfl obQ (by kernel_rfl) (fun w hw => rCheckTaps_c A2 c2 t ht w (hw.rdm hr2.toS memQ)) ?_
 | refine S_call (f := 29) rfl obQ (by kernel_rfl) (fun w hw => rRange_c _ _ _ w) ?_
 | refine S_call (f := 27) rfl obQ (by kernel_rfl) (fun w hw => lfirstE_c (l := [ssE s, ttE t, wi (nb : Int) 1 4096]) hT (by simp) rfl _ w (.inr ⟨_, rfl, hw.src (i := 1) rfl rfl⟩)) ?_
 | refine S_call (f := 27) rfl obQ (by kernel_rfl) (fun w hw => lfirstE_c (l := [_, wi k1 0 1152921504606846976]) hU (by simp) rfl _ w (.inr ⟨_, rfl, hw.src (i := 2) rfl rfl⟩)) ?_
 | refine S_call (f := 74) rfl obQ (by kernel_rfl) (fun w hw => llisted_c _ _ _ _ (lsR s t nb) _ rfl hll w (hw.rdm B.h memQ) (hw.rdm hSM memQ)) ?_
 | refine S_call (f := 74) rfl obQ (by kernel_rfl) (fun w hw => llistedN_c _ _ _ _ (ldF (lsR s t nb) k1 (lsR s t nb).length) _ rfl hlf w (hw.rdm hSU memQ) (hw.rdm hSN memQ)) ?_
         )
 | (refine D_id ?_; first
 | refine D_nil ?_
 | refine D_tail ?_
 | refine D_run rfl rfl obQ obQ ?_
 | refine D_call (f := 20) rfl obQ (by kernel_rfl) (fun w hw => awake_c w (hw.rdm hO.toS memQ) (Pw_at hP hw memQ)) ?_
 | refine D_call (f := 75) rfl obQ (by kernel_rfl) (fun w hw => rShortSound_c _ _ _ _ hSs w) ?_
 | refine D_call (f := 76) rfl obQ (by kernel_rfl) (fun w hw => rShortTaps_c _ _ _ _ hSt w) ?_
 | refine D_call (f := 79) rfl obQ (by kernel_rfl) (fun w hw => rCheckSound_c A c s hs w (hw.rdm hr.toS memQ)) ?_
 | refine D_call (f := 80) rfl obQ (by kernel_rfl) (fun w hw => rCheckTaps_c A2 c2 t ht w (hw.rdm hr2.toS memQ)) ?_
 | refine D_call (f := 29) rfl obQ (by kernel_rfl) (fun w hw => rRange_c _ _ _ w) ?_
 | refine D_call (f := 27) rfl obQ (by kernel_rfl) (fun w hw => lfirstE_c (l := [ssE s, ttE t, wi (nb : Int) 1 4096]) hT (by simp) rfl _ w (.inr ⟨_, rfl, hw.src (i := 1) rfl rfl⟩)) ?_
 | refine D_call (f := 27) rfl obQ (by kernel_rfl) (fun w hw => lfirstE_c (l := [_, wi k1 0 1152921504606846976]) hU (by simp) rfl _ w (.inr ⟨_, rfl, hw.src (i := 2) rfl rfl⟩)) ?_
 | refine D_call (f := 74) rfl obQ (by kernel_rfl) (fun w hw => llisted_c _ _ _ _ (lsR s t nb) _ rfl hll w (hw.rdm B.h memQ) (hw.rdm hSM memQ)) ?_
 | refine D_call (f := 74) rfl obQ (by kernel_rfl) (fun w hw => llistedN_c _ _ _ _ (ldF (lsR s t nb) k1 (lsR s t nb).length) _ rfl hlf w (hw.rdm hSU memQ) (hw.rdm hSN memQ)) ?_
         )
 | (refine VT_id ?_; first
 | refine VT_nil ?_
 | refine VT_q rfl (Yl_step rfl obQ) ?_
 | refine VT_n rfl ?_
 | refine VT_two rfl rfl ?_ ?_
         )
 | (refine G_id ?_; first
 | refine G_VT2 ⟨_, rfl⟩ ⟨_, rfl⟩ pstQ rfl ?_
 | refine G_cutN (⟨w1L, w2L, AL, cL, hSL⟩ : SlA _) ⟨⟨_, rfl, obQ⟩, ⟨_, rfl⟩, rfl, pstQ⟩
 | refine G_then ?_
 | refine G_block ?_
 | refine G_blockX ?_
 | refine G_blockN rfl ?_
 | refine G_blockR ?_
 | refine G_thenR ?_
 | refine G_thenX ?_
 | refine G_ret rfl obQ (fun w hw => ⟨?_, hw.below⟩)
         )
         )
      repeat' (first
 | (refine C_id ?_; first
 | refine C_seq ?_
 | refine C_region rfl ?_
 | refine C_block ?_
 | refine C_skip ?_
 | refine C_exit ?_
 | refine C_ret0 ?_
 | refine C_drawT (id := 3) 0 rfl mixed (by kernel_rfl) rfl rfl ?_
 | refine C_drawTr (id := 4) 15 (.q 1 (.q 4 (.q 6 (.q 7 (.q 8 (.q 9 (.two 0 3 (.two 2 3 (.n 3 (.n 5 (.n 10 (.q 11 (.q 12 (.q 13 (.q 14 .nil))))))) (.n 2 (.n 5 (.n 10 (.q 11 (.q 12 (.q 13 (.q 14 .nil)))))))) (.n 0 (.n 2 (.n 5 (.n 10 (.q 11 (.q 12 (.q 13 (.q 14 .nil))))))))))))))) rfl mixed (by kernel_rfl) rfl ?_
 | refine C_drawV (id := 5) 6 [(0, true), (2, true), (4, true), (5, true), (1, false), (3, false)] rfl mixed (by kernel_rfl) rfl ?_
 | refine C_condT rfl obQ ?_
 | refine C_condF rfl obQ ?_
 | (refine C_cond rfl obQ (fun h => ?_) (fun h => ?_) <;> (try simp only [Bool.or_eq_true, Bool.and_eq_true, Bool.or_eq_false_iff, Bool.and_eq_false_iff, decide_eq_true_eq, decide_eq_false_iff_not, beq_iff_eq, bne_iff_ne, beq_eq_false_iff_ne, bne_eq_false_iff_eq, ne_eq, Decidable.not_not, List.cons.injEq, and_true, Bool.not_eq_true', Bool.not_eq_false', Int.not_lt, Int.not_le] at h) <;> (try (exfalso; omega)) <;> (try (exfalso; simp at h; done)) <;> (try (exfalso; simp only [not_true_eq_false, false_or, or_false] at h; omega)) <;> (try contradiction))
       )
 | (refine S_id ?_; first
 | ((with_reducible (first | refine S_falseN ?_ ?_ | refine S_falseB ?_ ?_ | refine S_falseL ?_ ?_ | refine S_falseD ?_ ?_ | refine S_falseE ?_ ?_)); · (first | rfl | omega))
 | ((with_reducible refine S_falseO ?_ ?_ ?_); (· rfl); (· first | rfl | (first | rfl | omega)))
 | ((with_reducible (first | refine S_trueE ?_ ?_ | refine S_trueB ?_ ?_ | refine S_trueL ?_ ?_ | refine S_trueD ?_ ?_ | refine S_trueN ?_ ?_)); · (first | exact beq_self_eq_true _ | rfl | omega))
 | ((with_reducible refine S_trueA ?_ ?_ ?_); (· rfl); (· first | rfl | (first | exact beq_self_eq_true _ | rfl | omega)))
 | refine S_unG rfl rfl rfl rfl ?_
 | refine S_offG (.v (.bool false)) rfl rfl rfl rfl rfl ?_
 | refine S_row00 rfl rfl rfl (fun g => ?_)
 | refine S_appendS rfl obQ rfl rfl rfl ⟨by decide, rfl⟩ rfl ⟨rfl, rfl, rfl, rfl⟩ (s.map (.float .f32)) (by simp) hA (one_fl _) (srcS hr memQ) (by unfold maxLen; dsimp only; omega) (fun A' cap' => ⟨_, rfl, ?_⟩)
 | refine S_appendS rfl obQ rfl rfl rfl ⟨by decide, rfl⟩ rfl ⟨rfl, rfl, rfl, rfl⟩ (t.map (.int .i64)) (by simp) hB (one_int _) (srcS hr2 memQ) (by unfold maxLen; dsimp only; omega) (fun A' cap' => ⟨_, rfl, ?_⟩)
 | (refine S_callM (f := 78) rfl obQ (by kernel_rfl) (fun w hw => loudB_as hX hXn hs ht (by simp) (by simp) (hw.rdRow (i := 0) rfl rfl) (hw.rdRow (i := 1) rfl rfl)) (fun w1U w2U vU hw1U hbU hRU => ?_); obtain ⟨AU, cU, rfl, hSU⟩ := hRU)
 | (refine S_callM (f := 78) rfl obQ (by kernel_rfl) (fun w hw => loudB_as hX hXn hs ht (by simp) (by simp) (hw.rdRow (i := 1) rfl rfl) (hw.rdRow (i := 0) rfl rfl)) (fun w1U w2U vU hw1U hbU hRU => ?_); obtain ⟨AU, cU, rfl, hSU⟩ := hRU)
 | (refine S_callM (f := 81) rfl obQ (by kernel_rfl) (fun w hw => rLoudness_c A c s A2 c2 t nb hSD w (hw.rdm hr.toS memQ) (hw.rdm hr2.toS memQ)) (fun w1M w2M vM hw1M hbM hRM => ?_); obtain ⟨AM, cM, rfl, hSM⟩ := hRM)
 | (refine S_callM (f := 82) rfl obQ (by kernel_rfl) (fun w hw => rLoud_c _ _ (lsR s t nb) hll k1 w (hw.rdm hSM memQ)) (fun w1N w2N vN hw1N hbN hRN => ?_); obtain ⟨AN, cN, rfl, hSN⟩ := hRN)
 | refine S_nil ?_
 | refine S_runN rfl rfl obQ obQ ?_
 | refine S_box (fun bb => ⟨_, _, rfl, obQ, ?_⟩)
 | refine S_slice (fun b => ⟨_, _, rfl, obQ, ?_⟩)
 | refine S_call (f := 20) rfl obQ (by kernel_rfl) (fun w hw => awake_c w (hw.rdm hO.toS memQ) (Pw_at hP hw memQ)) ?_
 | refine S_call (f := 75) rfl obQ (by kernel_rfl) (fun w hw => rShortSound_c _ _ _ _ hSs w) ?_
 | refine S_call (f := 76) rfl obQ (by kernel_rfl) (fun w hw => rShortTaps_c _ _ _ _ hSt w) ?_
 | refine S_call (f := 79) rfl obQ (by kernel_rfl) (fun w hw => rCheckSound_c A c s hs w (hw.rdm hr.toS memQ)) ?_
 | refine S_call (f := 80) rfl obQ (by kernel_rfl) (fun w hw => rCheckTaps_c A2 c2 t ht w (hw.rdm hr2.toS memQ)) ?_
 | refine S_call (f := 29) rfl obQ (by kernel_rfl) (fun w hw => rRange_c _ _ _ w) ?_
 | refine S_call (f := 27) rfl obQ (by kernel_rfl) (fun w hw => lfirstE_c (l := [ssE s, ttE t, wi (nb : Int) 1 4096]) hT (by simp) rfl _ w (.inr ⟨_, rfl, hw.src (i := 1) rfl rfl⟩)) ?_
 | refine S_call (f := 27) rfl obQ (by kernel_rfl) (fun w hw => lfirstE_c (l := [_, wi k1 0 1152921504606846976]) hU (by simp) rfl _ w (.inr ⟨_, rfl, hw.src (i := 2) rfl rfl⟩)) ?_
 | refine S_call (f := 74) rfl obQ (by kernel_rfl) (fun w hw => llisted_c _ _ _ _ (lsR s t nb) _ rfl hll w (hw.rdm B.h memQ) (hw.rdm hSM memQ)) ?_
 | refine S_call (f := 74) rfl obQ (by kernel_rfl) (fun w hw => llistedN_c _ _ _ _ (ldF (lsR s t nb) k1 (lsR s t nb).length) _ rfl hlf w (hw.rdm hSU memQ) (hw.rdm hSN memQ)) ?_
       )
 | (refine D_id ?_; first
 | refine D_nil ?_
 | refine D_tail ?_
 | refine D_run rfl rfl obQ obQ ?_
 | refine D_call (f := 20) rfl obQ (by kernel_rfl) (fun w hw => awake_c w (hw.rdm hO.toS memQ) (Pw_at hP hw memQ)) ?_
 | refine D_call (f := 75) rfl obQ (by kernel_rfl) (fun w hw => rShortSound_c _ _ _ _ hSs w) ?_
 | refine D_call (f := 76) rfl obQ (by kernel_rfl) (fun w hw => rShortTaps_c _ _ _ _ hSt w) ?_
 | refine D_call (f := 79) rfl obQ (by kernel_rfl) (fun w hw => rCheckSound_c A c s hs w (hw.rdm hr.toS memQ)) ?_
 | refine D_call (f := 80) rfl obQ (by kernel_rfl) (fun w hw => rCheckTaps_c A2 c2 t ht w (hw.rdm hr2.toS memQ)) ?_
 | refine D_call (f := 29) rfl obQ (by kernel_rfl) (fun w hw => rRange_c _ _ _ w) ?_
 | refine D_call (f := 27) rfl obQ (by kernel_rfl) (fun w hw => lfirstE_c (l := [ssE s, ttE t, wi (nb : Int) 1 4096]) hT (by simp) rfl _ w (.inr ⟨_, rfl, hw.src (i := 1) rfl rfl⟩)) ?_
 | refine D_call (f := 27) rfl obQ (by kernel_rfl) (fun w hw => lfirstE_c (l := [_, wi k1 0 1152921504606846976]) hU (by simp) rfl _ w (.inr ⟨_, rfl, hw.src (i := 2) rfl rfl⟩)) ?_
 | refine D_call (f := 74) rfl obQ (by kernel_rfl) (fun w hw => llisted_c _ _ _ _ (lsR s t nb) _ rfl hll w (hw.rdm B.h memQ) (hw.rdm hSM memQ)) ?_
 | refine D_call (f := 74) rfl obQ (by kernel_rfl) (fun w hw => llistedN_c _ _ _ _ (ldF (lsR s t nb) k1 (lsR s t nb).length) _ rfl hlf w (hw.rdm hSU memQ) (hw.rdm hSN memQ)) ?_
       )
 | (refine V_id ?_; first
 | refine V_nil ?_
 | refine V_q rfl (Yl_step rfl obQ) ?_
 | refine V_n rfl ?_
       )
 | (refine VT_id ?_; first
 | refine VT_nil ?_
 | refine VT_q rfl (Yl_step rfl obQ) ?_
 | refine VT_n rfl ?_
 | refine VT_two rfl rfl ?_ ?_
       )
 | (refine G_id ?_; first
 | refine G_V ⟨⟨_, rfl, trivial⟩, ⟨_, rfl⟩, rfl, pstQ⟩ rfl ?_
 | refine G_VT2 ⟨_, rfl⟩ ⟨_, rfl⟩ pstQ rfl ?_
 | refine G_then ?_
 | refine G_block ?_
 | refine G_blockX ?_
 | refine G_blockN rfl ?_
 | refine G_blockR ?_
 | refine G_thenR ?_
 | refine G_thenX ?_
 | refine G_ret rfl obQ (fun w hw => ⟨?_, hw.below⟩)
       )
       )
      all_goals rfl
      
    · have hU : firstL [0, wi k1 0 1152921504606846976] = ldE s t (nb : Int) k1 := by unfold ldE; rw [hd]
      have hX : ldR s t (nb : Int) k1 = ([], ldE s t (nb : Int) k1) := if_neg hl0
      have hXn : ([] : List Nat).length = 0 := rfl
      repeat' (first
 | (refine C_id ?_; first
 | refine C_seq ?_
 | refine C_region rfl ?_
 | refine C_block ?_
 | refine C_skip ?_
 | refine C_exit ?_
 | refine C_ret0 ?_
 | refine C_drawT (id := 4) 0 rfl mixed (by kernel_rfl) rfl rfl ?_
 | refine C_drawT (id := 5) 7 rfl mixed (by kernel_rfl) rfl rfl ?_
 | refine C_condT rfl obQ ?_
 | refine C_condF rfl obQ ?_
 | (refine C_cond rfl obQ (fun h => ?_) (fun h => ?_) <;> (try simp only [Bool.or_eq_true, Bool.and_eq_true, Bool.or_eq_false_iff, Bool.and_eq_false_iff, decide_eq_true_eq, decide_eq_false_iff_not, beq_iff_eq, bne_iff_ne, beq_eq_false_iff_ne, bne_eq_false_iff_eq, ne_eq, Decidable.not_not, List.cons.injEq, and_true, Bool.not_eq_true', Bool.not_eq_false', Int.not_lt, Int.not_le] at h) <;> (try (exfalso; omega)) <;> (try (exfalso; simp at h; done)) <;> (try (exfalso; simp only [not_true_eq_false, false_or, or_false] at h; omega)) <;> (try contradiction))
       )
 | (refine S_id ?_; first
 | ((with_reducible (first | refine S_falseN ?_ ?_ | refine S_falseB ?_ ?_ | refine S_falseL ?_ ?_ | refine S_falseD ?_ ?_ | refine S_falseE ?_ ?_)); · (first | rfl | omega))
 | ((with_reducible refine S_falseO ?_ ?_ ?_); (· rfl); (· first | rfl | (first | rfl | omega)))
 | ((with_reducible (first | refine S_trueE ?_ ?_ | refine S_trueB ?_ ?_ | refine S_trueL ?_ ?_ | refine S_trueD ?_ ?_ | refine S_trueN ?_ ?_)); · (first | exact beq_self_eq_true _ | rfl | omega))
 | ((with_reducible refine S_trueA ?_ ?_ ?_); (· rfl); (· first | rfl | (first | exact beq_self_eq_true _ | rfl | omega)))
 | refine S_unG rfl rfl rfl rfl ?_
 | refine S_offG (.v (.bool false)) rfl rfl rfl rfl rfl ?_
 | refine S_row00 rfl rfl rfl (fun g => ?_)
 | refine S_appendS rfl obQ rfl rfl rfl ⟨by decide, rfl⟩ rfl ⟨rfl, rfl, rfl, rfl⟩ (s.map (.float .f32)) (by simp) hA (one_fl _) (srcS hr memQ) (by unfold maxLen; dsimp only; omega) (fun A' cap' => ⟨_, rfl, ?_⟩)
 | refine S_appendS rfl obQ rfl rfl rfl ⟨by decide, rfl⟩ rfl ⟨rfl, rfl, rfl, rfl⟩ (t.map (.int .i64)) (by simp) hB (one_int _) (srcS hr2 memQ) (by unfold maxLen; dsimp only; omega) (fun A' cap' => ⟨_, rfl, ?_⟩)
 | (refine S_callM (f := 77) rfl obQ (by kernel_rfl) (fun w hw => loud_as hV hVn hs ht (by simp) (by simp) (hw.rdRow (i := 0) rfl rfl) (hw.rdRow (i := 1) rfl rfl)) (fun w1L w2L vL hw1L hbL hRL => ?_); obtain ⟨AL, cL, rfl, hSL⟩ := hRL)
 | (refine S_callM (f := 77) rfl obQ (by kernel_rfl) (fun w hw => loud_as hV hVn hs ht (by simp) (by simp) (hw.rdRow (i := 1) rfl rfl) (hw.rdRow (i := 0) rfl rfl)) (fun w1L w2L vL hw1L hbL hRL => ?_); obtain ⟨AL, cL, rfl, hSL⟩ := hRL)
 | refine S_nil ?_
 | refine S_runN rfl rfl obQ obQ ?_
 | refine S_box (fun b => ⟨_, _, rfl, obQ, ?_⟩)
 | refine S_slice (fun b => ⟨_, _, rfl, obQ, ?_⟩)
 | refine S_call (f := 20) rfl obQ (by kernel_rfl) (fun w hw => awake_c w (hw.rdm hO.toS memQ) (Pw_at hP hw memQ)) ?_
 | refine S_call (f := 75) rfl obQ (by kernel_rfl) (fun w hw => rShortSound_c _ _ _ _ hSs w) ?_
 | refine S_call (f := 76) rfl obQ (by kernel_rfl) (fun w hw => rShortTaps_c _ _ _ _ hSt w) ?_
 | refine S_call (f := 79) rfl obQ (by kernel_rfl) (fun w hw => rCheckSound_c A c s hs w (hw.rdm hr.toS memQ)) ?_
 | refine S_call (f := 80) rfl obQ (by kernel_rfl) (fun w hw => rCheckTaps_c A2 c2 t ht w (hw.rdm hr2.toS memQ)) ?_
 | refine S_call (f := 29) rfl obQ (by kernel_rfl) (fun w hw => rRange_c _ _ _ w) ?_
 | refine S_call (f := 27) rfl obQ (by kernel_rfl) (fun w hw => lfirstE_c (l := [ssE s, ttE t, wi (nb : Int) 1 4096]) hT (by simp) rfl _ w (.inr ⟨_, rfl, hw.src (i := 1) rfl rfl⟩)) ?_
 | refine S_call (f := 27) rfl obQ (by kernel_rfl) (fun w hw => lfirstE_c (l := [_, wi k1 0 1152921504606846976]) hU (by simp) rfl _ w (.inr ⟨_, rfl, hw.src (i := 2) rfl rfl⟩)) ?_
 | refine S_call (f := 74) rfl obQ (by kernel_rfl) (fun w hw => llisted_c _ _ _ _ (lsR s t nb) _ rfl hll w (hw.rdm B.h memQ) (hw.rdm hSM memQ)) ?_
 | refine S_call (f := 74) rfl obQ (by kernel_rfl) (fun w hw => llistedE_c _ hl0 _ _ _ _ _ w) ?_
       )
 | (refine D_id ?_; first
 | refine D_nil ?_
 | refine D_tail ?_
 | refine D_run rfl rfl obQ obQ ?_
 | refine D_call (f := 20) rfl obQ (by kernel_rfl) (fun w hw => awake_c w (hw.rdm hO.toS memQ) (Pw_at hP hw memQ)) ?_
 | refine D_call (f := 75) rfl obQ (by kernel_rfl) (fun w hw => rShortSound_c _ _ _ _ hSs w) ?_
 | refine D_call (f := 76) rfl obQ (by kernel_rfl) (fun w hw => rShortTaps_c _ _ _ _ hSt w) ?_
 | refine D_call (f := 79) rfl obQ (by kernel_rfl) (fun w hw => rCheckSound_c A c s hs w (hw.rdm hr.toS memQ)) ?_
 | refine D_call (f := 80) rfl obQ (by kernel_rfl) (fun w hw => rCheckTaps_c A2 c2 t ht w (hw.rdm hr2.toS memQ)) ?_
 | refine D_call (f := 29) rfl obQ (by kernel_rfl) (fun w hw => rRange_c _ _ _ w) ?_
 | refine D_call (f := 27) rfl obQ (by kernel_rfl) (fun w hw => lfirstE_c (l := [ssE s, ttE t, wi (nb : Int) 1 4096]) hT (by simp) rfl _ w (.inr ⟨_, rfl, hw.src (i := 1) rfl rfl⟩)) ?_
 | refine D_call (f := 27) rfl obQ (by kernel_rfl) (fun w hw => lfirstE_c (l := [_, wi k1 0 1152921504606846976]) hU (by simp) rfl _ w (.inr ⟨_, rfl, hw.src (i := 2) rfl rfl⟩)) ?_
 | refine D_call (f := 74) rfl obQ (by kernel_rfl) (fun w hw => llisted_c _ _ _ _ (lsR s t nb) _ rfl hll w (hw.rdm B.h memQ) (hw.rdm hSM memQ)) ?_
 | refine D_call (f := 74) rfl obQ (by kernel_rfl) (fun w hw => llistedE_c _ hl0 _ _ _ _ _ w) ?_
       )
 | (refine G_id ?_; first
 | refine G_then ?_
 | refine G_block ?_
 | refine G_blockX ?_
 | refine G_blockN rfl ?_
 | refine G_blockR ?_
 | refine G_thenR ?_
 | refine G_thenX ?_
 | refine G_ret rfl obQ (fun w hw => ⟨?_, hw.below⟩)
       )
       )
      obtain ⟨b5, rfl⟩ : ∃ z, z = b := ⟨b, rfl⟩
      refine C_cut (fun B : SlA ((lsR s t nb).map (.int .i64)) => ([B.ps, (w, fun b => b < w.heap.size)], ⟨[(0, .s (.v (.slice A s.length c))), (1, .s (.v (.slice A2 t.length c2))), (5, .s (.p b5 0 0)), (7, .s (.v (.slice B.A (lsR s t nb).length B.c))), (8, .s (.v (.int .i64 (0))))], [⟨b5, 23, [.v (.int .i64 (nb : Int)), .v (.int .i64 k1)]⟩], []⟩)) ?_ (fun B => ?_)
      · repeat' (first
 | (refine C_id ?_; first
 | refine C_seq ?_
 | refine C_region rfl ?_
 | refine C_block ?_
 | refine C_skip ?_
 | refine C_exit ?_
 | refine C_ret0 ?_
 | refine C_drawTr (id := 3) 13 (.q 1 (.q 4 (.q 6 (.q 7 (.two 0 3 (.two 2 3 (.n 3 (.n 5 (.n 8 (.q 9 (.q 10 (.q 11 (.q 12 .nil))))))) (.n 2 (.n 5 (.n 8 (.q 9 (.q 10 (.q 11 (.q 12 .nil)))))))) (.n 0 (.n 2 (.n 5 (.n 8 (.q 9 (.q 10 (.q 11 (.q 12 .nil))))))))))))) rfl mixed (by kernel_rfl) rfl ?_
 | refine C_drawT (id := 4) 0 rfl mixed (by kernel_rfl) rfl rfl ?_
 | refine C_drawT (id := 5) 7 rfl mixed (by kernel_rfl) rfl rfl ?_
 | refine C_condT rfl obQ ?_
 | refine C_condF rfl obQ ?_
 | (refine C_cond rfl obQ (fun h => ?_) (fun h => ?_) <;> (try simp only [Bool.or_eq_true, Bool.and_eq_true, Bool.or_eq_false_iff, Bool.and_eq_false_iff, decide_eq_true_eq, decide_eq_false_iff_not, beq_iff_eq, bne_iff_ne, beq_eq_false_iff_ne, bne_eq_false_iff_eq, ne_eq, Decidable.not_not, List.cons.injEq, and_true, Bool.not_eq_true', Bool.not_eq_false', Int.not_lt, Int.not_le] at h) <;> (try (exfalso; omega)) <;> (try (exfalso; simp at h; done)) <;> (try (exfalso; simp only [not_true_eq_false, false_or, or_false] at h; omega)) <;> (try contradiction))
         )
 | (refine S_id ?_; first
 | ((with_reducible (first | refine S_falseN ?_ ?_ | refine S_falseB ?_ ?_ | refine S_falseL ?_ ?_ | refine S_falseD ?_ ?_ | refine S_falseE ?_ ?_)); · (first | rfl | omega))
 | ((with_reducible refine S_falseO ?_ ?_ ?_); (· rfl); (· first | rfl | (first | rfl | omega)))
 | ((with_reducible (first | refine S_trueE ?_ ?_ | refine S_trueB ?_ ?_ | refine S_trueL ?_ ?_ | refine S_trueD ?_ ?_ | refine S_trueN ?_ ?_)); · (first | exact beq_self_eq_true _ | rfl | omega))
 | ((with_reducible refine S_trueA ?_ ?_ ?_); (· rfl); (· first | rfl | (first | exact beq_self_eq_true _ | rfl | omega)))
 | refine S_unG rfl rfl rfl rfl ?_
 | refine S_offG (.v (.bool false)) rfl rfl rfl rfl rfl ?_
 | refine S_row00 rfl rfl rfl (fun g => ?_)
 | refine S_appendS rfl obQ rfl rfl rfl ⟨by decide, rfl⟩ rfl ⟨rfl, rfl, rfl, rfl⟩ (s.map (.float .f32)) (by simp) hA (one_fl _) (srcS hr memQ) (by unfold maxLen; dsimp only; omega) (fun A' cap' => ⟨_, rfl, ?_⟩)
 | refine S_appendS rfl obQ rfl rfl rfl ⟨by decide, rfl⟩ rfl ⟨rfl, rfl, rfl, rfl⟩ (t.map (.int .i64)) (by simp) hB (one_int _) (srcS hr2 memQ) (by unfold maxLen; dsimp only; omega) (fun A' cap' => ⟨_, rfl, ?_⟩)
 | (refine S_callM (f := 77) rfl obQ (by kernel_rfl) (fun w hw => loud_as hV hVn hs ht (by simp) (by simp) (hw.rdRow (i := 0) rfl rfl) (hw.rdRow (i := 1) rfl rfl)) (fun w1L w2L vL hw1L hbL hRL => ?_); obtain ⟨AL, cL, rfl, hSL⟩ := hRL)
 | (refine S_callM (f := 77) rfl obQ (by kernel_rfl) (fun w hw => loud_as hV hVn hs ht (by simp) (by simp) (hw.rdRow (i := 1) rfl rfl) (hw.rdRow (i := 0) rfl rfl)) (fun w1L w2L vL hw1L hbL hRL => ?_); obtain ⟨AL, cL, rfl, hSL⟩ := hRL)
 | refine S_nil ?_
 | refine S_runN rfl rfl obQ obQ ?_
 | refine S_box (fun bb => ⟨_, _, rfl, obQ, ?_⟩)
 | refine S_slice (fun b => ⟨_, _, rfl, obQ, ?_⟩)
 | refine S_call (f := 20) rfl obQ (by kernel_rfl) (fun w hw => awake_c w (hw.rdm hO.toS memQ) (Pw_at hP hw memQ)) ?_
 | refine S_call (f := 75) rfl obQ (by kernel_rfl) (fun w hw => rShortSound_c _ _ _ _ hSs w) ?_
 | refine S_call (f := 76) rfl obQ (by kernel_rfl) (fun w hw => rShortTaps_c _ _ _ _ hSt w) ?_
 | refine S_call (f := 79) rfl obQ (by kernel_rfl) (fun w hw => rCheckSound_c A c s hs w (hw.rdm hr.toS memQ)) ?_
 | refine S_call (f := 80) rfl obQ (by kernel_rfl) (fun w hw => rCheckTaps_c A2 c2 t ht w (hw.rdm hr2.toS memQ)) ?_
 | refine S_call (f := 29) rfl obQ (by kernel_rfl) (fun w hw => rRange_c _ _ _ w) ?_
 | refine S_call (f := 27) rfl obQ (by kernel_rfl) (fun w hw => lfirstE_c (l := [ssE s, ttE t, wi (nb : Int) 1 4096]) hT (by simp) rfl _ w (.inr ⟨_, rfl, hw.src (i := 1) rfl rfl⟩)) ?_
 | refine S_call (f := 27) rfl obQ (by kernel_rfl) (fun w hw => lfirstE_c (l := [_, wi k1 0 1152921504606846976]) hU (by simp) rfl _ w (.inr ⟨_, rfl, hw.src (i := 2) rfl rfl⟩)) ?_
 | refine S_call (f := 74) rfl obQ (by kernel_rfl) (fun w hw => llisted_c _ _ _ _ (lsR s t nb) _ rfl hll w (hw.rdm B.h memQ) (hw.rdm hSM memQ)) ?_
 | refine S_call (f := 74) rfl obQ (by kernel_rfl) (fun w hw => llistedE_c _ hl0 _ _ _ _ _ w) ?_
         )
 | (refine D_id ?_; first
 | refine D_nil ?_
 | refine D_tail ?_
 | refine D_run rfl rfl obQ obQ ?_
 | refine D_call (f := 20) rfl obQ (by kernel_rfl) (fun w hw => awake_c w (hw.rdm hO.toS memQ) (Pw_at hP hw memQ)) ?_
 | refine D_call (f := 75) rfl obQ (by kernel_rfl) (fun w hw => rShortSound_c _ _ _ _ hSs w) ?_
 | refine D_call (f := 76) rfl obQ (by kernel_rfl) (fun w hw => rShortTaps_c _ _ _ _ hSt w) ?_
 | refine D_call (f := 79) rfl obQ (by kernel_rfl) (fun w hw => rCheckSound_c A c s hs w (hw.rdm hr.toS memQ)) ?_
 | refine D_call (f := 80) rfl obQ (by kernel_rfl) (fun w hw => rCheckTaps_c A2 c2 t ht w (hw.rdm hr2.toS memQ)) ?_
 | refine D_call (f := 29) rfl obQ (by kernel_rfl) (fun w hw => rRange_c _ _ _ w) ?_
 | refine D_call (f := 27) rfl obQ (by kernel_rfl) (fun w hw => lfirstE_c (l := [ssE s, ttE t, wi (nb : Int) 1 4096]) hT (by simp) rfl _ w (.inr ⟨_, rfl, hw.src (i := 1) rfl rfl⟩)) ?_
 | refine D_call (f := 27) rfl obQ (by kernel_rfl) (fun w hw => lfirstE_c (l := [_, wi k1 0 1152921504606846976]) hU (by simp) rfl _ w (.inr ⟨_, rfl, hw.src (i := 2) rfl rfl⟩)) ?_
 | refine D_call (f := 74) rfl obQ (by kernel_rfl) (fun w hw => llisted_c _ _ _ _ (lsR s t nb) _ rfl hll w (hw.rdm B.h memQ) (hw.rdm hSM memQ)) ?_
 | refine D_call (f := 74) rfl obQ (by kernel_rfl) (fun w hw => llistedE_c _ hl0 _ _ _ _ _ w) ?_
         )
 | (refine VT_id ?_; first
 | refine VT_nil ?_
 | refine VT_q rfl (Yl_step rfl obQ) ?_
 | refine VT_n rfl ?_
 | refine VT_two rfl rfl ?_ ?_
         )
 | (refine G_id ?_; first
 | refine G_VT2 ⟨_, rfl⟩ ⟨_, rfl⟩ pstQ rfl ?_
 | refine G_cutN (⟨w1L, w2L, AL, cL, hSL⟩ : SlA _) ⟨⟨_, rfl, obQ⟩, ⟨_, rfl⟩, rfl, pstQ⟩
 | refine G_then ?_
 | refine G_block ?_
 | refine G_blockX ?_
 | refine G_blockN rfl ?_
 | refine G_blockR ?_
 | refine G_thenR ?_
 | refine G_thenX ?_
 | refine G_ret rfl obQ (fun w hw => ⟨?_, hw.below⟩)
         )
         )
      repeat' (first
 | (refine C_id ?_; first
 | refine C_seq ?_
 | refine C_region rfl ?_
 | refine C_block ?_
 | refine C_skip ?_
 | refine C_exit ?_
 | refine C_ret0 ?_
 | refine C_drawT (id := 3) 0 rfl mixed (by kernel_rfl) rfl rfl ?_
 | refine C_drawTr (id := 4) 15 (.q 1 (.q 4 (.q 6 (.q 7 (.q 8 (.q 9 (.two 0 3 (.two 2 3 (.n 3 (.n 5 (.n 10 (.q 11 (.q 12 (.q 13 (.q 14 .nil))))))) (.n 2 (.n 5 (.n 10 (.q 11 (.q 12 (.q 13 (.q 14 .nil)))))))) (.n 0 (.n 2 (.n 5 (.n 10 (.q 11 (.q 12 (.q 13 (.q 14 .nil))))))))))))))) rfl mixed (by kernel_rfl) rfl ?_
 | refine C_drawV (id := 5) 6 [(0, true), (2, true), (4, true), (5, true), (1, false), (3, false)] rfl mixed (by kernel_rfl) rfl ?_
 | refine C_condT rfl obQ ?_
 | refine C_condF rfl obQ ?_
 | (refine C_cond rfl obQ (fun h => ?_) (fun h => ?_) <;> (try simp only [Bool.or_eq_true, Bool.and_eq_true, Bool.or_eq_false_iff, Bool.and_eq_false_iff, decide_eq_true_eq, decide_eq_false_iff_not, beq_iff_eq, bne_iff_ne, beq_eq_false_iff_ne, bne_eq_false_iff_eq, ne_eq, Decidable.not_not, List.cons.injEq, and_true, Bool.not_eq_true', Bool.not_eq_false', Int.not_lt, Int.not_le] at h) <;> (try (exfalso; omega)) <;> (try (exfalso; simp at h; done)) <;> (try (exfalso; simp only [not_true_eq_false, false_or, or_false] at h; omega)) <;> (try contradiction))
       )
 | (refine S_id ?_; first
 | ((with_reducible (first | refine S_falseN ?_ ?_ | refine S_falseB ?_ ?_ | refine S_falseL ?_ ?_ | refine S_falseD ?_ ?_ | refine S_falseE ?_ ?_)); · (first | rfl | omega))
 | ((with_reducible refine S_falseO ?_ ?_ ?_); (· rfl); (· first | rfl | (first | rfl | omega)))
 | ((with_reducible (first | refine S_trueE ?_ ?_ | refine S_trueB ?_ ?_ | refine S_trueL ?_ ?_ | refine S_trueD ?_ ?_ | refine S_trueN ?_ ?_)); · (first | exact beq_self_eq_true _ | rfl | omega))
 | ((with_reducible refine S_trueA ?_ ?_ ?_); (· rfl); (· first | rfl | (first | exact beq_self_eq_true _ | rfl | omega)))
 | refine S_unG rfl rfl rfl rfl ?_
 | refine S_offG (.v (.bool false)) rfl rfl rfl rfl rfl ?_
 | refine S_row00 rfl rfl rfl (fun g => ?_)
 | refine S_appendS rfl obQ rfl rfl rfl ⟨by decide, rfl⟩ rfl ⟨rfl, rfl, rfl, rfl⟩ (s.map (.float .f32)) (by simp) hA (one_fl _) (srcS hr memQ) (by unfold maxLen; dsimp only; omega) (fun A' cap' => ⟨_, rfl, ?_⟩)
 | refine S_appendS rfl obQ rfl rfl rfl ⟨by decide, rfl⟩ rfl ⟨rfl, rfl, rfl, rfl⟩ (t.map (.int .i64)) (by simp) hB (one_int _) (srcS hr2 memQ) (by unfold maxLen; dsimp only; omega) (fun A' cap' => ⟨_, rfl, ?_⟩)
 | (refine S_callM (f := 78) rfl obQ (by kernel_rfl) (fun w hw => loudB_as hX hXn hs ht (by simp) (by simp) (hw.rdRow (i := 0) rfl rfl) (hw.rdRow (i := 1) rfl rfl)) (fun w1U w2U vU hw1U hbU hRU => ?_); obtain ⟨AU, cU, rfl, hSU⟩ := hRU)
 | (refine S_callM (f := 78) rfl obQ (by kernel_rfl) (fun w hw => loudB_as hX hXn hs ht (by simp) (by simp) (hw.rdRow (i := 1) rfl rfl) (hw.rdRow (i := 0) rfl rfl)) (fun w1U w2U vU hw1U hbU hRU => ?_); obtain ⟨AU, cU, rfl, hSU⟩ := hRU)
 | (refine S_callM (f := 81) rfl obQ (by kernel_rfl) (fun w hw => rLoudness_c A c s A2 c2 t nb hSD w (hw.rdm hr.toS memQ) (hw.rdm hr2.toS memQ)) (fun w1M w2M vM hw1M hbM hRM => ?_); obtain ⟨AM, cM, rfl, hSM⟩ := hRM)
 | refine S_nil ?_
 | refine S_runN rfl rfl obQ obQ ?_
 | refine S_box (fun bb => ⟨_, _, rfl, obQ, ?_⟩)
 | refine S_slice (fun b => ⟨_, _, rfl, obQ, ?_⟩)
 | refine S_call (f := 20) rfl obQ (by kernel_rfl) (fun w hw => awake_c w (hw.rdm hO.toS memQ) (Pw_at hP hw memQ)) ?_
 | refine S_call (f := 75) rfl obQ (by kernel_rfl) (fun w hw => rShortSound_c _ _ _ _ hSs w) ?_
 | refine S_call (f := 76) rfl obQ (by kernel_rfl) (fun w hw => rShortTaps_c _ _ _ _ hSt w) ?_
 | refine S_call (f := 79) rfl obQ (by kernel_rfl) (fun w hw => rCheckSound_c A c s hs w (hw.rdm hr.toS memQ)) ?_
 | refine S_call (f := 80) rfl obQ (by kernel_rfl) (fun w hw => rCheckTaps_c A2 c2 t ht w (hw.rdm hr2.toS memQ)) ?_
 | refine S_call (f := 29) rfl obQ (by kernel_rfl) (fun w hw => rRange_c _ _ _ w) ?_
 | refine S_call (f := 27) rfl obQ (by kernel_rfl) (fun w hw => lfirstE_c (l := [ssE s, ttE t, wi (nb : Int) 1 4096]) hT (by simp) rfl _ w (.inr ⟨_, rfl, hw.src (i := 1) rfl rfl⟩)) ?_
 | refine S_call (f := 27) rfl obQ (by kernel_rfl) (fun w hw => lfirstE_c (l := [_, wi k1 0 1152921504606846976]) hU (by simp) rfl _ w (.inr ⟨_, rfl, hw.src (i := 2) rfl rfl⟩)) ?_
 | refine S_call (f := 74) rfl obQ (by kernel_rfl) (fun w hw => llisted_c _ _ _ _ (lsR s t nb) _ rfl hll w (hw.rdm B.h memQ) (hw.rdm hSM memQ)) ?_
 | refine S_call (f := 74) rfl obQ (by kernel_rfl) (fun w hw => llistedE_c _ hl0 _ _ _ _ _ w) ?_
       )
 | (refine D_id ?_; first
 | refine D_nil ?_
 | refine D_tail ?_
 | refine D_run rfl rfl obQ obQ ?_
 | refine D_call (f := 20) rfl obQ (by kernel_rfl) (fun w hw => awake_c w (hw.rdm hO.toS memQ) (Pw_at hP hw memQ)) ?_
 | refine D_call (f := 75) rfl obQ (by kernel_rfl) (fun w hw => rShortSound_c _ _ _ _ hSs w) ?_
 | refine D_call (f := 76) rfl obQ (by kernel_rfl) (fun w hw => rShortTaps_c _ _ _ _ hSt w) ?_
 | refine D_call (f := 79) rfl obQ (by kernel_rfl) (fun w hw => rCheckSound_c A c s hs w (hw.rdm hr.toS memQ)) ?_
 | refine D_call (f := 80) rfl obQ (by kernel_rfl) (fun w hw => rCheckTaps_c A2 c2 t ht w (hw.rdm hr2.toS memQ)) ?_
 | refine D_call (f := 29) rfl obQ (by kernel_rfl) (fun w hw => rRange_c _ _ _ w) ?_
 | refine D_call (f := 27) rfl obQ (by kernel_rfl) (fun w hw => lfirstE_c (l := [ssE s, ttE t, wi (nb : Int) 1 4096]) hT (by simp) rfl _ w (.inr ⟨_, rfl, hw.src (i := 1) rfl rfl⟩)) ?_
 | refine D_call (f := 27) rfl obQ (by kernel_rfl) (fun w hw => lfirstE_c (l := [_, wi k1 0 1152921504606846976]) hU (by simp) rfl _ w (.inr ⟨_, rfl, hw.src (i := 2) rfl rfl⟩)) ?_
 | refine D_call (f := 74) rfl obQ (by kernel_rfl) (fun w hw => llisted_c _ _ _ _ (lsR s t nb) _ rfl hll w (hw.rdm B.h memQ) (hw.rdm hSM memQ)) ?_
 | refine D_call (f := 74) rfl obQ (by kernel_rfl) (fun w hw => llistedE_c _ hl0 _ _ _ _ _ w) ?_
       )
 | (refine V_id ?_; first
 | refine V_nil ?_
 | refine V_q rfl (Yl_step rfl obQ) ?_
 | refine V_n rfl ?_
       )
 | (refine VT_id ?_; first
 | refine VT_nil ?_
 | refine VT_q rfl (Yl_step rfl obQ) ?_
 | refine VT_n rfl ?_
 | refine VT_two rfl rfl ?_ ?_
       )
 | (refine G_id ?_; first
 | refine G_V ⟨⟨_, rfl, trivial⟩, ⟨_, rfl⟩, rfl, pstQ⟩ rfl ?_
 | refine G_VT2 ⟨_, rfl⟩ ⟨_, rfl⟩ pstQ rfl ?_
 | refine G_then ?_
 | refine G_block ?_
 | refine G_blockX ?_
 | refine G_blockN rfl ?_
 | refine G_blockR ?_
 | refine G_thenR ?_
 | refine G_thenX ?_
 | refine G_ret rfl obQ (fun w hw => ⟨?_, hw.below⟩)
       )
       )
      all_goals rfl
      
  · have hT : firstL [ssE s, ttE t, wi k0 1 4096] = sdE s t k0 := hT0
    have hV : loR s t k0 = ([], sdE s t k0) := if_neg hd
    have hVn : ([] : List Int).length = 0 := rfl
    have hl0 : ¬ ldE s t k0 k1 = 0 := fun h => hd (ldE_ok h).1
    have hU : firstL [sdE s t k0, wi k1 0 1152921504606846976] = ldE s t k0 k1 := rfl
    have hX : ldR s t k0 k1 = ([], ldE s t k0 k1) := if_neg hl0
    have hXn : ([] : List Nat).length = 0 := rfl
    repeat' (first
 | (refine C_id ?_; first
 | refine C_seq ?_
 | refine C_region rfl ?_
 | refine C_block ?_
 | refine C_skip ?_
 | refine C_exit ?_
 | refine C_ret0 ?_
 | refine C_drawT (id := 4) 0 rfl mixed (by kernel_rfl) rfl rfl ?_
 | refine C_drawT (id := 5) 7 rfl mixed (by kernel_rfl) rfl rfl ?_
 | refine C_condT rfl obQ ?_
 | refine C_condF rfl obQ ?_
 | (refine C_cond rfl obQ (fun h => ?_) (fun h => ?_) <;> (try simp only [Bool.or_eq_true, Bool.and_eq_true, Bool.or_eq_false_iff, Bool.and_eq_false_iff, decide_eq_true_eq, decide_eq_false_iff_not, beq_iff_eq, bne_iff_ne, beq_eq_false_iff_ne, bne_eq_false_iff_eq, ne_eq, Decidable.not_not, List.cons.injEq, and_true, Bool.not_eq_true', Bool.not_eq_false', Int.not_lt, Int.not_le] at h) <;> (try (exfalso; omega)) <;> (try (exfalso; simp at h; done)) <;> (try (exfalso; simp only [not_true_eq_false, false_or, or_false] at h; omega)) <;> (try contradiction))
     )
 | (refine S_id ?_; first
 | ((with_reducible (first | refine S_falseN ?_ ?_ | refine S_falseB ?_ ?_ | refine S_falseL ?_ ?_ | refine S_falseD ?_ ?_ | refine S_falseE ?_ ?_)); · (first | rfl | omega))
 | ((with_reducible refine S_falseO ?_ ?_ ?_); (· rfl); (· first | rfl | (first | rfl | omega)))
 | ((with_reducible (first | refine S_trueE ?_ ?_ | refine S_trueB ?_ ?_ | refine S_trueL ?_ ?_ | refine S_trueD ?_ ?_ | refine S_trueN ?_ ?_)); · (first | exact beq_self_eq_true _ | rfl | omega))
 | ((with_reducible refine S_trueA ?_ ?_ ?_); (· rfl); (· first | rfl | (first | exact beq_self_eq_true _ | rfl | omega)))
 | refine S_unG rfl rfl rfl rfl ?_
 | refine S_offG (.v (.bool false)) rfl rfl rfl rfl rfl ?_
 | refine S_row00 rfl rfl rfl (fun g => ?_)
 | refine S_appendS rfl obQ rfl rfl rfl ⟨by decide, rfl⟩ rfl ⟨rfl, rfl, rfl, rfl⟩ (s.map (.float .f32)) (by simp) hA (one_fl _) (srcS hr memQ) (by unfold maxLen; dsimp only; omega) (fun A' cap' => ⟨_, rfl, ?_⟩)
 | refine S_appendS rfl obQ rfl rfl rfl ⟨by decide, rfl⟩ rfl ⟨rfl, rfl, rfl, rfl⟩ (t.map (.int .i64)) (by simp) hB (one_int _) (srcS hr2 memQ) (by unfold maxLen; dsimp only; omega) (fun A' cap' => ⟨_, rfl, ?_⟩)
 | (refine S_callM (f := 77) rfl obQ (by kernel_rfl) (fun w hw => loud_as hV hVn hs ht (by simp) (by simp) (hw.rdRow (i := 0) rfl rfl) (hw.rdRow (i := 1) rfl rfl)) (fun w1L w2L vL hw1L hbL hRL => ?_); obtain ⟨AL, cL, rfl, hSL⟩ := hRL)
 | (refine S_callM (f := 77) rfl obQ (by kernel_rfl) (fun w hw => loud_as hV hVn hs ht (by simp) (by simp) (hw.rdRow (i := 1) rfl rfl) (hw.rdRow (i := 0) rfl rfl)) (fun w1L w2L vL hw1L hbL hRL => ?_); obtain ⟨AL, cL, rfl, hSL⟩ := hRL)
 | refine S_nil ?_
 | refine S_runN rfl rfl obQ obQ ?_
 | refine S_box (fun b => ⟨_, _, rfl, obQ, ?_⟩)
 | refine S_slice (fun b => ⟨_, _, rfl, obQ, ?_⟩)
 | refine S_call (f := 20) rfl obQ (by kernel_rfl) (fun w hw => awake_c w (hw.rdm hO.toS memQ) (Pw_at hP hw memQ)) ?_
 | refine S_call (f := 75) rfl obQ (by kernel_rfl) (fun w hw => rShortSound_c _ _ _ _ hSs w) ?_
 | refine S_call (f := 76) rfl obQ (by kernel_rfl) (fun w hw => rShortTaps_c _ _ _ _ hSt w) ?_
 | refine S_call (f := 79) rfl obQ (by kernel_rfl) (fun w hw => rCheckSound_c A c s hs w (hw.rdm hr.toS memQ)) ?_
 | refine S_call (f := 80) rfl obQ (by kernel_rfl) (fun w hw => rCheckTaps_c A2 c2 t ht w (hw.rdm hr2.toS memQ)) ?_
 | refine S_call (f := 29) rfl obQ (by kernel_rfl) (fun w hw => rRange_c _ _ _ w) ?_
 | refine S_call (f := 27) rfl obQ (by kernel_rfl) (fun w hw => lfirstE_c (l := [ssE s, ttE t, wi k0 1 4096]) hT (by simp) rfl _ w (.inr ⟨_, rfl, hw.src (i := 1) rfl rfl⟩)) ?_
 | refine S_call (f := 27) rfl obQ (by kernel_rfl) (fun w hw => lfirstE_c (l := [_, wi k1 0 1152921504606846976]) hU (by simp) rfl _ w (.inr ⟨_, rfl, hw.src (i := 2) rfl rfl⟩)) ?_
 | refine S_call (f := 74) rfl obQ (by kernel_rfl) (fun w hw => llistedE_c _ hd _ _ _ _ _ w) ?_
 | refine S_call (f := 74) rfl obQ (by kernel_rfl) (fun w hw => llistedE_c _ hl0 _ _ _ _ _ w) ?_
     )
 | (refine D_id ?_; first
 | refine D_nil ?_
 | refine D_tail ?_
 | refine D_run rfl rfl obQ obQ ?_
 | refine D_call (f := 20) rfl obQ (by kernel_rfl) (fun w hw => awake_c w (hw.rdm hO.toS memQ) (Pw_at hP hw memQ)) ?_
 | refine D_call (f := 75) rfl obQ (by kernel_rfl) (fun w hw => rShortSound_c _ _ _ _ hSs w) ?_
 | refine D_call (f := 76) rfl obQ (by kernel_rfl) (fun w hw => rShortTaps_c _ _ _ _ hSt w) ?_
 | refine D_call (f := 79) rfl obQ (by kernel_rfl) (fun w hw => rCheckSound_c A c s hs w (hw.rdm hr.toS memQ)) ?_
 | refine D_call (f := 80) rfl obQ (by kernel_rfl) (fun w hw => rCheckTaps_c A2 c2 t ht w (hw.rdm hr2.toS memQ)) ?_
 | refine D_call (f := 29) rfl obQ (by kernel_rfl) (fun w hw => rRange_c _ _ _ w) ?_
 | refine D_call (f := 27) rfl obQ (by kernel_rfl) (fun w hw => lfirstE_c (l := [ssE s, ttE t, wi k0 1 4096]) hT (by simp) rfl _ w (.inr ⟨_, rfl, hw.src (i := 1) rfl rfl⟩)) ?_
 | refine D_call (f := 27) rfl obQ (by kernel_rfl) (fun w hw => lfirstE_c (l := [_, wi k1 0 1152921504606846976]) hU (by simp) rfl _ w (.inr ⟨_, rfl, hw.src (i := 2) rfl rfl⟩)) ?_
 | refine D_call (f := 74) rfl obQ (by kernel_rfl) (fun w hw => llistedE_c _ hd _ _ _ _ _ w) ?_
 | refine D_call (f := 74) rfl obQ (by kernel_rfl) (fun w hw => llistedE_c _ hl0 _ _ _ _ _ w) ?_
     )
 | (refine G_id ?_; first
 | refine G_then ?_
 | refine G_block ?_
 | refine G_blockX ?_
 | refine G_blockN rfl ?_
 | refine G_blockR ?_
 | refine G_thenR ?_
 | refine G_thenX ?_
 | refine G_ret rfl obQ (fun w hw => ⟨?_, hw.below⟩)
     )
     )
    obtain ⟨b5, rfl⟩ : ∃ z, z = b := ⟨b, rfl⟩
    refine C_cut (fun B : SlA (([] : List Int).map (.int .i64)) => ([B.ps, (w, fun b => b < w.heap.size)], ⟨[(0, .s (.v (.slice A s.length c))), (1, .s (.v (.slice A2 t.length c2))), (5, .s (.p b5 0 0)), (7, .s (.v (.slice B.A 0 B.c))), (8, .s (.v (.int .i64 (sdE s t k0))))], [⟨b5, 23, [.v (.int .i64 k0), .v (.int .i64 k1)]⟩], []⟩)) ?_ (fun B => ?_)
    · repeat' (first
 | (refine C_id ?_; first
 | refine C_seq ?_
 | refine C_region rfl ?_
 | refine C_block ?_
 | refine C_skip ?_
 | refine C_exit ?_
 | refine C_ret0 ?_
 | refine C_drawTr (id := 3) 13 (.q 1 (.q 4 (.q 6 (.q 7 (.two 0 3 (.two 2 3 (.n 3 (.n 5 (.n 8 (.q 9 (.q 10 (.q 11 (.q 12 .nil))))))) (.n 2 (.n 5 (.n 8 (.q 9 (.q 10 (.q 11 (.q 12 .nil)))))))) (.n 0 (.n 2 (.n 5 (.n 8 (.q 9 (.q 10 (.q 11 (.q 12 .nil))))))))))))) rfl mixed (by kernel_rfl) rfl ?_
 | refine C_drawT (id := 4) 0 rfl mixed (by kernel_rfl) rfl rfl ?_
 | refine C_drawT (id := 5) 7 rfl mixed (by kernel_rfl) rfl rfl ?_
 | refine C_condT rfl obQ ?_
 | refine C_condF rfl obQ ?_
 | (refine C_cond rfl obQ (fun h => ?_) (fun h => ?_) <;> (try simp only [Bool.or_eq_true, Bool.and_eq_true, Bool.or_eq_false_iff, Bool.and_eq_false_iff, decide_eq_true_eq, decide_eq_false_iff_not, beq_iff_eq, bne_iff_ne, beq_eq_false_iff_ne, bne_eq_false_iff_eq, ne_eq, Decidable.not_not, List.cons.injEq, and_true, Bool.not_eq_true', Bool.not_eq_false', Int.not_lt, Int.not_le] at h) <;> (try (exfalso; omega)) <;> (try (exfalso; simp at h; done)) <;> (try (exfalso; simp only [not_true_eq_false, false_or, or_false] at h; omega)) <;> (try contradiction))
       )
 | (refine S_id ?_; first
 | ((with_reducible (first | refine S_falseN ?_ ?_ | refine S_falseB ?_ ?_ | refine S_falseL ?_ ?_ | refine S_falseD ?_ ?_ | refine S_falseE ?_ ?_)); · (first | rfl | omega))
 | ((with_reducible refine S_falseO ?_ ?_ ?_); (· rfl); (· first | rfl | (first | rfl | omega)))
 | ((with_reducible (first | refine S_trueE ?_ ?_ | refine S_trueB ?_ ?_ | refine S_trueL ?_ ?_ | refine S_trueD ?_ ?_ | refine S_trueN ?_ ?_)); · (first | exact beq_self_eq_true _ | rfl | omega))
 | ((with_reducible refine S_trueA ?_ ?_ ?_); (· rfl); (· first | rfl | (first | exact beq_self_eq_true _ | rfl | omega)))
 | refine S_unG rfl rfl rfl rfl ?_
 | refine S_offG (.v (.bool false)) rfl rfl rfl rfl rfl ?_
 | refine S_row00 rfl rfl rfl (fun g => ?_)
 | refine S_appendS rfl obQ rfl rfl rfl ⟨by decide, rfl⟩ rfl ⟨rfl, rfl, rfl, rfl⟩ (s.map (.float .f32)) (by simp) hA (one_fl _) (srcS hr memQ) (by unfold maxLen; dsimp only; omega) (fun A' cap' => ⟨_, rfl, ?_⟩)
 | refine S_appendS rfl obQ rfl rfl rfl ⟨by decide, rfl⟩ rfl ⟨rfl, rfl, rfl, rfl⟩ (t.map (.int .i64)) (by simp) hB (one_int _) (srcS hr2 memQ) (by unfold maxLen; dsimp only; omega) (fun A' cap' => ⟨_, rfl, ?_⟩)
 | (refine S_callM (f := 77) rfl obQ (by kernel_rfl) (fun w hw => loud_as hV hVn hs ht (by simp) (by simp) (hw.rdRow (i := 0) rfl rfl) (hw.rdRow (i := 1) rfl rfl)) (fun w1L w2L vL hw1L hbL hRL => ?_); obtain ⟨AL, cL, rfl, hSL⟩ := hRL)
 | (refine S_callM (f := 77) rfl obQ (by kernel_rfl) (fun w hw => loud_as hV hVn hs ht (by simp) (by simp) (hw.rdRow (i := 1) rfl rfl) (hw.rdRow (i := 0) rfl rfl)) (fun w1L w2L vL hw1L hbL hRL => ?_); obtain ⟨AL, cL, rfl, hSL⟩ := hRL)
 | refine S_nil ?_
 | refine S_runN rfl rfl obQ obQ ?_
 | refine S_box (fun bb => ⟨_, _, rfl, obQ, ?_⟩)
 | refine S_slice (fun b => ⟨_, _, rfl, obQ, ?_⟩)
 | refine S_call (f := 20) rfl obQ (by kernel_rfl) (fun w hw => awake_c w (hw.rdm hO.toS memQ) (Pw_at hP hw memQ)) ?_
 | refine S_call (f := 75) rfl obQ (by kernel_rfl) (fun w hw => rShortSound_c _ _ _ _ hSs w) ?_
 | refine S_call (f := 76) rfl obQ (by kernel_rfl) (fun w hw => rShortTaps_c _ _ _ _ hSt w) ?_
 | refine S_call (f := 79) rfl obQ (by kernel_rfl) (fun w hw => rCheckSound_c A c s hs w (hw.rdm hr.toS memQ)) ?_
 | refine S_call (f := 80) rfl obQ (by kernel_rfl) (fun w hw => rCheckTaps_c A2 c2 t ht w (hw.rdm hr2.toS memQ)) ?_
 | refine S_call (f := 29) rfl obQ (by kernel_rfl) (fun w hw => rRange_c _ _ _ w) ?_
 | refine S_call (f := 27) rfl obQ (by kernel_rfl) (fun w hw => lfirstE_c (l := [ssE s, ttE t, wi k0 1 4096]) hT (by simp) rfl _ w (.inr ⟨_, rfl, hw.src (i := 1) rfl rfl⟩)) ?_
 | refine S_call (f := 27) rfl obQ (by kernel_rfl) (fun w hw => lfirstE_c (l := [_, wi k1 0 1152921504606846976]) hU (by simp) rfl _ w (.inr ⟨_, rfl, hw.src (i := 2) rfl rfl⟩)) ?_
 | refine S_call (f := 74) rfl obQ (by kernel_rfl) (fun w hw => llistedE_c _ hd _ _ _ _ _ w) ?_
 | refine S_call (f := 74) rfl obQ (by kernel_rfl) (fun w hw => llistedE_c _ hl0 _ _ _ _ _ w) ?_
       )
 | (refine D_id ?_; first
 | refine D_nil ?_
 | refine D_tail ?_
 | refine D_run rfl rfl obQ obQ ?_
 | refine D_call (f := 20) rfl obQ (by kernel_rfl) (fun w hw => awake_c w (hw.rdm hO.toS memQ) (Pw_at hP hw memQ)) ?_
 | refine D_call (f := 75) rfl obQ (by kernel_rfl) (fun w hw => rShortSound_c _ _ _ _ hSs w) ?_
 | refine D_call (f := 76) rfl obQ (by kernel_rfl) (fun w hw => rShortTaps_c _ _ _ _ hSt w) ?_
 | refine D_call (f := 79) rfl obQ (by kernel_rfl) (fun w hw => rCheckSound_c A c s hs w (hw.rdm hr.toS memQ)) ?_
 | refine D_call (f := 80) rfl obQ (by kernel_rfl) (fun w hw => rCheckTaps_c A2 c2 t ht w (hw.rdm hr2.toS memQ)) ?_
 | refine D_call (f := 29) rfl obQ (by kernel_rfl) (fun w hw => rRange_c _ _ _ w) ?_
 | refine D_call (f := 27) rfl obQ (by kernel_rfl) (fun w hw => lfirstE_c (l := [ssE s, ttE t, wi k0 1 4096]) hT (by simp) rfl _ w (.inr ⟨_, rfl, hw.src (i := 1) rfl rfl⟩)) ?_
 | refine D_call (f := 27) rfl obQ (by kernel_rfl) (fun w hw => lfirstE_c (l := [_, wi k1 0 1152921504606846976]) hU (by simp) rfl _ w (.inr ⟨_, rfl, hw.src (i := 2) rfl rfl⟩)) ?_
 | refine D_call (f := 74) rfl obQ (by kernel_rfl) (fun w hw => llistedE_c _ hd _ _ _ _ _ w) ?_
 | refine D_call (f := 74) rfl obQ (by kernel_rfl) (fun w hw => llistedE_c _ hl0 _ _ _ _ _ w) ?_
       )
 | (refine VT_id ?_; first
 | refine VT_nil ?_
 | refine VT_q rfl (Yl_step rfl obQ) ?_
 | refine VT_n rfl ?_
 | refine VT_two rfl rfl ?_ ?_
       )
 | (refine G_id ?_; first
 | refine G_VT2 ⟨_, rfl⟩ ⟨_, rfl⟩ pstQ rfl ?_
 | refine G_cutN (⟨w1L, w2L, AL, cL, hSL⟩ : SlA _) ⟨⟨_, rfl, obQ⟩, ⟨_, rfl⟩, rfl, pstQ⟩
 | refine G_then ?_
 | refine G_block ?_
 | refine G_blockX ?_
 | refine G_blockN rfl ?_
 | refine G_blockR ?_
 | refine G_thenR ?_
 | refine G_thenX ?_
 | refine G_ret rfl obQ (fun w hw => ⟨?_, hw.below⟩)
       )
       )
    repeat' (first
 | (refine C_id ?_; first
 | refine C_seq ?_
 | refine C_region rfl ?_
 | refine C_block ?_
 | refine C_skip ?_
 | refine C_exit ?_
 | refine C_ret0 ?_
 | refine C_drawT (id := 3) 0 rfl mixed (by kernel_rfl) rfl rfl ?_
 | refine C_drawTr (id := 4) 15 (.q 1 (.q 4 (.q 6 (.q 7 (.q 8 (.q 9 (.two 0 3 (.two 2 3 (.n 3 (.n 5 (.n 10 (.q 11 (.q 12 (.q 13 (.q 14 .nil))))))) (.n 2 (.n 5 (.n 10 (.q 11 (.q 12 (.q 13 (.q 14 .nil)))))))) (.n 0 (.n 2 (.n 5 (.n 10 (.q 11 (.q 12 (.q 13 (.q 14 .nil))))))))))))))) rfl mixed (by kernel_rfl) rfl ?_
 | refine C_drawV (id := 5) 6 [(0, true), (2, true), (4, true), (5, true), (1, false), (3, false)] rfl mixed (by kernel_rfl) rfl ?_
 | refine C_condT rfl obQ ?_
 | refine C_condF rfl obQ ?_
 | (refine C_cond rfl obQ (fun h => ?_) (fun h => ?_) <;> (try simp only [Bool.or_eq_true, Bool.and_eq_true, Bool.or_eq_false_iff, Bool.and_eq_false_iff, decide_eq_true_eq, decide_eq_false_iff_not, beq_iff_eq, bne_iff_ne, beq_eq_false_iff_ne, bne_eq_false_iff_eq, ne_eq, Decidable.not_not, List.cons.injEq, and_true, Bool.not_eq_true', Bool.not_eq_false', Int.not_lt, Int.not_le] at h) <;> (try (exfalso; omega)) <;> (try (exfalso; simp at h; done)) <;> (try (exfalso; simp only [not_true_eq_false, false_or, or_false] at h; omega)) <;> (try contradiction))
     )
 | (refine S_id ?_; first
 | ((with_reducible (first | refine S_falseN ?_ ?_ | refine S_falseB ?_ ?_ | refine S_falseL ?_ ?_ | refine S_falseD ?_ ?_ | refine S_falseE ?_ ?_)); · (first | rfl | omega))
 | ((with_reducible refine S_falseO ?_ ?_ ?_); (· rfl); (· first | rfl | (first | rfl | omega)))
 | ((with_reducible (first | refine S_trueE ?_ ?_ | refine S_trueB ?_ ?_ | refine S_trueL ?_ ?_ | refine S_trueD ?_ ?_ | refine S_trueN ?_ ?_)); · (first | exact beq_self_eq_true _ | rfl | omega))
 | ((with_reducible refine S_trueA ?_ ?_ ?_); (· rfl); (· first | rfl | (first | exact beq_self_eq_true _ | rfl | omega)))
 | refine S_unG rfl rfl rfl rfl ?_
 | refine S_offG (.v (.bool false)) rfl rfl rfl rfl rfl ?_
 | refine S_row00 rfl rfl rfl (fun g => ?_)
 | refine S_appendS rfl obQ rfl rfl rfl ⟨by decide, rfl⟩ rfl ⟨rfl, rfl, rfl, rfl⟩ (s.map (.float .f32)) (by simp) hA (one_fl _) (srcS hr memQ) (by unfold maxLen; dsimp only; omega) (fun A' cap' => ⟨_, rfl, ?_⟩)
 | refine S_appendS rfl obQ rfl rfl rfl ⟨by decide, rfl⟩ rfl ⟨rfl, rfl, rfl, rfl⟩ (t.map (.int .i64)) (by simp) hB (one_int _) (srcS hr2 memQ) (by unfold maxLen; dsimp only; omega) (fun A' cap' => ⟨_, rfl, ?_⟩)
 | (refine S_callM (f := 78) rfl obQ (by kernel_rfl) (fun w hw => loudB_as hX hXn hs ht (by simp) (by simp) (hw.rdRow (i := 0) rfl rfl) (hw.rdRow (i := 1) rfl rfl)) (fun w1U w2U vU hw1U hbU hRU => ?_); obtain ⟨AU, cU, rfl, hSU⟩ := hRU)
 | (refine S_callM (f := 78) rfl obQ (by kernel_rfl) (fun w hw => loudB_as hX hXn hs ht (by simp) (by simp) (hw.rdRow (i := 1) rfl rfl) (hw.rdRow (i := 0) rfl rfl)) (fun w1U w2U vU hw1U hbU hRU => ?_); obtain ⟨AU, cU, rfl, hSU⟩ := hRU)
 | refine S_nil ?_
 | refine S_runN rfl rfl obQ obQ ?_
 | refine S_box (fun bb => ⟨_, _, rfl, obQ, ?_⟩)
 | refine S_slice (fun b => ⟨_, _, rfl, obQ, ?_⟩)
 | refine S_call (f := 20) rfl obQ (by kernel_rfl) (fun w hw => awake_c w (hw.rdm hO.toS memQ) (Pw_at hP hw memQ)) ?_
 | refine S_call (f := 75) rfl obQ (by kernel_rfl) (fun w hw => rShortSound_c _ _ _ _ hSs w) ?_
 | refine S_call (f := 76) rfl obQ (by kernel_rfl) (fun w hw => rShortTaps_c _ _ _ _ hSt w) ?_
 | refine S_call (f := 79) rfl obQ (by kernel_rfl) (fun w hw => rCheckSound_c A c s hs w (hw.rdm hr.toS memQ)) ?_
 | refine S_call (f := 80) rfl obQ (by kernel_rfl) (fun w hw => rCheckTaps_c A2 c2 t ht w (hw.rdm hr2.toS memQ)) ?_
 | refine S_call (f := 29) rfl obQ (by kernel_rfl) (fun w hw => rRange_c _ _ _ w) ?_
 | refine S_call (f := 27) rfl obQ (by kernel_rfl) (fun w hw => lfirstE_c (l := [ssE s, ttE t, wi k0 1 4096]) hT (by simp) rfl _ w (.inr ⟨_, rfl, hw.src (i := 1) rfl rfl⟩)) ?_
 | refine S_call (f := 27) rfl obQ (by kernel_rfl) (fun w hw => lfirstE_c (l := [_, wi k1 0 1152921504606846976]) hU (by simp) rfl _ w (.inr ⟨_, rfl, hw.src (i := 2) rfl rfl⟩)) ?_
 | refine S_call (f := 74) rfl obQ (by kernel_rfl) (fun w hw => llistedE_c _ hd _ _ _ _ _ w) ?_
 | refine S_call (f := 74) rfl obQ (by kernel_rfl) (fun w hw => llistedE_c _ hl0 _ _ _ _ _ w) ?_
     )
 | (refine D_id ?_; first
 | refine D_nil ?_
 | refine D_tail ?_
 | refine D_run rfl rfl obQ obQ ?_
 | refine D_call (f := 20) rfl obQ (by kernel_rfl) (fun w hw => awake_c w (hw.rdm hO.toS memQ) (Pw_at hP hw memQ)) ?_
 | refine D_call (f := 75) rfl obQ (by kernel_rfl) (fun w hw => rShortSound_c _ _ _ _ hSs w) ?_
 | refine D_call (f := 76) rfl obQ (by kernel_rfl) (fun w hw => rShortTaps_c _ _ _ _ hSt w) ?_
 | refine D_call (f := 79) rfl obQ (by kernel_rfl) (fun w hw => rCheckSound_c A c s hs w (hw.rdm hr.toS memQ)) ?_
 | refine D_call (f := 80) rfl obQ (by kernel_rfl) (fun w hw => rCheckTaps_c A2 c2 t ht w (hw.rdm hr2.toS memQ)) ?_
 | refine D_call (f := 29) rfl obQ (by kernel_rfl) (fun w hw => rRange_c _ _ _ w) ?_
 | refine D_call (f := 27) rfl obQ (by kernel_rfl) (fun w hw => lfirstE_c (l := [ssE s, ttE t, wi k0 1 4096]) hT (by simp) rfl _ w (.inr ⟨_, rfl, hw.src (i := 1) rfl rfl⟩)) ?_
 | refine D_call (f := 27) rfl obQ (by kernel_rfl) (fun w hw => lfirstE_c (l := [_, wi k1 0 1152921504606846976]) hU (by simp) rfl _ w (.inr ⟨_, rfl, hw.src (i := 2) rfl rfl⟩)) ?_
 | refine D_call (f := 74) rfl obQ (by kernel_rfl) (fun w hw => llistedE_c _ hd _ _ _ _ _ w) ?_
 | refine D_call (f := 74) rfl obQ (by kernel_rfl) (fun w hw => llistedE_c _ hl0 _ _ _ _ _ w) ?_
     )
 | (refine V_id ?_; first
 | refine V_nil ?_
 | refine V_q rfl (Yl_step rfl obQ) ?_
 | refine V_n rfl ?_
     )
 | (refine VT_id ?_; first
 | refine VT_nil ?_
 | refine VT_q rfl (Yl_step rfl obQ) ?_
 | refine VT_n rfl ?_
 | refine VT_two rfl rfl ?_ ?_
     )
 | (refine G_id ?_; first
 | refine G_V ⟨⟨_, rfl, trivial⟩, ⟨_, rfl⟩, rfl, pstQ⟩ rfl ?_
 | refine G_VT2 ⟨_, rfl⟩ ⟨_, rfl⟩ pstQ rfl ?_
 | refine G_then ?_
 | refine G_block ?_
 | refine G_blockX ?_
 | refine G_blockN rfl ?_
 | refine G_blockR ?_
 | refine G_thenR ?_
 | refine G_thenX ?_
 | refine G_ret rfl obQ (fun w hw => ⟨?_, hw.below⟩)
     )
     )
    all_goals rfl
    

end Go.Proofs.YtdbffbcobghbeaaGreatDoor
