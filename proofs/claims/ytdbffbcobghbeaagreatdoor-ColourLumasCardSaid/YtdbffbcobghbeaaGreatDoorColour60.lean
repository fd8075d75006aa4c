/- The law of luma: the walk. -/
import Derived.Test.YtdbffbcobghbeaaGreatDoorColour28
import Derived.Test.YtdbffbcobghbeaaGreatDoorColour59
import Derived.Test.YtdbffbcobghbeaaGreatDoorEngZ
namespace Go.Proofs.YtdbffbcobghbeaaGreatDoor
open Go.E Go.RowKit Go.Fl
attribute [local irreducible] G C S D DY DS V VT Yl QV QT Calls
set_option maxRecDepth 100000
set_option linter.unusedSimpArgs false
set_option linter.unusedVariables false

section
variable {x y z : Pic} {wa wb wc : Int} {w : World}
theorem lfirstE_c {A : Option Addr} {n : Nat} {l : List Int} {e : Int} (he : firstL l = e) (h6 : l.length ≤ 1000000) (hl : l.length = n) (c : Nat) (w : World) (hr : Rd w A (l.map (.int .i64))) : Calls Tryz.prog 27 #[.slice A n c] w fun r w' => r = .returned (.int .i64 e) ∧ Below w.heap.size w w' := by
  subst hl he
  exact lfirst_c A c l h6 w hr
theorem rdS_some {S : Nat → Prop} {W : World} {A : Option Addr} {xs : List Value} (h : RdS S W A xs) (h0 : 0 < xs.length) : ∃ a, A = some a := by
  rcases h with h | ⟨ad, h, _⟩
  · rw [h] at h0; simp at h0
  · exact ⟨ad, h⟩
theorem luma_as {ax ay az : Addr} {cx cy cz : Nat} (h1 : thE x y z = 0) (h2 : wtE wa wb wc = 0) (hsx : x.s.length ≤ 1000000) (hsy : y.s.length ≤ 1000000) (hsz : z.s.length ≤ 1000000) (hrx : Rd w (some ax) (x.s.map (.float .f32))) (hry : Rd w (some ay) (y.s.map (.float .f32))) (hrz : Rd w (some az) (z.s.map (.float .f32))) :
    Calls Tryz.prog 61 #[.agg #[.string x.nm, .int .i64 x.w, .int .i64 x.h, .slice (some ax) x.s.length cx, .string y.nm, .int .i64 y.w, .int .i64 y.h, .slice (some ay) y.s.length cy, .string z.nm, .int .i64 z.w, .int .i64 z.h, .slice (some az) z.s.length cz], .agg #[.int .i64 wa, .int .i64 wb, .int .i64 wc]] w fun r w' => ∃ v, r = .returned v ∧ Below w.heap.size w w' ∧ PicR w w' v (luP x y z wa wb wc) 0 := by
  have := Luma_c x y z ax ay az cx cy cz hsx hsy hsz wa wb wc w hrx hry hrz
  rw [luR_3 h1 h2] at this
  exact this
theorem luP_fin (h : WtOk wa wb wc) : ∀ b ∈ (luP x y z wa wb wc).s, Fin32 b := by
  intro b hb
  simp only [luP, List.mem_map] at hb
  obtain ⟨q, _, rfl⟩ := hb
  exact (smp_Smp (luN_bd h q.ok).2).fin
theorem luP_len : (luP x y z wa wb wc).s.length = x.s.length := by simp [luP, plL]
end

set_option maxHeartbeats 8000000 in
/-- genlocklaw02.ColourLumas -/
theorem lLumas_c (x y z : Pic) (Ax Ay Az : Option Addr) (cx cy cz : Nat) (hnx : x.nm.size ≤ maxLen) (hny : y.nm.size ≤ maxLen) (hnz : z.nm.size ≤ maxLen) (hax : Ax = none → x.s.length = 0 ∧ cx = 0) (hay : Ay = none → y.s.length = 0 ∧ cy = 0) (haz : Az = none → z.s.length = 0 ∧ cz = 0) (wa wb wc : Int) (w : World) (hrx : Rd w Ax (x.s.map (.float .f32))) (hry : Rd w Ay (y.s.map (.float .f32))) (hrz : Rd w Az (z.s.map (.float .f32))) (hO : Ot w) (hP : Pw w) : Calls Tryz.prog 9 #[.agg #[.string x.nm, .int .i64 x.w, .int .i64 x.h, .slice Ax x.s.length cx, .string y.nm, .int .i64 y.w, .int .i64 y.h, .slice Ay y.s.length cy, .string z.nm, .int .i64 z.w, .int .i64 z.h, .slice Az z.s.length cz], .agg #[.int .i64 wa, .int .i64 wb, .int .i64 wc]] w fun r w' => r = .returned (.bool true) ∧ Below w.heap.size w w' := by
  refine calls_of (args := [.agg #[.string x.nm, .int .i64 x.w, .int .i64 x.h, .slice Ax x.s.length cx, .string y.nm, .int .i64 y.w, .int .i64 y.h, .slice Ay y.s.length cy, .string z.nm, .int .i64 z.w, .int .i64 z.h, .slice Az z.s.length cz], .agg #[.int .i64 wa, .int .i64 wb, .int .i64 wc]]) T_ok Tryz.func9 rfl Tryz.ntmps9 (Nat.le_of_ble_eq_true rfl) rfl ?_
  cases hSx : shortB x
  · repeat' (first
 | (refine C_id ?_; first
 | refine C_seq ?_
 | refine C_region rfl ?_
 | refine C_block ?_
 | refine C_skip ?_
 | refine C_exit ?_
 | refine C_ret0 ?_
 | refine C_drawT (id := 3) 7 rfl mixed (by kernel_rfl) rfl rfl ?_
 | refine C_drawT (id := 4) 4 rfl mixed (by kernel_rfl) rfl rfl ?_
 | refine C_condT rfl obQ ?_
 | refine C_condF rfl obQ ?_
 | (refine C_cond rfl obQ (fun h => ?_) (fun h => ?_) <;> (try simp only [Bool.or_eq_true, Bool.and_eq_true, Bool.or_eq_false_iff, Bool.and_eq_false_iff, decide_eq_true_eq, decide_eq_false_iff_not, beq_iff_eq, bne_iff_ne, beq_eq_false_iff_ne, bne_eq_false_iff_eq, ne_eq, Decidable.not_not, List.cons.injEq, and_true, Bool.not_eq_true', Bool.not_eq_false', Int.not_lt, Int.not_le] at h) <;> (try (exfalso; omega)) <;> (try (exfalso; simp at h; done)) <;> (try (exfalso; simp only [not_true_eq_false, false_or, or_false] at h; omega)) <;> (try contradiction))
     )
 | (refine S_id ?_; first
 | ((with_reducible (first | refine S_falseN ?_ ?_ | refine S_falseB ?_ ?_ | refine S_falseL ?_ ?_ | refine S_falseD ?_ ?_ | refine S_falseE ?_ ?_)); · (first | rfl | omega))
 | ((with_reducible refine S_falseO ?_ ?_ ?_); (· rfl); (· first | rfl | (first | rfl | omega)))
 | ((with_reducible (first | refine S_trueE ?_ ?_ | refine S_trueB ?_ ?_ | refine S_trueL ?_ ?_ | refine S_trueD ?_ ?_ | refine S_trueN ?_ ?_)); · (first | exact beq_self_eq_true _ | rfl | omega))
 | ((with_reducible refine S_trueA ?_ ?_ ?_); (· rfl); (· first | rfl | (first | exact beq_self_eq_true _ | rfl | omega)))
 | refine S_unG rfl rfl rfl rfl ?_
 | refine S_offG (.v (.bool false)) rfl rfl rfl rfl rfl ?_
 | refine S_nil ?_
 | refine S_runN rfl rfl obQ obQ ?_
 | refine S_box (fun bb => ⟨_, _, rfl, obQ, ?_⟩)
 | refine S_slice (fun b => ⟨_, _, rfl, obQ, ?_⟩)
 | refine S_call (f := 20) rfl obQ (by kernel_rfl) (fun w hw => awake_c w (hw.rdm hO.toS memQ) (Pw_at hP hw memQ)) ?_
 | refine S_call (f := 54) rfl obQ (by kernel_rfl) (fun w hw => rShortPicture_c x _ _ _ hSx w) ?_
 | refine S_call (f := 54) rfl obQ (by kernel_rfl) (fun w hw => rShortPicture_c y _ _ _ hSy w) ?_
 | refine S_call (f := 54) rfl obQ (by kernel_rfl) (fun w hw => rShortPicture_c z _ _ _ hSz w) ?_
     )
 | (refine D_id ?_; first
 | refine D_nil ?_
 | refine D_tail ?_
 | refine D_run rfl rfl obQ obQ ?_
 | refine D_call (f := 20) rfl obQ (by kernel_rfl) (fun w hw => awake_c w (hw.rdm hO.toS memQ) (Pw_at hP hw memQ)) ?_
 | refine D_call (f := 54) rfl obQ (by kernel_rfl) (fun w hw => rShortPicture_c x _ _ _ hSx w) ?_
 | refine D_call (f := 54) rfl obQ (by kernel_rfl) (fun w hw => rShortPicture_c y _ _ _ hSy w) ?_
 | refine D_call (f := 54) rfl obQ (by kernel_rfl) (fun w hw => rShortPicture_c z _ _ _ hSz w) ?_
     )
 | (refine G_id ?_; first
 | refine G_then ?_
 | refine G_block ?_
 | refine G_blockX ?_
 | refine G_blockN rfl ?_
 | refine G_blockR ?_
 | refine G_thenR ?_
 | refine G_thenX ?_
 | refine G_ret rfl obQ (fun w hw => ⟨?_, hw.below⟩)
     )
     )
    all_goals rfl
  cases hSy : shortB y
  · repeat' (first
 | (refine C_id ?_; first
 | refine C_seq ?_
 | refine C_region rfl ?_
 | refine C_block ?_
 | refine C_skip ?_
 | refine C_exit ?_
 | refine C_ret0 ?_
 | refine C_drawT (id := 3) 7 rfl mixed (by kernel_rfl) rfl rfl ?_
 | refine C_drawT (id := 4) 4 rfl mixed (by kernel_rfl) rfl rfl ?_
 | refine C_condT rfl obQ ?_
 | refine C_condF rfl obQ ?_
 | (refine C_cond rfl obQ (fun h => ?_) (fun h => ?_) <;> (try simp only [Bool.or_eq_true, Bool.and_eq_true, Bool.or_eq_false_iff, Bool.and_eq_false_iff, decide_eq_true_eq, decide_eq_false_iff_not, beq_iff_eq, bne_iff_ne, beq_eq_false_iff_ne, bne_eq_false_iff_eq, ne_eq, Decidable.not_not, List.cons.injEq, and_true, Bool.not_eq_true', Bool.not_eq_false', Int.not_lt, Int.not_le] at h) <;> (try (exfalso; omega)) <;> (try (exfalso; simp at h; done)) <;> (try (exfalso; simp only [not_true_eq_false, false_or, or_false] at h; omega)) <;> (try contradiction))
     )
 | (refine S_id ?_; first
 | ((with_reducible (first | refine S_falseN ?_ ?_ | refine S_falseB ?_ ?_ | refine S_falseL ?_ ?_ | refine S_falseD ?_ ?_ | refine S_falseE ?_ ?_)); · (first | rfl | omega))
 | ((with_reducible refine S_falseO ?_ ?_ ?_); (· rfl); (· first | rfl | (first | rfl | omega)))
 | ((with_reducible (first | refine S_trueE ?_ ?_ | refine S_trueB ?_ ?_ | refine S_trueL ?_ ?_ | refine S_trueD ?_ ?_ | refine S_trueN ?_ ?_)); · (first | exact beq_self_eq_true _ | rfl | omega))
 | ((with_reducible refine S_trueA ?_ ?_ ?_); (· rfl); (· first | rfl | (first | exact beq_self_eq_true _ | rfl | omega)))
 | refine S_unG rfl rfl rfl rfl ?_
 | refine S_offG (.v (.bool false)) rfl rfl rfl rfl rfl ?_
 | refine S_nil ?_
 | refine S_runN rfl rfl obQ obQ ?_
 | refine S_box (fun bb => ⟨_, _, rfl, obQ, ?_⟩)
 | refine S_slice (fun b => ⟨_, _, rfl, obQ, ?_⟩)
 | refine S_call (f := 20) rfl obQ (by kernel_rfl) (fun w hw => awake_c w (hw.rdm hO.toS memQ) (Pw_at hP hw memQ)) ?_
 | refine S_call (f := 54) rfl obQ (by kernel_rfl) (fun w hw => rShortPicture_c x _ _ _ hSx w) ?_
 | refine S_call (f := 54) rfl obQ (by kernel_rfl) (fun w hw => rShortPicture_c y _ _ _ hSy w) ?_
 | refine S_call (f := 54) rfl obQ (by kernel_rfl) (fun w hw => rShortPicture_c z _ _ _ hSz w) ?_
     )
 | (refine D_id ?_; first
 | refine D_nil ?_
 | refine D_tail ?_
 | refine D_run rfl rfl obQ obQ ?_
 | refine D_call (f := 20) rfl obQ (by kernel_rfl) (fun w hw => awake_c w (hw.rdm hO.toS memQ) (Pw_at hP hw memQ)) ?_
 | refine D_call (f := 54) rfl obQ (by kernel_rfl) (fun w hw => rShortPicture_c x _ _ _ hSx w) ?_
 | refine D_call (f := 54) rfl obQ (by kernel_rfl) (fun w hw => rShortPicture_c y _ _ _ hSy w) ?_
 | refine D_call (f := 54) rfl obQ (by kernel_rfl) (fun w hw => rShortPicture_c z _ _ _ hSz w) ?_
     )
 | (refine G_id ?_; first
 | refine G_then ?_
 | refine G_block ?_
 | refine G_blockX ?_
 | refine G_blockN rfl ?_
 | refine G_blockR ?_
 | refine G_thenR ?_
 | refine G_thenX ?_
 | refine G_ret rfl obQ (fun w hw => ⟨?_, hw.below⟩)
     )
     )
    all_goals rfl
  cases hSz : shortB z
  · repeat' (first
 | (refine C_id ?_; first
 | refine C_seq ?_
 | refine C_region rfl ?_
 | refine C_block ?_
 | refine C_skip ?_
 | refine C_exit ?_
 | refine C_ret0 ?_
 | refine C_drawT (id := 3) 7 rfl mixed (by kernel_rfl) rfl rfl ?_
 | refine C_drawT (id := 4) 4 rfl mixed (by kernel_rfl) rfl rfl ?_
 | refine C_condT rfl obQ ?_
 | refine C_condF rfl obQ ?_
 | (refine C_cond rfl obQ (fun h => ?_) (fun h => ?_) <;> (try simp only [Bool.or_eq_true, Bool.and_eq_true, Bool.or_eq_false_iff, Bool.and_eq_false_iff, decide_eq_true_eq, decide_eq_false_iff_not, beq_iff_eq, bne_iff_ne, beq_eq_false_iff_ne, bne_eq_false_iff_eq, ne_eq, Decidable.not_not, List.cons.injEq, and_true, Bool.not_eq_true', Bool.not_eq_false', Int.not_lt, Int.not_le] at h) <;> (try (exfalso; omega)) <;> (try (exfalso; simp at h; done)) <;> (try (exfalso; simp only [not_true_eq_false, false_or, or_false] at h; omega)) <;> (try contradiction))
     )
 | (refine S_id ?_; first
 | ((with_reducible (first | refine S_falseN ?_ ?_ | refine S_falseB ?_ ?_ | refine S_falseL ?_ ?_ | refine S_falseD ?_ ?_ | refine S_falseE ?_ ?_)); · (first | rfl | omega))
 | ((with_reducible refine S_falseO ?_ ?_ ?_); (· rfl); (· first | rfl | (first | rfl | omega)))
 | ((with_reducible (first | refine S_trueE ?_ ?_ | refine S_trueB ?_ ?_ | refine S_trueL ?_ ?_ | refine S_trueD ?_ ?_ | refine S_trueN ?_ ?_)); · (first | exact beq_self_eq_true _ | rfl | omega))
 | ((with_reducible refine S_trueA ?_ ?_ ?_); (· rfl); (· first | rfl | (first | exact beq_self_eq_true _ | rfl | omega)))
 | refine S_unG rfl rfl rfl rfl ?_
 | refine S_offG (.v (.bool false)) rfl rfl rfl rfl rfl ?_
 | refine S_nil ?_
 | refine S_runN rfl rfl obQ obQ ?_
 | refine S_box (fun bb => ⟨_, _, rfl, obQ, ?_⟩)
 | refine S_slice (fun b => ⟨_, _, rfl, obQ, ?_⟩)
 | refine S_call (f := 20) rfl obQ (by kernel_rfl) (fun w hw => awake_c w (hw.rdm hO.toS memQ) (Pw_at hP hw memQ)) ?_
 | refine S_call (f := 54) rfl obQ (by kernel_rfl) (fun w hw => rShortPicture_c x _ _ _ hSx w) ?_
 | refine S_call (f := 54) rfl obQ (by kernel_rfl) (fun w hw => rShortPicture_c y _ _ _ hSy w) ?_
 | refine S_call (f := 54) rfl obQ (by kernel_rfl) (fun w hw => rShortPicture_c z _ _ _ hSz w) ?_
     )
 | (refine D_id ?_; first
 | refine D_nil ?_
 | refine D_tail ?_
 | refine D_run rfl rfl obQ obQ ?_
 | refine D_call (f := 20) rfl obQ (by kernel_rfl) (fun w hw => awake_c w (hw.rdm hO.toS memQ) (Pw_at hP hw memQ)) ?_
 | refine D_call (f := 54) rfl obQ (by kernel_rfl) (fun w hw => rShortPicture_c x _ _ _ hSx w) ?_
 | refine D_call (f := 54) rfl obQ (by kernel_rfl) (fun w hw => rShortPicture_c y _ _ _ hSy w) ?_
 | refine D_call (f := 54) rfl obQ (by kernel_rfl) (fun w hw => rShortPicture_c z _ _ _ hSz w) ?_
     )
 | (refine G_id ?_; first
 | refine G_then ?_
 | refine G_block ?_
 | refine G_blockX ?_
 | refine G_blockN rfl ?_
 | refine G_blockR ?_
 | refine G_thenR ?_
 | refine G_thenX ?_
 | refine G_ret rfl obQ (fun w hw => ⟨?_, hw.below⟩)
     )
     )
    all_goals rfl
  obtain ⟨hx40, hx160⟩ := shortB_ok hSx
  obtain ⟨hy40, hy160⟩ := shortB_ok hSy
  obtain ⟨hz40, hz160⟩ := shortB_ok hSz
  have hsx : x.s.length ≤ 1000000 := by omega
  have hsy : y.s.length ≤ 1000000 := by omega
  have hsz : z.s.length ≤ 1000000 := by omega
  by_cases h1 : thE x y z = 0
  · by_cases h2 : wtE wa wb wc = 0
    · have hT : firstL [thE x y z, wtE wa wb wc] = 0 := by rw [firstL, if_pos h1, firstL, if_pos h2]; rfl
      have ht := th_ok.1 h1
      have hwt := wt_ok.1 h2
      obtain ⟨_, h0⟩ := pic_len ht.px
      have hln := ht.len
      obtain ⟨ax, rfl⟩ := hrx.some (by simp; omega)
      obtain ⟨ay, rfl⟩ := hry.some (by simp; omega)
      obtain ⟨az, rfl⟩ := hrz.some (by simp; omega)
      repeat' (first
 | (refine C_id ?_; first
 | refine C_seq ?_
 | refine C_region rfl ?_
 | refine C_block ?_
 | refine C_skip ?_
 | refine C_exit ?_
 | refine C_ret0 ?_
 | refine C_drawTr (id := 3) 9 (.q 0 (.q 2 (.two 1 7 (.two 3 7 (.q 4 (.q 5 (.q 6 (.n 7 (.n 8 .nil))))) (.n 3 (.q 4 (.q 5 (.q 6 (.n 8 .nil)))))) (.n 1 (.n 3 (.q 4 (.q 5 (.q 6 (.n 8 .nil))))))))) rfl mixed (by kernel_rfl) rfl ?_
 | refine C_drawV (id := 4) 3 [(0, true), (2, true), (1, false)] rfl mixed (by kernel_rfl) rfl ?_
 | refine C_condT rfl obQ ?_
 | refine C_condF rfl obQ ?_
 | (refine C_cond rfl obQ (fun h => ?_) (fun h => ?_) <;> (try simp only [Bool.or_eq_true, Bool.and_eq_true, Bool.or_eq_false_iff, Bool.and_eq_false_iff, decide_eq_true_eq, decide_eq_false_iff_not, beq_iff_eq, bne_iff_ne, beq_eq_false_iff_ne, bne_eq_false_iff_eq, ne_eq, Decidable.not_not, List.cons.injEq, and_true, Bool.not_eq_true', Bool.not_eq_false', Int.not_lt, Int.not_le] at h) <;> (try (exfalso; omega)) <;> (try (exfalso; simp at h; done)) <;> (try (exfalso; simp only [not_true_eq_false, false_or, or_false] at h; omega)) <;> (try contradiction))
       )
 | (refine S_id ?_; first
 | ((with_reducible (first | refine S_falseN ?_ ?_ | refine S_falseB ?_ ?_ | refine S_falseL ?_ ?_ | refine S_falseD ?_ ?_ | refine S_falseE ?_ ?_)); · (first | rfl | omega))
 | ((with_reducible refine S_falseO ?_ ?_ ?_); (· rfl); (· first | rfl | (first | rfl | omega)))
 | ((with_reducible (first | refine S_trueE ?_ ?_ | refine S_trueB ?_ ?_ | refine S_trueL ?_ ?_ | refine S_trueD ?_ ?_ | refine S_trueN ?_ ?_)); · (first | exact beq_self_eq_true _ | rfl | omega))
 | ((with_reducible refine S_trueA ?_ ?_ ?_); (· rfl); (· first | rfl | (first | exact beq_self_eq_true _ | rfl | omega)))
 | refine S_unG rfl rfl rfl rfl ?_
 | refine S_offG (.v (.bool false)) rfl rfl rfl rfl rfl ?_
 | (refine S_callM (f := 62) rfl obQ (by kernel_rfl) (fun w hw => lthree_c x y z _ _ _ _ _ _ hsx hsy hsz hax hay haz w (hw.rdm hrx.toS memQ) (hw.rdm hry.toS memQ) (hw.rdm hrz.toS memQ)) (fun w1T w2T vT hw1T hbT hRT => ?_); obtain ⟨TX, eX, TY, eY, TZ, eZ, rfl, hSTX, hSTY, hSTZ⟩ := hRT; obtain ⟨tX, rfl⟩ := rdS_some hSTX (by simp; omega); obtain ⟨tY, rfl⟩ := rdS_some hSTY (by simp; omega); obtain ⟨tZ, rfl⟩ := rdS_some hSTZ (by simp; omega))
 | (refine S_callM (f := 61) rfl obQ (by kernel_rfl) (fun w hw => luma_as h1 h2 hsx hsy hsz (hw.rdm hSTX memQ) (hw.rdm hSTY memQ) (hw.rdm hSTZ memQ)) (fun w1L w2L vL hw1L hbL hRL => ?_); obtain ⟨AL, cL, rfl, hSL⟩ := hRL)
 | (refine S_callM (f := 65) rfl obQ (by kernel_rfl) (fun w hw => rLuma_c x y z _ _ _ _ _ _ ht wa wb wc hwt w (hw.rdm hrx.toS memQ) (hw.rdm hry.toS memQ) (hw.rdm hrz.toS memQ)) (fun w1R w2R vR hw1R hbR hRR => ?_); obtain ⟨AR, cR, rfl, hSR⟩ := hRR)
 | refine S_nil ?_
 | refine S_runN rfl rfl obQ obQ ?_
 | refine S_box (fun bb => ⟨_, _, rfl, obQ, ?_⟩)
 | refine S_slice (fun b => ⟨_, _, rfl, obQ, ?_⟩)
 | refine S_call (f := 20) rfl obQ (by kernel_rfl) (fun w hw => awake_c w (hw.rdm hO.toS memQ) (Pw_at hP hw memQ)) ?_
 | refine S_call (f := 54) rfl obQ (by kernel_rfl) (fun w hw => rShortPicture_c x _ _ _ hSx w) ?_
 | refine S_call (f := 54) rfl obQ (by kernel_rfl) (fun w hw => rShortPicture_c y _ _ _ hSy w) ?_
 | refine S_call (f := 54) rfl obQ (by kernel_rfl) (fun w hw => rShortPicture_c z _ _ _ hSz w) ?_
 | refine S_call (f := 63) rfl obQ (by kernel_rfl) (fun w hw => rCheckThree_c x y z _ _ _ _ _ _ hsx hsy hsz hnx hny hnz w (hw.rdm hrx.toS memQ) (hw.rdm hry.toS memQ) (hw.rdm hrz.toS memQ)) ?_
 | refine S_call (f := 64) rfl obQ (by kernel_rfl) (fun w hw => rCheckWeights_c wa wb wc w) ?_
 | refine S_call (f := 27) rfl obQ (by kernel_rfl) (fun w hw => lfirstE_c (l := [thE x y z, wtE wa wb wc]) hT (by simp) rfl _ w (.inr ⟨_, rfl, hw.src (i := 3) rfl rfl⟩)) ?_
 | refine S_call (f := 60) rfl obQ (by kernel_rfl) (fun w hw => lone_c (luP x y z wa wb wc) _ _ _ _ (by rw [luP_len]; omega) (luP_fin hwt) w (hw.rdm hSL memQ) (hw.rdm hSR memQ)) ?_
       )
 | (refine D_id ?_; first
 | refine D_nil ?_
 | refine D_tail ?_
 | refine D_run rfl rfl obQ obQ ?_
 | refine D_call (f := 20) rfl obQ (by kernel_rfl) (fun w hw => awake_c w (hw.rdm hO.toS memQ) (Pw_at hP hw memQ)) ?_
 | refine D_call (f := 54) rfl obQ (by kernel_rfl) (fun w hw => rShortPicture_c x _ _ _ hSx w) ?_
 | refine D_call (f := 54) rfl obQ (by kernel_rfl) (fun w hw => rShortPicture_c y _ _ _ hSy w) ?_
 | refine D_call (f := 54) rfl obQ (by kernel_rfl) (fun w hw => rShortPicture_c z _ _ _ hSz w) ?_
 | refine D_call (f := 63) rfl obQ (by kernel_rfl) (fun w hw => rCheckThree_c x y z _ _ _ _ _ _ hsx hsy hsz hnx hny hnz w (hw.rdm hrx.toS memQ) (hw.rdm hry.toS memQ) (hw.rdm hrz.toS memQ)) ?_
 | refine D_call (f := 64) rfl obQ (by kernel_rfl) (fun w hw => rCheckWeights_c wa wb wc w) ?_
 | refine D_call (f := 27) rfl obQ (by kernel_rfl) (fun w hw => lfirstE_c (l := [thE x y z, wtE wa wb wc]) hT (by simp) rfl _ w (.inr ⟨_, rfl, hw.src (i := 3) rfl rfl⟩)) ?_
 | refine D_call (f := 60) rfl obQ (by kernel_rfl) (fun w hw => lone_c (luP x y z wa wb wc) _ _ _ _ (by rw [luP_len]; omega) (luP_fin hwt) w (hw.rdm hSL memQ) (hw.rdm hSR memQ)) ?_
       )
 | (refine V_id ?_; first
 | refine V_nil ?_
 | refine V_q rfl (Yl_step rfl obQ) ?_
 | refine V_n rfl ?_
       )
 | (refine VT_id ?_; first
 | refine VT_nil ?_
 | refine VT_q rfl (Yl_step rfl obQ) ?_
 | refine VT_n rfl ?_
 | refine VT_two rfl rfl ?_ ?_
       )
 | (refine G_id ?_; first
 | refine G_V ⟨⟨_, rfl, trivial⟩, ⟨_, rfl⟩, rfl, pstQ⟩ rfl ?_
 | refine G_VT2 ⟨_, rfl⟩ ⟨_, rfl⟩ pstQ rfl ?_
 | refine G_then ?_
 | refine G_block ?_
 | refine G_blockX ?_
 | refine G_blockN rfl ?_
 | refine G_blockR ?_
 | refine G_thenR ?_
 | refine G_thenX ?_
 | refine G_ret rfl obQ (fun w hw => ⟨?_, hw.below⟩)
       )
       )
      all_goals rfl
    · have hT : firstL [thE x y z, wtE wa wb wc] = wtE wa wb wc := by rw [firstL, if_pos h1, firstL, if_neg h2]
      have hV := luR_2 h1 h2
      have hne := h2
      repeat' (first
 | (refine C_id ?_; first
 | refine C_seq ?_
 | refine C_region rfl ?_
 | refine C_block ?_
 | refine C_skip ?_
 | refine C_exit ?_
 | refine C_ret0 ?_
 | refine C_drawTr (id := 3) 9 (.q 0 (.q 2 (.two 1 7 (.two 3 7 (.q 4 (.q 5 (.q 6 (.n 7 (.n 8 .nil))))) (.n 3 (.q 4 (.q 5 (.q 6 (.n 8 .nil)))))) (.n 1 (.n 3 (.q 4 (.q 5 (.q 6 (.n 8 .nil))))))))) rfl mixed (by kernel_rfl) rfl ?_
 | refine C_drawV (id := 4) 3 [(0, true), (2, true), (1, false)] rfl mixed (by kernel_rfl) rfl ?_
 | refine C_condT rfl obQ ?_
 | refine C_condF rfl obQ ?_
 | (refine C_cond rfl obQ (fun h => ?_) (fun h => ?_) <;> (try simp only [Bool.or_eq_true, Bool.and_eq_true, Bool.or_eq_false_iff, Bool.and_eq_false_iff, decide_eq_true_eq, decide_eq_false_iff_not, beq_iff_eq, bne_iff_ne, beq_eq_false_iff_ne, bne_eq_false_iff_eq, ne_eq, Decidable.not_not, List.cons.injEq, and_true, Bool.not_eq_true', Bool.not_eq_false', Int.not_lt, Int.not_le] at h) <;> (try (exfalso; omega)) <;> (try (exfalso; simp at h; done)) <;> (try (exfalso; simp only [not_true_eq_false, false_or, or_false] at h; omega)) <;> (try contradiction))
       )
 | (refine S_id ?_; first
 | ((with_reducible (first | refine S_falseN ?_ ?_ | refine S_falseB ?_ ?_ | refine S_falseL ?_ ?_ | refine S_falseD ?_ ?_ | refine S_falseE ?_ ?_)); · (first | rfl | omega))
 | ((with_reducible refine S_falseO ?_ ?_ ?_); (· rfl); (· first | rfl | (first | rfl | omega)))
 | ((with_reducible (first | refine S_trueE ?_ ?_ | refine S_trueB ?_ ?_ | refine S_trueL ?_ ?_ | refine S_trueD ?_ ?_ | refine S_trueN ?_ ?_)); · (first | exact beq_self_eq_true _ | rfl | omega))
 | ((with_reducible refine S_trueA ?_ ?_ ?_); (· rfl); (· first | rfl | (first | exact beq_self_eq_true _ | rfl | omega)))
 | refine S_unG rfl rfl rfl rfl ?_
 | refine S_offG (.v (.bool false)) rfl rfl rfl rfl rfl ?_
 | (refine S_callM (f := 62) rfl obQ (by kernel_rfl) (fun w hw => lthree_c x y z _ _ _ _ _ _ hsx hsy hsz hax hay haz w (hw.rdm hrx.toS memQ) (hw.rdm hry.toS memQ) (hw.rdm hrz.toS memQ)) (fun w1T w2T vT hw1T hbT hRT => ?_); obtain ⟨TX, eX, TY, eY, TZ, eZ, rfl, hSTX, hSTY, hSTZ⟩ := hRT)
 | (refine S_callM (f := 61) rfl obQ (by kernel_rfl) (fun w hw => LumaE_c x y z _ _ _ _ _ _ hsx hsy hsz wa wb wc _ hne hV w (hw.rdm hSTX memQ) (hw.rdm hSTY memQ) (hw.rdm hSTZ memQ)) (fun w1L w2L vL hw1L hbL hRL => ?_); obtain ⟨AL, cL, rfl, hSL⟩ := hRL)
 | refine S_nil ?_
 | refine S_runN rfl rfl obQ obQ ?_
 | refine S_box (fun bb => ⟨_, _, rfl, obQ, ?_⟩)
 | refine S_slice (fun b => ⟨_, _, rfl, obQ, ?_⟩)
 | refine S_call (f := 20) rfl obQ (by kernel_rfl) (fun w hw => awake_c w (hw.rdm hO.toS memQ) (Pw_at hP hw memQ)) ?_
 | refine S_call (f := 54) rfl obQ (by kernel_rfl) (fun w hw => rShortPicture_c x _ _ _ hSx w) ?_
 | refine S_call (f := 54) rfl obQ (by kernel_rfl) (fun w hw => rShortPicture_c y _ _ _ hSy w) ?_
 | refine S_call (f := 54) rfl obQ (by kernel_rfl) (fun w hw => rShortPicture_c z _ _ _ hSz w) ?_
 | refine S_call (f := 63) rfl obQ (by kernel_rfl) (fun w hw => rCheckThree_c x y z _ _ _ _ _ _ hsx hsy hsz hnx hny hnz w (hw.rdm hrx.toS memQ) (hw.rdm hry.toS memQ) (hw.rdm hrz.toS memQ)) ?_
 | refine S_call (f := 64) rfl obQ (by kernel_rfl) (fun w hw => rCheckWeights_c wa wb wc w) ?_
 | refine S_call (f := 27) rfl obQ (by kernel_rfl) (fun w hw => lfirstE_c (l := [thE x y z, wtE wa wb wc]) hT (by simp) rfl _ w (.inr ⟨_, rfl, hw.src (i := 3) rfl rfl⟩)) ?_
 | refine S_call (f := 60) rfl obQ (by kernel_rfl) (fun w hw => loneE_c _ hne zP _ none _ 0 w) ?_
       )
 | (refine D_id ?_; first
 | refine D_nil ?_
 | refine D_tail ?_
 | refine D_run rfl rfl obQ obQ ?_
 | refine D_call (f := 20) rfl obQ (by kernel_rfl) (fun w hw => awake_c w (hw.rdm hO.toS memQ) (Pw_at hP hw memQ)) ?_
 | refine D_call (f := 54) rfl obQ (by kernel_rfl) (fun w hw => rShortPicture_c x _ _ _ hSx w) ?_
 | refine D_call (f := 54) rfl obQ (by kernel_rfl) (fun w hw => rShortPicture_c y _ _ _ hSy w) ?_
 | refine D_call (f := 54) rfl obQ (by kernel_rfl) (fun w hw => rShortPicture_c z _ _ _ hSz w) ?_
 | refine D_call (f := 63) rfl obQ (by kernel_rfl) (fun w hw => rCheckThree_c x y z _ _ _ _ _ _ hsx hsy hsz hnx hny hnz w (hw.rdm hrx.toS memQ) (hw.rdm hry.toS memQ) (hw.rdm hrz.toS memQ)) ?_
 | refine D_call (f := 64) rfl obQ (by kernel_rfl) (fun w hw => rCheckWeights_c wa wb wc w) ?_
 | refine D_call (f := 27) rfl obQ (by kernel_rfl) (fun w hw => lfirstE_c (l := [thE x y z, wtE wa wb wc]) hT (by simp) rfl _ w (.inr ⟨_, rfl, hw.src (i := 3) rfl rfl⟩)) ?_
 | refine D_call (f := 60) rfl obQ (by kernel_rfl) (fun w hw => loneE_c _ hne zP _ none _ 0 w) ?_
       )
 | (refine V_id ?_; first
 | refine V_nil ?_
 | refine V_q rfl (Yl_step rfl obQ) ?_
 | refine V_n rfl ?_
       )
 | (refine VT_id ?_; first
 | refine VT_nil ?_
 | refine VT_q rfl (Yl_step rfl obQ) ?_
 | refine VT_n rfl ?_
 | refine VT_two rfl rfl ?_ ?_
       )
 | (refine G_id ?_; first
 | refine G_V ⟨⟨_, rfl, trivial⟩, ⟨_, rfl⟩, rfl, pstQ⟩ rfl ?_
 | refine G_VT2 ⟨_, rfl⟩ ⟨_, rfl⟩ pstQ rfl ?_
 | refine G_then ?_
 | refine G_block ?_
 | refine G_blockX ?_
 | refine G_blockN rfl ?_
 | refine G_blockR ?_
 | refine G_thenR ?_
 | refine G_thenX ?_
 | refine G_ret rfl obQ (fun w hw => ⟨?_, hw.below⟩)
       )
       )
      all_goals rfl
  · have hT : firstL [thE x y z, wtE wa wb wc] = thE x y z := by rw [firstL, if_neg h1]
    have hV := luR_1 (a := wa) (b := wb) (c := wc) h1
    have hne := h1
    repeat' (first
 | (refine C_id ?_; first
 | refine C_seq ?_
 | refine C_region rfl ?_
 | refine C_block ?_
 | refine C_skip ?_
 | refine C_exit ?_
 | refine C_ret0 ?_
 | refine C_drawTr (id := 3) 9 (.q 0 (.q 2 (.two 1 7 (.two 3 7 (.q 4 (.q 5 (.q 6 (.n 7 (.n 8 .nil))))) (.n 3 (.q 4 (.q 5 (.q 6 (.n 8 .nil)))))) (.n 1 (.n 3 (.q 4 (.q 5 (.q 6 (.n 8 .nil))))))))) rfl mixed (by kernel_rfl) rfl ?_
 | refine C_drawV (id := 4) 3 [(0, true), (2, true), (1, false)] rfl mixed (by kernel_rfl) rfl ?_
 | refine C_condT rfl obQ ?_
 | refine C_condF rfl obQ ?_
 | (refine C_cond rfl obQ (fun h => ?_) (fun h => ?_) <;> (try simp only [Bool.or_eq_true, Bool.and_eq_true, Bool.or_eq_false_iff, Bool.and_eq_false_iff, decide_eq_true_eq, decide_eq_false_iff_not, beq_iff_eq, bne_iff_ne, beq_eq_false_iff_ne, bne_eq_false_iff_eq, ne_eq, Decidable.not_not, List.cons.injEq, and_true, Bool.not_eq_true', Bool.not_eq_false', Int.not_lt, Int.not_le] at h) <;> (try (exfalso; omega)) <;> (try (exfalso; simp at h; done)) <;> (try (exfalso; simp only [not_true_eq_false, false_or, or_false] at h; omega)) <;> (try contradiction))
     )
 | (refine S_id ?_; first
 | ((with_reducible (first | refine S_falseN ?_ ?_ | refine S_falseB ?_ ?_ | refine S_falseL ?_ ?_ | refine S_falseD ?_ ?_ | refine S_falseE ?_ ?_)); · (first | rfl | omega))
 | ((with_reducible refine S_falseO ?_ ?_ ?_); (· rfl); (· first | rfl | (first | rfl | omega)))
 | ((with_reducible (first | refine S_trueE ?_ ?_ | refine S_trueB ?_ ?_ | refine S_trueL ?_ ?_ | refine S_trueD ?_ ?_ | refine S_trueN ?_ ?_)); · (first | exact beq_self_eq_true _ | rfl | omega))
 | ((with_reducible refine S_trueA ?_ ?_ ?_); (· rfl); (· first | rfl | (first | exact beq_self_eq_true _ | rfl | omega)))
 | refine S_unG rfl rfl rfl rfl ?_
 | refine S_offG (.v (.bool false)) rfl rfl rfl rfl rfl ?_
 | (refine S_callM (f := 62) rfl obQ (by kernel_rfl) (fun w hw => lthree_c x y z _ _ _ _ _ _ hsx hsy hsz hax hay haz w (hw.rdm hrx.toS memQ) (hw.rdm hry.toS memQ) (hw.rdm hrz.toS memQ)) (fun w1T w2T vT hw1T hbT hRT => ?_); obtain ⟨TX, eX, TY, eY, TZ, eZ, rfl, hSTX, hSTY, hSTZ⟩ := hRT)
 | (refine S_callM (f := 61) rfl obQ (by kernel_rfl) (fun w hw => LumaE_c x y z _ _ _ _ _ _ hsx hsy hsz wa wb wc _ hne hV w (hw.rdm hSTX memQ) (hw.rdm hSTY memQ) (hw.rdm hSTZ memQ)) (fun w1L w2L vL hw1L hbL hRL => ?_); obtain ⟨AL, cL, rfl, hSL⟩ := hRL)
 | refine S_nil ?_
 | refine S_runN rfl rfl obQ obQ ?_
 | refine S_box (fun bb => ⟨_, _, rfl, obQ, ?_⟩)
 | refine S_slice (fun b => ⟨_, _, rfl, obQ, ?_⟩)
 | refine S_call (f := 20) rfl obQ (by kernel_rfl) (fun w hw => awake_c w (hw.rdm hO.toS memQ) (Pw_at hP hw memQ)) ?_
 | refine S_call (f := 54) rfl obQ (by kernel_rfl) (fun w hw => rShortPicture_c x _ _ _ hSx w) ?_
 | refine S_call (f := 54) rfl obQ (by kernel_rfl) (fun w hw => rShortPicture_c y _ _ _ hSy w) ?_
 | refine S_call (f := 54) rfl obQ (by kernel_rfl) (fun w hw => rShortPicture_c z _ _ _ hSz w) ?_
 | refine S_call (f := 63) rfl obQ (by kernel_rfl) (fun w hw => rCheckThree_c x y z _ _ _ _ _ _ hsx hsy hsz hnx hny hnz w (hw.rdm hrx.toS memQ) (hw.rdm hry.toS memQ) (hw.rdm hrz.toS memQ)) ?_
 | refine S_call (f := 64) rfl obQ (by kernel_rfl) (fun w hw => rCheckWeights_c wa wb wc w) ?_
 | refine S_call (f := 27) rfl obQ (by kernel_rfl) (fun w hw => lfirstE_c (l := [thE x y z, wtE wa wb wc]) hT (by simp) rfl _ w (.inr ⟨_, rfl, hw.src (i := 3) rfl rfl⟩)) ?_
 | refine S_call (f := 60) rfl obQ (by kernel_rfl) (fun w hw => loneE_c _ hne zP _ none _ 0 w) ?_
     )
 | (refine D_id ?_; first
 | refine D_nil ?_
 | refine D_tail ?_
 | refine D_run rfl rfl obQ obQ ?_
 | refine D_call (f := 20) rfl obQ (by kernel_rfl) (fun w hw => awake_c w (hw.rdm hO.toS memQ) (Pw_at hP hw memQ)) ?_
 | refine D_call (f := 54) rfl obQ (by kernel_rfl) (fun w hw => rShortPicture_c x _ _ _ hSx w) ?_
 | refine D_call (f := 54) rfl obQ (by kernel_rfl) (fun w hw => rShortPicture_c y _ _ _ hSy w) ?_
 | refine D_call (f := 54) rfl obQ (by kernel_rfl) (fun w hw => rShortPicture_c z _ _ _ hSz w) ?_
 | refine D_call (f := 63) rfl obQ (by kernel_rfl) (fun w hw => rCheckThree_c x y z _ _ _ _ _ _ hsx hsy hsz hnx hny hnz w (hw.rdm hrx.toS memQ) (hw.rdm hry.toS memQ) (hw.rdm hrz.toS memQ)) ?_
 | refine D_call (f := 64) rfl obQ (by kernel_rfl) (fun w hw => rCheckWeights_c wa wb wc w) ?_
 | refine D_call (f := 27) rfl obQ (by kernel_rfl) (fun w hw => lfirstE_c (l := [thE x y z, wtE wa wb wc]) hT (by simp) rfl _ w (.inr ⟨_, rfl, hw.src (i := 3) rfl rfl⟩)) ?_
 | refine D_call (f := 60) rfl obQ (by kernel_rfl) (fun w hw => loneE_c _ hne zP _ none _ 0 w) ?_
     )
 | (refine V_id ?_; first
 | refine V_nil ?_
 | refine V_q rfl (Yl_step rfl obQ) ?_
 | refine V_n rfl ?_
     )
 | (refine VT_id ?_; first
 | refine VT_nil ?_
 | refine VT_q rfl (Yl_step rfl obQ) ?_
 | refine VT_n rfl ?_
 | refine VT_two rfl rfl ?_ ?_
     )
 | (refine G_id ?_; first
 | refine G_V ⟨⟨_, rfl, trivial⟩, ⟨_, rfl⟩, rfl, pstQ⟩ rfl ?_
 | refine G_VT2 ⟨_, rfl⟩ ⟨_, rfl⟩ pstQ rfl ?_
 | refine G_then ?_
 | refine G_block ?_
 | refine G_blockX ?_
 | refine G_blockN rfl ?_
 | refine G_blockR ?_
 | refine G_thenR ?_
 | refine G_thenX ?_
 | refine G_ret rfl obQ (fun w hw => ⟨?_, hw.below⟩)
     )
     )
    all_goals rfl

end Go.Proofs.YtdbffbcobghbeaaGreatDoor
