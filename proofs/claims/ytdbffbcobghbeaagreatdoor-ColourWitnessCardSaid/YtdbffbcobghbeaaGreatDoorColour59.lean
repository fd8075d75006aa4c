/- Luma: the reference, and where the program refuses. -/
import Derived.Test.YtdbffbcobghbeaaGreatDoorColour58
namespace Go.Proofs.YtdbffbcobghbeaaGreatDoor
open Go.E Go.RowKit Go.Fl
attribute [local irreducible] G C S D Calls
set_option maxRecDepth 100000
set_option linter.unusedSimpArgs false
set_option linter.unusedVariables false

set_option maxHeartbeats 2000000 in
/-- genlockref02.Luma -/
theorem rLuma_c (x y z : Pic) (ax ay az : Addr) (cx cy cz : Nat) (ht : ThOk x y z) (wa wb wc : Int) (hwt : WtOk wa wb wc) (w : World) (hrx : Rd w (some ax) (x.s.map (.float .f32))) (hry : Rd w (some ay) (y.s.map (.float .f32))) (hrz : Rd w (some az) (z.s.map (.float .f32))) : Calls Tryz.prog 65 #[.agg #[.string x.nm, .int .i64 x.w, .int .i64 x.h, .slice (some ax) x.s.length cx, .string y.nm, .int .i64 y.w, .int .i64 y.h, .slice (some ay) y.s.length cy, .string z.nm, .int .i64 z.w, .int .i64 z.h, .slice (some az) z.s.length cz], .agg #[.int .i64 wa, .int .i64 wb, .int .i64 wc]] w fun r w' => ∃ v, r = .returned v ∧ Below w.heap.size w w' ∧ PicA w w' v (luP x y z wa wb wc) := by
  refine calls_of (args := [.agg #[.string x.nm, .int .i64 x.w, .int .i64 x.h, .slice (some ax) x.s.length cx, .string y.nm, .int .i64 y.w, .int .i64 y.h, .slice (some ay) y.s.length cy, .string z.nm, .int .i64 z.w, .int .i64 z.h, .slice (some az) z.s.length cz], .agg #[.int .i64 wa, .int .i64 wb, .int .i64 wc]]) T_ok Tryz.func65 rfl Tryz.ntmps65 (Nat.le_of_ble_eq_true rfl) rfl ?_
  obtain ⟨h4, h0⟩ := pic_len ht.px
  have hsx : x.s.length ≤ 1000000 := by omega
  have hwa := hwt.wa
  have hwb := hwt.wb
  have hwc := hwt.wc
  repeat' (first
 | (refine C_id ?_; first
 | refine C_seq ?_
 | refine C_region rfl ?_
 | refine C_block ?_
 | refine C_skip ?_
 | refine C_exit ?_
 | refine C_ret0 ?_
 | refine C_drawT (id := 6) 23 rfl mixed (by kernel_rfl) rfl rfl ?_
 | refine C_condT rfl obQ ?_
 | refine C_condF rfl obQ ?_
 | (refine C_cond rfl obQ (fun h => ?_) (fun h => ?_) <;> (try simp only [Bool.or_eq_true, Bool.and_eq_true, Bool.or_eq_false_iff, Bool.and_eq_false_iff, decide_eq_true_eq, decide_eq_false_iff_not, beq_iff_eq, bne_iff_ne, beq_eq_false_iff_ne, bne_eq_false_iff_eq, ne_eq, Decidable.not_not, List.cons.injEq, and_true, Bool.not_eq_true', Bool.not_eq_false', Int.not_lt, Int.not_le] at h))
   )
 | (refine S_id ?_; first
 | (refine S_callRws (f := 142) rfl obQ (by kernel_rfl) (fun w hw => rOwnR_c x (some ax) cx hsx h0 (fun h => by cases h) w (hw.rdm hrx.toS memQ)) (fun v rs hR => ?_); obtain ⟨g, cR, rfl, rfl⟩ := hR)
 | refine S_nil ?_
 | refine S_run rfl rfl obQ obQ ?_
 | refine S_box (fun b => ⟨_, _, rfl, obQ, ?_⟩)
   )
 | (refine D_id ?_; first
 | refine D_nil ?_
 | refine D_tail ?_
 | refine D_run rfl rfl obQ obQ ?_
   )
 | (refine G_id ?_; first
 | refine G_then ?_
 | refine G_block ?_
 | refine G_blockX ?_
 | refine G_blockN rfl ?_
 | refine G_blockR ?_
 | refine G_thenR ?_
 | refine G_thenX ?_
 | refine G_ret rfl obQ (fun w hw => ⟨?_, hw.below⟩)
   )
   )
  rename_i b2 b3 b4
  obtain ⟨b5, rfl⟩ : ∃ z, z = b := ⟨b, rfl⟩
  refine C_loopS (fun k : Nat => ⟨[(6, .s (.v (.int .i64 k))), (2, .s (.p b2 0 0)), (3, .s (.p b3 1 0)), (4, .s (.p b4 2 0)), (5, .s (.p b5 3 0))], [⟨b2, 106, [.v (.string x.nm), .v (.int .i64 x.w), .v (.int .i64 x.h), .v (.slice (some ax) x.s.length cx), .v (.string y.nm), .v (.int .i64 y.w), .v (.int .i64 y.h), .v (.slice (some ay) y.s.length cy), .v (.string z.nm), .v (.int .i64 z.w), .v (.int .i64 z.h), .v (.slice (some az) z.s.length cz)]⟩, ⟨b3, 50, [.v (.int .i64 wa), .v (.int .i64 wb), .v (.int .i64 wc)]⟩, ⟨b4, 93, [.v (.string ByteArray.empty), .v (.int .i64 0), .v (.int .i64 0), .v (.slice none 0 0)]⟩, ⟨b5, 93, [.v (.string x.nm), .v (.int .i64 x.w), .v (.int .i64 x.h), .v (.slice (some ⟨g, 0, none⟩) x.s.length cR)]⟩], [⟨114, 1, x.s.length, (upX x.s (fun k => smp (luN wa wb wc (plA x y z k))) k).map (.float .f32), .slice (some ⟨g, 0, none⟩) x.s.length cR⟩]⟩) (fun k => k ≤ x.s.length) (fun k => x.s.length - k) 0 (Nat.zero_le _) ?_ (fun k hk0 => ?_)
  · rw [upX_0]
    exact ⟨⟨_, rfl, obQ⟩, ⟨_, rfl⟩, rfl, pstQ⟩
  have hk : k ≤ x.s.length := hk0
  by_cases hlt : k < x.s.length
  · obtain ⟨hok, hgx, hgy, hgz⟩ := plA_ok ht hlt
    obtain ⟨hdd, hlu⟩ := luN_bd hwt hok
    obtain ⟨hq1, hq2, hq3⟩ := hok
    have m1 := mul_ab (A := 256) (X := 16384) (a := wa) (by omega) hq1
    have m2 := mul_ab (A := 256) (X := 16384) (a := wb) (by omega) hq2
    have m3 := mul_ab (A := 256) (X := 16384) (a := wc) (by omega) hq3
    simp only [dotF] at hdd
    repeat' (first
 | (refine C_id ?_; first
 | refine C_seq ?_
 | refine C_region rfl ?_
 | refine C_block ?_
 | refine C_skip ?_
 | refine C_exit ?_
 | refine C_ret0 ?_
 | refine C_drawT (id := 6) 23 rfl mixed (by kernel_rfl) rfl rfl ?_
 | refine C_condT rfl obQ ?_
 | refine C_condF rfl obQ ?_
 | (refine C_cond rfl obQ (fun h => ?_) (fun h => ?_) <;> (try simp only [Bool.or_eq_true, Bool.and_eq_true, Bool.or_eq_false_iff, Bool.and_eq_false_iff, decide_eq_true_eq, decide_eq_false_iff_not, beq_iff_eq, bne_iff_ne, beq_eq_false_iff_ne, bne_eq_false_iff_eq, ne_eq, Decidable.not_not, List.cons.injEq, and_true, Bool.not_eq_true', Bool.not_eq_false', Int.not_lt, Int.not_le] at h) <;> (try (exfalso; omega)) <;> (try (exfalso; simp at h; done)) <;> (try (exfalso; simp only [not_true_eq_false, false_or, or_false] at h; omega)) <;> (try (exfalso; omega)))
     )
 | (refine S_id ?_; first
 | refine S_storeRow rfl obQ rfl rfl rfl 0 rfl rfl (((k : Nat) : Int).toNat * 1) rfl (by dsimp only; rw [List.length_map, upX_len]; omega) (xs' := (upX x.s (fun k => smp (luN wa wb wc (plA x y z k))) (k + 1)).map (.float .f32)) (upX_put (f := (fun k => smp (luN wa wb wc (plA x y z k)))) rfl hlt) rfl ?_
 | refine S_nil ?_
 | refine S_run rfl rfl obQ obQ ?_
 | refine S_box (fun b0 => ⟨_, _, rfl, obQ, ?_⟩)
 | refine S_call (f := 100) rfl obQ (by kernel_rfl) (fun w hw => rColour_c x y z ax ay az cx cy cz ht k hlt hsx w (hw.rdm hrx.toS memQ) (hw.rdm hry.toS memQ) (hw.rdm hrz.toS memQ)) ?_
 | refine S_call (f := 120) rfl obQ (by kernel_rfl) (fun w hw => rRound_c _ _ (by omega) (by omega) w) ?_
 | refine S_call (f := 99) rfl obQ (by kernel_rfl) (fun w hw => rSample_c (luN wa wb wc (plA x y z k)) hlu w) ?_
     )
 | (refine D_id ?_; first
 | refine D_nil ?_
 | refine D_tail ?_
 | refine D_run rfl rfl obQ obQ ?_
 | refine D_call (f := 100) rfl obQ (by kernel_rfl) (fun w hw => rColour_c x y z ax ay az cx cy cz ht k hlt hsx w (hw.rdm hrx.toS memQ) (hw.rdm hry.toS memQ) (hw.rdm hrz.toS memQ)) ?_
 | refine D_call (f := 120) rfl obQ (by kernel_rfl) (fun w hw => rRound_c _ _ (by omega) (by omega) w) ?_
 | refine D_call (f := 99) rfl obQ (by kernel_rfl) (fun w hw => rSample_c (luN wa wb wc (plA x y z k)) hlu w) ?_
     )
 | (refine G_id ?_; first
 | refine G_loop (k + 1) (show k + 1 ≤ x.s.length by omega) (by show x.s.length - (k + 1) < x.s.length - k; omega) ⟨⟨_, rfl, obQ⟩, ⟨_, rfl⟩, rfl, pstQ⟩
 | refine G_then ?_
 | refine G_block ?_
 | refine G_blockX ?_
 | refine G_blockN rfl ?_
 | refine G_blockR ?_
 | refine G_thenR ?_
 | refine G_thenX ?_
 | refine G_ret rfl obQ (fun w hw => ⟨?_, hw.below⟩)
     )
     )
  · obtain rfl : k = x.s.length := by omega
    repeat' (first
 | (refine C_id ?_; first
 | refine C_seq ?_
 | refine C_region rfl ?_
 | refine C_block ?_
 | refine C_skip ?_
 | refine C_exit ?_
 | refine C_ret0 ?_
 | refine C_drawT (id := 6) 23 rfl mixed (by kernel_rfl) rfl rfl ?_
 | refine C_condT rfl obQ ?_
 | refine C_condF rfl obQ ?_
 | (refine C_cond rfl obQ (fun h => ?_) (fun h => ?_) <;> (try simp only [Bool.or_eq_true, Bool.and_eq_true, Bool.or_eq_false_iff, Bool.and_eq_false_iff, decide_eq_true_eq, decide_eq_false_iff_not, beq_iff_eq, bne_iff_ne, beq_eq_false_iff_ne, bne_eq_false_iff_eq, ne_eq, Decidable.not_not, List.cons.injEq, and_true, Bool.not_eq_true', Bool.not_eq_false', Int.not_lt, Int.not_le] at h) <;> (try (exfalso; omega)) <;> (try (exfalso; simp at h; done)) <;> (try (exfalso; simp only [not_true_eq_false, false_or, or_false] at h; omega)) <;> (try (exfalso; omega)))
     )
 | (refine S_id ?_; first
 | refine S_nil ?_
 | refine S_run rfl rfl obQ obQ ?_
 | refine S_box (fun b => ⟨_, _, rfl, obQ, ?_⟩)
     )
 | (refine D_id ?_; first
 | refine D_nil ?_
 | refine D_tail ?_
 | refine D_run rfl rfl obQ obQ ?_
     )
 | (refine G_id ?_; first
 | refine G_then ?_
 | refine G_block ?_
 | refine G_blockX ?_
 | refine G_blockN rfl ?_
 | refine G_blockR ?_
 | refine G_thenR ?_
 | refine G_thenX ?_
 | refine G_ret rfl obQ (fun w2 hw => ⟨_, rfl, hw.below, PicA.of (s := (luP x y z wa wb wc).s) (HW.rowSl (i := 0) hw rfl rfl rfl (by dsimp only [luP]; rw [upX_end, pl_map ht (fun c => smp (luN wa wb wc c))])) (by simp [luP, plL]) rfl⟩)
     )
     )

set_option maxHeartbeats 1000000 in
/-- colour.Luma -/
theorem LumaE_c (x y z : Pic) (Ax Ay Az : Option Addr) (cx cy cz : Nat) (hsx : x.s.length ≤ 1000000) (hsy : y.s.length ≤ 1000000) (hsz : z.s.length ≤ 1000000) (wa wb wc e : Int) (hne : ¬ e = 0) (he : luR x y z wa wb wc = (zP, e)) (w : World) (hrx : Rd w Ax (x.s.map (.float .f32))) (hry : Rd w Ay (y.s.map (.float .f32))) (hrz : Rd w Az (z.s.map (.float .f32))) : Calls Tryz.prog 61 #[.agg #[.string x.nm, .int .i64 x.w, .int .i64 x.h, .slice Ax x.s.length cx, .string y.nm, .int .i64 y.w, .int .i64 y.h, .slice Ay y.s.length cy, .string z.nm, .int .i64 z.w, .int .i64 z.h, .slice Az z.s.length cz], .agg #[.int .i64 wa, .int .i64 wb, .int .i64 wc]] w fun r w' => ∃ v, r = .returned v ∧ Below w.heap.size w w' ∧ PicR w w' v zP e := by
  refine calls_ofM (args := [.agg #[.string x.nm, .int .i64 x.w, .int .i64 x.h, .slice Ax x.s.length cx, .string y.nm, .int .i64 y.w, .int .i64 y.h, .slice Ay y.s.length cy, .string z.nm, .int .i64 z.w, .int .i64 z.h, .slice Az z.s.length cz], .agg #[.int .i64 wa, .int .i64 wb, .int .i64 wc]]) T_ok Tryz.func61 rfl Tryz.ntmps61 (Nat.le_of_ble_eq_true rfl) rfl ?_
  by_cases hE : thE x y z = 0
  · by_cases hW : wtE wa wb wc = 0
    · rw [luR_3 hE hW] at he
      exact absurd (congrArg Prod.snd he).symm hne
    · rw [luR_2 hE hW] at he
      obtain rfl : wtE wa wb wc = e := congrArg Prod.snd he
      repeat' (first
 | (refine C_id ?_; first
 | refine C_seq ?_
 | refine C_region rfl ?_
 | refine C_block ?_
 | refine C_skip ?_
 | refine C_exit ?_
 | refine C_ret0 ?_
 | refine C_drawV (id := 4) 12 [(0, true), (3, true), (4, true), (5, true), (6, true), (7, true), (8, true), (9, true), (10, true), (11, true), (1, false), (2, false)] rfl mixed (by kernel_rfl) rfl ?_
 | refine C_drawT (id := 11) 7 rfl mixed (by kernel_rfl) rfl rfl ?_
 | refine C_condT rfl obQ ?_
 | refine C_condF rfl obQ ?_
 | (refine C_cond rfl obQ (fun h => ?_) (fun h => ?_) <;> (try simp only [Bool.or_eq_true, Bool.and_eq_true, Bool.or_eq_false_iff, Bool.and_eq_false_iff, decide_eq_true_eq, decide_eq_false_iff_not, beq_iff_eq, bne_iff_ne, beq_eq_false_iff_ne, bne_eq_false_iff_eq, ne_eq, Decidable.not_not, List.cons.injEq, and_true, Bool.not_eq_true', Bool.not_eq_false', Int.not_lt, Int.not_le] at h) <;> (try (exfalso; omega)) <;> (try (exfalso; simp at h; done)) <;> (try (exfalso; simp only [not_true_eq_false, false_or, or_false] at h; omega)) <;> (try contradiction))
       )
 | (refine S_id ?_; first
 | refine S_pure (sliceX_pure rfl obQ (fun w => sl_arr Tryz.underlying50 (by kernel_rfl) _ w)) ?_
 | (refine S_callM (f := 129) rfl obQ (by kernel_rfl) (fun w hw => mappedIE_c 147 (g := fun n => wi n 0 256) _ 3 [wa, wb, wc] (by simp) (by kernel_rfl) w (.inr ⟨_, rfl, hw.src (i := 1) rfl rfl⟩) (fun x _ W _ => luma1_c x W)) (fun w1M w2M vM hw1M hbM hRM => ?_); obtain ⟨AM, cM, rfl, hSM⟩ := hRM)
 | refine S_pure (binX_pure rfl obQ (fun w => wrap_add _ _ _ _ _ _ w)) ?_
 | refine S_nil ?_
 | refine S_run rfl rfl obQ obQ ?_
 | refine S_box (fun b => ⟨_, _, rfl, obQ, ?_⟩)
 | refine S_slice (fun b => ⟨_, _, rfl, obQ, ?_⟩)
 | refine S_one rfl obQ ?_
 | refine S_call (f := 146) rfl obQ (by kernel_rfl) (fun w hw => checkThree_c x y z Ax Ay Az cx cy cz hsx hsy hsz w (hw.rdm hrx.toS memQ) (hw.rdm hry.toS memQ) (hw.rdm hrz.toS memQ)) ?_
 | refine S_call (f := 121) rfl obQ (by kernel_rfl) (fun w hw => cwhen_c _ _ w) ?_
 | refine S_call (f := 111) rfl obQ (by kernel_rfl) (fun w hw => cfirst_c _ _ [wi wa 0 256, wi wb 0 256, wi wc 0 256] (by simp) w (hw.rdm hSM memQ)) ?_
 | refine S_call (f := 111) rfl obQ (by kernel_rfl) (fun w hw => firstE_c (l := [wr1 wa wb wc, wh (IntKind.i64.wrap (IntKind.i64.wrap (wa + wb) + wc) != 256) 1]) (wtP_eq wa wb wc) (by simp) rfl _ w (.inr ⟨_, rfl, hw.src (i := 3) rfl rfl⟩)) ?_
       )
 | (refine D_id ?_; first
 | refine D_pure (binX_pure rfl obQ (fun w => wrap_add _ _ _ _ _ _ w)) ?_
 | refine D_nil ?_
 | refine D_tail ?_
 | refine D_run rfl rfl obQ obQ ?_
 | refine D_one rfl obQ ?_
 | refine D_call (f := 146) rfl obQ (by kernel_rfl) (fun w hw => checkThree_c x y z Ax Ay Az cx cy cz hsx hsy hsz w (hw.rdm hrx.toS memQ) (hw.rdm hry.toS memQ) (hw.rdm hrz.toS memQ)) ?_
 | refine D_call (f := 121) rfl obQ (by kernel_rfl) (fun w hw => cwhen_c _ _ w) ?_
 | refine D_call (f := 111) rfl obQ (by kernel_rfl) (fun w hw => cfirst_c _ _ [wi wa 0 256, wi wb 0 256, wi wc 0 256] (by simp) w (hw.rdm hSM memQ)) ?_
 | refine D_call (f := 111) rfl obQ (by kernel_rfl) (fun w hw => firstE_c (l := [wr1 wa wb wc, wh (IntKind.i64.wrap (IntKind.i64.wrap (wa + wb) + wc) != 256) 1]) (wtP_eq wa wb wc) (by simp) rfl _ w (.inr ⟨_, rfl, hw.src (i := 3) rfl rfl⟩)) ?_
       )
 | (refine V_id ?_; first
 | refine V_nil ?_
 | refine V_q rfl (Yl_pure (sliceX_pure rfl obQ (fun w => sl_arr Tryz.underlying50 (by kernel_rfl) _ w))) ?_
 | refine V_q rfl (Yl_pure (binX_pure rfl obQ (fun w => wrap_add _ _ _ _ _ _ w))) ?_
 | refine V_q rfl (Yl_step rfl obQ) ?_
 | refine V_n rfl ?_
       )
 | (refine G_id ?_; first
 | refine G_V ⟨⟨_, rfl, trivial⟩, ⟨_, rfl⟩, rfl, pstQ⟩ rfl ?_
 | refine G_then ?_
 | refine G_block ?_
 | refine G_blockX ?_
 | refine G_blockN rfl ?_
 | refine G_blockR ?_
 | refine G_thenR ?_
 | refine G_thenX ?_
 | refine G_retD rfl obQ (DsP.nil _ _) (fun w2 hw => ⟨_, rfl, hw.below, PicR.zero _ _ _⟩)
       )
       )
  · rw [luR_1 hE] at he
    obtain rfl : thE x y z = e := congrArg Prod.snd he
    repeat' (first
 | (refine C_id ?_; first
 | refine C_seq ?_
 | refine C_region rfl ?_
 | refine C_block ?_
 | refine C_skip ?_
 | refine C_exit ?_
 | refine C_ret0 ?_
 | refine C_drawT (id := 4) 13 rfl mixed (by kernel_rfl) rfl rfl ?_
 | refine C_drawT (id := 11) 7 rfl mixed (by kernel_rfl) rfl rfl ?_
 | refine C_condT rfl obQ ?_
 | refine C_condF rfl obQ ?_
 | (refine C_cond rfl obQ (fun h => ?_) (fun h => ?_) <;> (try simp only [Bool.or_eq_true, Bool.and_eq_true, Bool.or_eq_false_iff, Bool.and_eq_false_iff, decide_eq_true_eq, decide_eq_false_iff_not, beq_iff_eq, bne_iff_ne, beq_eq_false_iff_ne, bne_eq_false_iff_eq, ne_eq, Decidable.not_not, List.cons.injEq, and_true, Bool.not_eq_true', Bool.not_eq_false', Int.not_lt, Int.not_le] at h) <;> (try (exfalso; omega)) <;> (try (exfalso; simp at h; done)) <;> (try (exfalso; simp only [not_true_eq_false, false_or, or_false] at h; omega)) <;> (try contradiction))
     )
 | (refine S_id ?_; first
 | refine S_nil ?_
 | refine S_run rfl rfl obQ obQ ?_
 | refine S_box (fun b => ⟨_, _, rfl, obQ, ?_⟩)
 | refine S_slice (fun b => ⟨_, _, rfl, obQ, ?_⟩)
 | refine S_call (f := 146) rfl obQ (by kernel_rfl) (fun w hw => checkThree_c x y z Ax Ay Az cx cy cz hsx hsy hsz w (hw.rdm hrx.toS memQ) (hw.rdm hry.toS memQ) (hw.rdm hrz.toS memQ)) ?_
 | refine S_call (f := 121) rfl obQ (by kernel_rfl) (fun w hw => cwhen_c _ _ w) ?_
 | refine S_call (f := 111) rfl obQ (by kernel_rfl) (fun w hw => cfirst_c _ _ [wi wa 0 256, wi wb 0 256, wi wc 0 256] (by simp) w (hw.rdm hSM memQ)) ?_
 | refine S_call (f := 111) rfl obQ (by kernel_rfl) (fun w hw => firstE_c (l := [wr1 wa wb wc, wh (IntKind.i64.wrap (IntKind.i64.wrap (wa + wb) + wc) != 256) 1]) (wtP_eq wa wb wc) (by simp) rfl _ w (.inr ⟨_, rfl, hw.src (i := 3) rfl rfl⟩)) ?_
     )
 | (refine D_id ?_; first
 | refine D_nil ?_
 | refine D_tail ?_
 | refine D_run rfl rfl obQ obQ ?_
 | refine D_call (f := 146) rfl obQ (by kernel_rfl) (fun w hw => checkThree_c x y z Ax Ay Az cx cy cz hsx hsy hsz w (hw.rdm hrx.toS memQ) (hw.rdm hry.toS memQ) (hw.rdm hrz.toS memQ)) ?_
 | refine D_call (f := 121) rfl obQ (by kernel_rfl) (fun w hw => cwhen_c _ _ w) ?_
 | refine D_call (f := 111) rfl obQ (by kernel_rfl) (fun w hw => cfirst_c _ _ [wi wa 0 256, wi wb 0 256, wi wc 0 256] (by simp) w (hw.rdm hSM memQ)) ?_
 | refine D_call (f := 111) rfl obQ (by kernel_rfl) (fun w hw => firstE_c (l := [wr1 wa wb wc, wh (IntKind.i64.wrap (IntKind.i64.wrap (wa + wb) + wc) != 256) 1]) (wtP_eq wa wb wc) (by simp) rfl _ w (.inr ⟨_, rfl, hw.src (i := 3) rfl rfl⟩)) ?_
     )
 | (refine G_id ?_; first
 | refine G_then ?_
 | refine G_block ?_
 | refine G_blockX ?_
 | refine G_blockN rfl ?_
 | refine G_blockR ?_
 | refine G_thenR ?_
 | refine G_thenX ?_
 | refine G_retD rfl obQ (DsP.nil _ _) (fun w2 hw => ⟨_, rfl, hw.below, PicR.zero _ _ _⟩)
     )
     )

end Go.Proofs.YtdbffbcobghbeaaGreatDoor
