/- The law of the wipes: the walk. -/
import Derived.Test.YtjkgklhjbopoaaaGreatDoorPartJ
import Derived.Test.YtjkgklhjbopoaaaGreatDoorMixer69
import Derived.Test.YtjkgklhjbopoaaaGreatDoorMixer41
namespace Go.Proofs.YtjkgklhjbopoaaaGreatDoor
open Go.E Go.RowKit Go.Fl
attribute [local irreducible] G C S D Calls
set_option maxRecDepth 100000
set_option linter.unusedSimpArgs false
set_option linter.unusedVariables false
set_option maxHeartbeats 8000000
theorem xShortWipe_c (x : Wip) (w : World) : Calls Tryz.prog 16 #[.agg #[.string x.sh, .int .i64 x.a, .int .i64 x.b, .int .i64 x.at_, .int .i64 x.soft]] w fun r w' => r = .returned (.bool (decide ((x.sh.size : Int) ≤ 40))) ∧ Below w.heap.size w w' := by
  refine calls_of T_ok Tryz.func16 rfl Tryz.ntmps16 (Nat.le_of_ble_eq_true rfl) rfl ?_
  repeat' (first
 | (refine C_id ?_; first
 | refine C_seq ?_
 | refine C_region rfl ?_
 | refine C_block ?_
 | refine C_skip ?_
 | refine C_ret0 ?_
 | (refine C_cond rfl obQ (fun h => ?_) (fun h => ?_) <;> (try simp only [cdS] at h))
 )
 | refine S_nil ?_
 | refine S_run rfl rfl obQ obQ ?_
 | refine S_box (fun b => ⟨_, _, rfl, obQ, ?_⟩)
 | refine G_then ?_
 | refine G_thenR ?_
 | refine G_ret rfl obQ (fun w hw => ⟨?_, hw.below⟩)
 )
  rfl
theorem wrapA_add (k : IntKind) (t : TypeId) (x y : Operand) (a b : Int) (w : World) : (do eqGuard .add t x y (.int k a) (.int k b); binOp .add t (.int k a) (.int k b) : Sem Value).run Tryz.prog w = .ok (.int k (k.wrap (a + b))) w := Go.E.wrap_add (X := { P := Tryz.prog, T := T, hT := T_ok, N := 0, B := 0, w0 := w, ds := [], ro := none }) k t x y a b w
theorem first_pre {a b c e : Int} (f : Int) (h : ¬ (a = 0 ∧ b = 0)) : firstL [a, b, c, e] = firstL [a, b, c, f] := by
  simp only [firstL]
  by_cases h1 : a = 0
  · have h2 : ¬ b = 0 := fun h2 => h ⟨h1, h2⟩
    simp [h1, h2]
  · simp [h1]
theorem mfirstE_c {A : Option Addr} {n : Nat} {l : List Int} {e : Int} (he : firstL l = e) (h6 : l.length ≤ 1000000) (hl : l.length = n) (c : Nat) (w : World) (hr : Rd w A (l.map (.int .i64))) : Calls Tryz.prog 107 #[.slice A n c] w fun r w' => r = .returned (.int .i64 e) ∧ Below w.heap.size w w' := by
  subst hl he
  exact mfirst_c A c l h6 w hr
theorem bdE_ne {x : Wip} {d u t : Int} (h : ¬ (wpE x = 0 ∧ wi d 0 100000 = 0)) : ¬ bdE x d u t = 0 := fun e => by
  unfold bdE at e
  rw [firstL_zero] at e
  simp only [List.mem_cons, List.mem_nil_iff, or_false, forall_eq_or_imp, forall_eq] at e
  exact h ⟨e.1, e.2.1⟩
theorem mBorderX_c (x : Wip) (d u t : Int) (hne : ¬ (wpE x = 0 ∧ wi d 0 100000 = 0)) (w : World) (hsh : Sh w) : Calls Tryz.prog 19 #[.agg #[.string x.sh, .int .i64 x.a, .int .i64 x.b, .int .i64 x.at_, .int .i64 x.soft], .int .i64 d, .int .i64 u, .int .i64 t] w fun r w' => ∃ v, r = .returned v ∧ Below w.heap.size w w' ∧ Sl2 w w' v 0 [] (.int .i64 (bdE x d u t)) := by
  have hbn := bdE_ne (u := u) (t := t) hne
  refine calls_of T_ok Tryz.func19 rfl Tryz.ntmps19 (Nat.le_of_ble_eq_true rfl) rfl ?_
  repeat' (first
 | (refine C_id ?_; first
 | refine C_seq ?_
 | refine C_region rfl ?_
 | refine C_ret0 ?_
 | refine C_drawV (id := 1) 12 [(0, true), (2, true), (4, true), (5, true), (7, true), (8, true), (9, true), (10, true), (11, true), (1, false), (3, false), (6, false)] rfl mixed (by kernel_rfl) rfl ?_
 | (refine C_cond rfl obQ (fun h => ?_) (fun h => ?_) <;> (try simp only [cdS] at h) <;> (try (exfalso; omega)) <;> (try exact cdF h) <;> (try contradiction))
 )
 | (refine S_id ?_; first
 | refine S_nil ?_
 | refine S_run rfl rfl obQ obQ ?_
 | refine S_box (fun bb => ⟨_, _, rfl, obQ, ?_⟩)
 | refine S_slice (fun b => ⟨_, _, rfl, obQ, ?_⟩)
 | refine S_call (f := 108) rfl obQ (by kernel_rfl) (fun w hw => wpCheck_c x w (Sh_at hsh hw memQ)) ?_
 | refine S_call (f := 109) rfl obQ (by kernel_rfl) (fun w hw => mcheckSize_c _ _ w) ?_
 | refine S_call (f := 111) rfl obQ (by kernel_rfl) (fun w hw => mwithin_c _ _ _ w) ?_
 | refine S_call (f := 112) rfl obQ (by kernel_rfl) (fun w hw => mwhen_c _ _ w) ?_
 | refine S_call (f := 107) rfl obQ (by kernel_rfl) (fun w hw => mfirstE_c (l := [wpE x, wi d 0 100000, firstL [wi u 1 64, wi t 1 64], wh (decide (100000 < IntKind.i64.wrap (x.at_ + d))) 4]) (show _ = bdE x d u t from first_pre _ hne) (by simp) rfl _ w (.inr ⟨_, rfl, hw.src (i := 1) rfl rfl⟩)) ?_
 )
 | (refine V_id ?_; first
 | refine V_nil ?_
 | refine V_q rfl (Yl_pure (binX_pure rfl obQ (fun w => wrapA_add _ _ _ _ _ _ w))) ?_
 | refine V_q rfl (Yl_step rfl obQ) ?_
 | refine V_n rfl ?_
 )
 | (refine G_id ?_; first
 | refine G_V ⟨⟨_, rfl, trivial⟩, ⟨_, rfl⟩, rfl, pstQ⟩ rfl ?_
 | refine G_then ?_
 | refine G_thenR ?_
 | refine G_ret rfl obQ (fun w2 hw => ⟨_, rfl, hw.below, Sl.two (v := .slice none 0 0) (Sl.nil_ _ _) rfl⟩)
 )
 )
section
variable {x : Wip} {d u t : Int} {w : World} {l : List Int} {e : Int}
theorem wiped_as (h : wdR x u t = (l, e)) (hsh : Sh w) : Calls Tryz.prog 18 #[.agg #[.string x.sh, .int .i64 x.a, .int .i64 x.b, .int .i64 x.at_, .int .i64 x.soft], .int .i64 u, .int .i64 t] w fun r w' => ∃ v, r = .returned v ∧ Below w.heap.size w w' ∧ Sl2 w w' v l.length (l.map (.int .i64)) (.int .i64 e) := by
  have := mWiped_c x u t w hsh
  rw [h] at this
  exact this
theorem border_as (h : brR x d u t = (l, e)) (hsh : Sh w) : Calls Tryz.prog 19 #[.agg #[.string x.sh, .int .i64 x.a, .int .i64 x.b, .int .i64 x.at_, .int .i64 x.soft], .int .i64 d, .int .i64 u, .int .i64 t] w fun r w' => ∃ v, r = .returned v ∧ Below w.heap.size w w' ∧ Sl2 w w' v l.length (l.map (.int .i64)) (.int .i64 e) := by
  by_cases hb : wpE x = 0 ∧ wi d 0 100000 = 0
  · have h1 := (wp_ok.1 hb.1).at_
    have h2 := (wi_eq _ _ _).1 hb.2
    have := mBorder_c x d u t (by omega) (by omega) w hsh
    rw [h] at this
    exact this
  · have h1 : brR x d u t = ([], bdE x d u t) := if_neg (bdE_ne hb)
    rw [h] at h1
    injection h1 with h1 h2
    subst h1 h2
    exact mBorderX_c x d u t hb w hsh
theorem xwiped_as {W H : Nat} (hx : WpOk x) (hW : W ≤ 64) (hH : H ≤ 64) : Calls Tryz.prog 24 #[.agg #[.string x.sh, .int .i64 x.a, .int .i64 x.b, .int .i64 x.at_, .int .i64 x.soft], .int .i64 W, .int .i64 H] w fun r w' => ∃ v, r = .returned v ∧ Below w.heap.size w w' ∧ Sl w w' v (wsL x W H).length ((wsL x W H).map (.int .i64)) := by
  refine (xWiped_c x hx W H hW hH w).mono ?_
  rintro r w' ⟨v, h1, h2, h3⟩
  exact ⟨v, h1, h2, own_sl h3⟩
theorem xcb_as (h : bdE x d u t = e) : Calls Tryz.prog 23 #[.agg #[.string x.sh, .int .i64 x.a, .int .i64 x.b, .int .i64 x.at_, .int .i64 x.soft], .int .i64 d, .int .i64 u, .int .i64 t] w fun r w' => r = .returned (.int .i64 e) ∧ Below w.heap.size w w' := by
  subst h
  exact xCheckBorder_c x d u t w
end
theorem lWipes_c (x : Wip) (d u t : Int) (w : World) (hsh : Sh w) (hP : Pw w) : Calls Tryz.prog 3 #[.agg #[.string x.sh, .int .i64 x.a, .int .i64 x.b, .int .i64 x.at_, .int .i64 x.soft], .int .i64 d, .agg #[.int .i64 u, .int .i64 t]] w fun r w' => r = .returned (.bool true) ∧ Below w.heap.size w w' := by
  refine calls_of T_ok Tryz.func3 rfl Tryz.ntmps3 (Nat.le_of_ble_eq_true rfl) rfl ?_
  by_cases hE2 : bdE x d u t = 0
  · obtain ⟨hx, hxw, hd0, hu, ht⟩ := bdd_ok hE2
    have h1 : wdE x u t = 0 := by
      unfold wdE
      rw [wp_ok.2 hx, (wi_eq _ _ _).2 hu, (wi_eq _ _ _).2 ht]
      rfl
    obtain ⟨W, hWe⟩ := Int.eq_ofNat_of_zero_le (show 0 ≤ u by omega)
    obtain ⟨H, hHe⟩ := Int.eq_ofNat_of_zero_le (show 0 ≤ t by omega)
    subst hWe hHe
    have hWH : H * W ≤ 64 * 64 := Nat.mul_le_mul (by omega) (by omega)
    have hR1 : wdR x W H = (wsL x W H, 0) := if_pos h1
    have hR2 : brR x d W H = (zwI sbI (wsL (x.wide d) W H) (wsL x W H), 0) := if_pos hE2
    have h2 := hE2
    repeat' (first
 | (refine C_id ?_; first
 | refine C_seq ?_
 | refine C_region rfl ?_
 | refine C_skip ?_
 | refine C_ret0 ?_
 | refine C_drawV (id := 5) 15 [(0, true), (2, true), (3, true), (4, true), (5, true), (9, true), (10, true), (11, true), (12, true), (13, true), (14, true), (1, false), (6, false), (7, false), (8, false)] rfl mixed (by kernel_rfl) rfl ?_
 | refine C_condT rfl obQ ?_
 | (refine C_cond rfl obQ (fun h => ?_) (fun h => ?_) <;> (try simp only [cdS] at h) <;> (try (exfalso; omega)) <;> (try exact cdF h) <;> (try contradiction))
     )
 | (refine S_id ?_; first
 | refine S_unG rfl rfl rfl rfl ?_
 | (refine S_callM (f := 18) rfl obQ (by kernel_rfl) (fun w hw => wiped_as hR1 (Sh_at hsh hw memQ)) (fun w1P w2P vP hw1P hbP hRP => ?_); obtain ⟨AP, cP, rfl, hSP⟩ := hRP)
 | (refine S_callM (f := 19) rfl obQ (by kernel_rfl) (fun w hw => border_as hR2 (Sh_at hsh hw memQ)) (fun w1Q w2Q vQ hw1Q hbQ hRQ => ?_); obtain ⟨AQ, cQ, rfl, hSQ⟩ := hRQ)
 | (refine S_callM (f := 24) rfl obQ (by kernel_rfl) (fun w hw => xwiped_as hx (by omega) (by omega)) (fun w1R w2R vR hw1R hbR hRR => ?_); obtain ⟨AR, cR, rfl, hSR⟩ := hRR)
 | (refine S_callM (f := 25) rfl obQ (by kernel_rfl) (fun w hw => xBorder_c x hx d hxw W H (by omega) (by omega) w) (fun w1S w2S vS hw1S hbS hRS => ?_); obtain ⟨AS, cS, rfl, hSS⟩ := hRS)
 | refine S_nil ?_
 | refine S_runN rfl rfl obQ obQ ?_
 | refine S_box (fun bb => ⟨_, _, rfl, obQ, ?_⟩)
 | refine S_slice (fun b => ⟨_, _, rfl, obQ, ?_⟩)
 | refine S_call (f := 17) rfl obQ (by kernel_rfl) (fun w hw => mawake_c w (Sh_at hsh hw memQ) (Pw_at hP hw memQ)) ?_
 | refine S_call (f := 16) rfl obQ (by kernel_rfl) (fun w hw => xShortWipe_c x w) ?_
 | refine S_call (f := 21) rfl obQ (by kernel_rfl) (fun w hw => xCheckWipe_c x w) ?_
 | refine S_call (f := 22) rfl obQ (by kernel_rfl) (fun w hw => xCheckSide_c (W : Int) (H : Int) w) ?_
 | refine S_call (f := 20) rfl obQ (by kernel_rfl) (fun w hw => lwfirstE_c (l := [wpE x, firstL [wi (W : Int) 1 64, wi (H : Int) 1 64]]) h1 (by simp) rfl _ w (.inr ⟨_, rfl, hw.src (i := 2) rfl rfl⟩)) ?_
 | refine S_call (f := 23) rfl obQ (by kernel_rfl) (fun w hw => xcb_as h2) ?_
 | refine S_call (f := 26) rfl obQ (by kernel_rfl) (fun w hw => lkey_as _ rfl rfl (by rw [wsL_len]; omega) w (hw.rdm hSP memQ) (hw.rdm hSR memQ)) ?_
 | refine S_call (f := 26) rfl obQ (by kernel_rfl) (fun w hw => lkey_as _ rfl rfl (by rw [zwI_len, wsL_len]; omega) w (hw.rdm hSQ memQ) (hw.rdm hSS memQ)) ?_
     )
 | refine V_nil ?_
 | refine V_q rfl (Yl_step rfl obQ) ?_
 | refine V_n rfl ?_
 | (refine G_id ?_; first
 | refine G_V ⟨⟨_, rfl, trivial⟩, ⟨_, rfl⟩, rfl, pstQ⟩ rfl ?_
 | refine G_then ?_
 | refine G_thenR ?_
 | refine G_ret rfl obQ (fun w hw => ⟨?_, hw.below⟩)
     )
     )
    all_goals rfl
  · have hR2 : brR x d u t = ([], bdE x d u t) := if_neg hE2
    have h2 : bdE x d u t = bdE x d u t := rfl
    by_cases hE1 : wdE x u t = 0
    · obtain ⟨hx, hu, ht⟩ := wd_ok hE1
      have h1 := hE1
      obtain ⟨W, hWe⟩ := Int.eq_ofNat_of_zero_le (show 0 ≤ u by omega)
      obtain ⟨H, hHe⟩ := Int.eq_ofNat_of_zero_le (show 0 ≤ t by omega)
      subst hWe hHe
      have hWH : H * W ≤ 64 * 64 := Nat.mul_le_mul (by omega) (by omega)
      have hR1 : wdR x W H = (wsL x W H, 0) := if_pos hE1
      repeat' (first
 | (refine C_id ?_; first
 | refine C_seq ?_
 | refine C_region rfl ?_
 | refine C_skip ?_
 | refine C_ret0 ?_
 | refine C_drawV (id := 5) 15 [(0, true), (2, true), (3, true), (4, true), (5, true), (9, true), (10, true), (11, true), (12, true), (13, true), (14, true), (1, false), (6, false), (7, false), (8, false)] rfl mixed (by kernel_rfl) rfl ?_
 | refine C_condT rfl obQ ?_
 | (refine C_cond rfl obQ (fun h => ?_) (fun h => ?_) <;> (try simp only [cdS] at h) <;> (try (exfalso; omega)) <;> (try exact cdF h) <;> (try contradiction))
       )
 | (refine S_id ?_; first
 | refine S_unG rfl rfl rfl rfl ?_
 | (refine S_callM (f := 18) rfl obQ (by kernel_rfl) (fun w hw => wiped_as hR1 (Sh_at hsh hw memQ)) (fun w1P w2P vP hw1P hbP hRP => ?_); obtain ⟨AP, cP, rfl, hSP⟩ := hRP)
 | (refine S_callM (f := 19) rfl obQ (by kernel_rfl) (fun w hw => border_as hR2 (Sh_at hsh hw memQ)) (fun w1Q w2Q vQ hw1Q hbQ hRQ => ?_); obtain ⟨AQ, cQ, rfl, hSQ⟩ := hRQ)
 | (refine S_callM (f := 24) rfl obQ (by kernel_rfl) (fun w hw => xwiped_as hx (by omega) (by omega)) (fun w1R w2R vR hw1R hbR hRR => ?_); obtain ⟨AR, cR, rfl, hSR⟩ := hRR)
 | refine S_nil ?_
 | refine S_runN rfl rfl obQ obQ ?_
 | refine S_box (fun bb => ⟨_, _, rfl, obQ, ?_⟩)
 | refine S_slice (fun b => ⟨_, _, rfl, obQ, ?_⟩)
 | refine S_call (f := 17) rfl obQ (by kernel_rfl) (fun w hw => mawake_c w (Sh_at hsh hw memQ) (Pw_at hP hw memQ)) ?_
 | refine S_call (f := 16) rfl obQ (by kernel_rfl) (fun w hw => xShortWipe_c x w) ?_
 | refine S_call (f := 21) rfl obQ (by kernel_rfl) (fun w hw => xCheckWipe_c x w) ?_
 | refine S_call (f := 22) rfl obQ (by kernel_rfl) (fun w hw => xCheckSide_c (W : Int) (H : Int) w) ?_
 | refine S_call (f := 20) rfl obQ (by kernel_rfl) (fun w hw => lwfirstE_c (l := [wpE x, firstL [wi (W : Int) 1 64, wi (H : Int) 1 64]]) h1 (by simp) rfl _ w (.inr ⟨_, rfl, hw.src (i := 2) rfl rfl⟩)) ?_
 | refine S_call (f := 23) rfl obQ (by kernel_rfl) (fun w hw => xcb_as h2) ?_
 | refine S_call (f := 26) rfl obQ (by kernel_rfl) (fun w hw => lkey_as _ rfl rfl (by rw [wsL_len]; omega) w (hw.rdm hSP memQ) (hw.rdm hSR memQ)) ?_
 | refine S_call (f := 26) rfl obQ (by kernel_rfl) (fun w hw => lkeyE_c _ hE2 _ _ _ w) ?_
       )
 | refine V_nil ?_
 | refine V_q rfl (Yl_step rfl obQ) ?_
 | refine V_n rfl ?_
 | (refine G_id ?_; first
 | refine G_V ⟨⟨_, rfl, trivial⟩, ⟨_, rfl⟩, rfl, pstQ⟩ rfl ?_
 | refine G_then ?_
 | refine G_thenR ?_
 | refine G_ret rfl obQ (fun w hw => ⟨?_, hw.below⟩)
       )
       )
      all_goals rfl
    · have hR1 : wdR x u t = ([], wdE x u t) := if_neg hE1
      have h1 : firstL [wpE x, firstL [wi u 1 64, wi t 1 64]] = wdE x u t := rfl
      repeat' (first
 | (refine C_id ?_; first
 | refine C_seq ?_
 | refine C_region rfl ?_
 | refine C_skip ?_
 | refine C_ret0 ?_
 | refine C_drawV (id := 5) 15 [(0, true), (2, true), (3, true), (4, true), (5, true), (9, true), (10, true), (11, true), (12, true), (13, true), (14, true), (1, false), (6, false), (7, false), (8, false)] rfl mixed (by kernel_rfl) rfl ?_
 | (refine C_cond rfl obQ (fun h => ?_) (fun h => ?_) <;> (try simp only [cdS] at h) <;> (try (exfalso; omega)) <;> (try exact cdF h) <;> (try contradiction))
       )
 | (refine S_id ?_; first
 | refine S_unG rfl rfl rfl rfl ?_
 | (refine S_callM (f := 18) rfl obQ (by kernel_rfl) (fun w hw => wiped_as hR1 (Sh_at hsh hw memQ)) (fun w1P w2P vP hw1P hbP hRP => ?_); obtain ⟨AP, cP, rfl, hSP⟩ := hRP)
 | (refine S_callM (f := 19) rfl obQ (by kernel_rfl) (fun w hw => border_as hR2 (Sh_at hsh hw memQ)) (fun w1Q w2Q vQ hw1Q hbQ hRQ => ?_); obtain ⟨AQ, cQ, rfl, hSQ⟩ := hRQ)
 | refine S_nil ?_
 | refine S_runN rfl rfl obQ obQ ?_
 | refine S_box (fun bb => ⟨_, _, rfl, obQ, ?_⟩)
 | refine S_slice (fun b => ⟨_, _, rfl, obQ, ?_⟩)
 | refine S_call (f := 17) rfl obQ (by kernel_rfl) (fun w hw => mawake_c w (Sh_at hsh hw memQ) (Pw_at hP hw memQ)) ?_
 | refine S_call (f := 16) rfl obQ (by kernel_rfl) (fun w hw => xShortWipe_c x w) ?_
 | refine S_call (f := 21) rfl obQ (by kernel_rfl) (fun w hw => xCheckWipe_c x w) ?_
 | refine S_call (f := 22) rfl obQ (by kernel_rfl) (fun w hw => xCheckSide_c u t w) ?_
 | refine S_call (f := 20) rfl obQ (by kernel_rfl) (fun w hw => lwfirstE_c (l := [wpE x, firstL [wi u 1 64, wi t 1 64]]) h1 (by simp) rfl _ w (.inr ⟨_, rfl, hw.src (i := 2) rfl rfl⟩)) ?_
 | refine S_call (f := 23) rfl obQ (by kernel_rfl) (fun w hw => xcb_as h2) ?_
 | refine S_call (f := 26) rfl obQ (by kernel_rfl) (fun w hw => lkeyE_c _ hE1 _ _ _ w) ?_
 | refine S_call (f := 26) rfl obQ (by kernel_rfl) (fun w hw => lkeyE_c _ hE2 _ _ _ w) ?_
       )
 | refine V_nil ?_
 | refine V_q rfl (Yl_step rfl obQ) ?_
 | refine V_n rfl ?_
 | (refine G_id ?_; first
 | refine G_V ⟨⟨_, rfl, trivial⟩, ⟨_, rfl⟩, rfl, pstQ⟩ rfl ?_
 | refine G_then ?_
 | refine G_thenR ?_
 | refine G_ret rfl obQ (fun w hw => ⟨?_, hw.below⟩)
       )
       )
      all_goals rfl
end Go.Proofs.YtjkgklhjbopoaaaGreatDoor
