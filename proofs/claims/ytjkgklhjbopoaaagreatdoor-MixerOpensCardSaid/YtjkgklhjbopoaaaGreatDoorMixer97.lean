/- What the law of openings calls: contracts as they are used, plain laws. -/
import Derived.Test.YtjkgklhjbopoaaaGreatDoorMixer96
import Derived.Test.YtjkgklhjbopoaaaGreatDoorMixer58
import Derived.Test.YtjkgklhjbopoaaaGreatDoorMixer41
namespace Go.Proofs.YtjkgklhjbopoaaaGreatDoor
open Go.E Go.RowKit Go.Fl
attribute [local irreducible] G C S D Calls
set_option maxRecDepth 100000
set_option linter.all false
set_option maxHeartbeats 8000000
theorem xShortWipe_c (x : Wip) (w : World) : Calls Tryz.prog 16 #[.agg #[.string x.sh, .int .i64 x.a, .int .i64 x.b, .int .i64 x.at_, .int .i64 x.soft]] w fun r w' => r = .returned (.bool (decide ((x.sh.size : Int) ≤ 40))) ∧ Below w.heap.size w w' := by
  refine calls_of T_ok Tryz.func16 rfl Tryz.ntmps16 (Nat.le_of_ble_eq_true rfl) rfl ?_
  repeat' (first
|(refine C_id ?_; first
|refine C_seq ?_
|refine C_region rfl ?_
|refine C_block ?_
|refine C_skip ?_
|refine C_ret0 ?_
|(refine C_cond rfl obQ ?_ ?_ <;> intro h <;> (try simp only [cdS] at h)))
|refine S_nil ?_
|refine S_run rfl rfl obQ obQ ?_
|refine S_box (fun b => ⟨_, _, rfl, obQ, ?_⟩)
|refine G_then ?_
|refine G_thenR ?_
|refine G_ret rfl obQ (fun w hw => ⟨?_, hw.below⟩))
  rfl
theorem wrapA_add (k : IntKind) (t : TypeId) (x y : Operand) (a b : Int) (w : World) : (do eqGuard .add t x y (.int k a) (.int k b); binOp .add t (.int k a) (.int k b) : Sem Value).run Tryz.prog w = .ok (.int k (k.wrap (a + b))) w := Go.E.wrap_add (X := { P := Tryz.prog, T := T, hT := T_ok, N := 0, B := 0, w0 := w, ds := [], ro := none }) k t x y a b w
theorem first_pre {a b c e : Int} (f : Int) (h : ¬ (a = 0 ∧ b = 0)) : firstL [a, b, c, e] = firstL [a, b, c, f] := by
  simp only [firstL]
  by_cases h1 : a = 0
  · have h2 : ¬ b = 0 := fun h2 => h ⟨h1, h2⟩
    simp [h1, h2]
  · simp [h1]
theorem mfirstE_c {A : Option Addr} {n : Nat} {l : List Int} {e : Int} (he : firstL l = e) (h6 : l.length ≤ 1000000) (hl : l.length = n) (c : Nat) (w : World) (hr : Rd w A (l.map (.int .i64))) : Calls Tryz.prog 107 #[.slice A n c] w fun r w' => r = .returned (.int .i64 e) ∧ Below w.heap.size w w' := by
  subst hl he
  exact mfirst_c A c l h6 w hr
theorem bdE_ne {x : Wip} {d u t : Int} (h : ¬ (wpE x = 0 ∧ wi d 0 100000 = 0)) : ¬ bdE x d u t = 0 := fun e => by
  unfold bdE at e
  rw [firstL_zero] at e
  simp only [List.mem_cons, List.mem_nil_iff, or_false, forall_eq_or_imp, forall_eq] at e
  exact h ⟨e.1, e.2.1⟩
theorem mBorderX_c (x : Wip) (d u t : Int) (hne : ¬ (wpE x = 0 ∧ wi d 0 100000 = 0)) (w : World) (hsh : Sh w) : Calls Tryz.prog 19 #[.agg #[.string x.sh, .int .i64 x.a, .int .i64 x.b, .int .i64 x.at_, .int .i64 x.soft], .int .i64 d, .int .i64 u, .int .i64 t] w fun r w' => ∃ v, r = .returned v ∧ Below w.heap.size w w' ∧ Sl2 w w' v 0 [] (.int .i64 (bdE x d u t)) := by
  have hbn := bdE_ne (u := u) (t := t) hne
  refine calls_of T_ok Tryz.func19 rfl Tryz.ntmps19 (Nat.le_of_ble_eq_true rfl) rfl ?_
  repeat' (first
|(refine C_id ?_; first
|refine C_seq ?_
|refine C_region rfl ?_
|refine C_ret0 ?_
|refine C_drawV (id := 1) 12 [(0, true), (2, true), (4, true), (5, true), (7, true), (8, true), (9, true), (10, true), (11, true), (1, false), (3, false), (6, false)] rfl mixed (by kernel_rfl) rfl ?_
|(refine C_cond rfl obQ ?_ ?_ <;> intro h <;> (try simp only [cdS] at h) <;> (try (exfalso; omega)) <;> (try exact cdF h) <;> (try contradiction)))
|(refine S_id ?_; first
|refine S_nil ?_
|refine S_run rfl rfl obQ obQ ?_
|refine S_box (fun bb => ⟨_, _, rfl, obQ, ?_⟩)
|refine S_slice (fun b => ⟨_, _, rfl, obQ, ?_⟩)
|refine S_call (f := 108) rfl obQ (by kernel_rfl) (fun w hw => wpCheck_c x w (Sh_at hsh hw memQ)) ?_
|refine S_call (f := 109) rfl obQ (by kernel_rfl) (fun w hw => mcheckSize_c _ _ w) ?_
|refine S_call (f := 111) rfl obQ (by kernel_rfl) (fun w hw => mwithin_c _ _ _ w) ?_
|refine S_call (f := 112) rfl obQ (by kernel_rfl) (fun w hw => mwhen_c _ _ w) ?_
|refine S_call (f := 107) rfl obQ (by kernel_rfl) (fun w hw => mfirstE_c (l := [wpE x, wi d 0 100000, firstL [wi u 1 64, wi t 1 64], wh (decide (100000 < IntKind.i64.wrap (x.at_ + d))) 4]) (show _ = bdE x d u t from first_pre _ hne) (by simp) rfl _ w (.inr ⟨_, rfl, hw.src (i := 1) rfl rfl⟩)) ?_)
|(refine V_id ?_; first
|refine V_nil ?_
|refine V_q rfl (Yl_pure (binX_pure rfl obQ (fun w => wrapA_add _ _ _ _ _ _ w))) ?_
|refine V_q rfl (Yl_step rfl obQ) ?_
|refine V_n rfl ?_)
|(refine G_id ?_; first
|refine G_V ⟨⟨_, rfl, trivial⟩, ⟨_, rfl⟩, rfl, pstQ⟩ rfl ?_
|refine G_then ?_
|refine G_thenR ?_
|refine G_ret rfl obQ (fun w2 hw => ⟨_, rfl, hw.below, Sl.two (v := .slice none 0 0) (Sl.nil_ _ _) rfl⟩)))
section
variable {x : Wip} {d u t : Int} {w : World} {l : List Int} {e : Int}
theorem wiped_as (h : wdR x u t = (l, e)) (hsh : Sh w) : Calls Tryz.prog 18 #[.agg #[.string x.sh, .int .i64 x.a, .int .i64 x.b, .int .i64 x.at_, .int .i64 x.soft], .int .i64 u, .int .i64 t] w fun r w' => ∃ v, r = .returned v ∧ Below w.heap.size w w' ∧ Sl2 w w' v l.length (l.map (.int .i64)) (.int .i64 e) := by
  have := mWiped_c x u t w hsh
  rw [h] at this
  exact this
theorem border_as (h : brR x d u t = (l, e)) (hsh : Sh w) : Calls Tryz.prog 19 #[.agg #[.string x.sh, .int .i64 x.a, .int .i64 x.b, .int .i64 x.at_, .int .i64 x.soft], .int .i64 d, .int .i64 u, .int .i64 t] w fun r w' => ∃ v, r = .returned v ∧ Below w.heap.size w w' ∧ Sl2 w w' v l.length (l.map (.int .i64)) (.int .i64 e) := by
  by_cases hb : wpE x = 0 ∧ wi d 0 100000 = 0
  · have h1 := (wp_ok.1 hb.1).at_
    have h2 := (wi_eq _ _ _).1 hb.2
    have := mBorder_c x d u t (by omega) (by omega) w hsh
    rw [h] at this
    exact this
  · have h1 : brR x d u t = ([], bdE x d u t) := if_neg (bdE_ne hb)
    rw [h] at h1
    injection h1 with h1 h2
    subst h1 h2
    exact mBorderX_c x d u t hb w hsh
end
section
variable {x : Wip} {W H k : Nat} {d : Int}
theorem ws_at (hW : 0 < W) (hk : k < H * W) : gI (wsL x W H) k = wsF x ((k % W : Nat) : Int) ((k / W : Nat) : Int) := by
  have h1 : k % W < W := Nat.mod_lt _ hW
  have h2 : k / W < H := (Nat.div_lt_iff_lt_mul hW).2 hk
  have h3 : k / W * W + k % W = k := by
    have := Nat.div_add_mod k W
    rw [Nat.mul_comm] at this
    exact this
  have := rm_at (fun (x' y : Nat) => wsF x (x' : Int) (y : Int)) h1 h2
  rw [h3] at this
  have hl : k < (wsL x W H).length := by rw [wsL_len]; exact hk
  rw [gI_at hl]
  have e : (wsL x W H)[k]? = some (wsF x ((k % W : Nat) : Int) ((k / W : Nat) : Int)) := this
  rw [List.getElem?_eq_getElem hl] at e
  exact Option.some.inj e
theorem op_at (hx : WpOk x) (hd : 0 ≤ d) (hW : 0 < W) (hk : k < H * W) : (0 ≤ gI (wsL x W H) k ∧ gI (wsL x W H) k ≤ 256) ∧ (0 ≤ gI (wsL (x.wide d) W H) k ∧ gI (wsL (x.wide d) W H) k ≤ 256) ∧ gI (wsL x W H) k ≤ gI (wsL (x.wide d) W H) k ∧ (x.soft = 0 → gI (wsL x W H) k = 0 ∨ gI (wsL x W H) k = 256) ∧
    (wvF x ((k % W : Nat) : Int) ((k / W : Nat) : Int) = x.at_ → (0 < x.soft → gI (wsL x W H) k = 128) ∧ (x.soft = 0 → gI (wsL x W H) k = 256)) := by
  rw [ws_at hW hk, ws_at hW hk]
  exact ⟨ws_bd' hx.soft.1 _ _, ws_bd' (w := x.wide d) hx.soft.1 _ _, ws_mono hx.soft.1 hd _ _, fun h => ws_hard h _ _, fun h => ⟨fun h2 => ws_soft h h2, fun h2 => ws_full h h2⟩⟩
theorem op_bd {n : Nat} (hx : WpOk x) (hn : n ≤ 255) (hA : x.at_ + (n : Int) ≤ 100000) (hW : 1 ≤ W ∧ W ≤ 64) (hH : 1 ≤ H ∧ H ≤ 64) : bdE x n W H = 0 := by
  have hat := hx.at_
  unfold bdE
  rw [wp_ok.2 hx, (wi_eq _ _ _).2 (show 0 ≤ (n : Int) ∧ (n : Int) ≤ 100000 by omega), (wi_eq _ _ _).2 (show 1 ≤ (W : Int) ∧ (W : Int) ≤ 64 by omega), (wi_eq _ _ _).2 (show 1 ≤ (H : Int) ∧ (H : Int) ≤ 64 by omega), decide_eq_false (show ¬ 100000 < x.at_ + (n : Int) by omega)]
  rfl
theorem op_wd (hx : WpOk x) (hW : 1 ≤ W ∧ W ≤ 64) (hH : 1 ≤ H ∧ H ≤ 64) : wdE x W H = 0 := by
  unfold wdE
  rw [wp_ok.2 hx, (wi_eq _ _ _).2 (show 1 ≤ (W : Int) ∧ (W : Int) ≤ 64 by omega), (wi_eq _ _ _).2 (show 1 ≤ (H : Int) ∧ (H : Int) ≤ 64 by omega)]
  rfl
end
end Go.Proofs.YtjkgklhjbopoaaaGreatDoor
