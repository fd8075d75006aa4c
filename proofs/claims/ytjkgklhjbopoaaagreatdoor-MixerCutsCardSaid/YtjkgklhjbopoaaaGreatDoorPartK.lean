/- Mixer: inputs of nodes: contracts of the reference. -/
import Derived.Test.YtjkgklhjbopoaaaGreatDoorMixer41
import Derived.Test.YtjkgklhjbopoaaaGreatDoorEng4
namespace Go.Proofs.YtjkgklhjbopoaaaGreatDoor
open Go.E Go.RowKit Go.Fl
attribute [local irreducible] G C S D Calls
set_option maxRecDepth 100000
set_option linter.all false
set_option maxHeartbeats 8000000
def inX (x : Nod) : List Int := if x.kd = bSrc ∨ x.kd = bMat then [] else if x.kd = bMix ∨ x.kd = bWip then [x.a, x.b] else [x.a, x.b, x.c]
def isX (x : Nod) : Bool := if x.kd = bSrc ∨ x.kd = bMat then true else if x.kd = bMix ∨ x.kd = bWip then true else decide (x.kd = bKey)
theorem inX_0 {x : Nod} (h : x.kd = bSrc ∨ x.kd = bMat) : inX x = [] ∧ isX x = true := ⟨if_pos h, if_pos h⟩
theorem inX_2 {x : Nod} (h1 : ¬ (x.kd = bSrc ∨ x.kd = bMat)) (h : x.kd = bMix ∨ x.kd = bWip) : inX x = [x.a, x.b] ∧ isX x = true := ⟨by unfold inX; rw [if_neg h1, if_pos h], by unfold isX; rw [if_neg h1, if_pos h]⟩
theorem inX_3 {x : Nod} (h1 : ¬ (x.kd = bSrc ∨ x.kd = bMat)) (h : ¬ (x.kd = bMix ∨ x.kd = bWip)) : inX x = [x.a, x.b, x.c] ∧ isX x = (x.kd.toList == bKey.toList) := ⟨by unfold inX; rw [if_neg h1, if_neg h], by
  unfold isX
  rw [if_neg h1, if_neg h]
  by_cases h2 : x.kd = bKey
  · rw [tle_t h2]; exact decide_eq_true h2
  · rw [tle_f h2]; exact decide_eq_false h2⟩
theorem or_toL {a b c : ByteArray} (h : a.toList = b.toList ∨ a.toList = c.toList) : a = b ∨ a = c := h.imp toL toL
theorem nor_toL {a b c : ByteArray} (h : a.toList ≠ b.toList ∧ a.toList ≠ c.toList) : ¬ (a = b ∨ a = c) := fun e => e.elim (fun e => h.1 (by rw [e])) (fun e => h.2 (by rw [e]))
theorem xInputs_c (x : Nod) (w : World) : Calls Tryz.prog 176 #[.agg #[.string x.kd, .int .i64 x.a, .int .i64 x.b, .int .i64 x.c, .int .i64 x.n, .int .i64 x.cl, .int .i64 x.ga, .string x.w.sh, .int .i64 x.w.a, .int .i64 x.w.b, .int .i64 x.w.at_, .int .i64 x.w.soft]] w fun r w' => ∃ v, r = .returned v ∧ Below w.heap.size w w' ∧ Sl2 w w' v (inX x).length ((inX x).map (.int .i64)) (.bool (isX x)) := by
  refine calls_of T_ok Tryz.func176 rfl Tryz.ntmps176 (Nat.le_of_ble_eq_true rfl) rfl ?_
  repeat' (first
|(refine C_id ?_; first
|refine C_seq ?_
|refine C_region rfl ?_
|refine C_skip ?_
|refine C_ret0 ?_
|refine C_drawV (id := 5) 11 [(0, true), (1, true), (2, true), (3, true), (4, true), (5, true), (7, true), (8, true), (9, true), (6, false), (10, true)] rfl mixed (by kernel_rfl) rfl ?_
|(refine C_cond rfl obQ ?_ ?_ <;> intro h <;> (try simp only [cdS] at h)))
|(refine S_id ?_; first
|refine S_nil ?_
|refine S_run rfl rfl obQ obQ ?_
|refine S_box (fun bb => ⟨_, _, rfl, obQ, ?_⟩)
|refine S_slice (fun b => ⟨_, _, rfl, obQ, ?_⟩))
|refine V_nil ?_
|refine V_q rfl (Yl_step rfl obQ) ?_
|refine V_n rfl ?_
|(refine G_id ?_; first
|refine G_V ⟨⟨_, rfl, trivial⟩, ⟨_, rfl⟩, rfl, pstQ⟩ rfl ?_
|refine G_then ?_
|refine G_thenR ?_
|refine G_ret rfl obQ (fun w2 hw => ⟨_, rfl, hw.below, ?_⟩)))
  · have e := inX_0 (x := x) (or_toL h)
    rw [e.1, e.2]
    exact Sl.two (v := .slice none 0 0) (Sl.nil_ _ _) rfl
  · rename_i h1
    have e := inX_2 (x := x) (nor_toL h1) (or_toL h)
    rw [e.1, e.2]
    exact ⟨_, _, rfl, .inr ⟨_, rfl, ⟨(HW.bxAt hw (i := 1) rfl rfl).1.1, (HW.bxAt hw (i := 1) rfl rfl).1.2⟩, hw.src (i := 1) rfl rfl⟩⟩
  · rename_i h1
    have e := inX_3 (x := x) (nor_toL h1) (nor_toL h)
    rw [e.1, e.2]
    exact ⟨_, _, rfl, .inr ⟨_, rfl, ⟨(HW.bxAt hw (i := 1) rfl rfl).1.1, (HW.bxAt hw (i := 1) rfl rfl).1.2⟩, hw.src (i := 1) rfl rfl⟩⟩
def bKd : Kd → ByteArray
  | .src => bSrc
  | .mat => bMat
  | .mix => bMix
  | .wip => bWip
  | .key => bKey
theorem kd_any {s : ByteArray} {k : Kd} (h : kdOf s = some k) : s = bKd k := by
  unfold kdOf at h
  split at h
  · injection h with h; subst h; assumption
  split at h
  · injection h with h; subst h; assumption
  split at h
  · injection h with h; subst h; assumption
  split at h
  · injection h with h; subst h; assumption
  split at h
  · injection h with h; subst h; assumption
  · cases h
theorem kd_bKd (k : Kd) : kdOf (bKd k) = some k := by cases k <;> decide +kernel
theorem kd_ne {s : ByteArray} {k : Kd} (h : kdOf s = some k) (q : Kd) (hq : k ≠ q) : ¬ s = bKd q := fun e => by
  rw [e, kd_bKd] at h
  injection h with h
  exact hq h.symm
theorem kd_none {s : ByteArray} (h : kdOf s = none) (q : Kd) : ¬ s = bKd q := fun e => by
  rw [e, kd_bKd] at h
  cases h
theorem inX_of {x : Nod} {k : Kd} (h : kdOf x.kd = some k) : inX x = insF k x ∧ isX x = true := by
  have e := kd_any h
  cases k with
  | src => exact inX_0 (.inl e)
  | mat => exact inX_0 (.inr e)
  | mix => exact inX_2 (fun o => o.elim (kd_ne h .src (by decide)) (kd_ne h .mat (by decide))) (.inl e)
  | wip => exact inX_2 (fun o => o.elim (kd_ne h .src (by decide)) (kd_ne h .mat (by decide))) (.inr e)
  | key =>
    have h3 := inX_3 (x := x) (fun o => o.elim (kd_ne h .src (by decide)) (kd_ne h .mat (by decide))) (fun o => o.elim (kd_ne h .mix (by decide)) (kd_ne h .wip (by decide)))
    exact ⟨h3.1, by rw [h3.2]; exact tle_t e⟩
theorem inX_no {x : Nod} (h : kdOf x.kd = none) : inX x = [x.a, x.b, x.c] ∧ isX x = false := by
  have h3 := inX_3 (x := x) (fun o => o.elim (kd_none h .src) (kd_none h .mat)) (fun o => o.elim (kd_none h .mix) (kd_none h .wip))
  exact ⟨h3.1, by rw [h3.2]; exact tle_f (kd_none h .key)⟩
def usX (x : Nod) : Nod := match kdOf x.kd with
  | some k => usF k x
  | none => ⟨x.kd, x.a, x.b, 0, 0, 0, 0, zW⟩
theorem usX_of {x : Nod} {k : Kd} (h : kdOf x.kd = some k) : usX x = usF k x := by unfold usX; rw [h]
theorem usX_no {x : Nod} (h : kdOf x.kd = none) : usX x = ⟨x.kd, x.a, x.b, 0, 0, 0, 0, zW⟩ := by unfold usX; rw [h]
theorem xInputs_as {x : Nod} {l : List Int} {b : Bool} {n : Nat} (h1 : inX x = l) (h2 : isX x = b) (hn : l.length = n) (w : World) : Calls Tryz.prog 176 #[.agg #[.string x.kd, .int .i64 x.a, .int .i64 x.b, .int .i64 x.c, .int .i64 x.n, .int .i64 x.cl, .int .i64 x.ga, .string x.w.sh, .int .i64 x.w.a, .int .i64 x.w.b, .int .i64 x.w.at_, .int .i64 x.w.soft]] w fun r w' => ∃ v, r = .returned v ∧ Below w.heap.size w w' ∧ Sl2 w w' v n (l.map (.int .i64)) (.bool b) := by
  subst h1 h2 hn
  exact xInputs_c x w
theorem rFirstE_c {A : Option Addr} {n : Nat} {l : List Int} {e : Int} (he : firstL l = e) (h6 : l.length ≤ 1000000) (hl : l.length = n) (c : Nat) (w : World) (hr : Rd w A (l.map (.int .i64))) : Calls Tryz.prog 113 #[.slice A n c] w fun r w' => r = .returned (.int .i64 e) ∧ Below w.heap.size w w' := by
  subst hl he
  exact rFirst_c A c l h6 w hr
theorem deep_ndX : deepL Tryz.prog 170 ndK = true := by kernel_rfl
theorem ne_ndX {x y : Nod} {b : Bool} (h : decide (x ≠ y) = b) (u v : Operand) (w : World) : (do eqGuard .neq 170 u v (.agg (ndC x).toArray) (.agg (ndC y).toArray); binOp .neq 170 (.agg (ndC x).toArray) (.agg (ndC y).toArray) : Sem Value).run Tryz.prog w = .ok (.bool b) w := by
  have := ne_lf deep_ndX (ndL_k x) (ndL_k y) u v w
  have e : (ndL x != ndL y) = b := by
    rw [← h, Bool.eq_iff_iff, bne_iff_ne, decide_eq_true_eq, Ne, ndL_inj]
  rw [e] at this
  exact this
theorem inB_no {l : List Int} {z : Int} {k : Nat} (hk : k < l.length) (h : ¬ (0 ≤ gI l k ∧ gI l k < z)) : inB l z = false := by
  cases e : inB l z
  · rfl
  · exact absurd (inB_iff.1 e _ (gI_mem hk)) h
theorem inB_yes {l : List Int} {z : Int} (h : ∀ k, k < l.length → 0 ≤ gI l k ∧ gI l k < z) : inB l z = true := inB_iff.2 fun i hi => by
  obtain ⟨k, hk, rfl⟩ := List.getElem_of_mem hi
  rw [← gI_at hk]
  exact h k hk
theorem nd_us {x : Nod} {z : Int} {k : Kd} (h : kdOf x.kd = some k) (h1 : ¬ usF k x = x) : ndE x z = 1 := by unfold ndE; rw [h]; exact if_neg h1
theorem nd_in {x : Nod} {z : Int} {k : Kd} (h : kdOf x.kd = some k) (h1 : usF k x = x) (h2 : inB (insF k x) z = false) : ndE x z = 10 := by
  unfold ndE
  rw [h]
  dsimp only
  rw [if_pos h1, if_neg (by rw [h2]; simp)]
theorem nd_ki {x : Nod} {z : Int} {k : Kd} (h : kdOf x.kd = some k) (h1 : usF k x = x) (h2 : inB (insF k x) z = true) : ndE x z = kiE k x := by
  unfold ndE
  rw [h]
  dsimp only
  rw [if_pos h1, if_pos h2]
theorem xused_c (x : Nod) (w : World) : Calls Tryz.prog 189 #[.agg #[.string x.kd, .int .i64 x.a, .int .i64 x.b, .int .i64 x.c, .int .i64 x.n, .int .i64 x.cl, .int .i64 x.ga, .string x.w.sh, .int .i64 x.w.a, .int .i64 x.w.b, .int .i64 x.w.at_, .int .i64 x.w.soft]] w fun r w' => r = .returned (.agg #[.string (usX x).kd, .int .i64 (usX x).a, .int .i64 (usX x).b, .int .i64 (usX x).c, .int .i64 (usX x).n, .int .i64 (usX x).cl, .int .i64 (usX x).ga, .string (usX x).w.sh, .int .i64 (usX x).w.a, .int .i64 (usX x).w.b, .int .i64 (usX x).w.at_, .int .i64 (usX x).w.soft]) ∧ Below w.heap.size w w' := by
  refine calls_of T_ok Tryz.func189 rfl Tryz.ntmps189 (Nat.le_of_ble_eq_true rfl) rfl ?_
  cases hk : kdOf x.kd with
  | none =>
    have nsrc := kd_none hk .src
    have nmat := kd_none hk .mat
    have nmix := kd_none hk .mix
    have nwip := kd_none hk .wip
    have nkey := kd_none hk .key
    have hin := inX_no hk
    rw [usX_no hk]
    repeat' (first
|(refine C_id ?_; first
|refine C_seq ?_
|refine C_region rfl ?_
|refine C_skip ?_
|refine C_ret0 ?_
|refine C_drawTr00 (id := 4) 6 (.q 0 (.q 2 (.two 1 3 (.q 4 (.two 3 5 (.n 5 .nil) (.n 3 .nil))) (.n 1 (.q 4 (.n 5 .nil)))))) rfl mixed (by kernel_rfl) rfl ?_
|refine C_condT rfl obQ ?_
|(refine C_cond rfl obQ ?_ ?_ <;> intro h <;> (try simp only [cdS] at h) <;> (try (exfalso; omega)) <;> (try exact cdF h) <;> (try contradiction) <;> (try (exfalso; first | exact nsrc (toL h) | exact nmat (toL h) | exact nmix (toL h) | exact nwip (toL h) | exact nkey (toL h) | exact h.elim (fun h => h.elim (fun h => nsrc (toL h)) (fun h => nmat (toL h))) (fun h => nmix (toL h))))))
|(refine S_id ?_; first
|(refine S_callM (f := 176) rfl obQ (by kernel_rfl) (fun w hw => xInputs_as hin.1 hin.2 rfl w) (fun w1N w2N vN hw1N hbN hRN => ?_); obtain ⟨AN, cN, rfl, hSN⟩ := hRN)
|refine S_nil ?_
|refine S_run rfl rfl obQ obQ ?_
|refine S_box (fun bb => ⟨_, _, rfl, obQ, ?_⟩))
|(refine VT_id ?_; first
|refine VT_nil ?_
|refine VT_q rfl (Yl_step rfl obQ) ?_
|refine VT_n rfl ?_
|refine VT_two rfl rfl ?_ ?_)
|refine G_VT2 ⟨_, rfl⟩ ⟨_, rfl⟩ pstQ rfl ?_
|refine G_then ?_
|refine G_ret rfl obQ (fun w hw => ⟨?_, hw.below⟩))
    all_goals rfl
  | some k =>
    have hin := inX_of hk
    rw [usX_of hk]
    cases k with
  | src =>
        have nmat := kd_ne hk .mat (by decide)
        have nmix := kd_ne hk .mix (by decide)
        have nwip := kd_ne hk .wip (by decide)
        have nkey := kd_ne hk .key (by decide)
        have ysrc := kd_any hk
        repeat' (first
|(refine C_id ?_; first
|refine C_seq ?_
|refine C_region rfl ?_
|refine C_skip ?_
|refine C_ret0 ?_
|refine C_condF rfl obQ ?_
|(refine C_cond rfl obQ ?_ ?_ <;> intro h <;> (try simp only [cdS] at h) <;> (try (exfalso; omega)) <;> (try exact cdF h) <;> (try contradiction) <;> (try (exfalso; first | exact nmat (toL h) | exact nmix (toL h) | exact nwip (toL h) | exact nkey (toL h) | exact h (congrArg ByteArray.toList ysrc) | exact h.1.1 (congrArg ByteArray.toList ysrc) | exact h.1.2 (congrArg ByteArray.toList ysrc) | exact h.2 (congrArg ByteArray.toList ysrc)))))
|(refine S_id ?_; first
|(refine S_callM (f := 176) rfl obQ (by kernel_rfl) (fun w hw => xInputs_as hin.1 hin.2 rfl w) (fun w1N w2N vN hw1N hbN hRN => ?_); obtain ⟨AN, cN, rfl, hSN⟩ := hRN)
|refine S_nil ?_
|refine S_run rfl rfl obQ obQ ?_
|refine S_box (fun bb => ⟨_, _, rfl, obQ, ?_⟩))
|refine G_then ?_
|refine G_ret rfl obQ (fun w hw => ⟨?_, hw.below⟩))
        all_goals rfl
      | mat =>
        have nsrc := kd_ne hk .src (by decide)
        have nmix := kd_ne hk .mix (by decide)
        have nwip := kd_ne hk .wip (by decide)
        have nkey := kd_ne hk .key (by decide)
        have ymat := kd_any hk
        repeat' (first
|(refine C_id ?_; first
|refine C_seq ?_
|refine C_region rfl ?_
|refine C_skip ?_
|refine C_ret0 ?_
|refine C_condF rfl obQ ?_
|(refine C_cond rfl obQ ?_ ?_ <;> intro h <;> (try simp only [cdS] at h) <;> (try (exfalso; omega)) <;> (try exact cdF h) <;> (try contradiction) <;> (try (exfalso; first | exact nsrc (toL h) | exact nmix (toL h) | exact nwip (toL h) | exact nkey (toL h) | exact h (congrArg ByteArray.toList ymat) | exact h.1.1 (congrArg ByteArray.toList ymat) | exact h.1.2 (congrArg ByteArray.toList ymat) | exact h.2 (congrArg ByteArray.toList ymat)))))
|(refine S_id ?_; first
|(refine S_callM (f := 176) rfl obQ (by kernel_rfl) (fun w hw => xInputs_as hin.1 hin.2 rfl w) (fun w1N w2N vN hw1N hbN hRN => ?_); obtain ⟨AN, cN, rfl, hSN⟩ := hRN)
|refine S_nil ?_
|refine S_run rfl rfl obQ obQ ?_
|refine S_box (fun bb => ⟨_, _, rfl, obQ, ?_⟩))
|refine G_then ?_
|refine G_ret rfl obQ (fun w hw => ⟨?_, hw.below⟩))
        all_goals rfl
      | mix =>
        have nsrc := kd_ne hk .src (by decide)
        have nmat := kd_ne hk .mat (by decide)
        have nwip := kd_ne hk .wip (by decide)
        have nkey := kd_ne hk .key (by decide)
        have ymix := kd_any hk
        repeat' (first
|(refine C_id ?_; first
|refine C_seq ?_
|refine C_region rfl ?_
|refine C_skip ?_
|refine C_ret0 ?_
|refine C_drawTr00 (id := 4) 6 (.q 0 (.q 2 (.two 1 3 (.q 4 (.two 3 5 (.n 5 .nil) (.n 3 .nil))) (.n 1 (.q 4 (.n 5 .nil)))))) rfl mixed (by kernel_rfl) rfl ?_
|refine C_condT rfl obQ ?_
|(refine C_cond rfl obQ ?_ ?_ <;> intro h <;> (try simp only [cdS] at h) <;> (try (exfalso; omega)) <;> (try exact cdF h) <;> (try contradiction) <;> (try (exfalso; first | exact nsrc (toL h) | exact nmat (toL h) | exact nwip (toL h) | exact nkey (toL h) | exact h (congrArg ByteArray.toList ymix) | exact h.1.1 (congrArg ByteArray.toList ymix) | exact h.1.2 (congrArg ByteArray.toList ymix) | exact h.2 (congrArg ByteArray.toList ymix)))))
|(refine S_id ?_; first
|(refine S_callM (f := 176) rfl obQ (by kernel_rfl) (fun w hw => xInputs_as hin.1 hin.2 rfl w) (fun w1N w2N vN hw1N hbN hRN => ?_); obtain ⟨AN, cN, rfl, hSN⟩ := hRN)
|refine S_nil ?_
|refine S_run rfl rfl obQ obQ ?_
|refine S_box (fun bb => ⟨_, _, rfl, obQ, ?_⟩))
|(refine VT_id ?_; first
|refine VT_nil ?_
|refine VT_q rfl (Yl_step rfl obQ) ?_
|refine VT_n rfl ?_
|refine VT_two rfl rfl ?_ ?_)
|refine G_VT2 ⟨_, rfl⟩ ⟨_, rfl⟩ pstQ rfl ?_
|refine G_then ?_
|refine G_ret rfl obQ (fun w hw => ⟨?_, hw.below⟩))
        all_goals rfl
      | wip =>
        have nsrc := kd_ne hk .src (by decide)
        have nmat := kd_ne hk .mat (by decide)
        have nmix := kd_ne hk .mix (by decide)
        have nkey := kd_ne hk .key (by decide)
        have ywip := kd_any hk
        repeat' (first
|(refine C_id ?_; first
|refine C_seq ?_
|refine C_region rfl ?_
|refine C_skip ?_
|refine C_ret0 ?_
|refine C_drawTr00 (id := 4) 6 (.q 0 (.q 2 (.two 1 3 (.q 4 (.two 3 5 (.n 5 .nil) (.n 3 .nil))) (.n 1 (.q 4 (.n 5 .nil)))))) rfl mixed (by kernel_rfl) rfl ?_
|refine C_condT rfl obQ ?_
|(refine C_cond rfl obQ ?_ ?_ <;> intro h <;> (try simp only [cdS] at h) <;> (try (exfalso; omega)) <;> (try exact cdF h) <;> (try contradiction) <;> (try (exfalso; first | exact nsrc (toL h) | exact nmat (toL h) | exact nmix (toL h) | exact nkey (toL h) | exact h (congrArg ByteArray.toList ywip) | exact h.1.1 (congrArg ByteArray.toList ywip) | exact h.1.2 (congrArg ByteArray.toList ywip) | exact h.2 (congrArg ByteArray.toList ywip) | exact h.elim (fun h => h.elim (fun h => nsrc (toL h)) (fun h => nmat (toL h))) (fun h => nmix (toL h))))))
|(refine S_id ?_; first
|(refine S_callM (f := 176) rfl obQ (by kernel_rfl) (fun w hw => xInputs_as hin.1 hin.2 rfl w) (fun w1N w2N vN hw1N hbN hRN => ?_); obtain ⟨AN, cN, rfl, hSN⟩ := hRN)
|refine S_nil ?_
|refine S_run rfl rfl obQ obQ ?_
|refine S_box (fun bb => ⟨_, _, rfl, obQ, ?_⟩))
|(refine VT_id ?_; first
|refine VT_nil ?_
|refine VT_q rfl (Yl_step rfl obQ) ?_
|refine VT_n rfl ?_
|refine VT_two rfl rfl ?_ ?_)
|refine G_VT2 ⟨_, rfl⟩ ⟨_, rfl⟩ pstQ rfl ?_
|refine G_then ?_
|refine G_ret rfl obQ (fun w hw => ⟨?_, hw.below⟩))
        all_goals rfl
      | key =>
        have nsrc := kd_ne hk .src (by decide)
        have nmat := kd_ne hk .mat (by decide)
        have nmix := kd_ne hk .mix (by decide)
        have nwip := kd_ne hk .wip (by decide)
        have ykey := kd_any hk
        repeat' (first
|(refine C_id ?_; first
|refine C_seq ?_
|refine C_region rfl ?_
|refine C_skip ?_
|refine C_ret0 ?_
|refine C_drawTr00 (id := 4) 6 (.q 0 (.q 2 (.two 1 3 (.q 4 (.two 3 5 (.n 5 .nil) (.n 3 .nil))) (.n 1 (.q 4 (.n 5 .nil)))))) rfl mixed (by kernel_rfl) rfl ?_
|refine C_drawTr00 (id := 6) 6 (.q 0 (.q 2 (.two 1 3 (.q 4 (.two 3 5 (.n 5 .nil) (.n 3 .nil))) (.n 1 (.q 4 (.n 5 .nil)))))) rfl mixed (by kernel_rfl) rfl ?_
|refine C_condT rfl obQ ?_
|(refine C_cond rfl obQ ?_ ?_ <;> intro h <;> (try simp only [cdS] at h) <;> (try (exfalso; omega)) <;> (try exact cdF h) <;> (try contradiction) <;> (try (exfalso; first | exact nsrc (toL h) | exact nmat (toL h) | exact nmix (toL h) | exact nwip (toL h) | exact h (congrArg ByteArray.toList ykey) | exact h.1.1 (congrArg ByteArray.toList ykey) | exact h.1.2 (congrArg ByteArray.toList ykey) | exact h.2 (congrArg ByteArray.toList ykey) | exact h.elim (fun h => h.elim (fun h => nsrc (toL h)) (fun h => nmat (toL h))) (fun h => nmix (toL h))))))
|(refine S_id ?_; first
|(refine S_callM (f := 176) rfl obQ (by kernel_rfl) (fun w hw => xInputs_as hin.1 hin.2 rfl w) (fun w1N w2N vN hw1N hbN hRN => ?_); obtain ⟨AN, cN, rfl, hSN⟩ := hRN)
|refine S_nil ?_
|refine S_run rfl rfl obQ obQ ?_
|refine S_box (fun bb => ⟨_, _, rfl, obQ, ?_⟩))
|(refine VT_id ?_; first
|refine VT_nil ?_
|refine VT_q rfl (Yl_step rfl obQ) ?_
|refine VT_n rfl ?_
|refine VT_two rfl rfl ?_ ?_)
|refine G_VT2 ⟨_, rfl⟩ ⟨_, rfl⟩ pstQ rfl ?_
|refine G_then ?_
|refine G_ret rfl obQ (fun w hw => ⟨?_, hw.below⟩))
        all_goals rfl
theorem rdS_some' {S : Nat → Prop} {W : World} {A : Option Addr} {xs : List Value} (h : RdS S W A xs) (h0 : 0 < xs.length) : ∃ a, A = some a := by
  rcases h with h1 | ⟨a, e, _⟩
  · rw [h1] at h0; simp at h0
  · exact ⟨a, e⟩
theorem xCheckNode_c (x : Nod) (z : Int) (w : World) : Calls Tryz.prog 124 #[.agg #[.string x.kd, .int .i64 x.a, .int .i64 x.b, .int .i64 x.c, .int .i64 x.n, .int .i64 x.cl, .int .i64 x.ga, .string x.w.sh, .int .i64 x.w.a, .int .i64 x.w.b, .int .i64 x.w.at_, .int .i64 x.w.soft], .int .i64 z] w fun r w' => r = .returned (.int .i64 (ndE x z)) ∧ Below w.heap.size w w' := by
  refine calls_of T_ok Tryz.func124 rfl Tryz.ntmps124 (Nat.le_of_ble_eq_true rfl) rfl ?_
  cases hk : kdOf x.kd with
  | none =>
    have hin := inX_no hk
    rw [nd_no hk]
    repeat' (first
|(refine C_id ?_; first
|refine C_seq ?_
|refine C_region rfl ?_
|refine C_ret0 ?_
|refine C_drawV (id := 2) 6 [(0, true), (1, true), (3, true), (5, true), (2, false), (4, false)] rfl mixed (by kernel_rfl) rfl ?_
|refine C_condT rfl obQ ?_)
|(refine S_id ?_; first
|(refine S_callM (f := 176) rfl obQ (by kernel_rfl) (fun w hw => xInputs_as hin.1 hin.2 rfl w) (fun w1N w2N vN hw1N hbN hRN => ?_); obtain ⟨AN, cN, rfl, hSN⟩ := hRN)
|refine S_pure (binX_pure rfl obQ (fun w => ne_ndX (x := usX x) (y := x) (b := (decide (usX x ≠ x))) rfl _ _ w)) ?_
|refine S_nil ?_
|refine S_runN rfl rfl obQ obQ ?_
|refine S_box (fun b2 => ⟨_, _, rfl, obQ, ?_⟩)
|refine S_slice (fun b => ⟨_, _, rfl, obQ, ?_⟩)
|refine S_call (f := 81) rfl obQ (by kernel_rfl) (fun w hw => rWhen_c _ _ w) ?_
|refine S_call (f := 189) rfl obQ (by kernel_rfl) (fun w hw => xused_c x w) ?_
|refine S_call (f := 113) rfl obQ (by kernel_rfl) (fun w hw => rFirstE_c (l := [wh (!false) 13, wh (decide (usX x ≠ x)) 1]) rfl (by simp) rfl _ w (.inr ⟨_, rfl, hw.src (i := 1) rfl rfl⟩)) ?_)
|refine V_nil ?_
|refine V_q rfl (Yl_step rfl obQ) ?_
|refine V_n rfl ?_
|(refine G_id ?_; first
|refine G_V ⟨⟨_, rfl, trivial⟩, ⟨_, rfl⟩, rfl, pstQ⟩ rfl ?_
|refine G_then ?_
|refine G_thenR ?_
|refine G_ret rfl obQ (fun w hw => ⟨?_, hw.below⟩)))
    all_goals rfl
  | some kk =>
    have hin := inX_of hk
    have huX := usX_of hk
    by_cases hu : usF kk x = x
    · have hub : decide (usX x ≠ x) = false := by rw [huX, hu]; simp
      repeat' (first
|(refine C_id ?_; first
|refine C_seq ?_
|refine C_region rfl ?_
|refine C_block ?_
|refine C_skip ?_
|refine C_drawV (id := 2) 6 [(0, true), (1, true), (3, true), (5, true), (2, false), (4, false)] rfl mixed (by kernel_rfl) rfl ?_
|refine C_condF rfl obQ ?_)
|(refine S_id ?_; first
|(refine S_callM (f := 176) rfl obQ (by kernel_rfl) (fun w hw => xInputs_as hin.1 hin.2 rfl w) (fun w1N w2N vN hw1N hbN hRN => ?_); obtain ⟨AN, cN, rfl, hSN⟩ := hRN)
|refine S_pure (binX_pure rfl obQ (fun w => ne_ndX (x := usX x) (y := x) (b := false) hub _ _ w)) ?_
|refine S_nil ?_
|refine S_runN rfl rfl obQ obQ ?_
|refine S_box (fun b2 => ⟨_, _, rfl, obQ, ?_⟩)
|refine S_slice (fun b => ⟨_, _, rfl, obQ, ?_⟩)
|refine S_call (f := 81) rfl obQ (by kernel_rfl) (fun w hw => rWhen_c _ _ w) ?_
|refine S_call (f := 189) rfl obQ (by kernel_rfl) (fun w hw => xused_c x w) ?_
|refine S_call (f := 113) rfl obQ (by kernel_rfl) (fun w hw => rFirstE_c (l := [wh (!true) 13, wh false 1]) rfl (by simp) rfl _ w (.inr ⟨_, rfl, hw.src (i := 1) rfl rfl⟩)) ?_)
|refine V_nil ?_
|refine V_q rfl (Yl_step rfl obQ) ?_
|refine V_n rfl ?_
|refine G_V ⟨⟨_, rfl, trivial⟩, ⟨_, rfl⟩, rfl, pstQ⟩ rfl ?_
|refine G_then ?_)
      obtain ⟨b2, rfl⟩ : ∃ q, q = b2 := ⟨b2, rfl⟩
      refine C_loopS (fun k : Nat => ⟨[(8, .s (.v (.int .i64 k))), (5, .s (.v (.slice AN (insF kk x).length cN))), (2, .s (.p b2 0 0)), (1, .s (.v (.int .i64 z)))], [⟨b2, 170, [.v (.string x.kd), .v (.int .i64 x.a), .v (.int .i64 x.b), .v (.int .i64 x.c), .v (.int .i64 x.n), .v (.int .i64 x.cl), .v (.int .i64 x.ga), .v (.string x.w.sh), .v (.int .i64 x.w.a), .v (.int .i64 x.w.b), .v (.int .i64 x.w.at_), .v (.int .i64 x.w.soft)]⟩], []⟩) (fun k => k ≤ (insF kk x).length ∧ ∀ j, j < k → 0 ≤ gI (insF kk x) j ∧ gI (insF kk x) j < z) (fun k => (insF kk x).length - k) 0 ⟨Nat.zero_le _, fun j hj => absurd hj (Nat.not_lt_zero _)⟩ ?_ (fun k hk0 => ?_)
      · exact svQ
      obtain ⟨hkl, hi⟩ := hk0
      dsimp only
      have hl3 : (insF kk x).length ≤ 3 := by cases kk <;> simp [insF]
      by_cases hlt : k < (insF kk x).length
      · obtain ⟨adN, rfl⟩ := rdS_some' hSN (by rw [List.length_map]; omega)
        by_cases h1 : gI (insF kk x) k < 0
        · rw [nd_in hk hu (inB_no hlt (by omega))]
          repeat' (first
|(refine C_id ?_; first
|refine C_seq ?_
|refine C_region rfl ?_
|refine C_block ?_
|refine C_skip ?_
|refine C_ret0 ?_
|refine C_condT rfl obQ ?_)
|(refine S_id ?_; first
|((with_reducible (first | refine S_falseN ?_ ?_ | refine S_falseB ?_ ?_ | refine S_falseL ?_ ?_ | refine S_falseD ?_ ?_ | refine S_falseE ?_ ?_)); · (first | rfl | omega | exact decide_eq_false (by omega)))
|((with_reducible (first | refine S_trueE ?_ ?_ | refine S_trueB ?_ ?_ | refine S_trueL ?_ ?_ | refine S_trueD ?_ ?_ | refine S_trueN ?_ ?_)); · (first | rfl | assumption | omega | exact decide_eq_true (by omega)))
|refine S_unG rfl rfl rfl rfl ?_
|refine S_offG (.v (.bool false)) rfl rfl rfl rfl rfl ?_
|refine S_load rfl obQ rfl [.int .i64 (gI (insF kk x) k)] (.past (w2N, fun b => w1N.heap.size ≤ b ∧ b < w2N.heap.size) memQ _ _ hSN _ adN rfl rfl (gI_idxZ (k := k) rfl hlt)) rfl (.inr ⟨rfl, rfl⟩) ?_
|refine S_one rfl obQ ?_
|refine S_nil ?_)
|(refine G_id ?_; first
|refine G_then ?_
|refine G_blockR ?_
|refine G_thenR ?_
|refine G_ret rfl obQ (fun w hw => ⟨?_, hw.below⟩)))
          all_goals rfl
        · by_cases h2 : z ≤ gI (insF kk x) k
          · rw [nd_in hk hu (inB_no hlt (by omega))]
            repeat' (first
|(refine C_id ?_; first
|refine C_seq ?_
|refine C_region rfl ?_
|refine C_block ?_
|refine C_skip ?_
|refine C_ret0 ?_
|refine C_condT rfl obQ ?_)
|(refine S_id ?_; first
|((with_reducible (first | refine S_falseN ?_ ?_ | refine S_falseB ?_ ?_ | refine S_falseL ?_ ?_ | refine S_falseD ?_ ?_ | refine S_falseE ?_ ?_)); · (first | rfl | omega | exact decide_eq_false (by omega)))
|((with_reducible (first | refine S_trueE ?_ ?_ | refine S_trueB ?_ ?_ | refine S_trueL ?_ ?_ | refine S_trueD ?_ ?_ | refine S_trueN ?_ ?_)); · (first | rfl | assumption | omega | exact decide_eq_true (by omega)))
|refine S_unG rfl rfl rfl rfl ?_
|refine S_offG (.v (.bool false)) rfl rfl rfl rfl rfl ?_
|refine S_load rfl obQ rfl [.int .i64 (gI (insF kk x) k)] (.past (w2N, fun b => w1N.heap.size ≤ b ∧ b < w2N.heap.size) memQ _ _ hSN _ adN rfl rfl (gI_idxZ (k := k) rfl hlt)) rfl (.inr ⟨rfl, rfl⟩) ?_
|refine S_one rfl obQ ?_
|refine S_nil ?_)
|(refine G_id ?_; first
|refine G_then ?_
|refine G_blockR ?_
|refine G_thenR ?_
|refine G_ret rfl obQ (fun w hw => ⟨?_, hw.below⟩)))
            all_goals rfl
          · repeat' (first
|(refine C_id ?_; first
|refine C_seq ?_
|refine C_region rfl ?_
|refine C_block ?_
|refine C_skip ?_
|refine C_condT rfl obQ ?_
|refine C_condF rfl obQ ?_)
|(refine S_id ?_; first
|((with_reducible (first | refine S_falseN ?_ ?_ | refine S_falseB ?_ ?_ | refine S_falseL ?_ ?_ | refine S_falseD ?_ ?_ | refine S_falseE ?_ ?_)); · (first | rfl | omega | exact decide_eq_false (by omega)))
|((with_reducible refine S_falseO ?_ ?_ ?_); (· rfl); (· first | rfl | (first | rfl | omega | exact decide_eq_false (by omega))))
|((with_reducible (first | refine S_trueE ?_ ?_ | refine S_trueB ?_ ?_ | refine S_trueL ?_ ?_ | refine S_trueD ?_ ?_ | refine S_trueN ?_ ?_)); · (first | rfl | assumption | omega | exact decide_eq_true (by omega)))
|refine S_unG rfl rfl rfl rfl ?_
|refine S_load rfl obQ rfl [.int .i64 (gI (insF kk x) k)] (.past (w2N, fun b => w1N.heap.size ≤ b ∧ b < w2N.heap.size) memQ _ _ hSN _ adN rfl rfl (gI_idxZ (k := k) rfl hlt)) rfl (.inr ⟨rfl, rfl⟩) ?_
|refine S_one rfl obQ ?_
|refine S_nil ?_)
|refine G_loop (k + 1) ⟨by omega, fun j hj => by by_cases e : j = k; subst e; omega; exact hi j (by omega)⟩ (by omega) svQ
|refine G_then ?_
|refine G_block ?_)
      · have hin2 := inB_yes (fun j hj => hi j (by omega))
        rw [nd_ki hk hu hin2]
        cases kk with
  | src =>
            have nmat := kd_ne hk .mat (by decide)
            have nmix := kd_ne hk .mix (by decide)
            have nwip := kd_ne hk .wip (by decide)
            have nkey := kd_ne hk .key (by decide)
            have ysrc := kd_any hk
            repeat' (first
|(refine C_id ?_; first
|refine C_seq ?_
|refine C_region rfl ?_
|refine C_exit ?_
|refine C_ret0 ?_
|refine C_condF rfl obQ ?_
|(refine C_cond rfl obQ ?_ ?_ <;> intro h <;> (try simp only [cdS] at h) <;> (try (exfalso; omega)) <;> (try exact cdF h) <;> (try contradiction) <;> (try (exfalso; first | exact nmat (toL h) | exact nmix (toL h) | exact nwip (toL h) | exact nkey (toL h) | exact h (congrArg ByteArray.toList ysrc) | exact h.1.1 (congrArg ByteArray.toList ysrc) | exact h.1.2 (congrArg ByteArray.toList ysrc) | exact h.2 (congrArg ByteArray.toList ysrc))) <;> (try (exfalso; omega))))
|refine S_nil ?_
|refine S_run rfl rfl obQ obQ ?_
|refine S_call (f := 33) rfl obQ (by kernel_rfl) (fun w hw => xCheckNumber_c x.n w) ?_
|(refine G_id ?_; first
|refine G_then ?_
|refine G_blockX ?_
|refine G_thenR ?_
|refine G_thenX ?_
|refine G_ret rfl obQ (fun w hw => ⟨?_, hw.below⟩)))
            all_goals rfl
          | mat =>
            have nsrc := kd_ne hk .src (by decide)
            have nmix := kd_ne hk .mix (by decide)
            have nwip := kd_ne hk .wip (by decide)
            have nkey := kd_ne hk .key (by decide)
            have ymat := kd_any hk
            repeat' (first
|(refine C_id ?_; first
|refine C_seq ?_
|refine C_region rfl ?_
|refine C_skip ?_
|refine C_exit ?_
|refine C_ret0 ?_
|refine C_condF rfl obQ ?_
|(refine C_cond rfl obQ ?_ ?_ <;> intro h <;> (try simp only [cdS] at h) <;> (try (exfalso; omega)) <;> (try exact cdF h) <;> (try contradiction) <;> (try (exfalso; first | exact nsrc (toL h) | exact nmix (toL h) | exact nwip (toL h) | exact nkey (toL h) | exact h (congrArg ByteArray.toList ymat) | exact h.1.1 (congrArg ByteArray.toList ymat) | exact h.1.2 (congrArg ByteArray.toList ymat) | exact h.2 (congrArg ByteArray.toList ymat))) <;> (try (exfalso; omega))))
|refine S_nil ?_
|refine S_run rfl rfl obQ obQ ?_
|refine S_call (f := 141) rfl obQ (by kernel_rfl) (fun w hw => xCheckLevel_c x.n w) ?_
|(refine G_id ?_; first
|refine G_then ?_
|refine G_blockX ?_
|refine G_thenR ?_
|refine G_thenX ?_
|refine G_ret rfl obQ (fun w hw => ⟨?_, hw.below⟩)))
            all_goals rfl
          | mix =>
            have nsrc := kd_ne hk .src (by decide)
            have nmat := kd_ne hk .mat (by decide)
            have nwip := kd_ne hk .wip (by decide)
            have nkey := kd_ne hk .key (by decide)
            have ymix := kd_any hk
            repeat' (first
|(refine C_id ?_; first
|refine C_seq ?_
|refine C_region rfl ?_
|refine C_skip ?_
|refine C_exit ?_
|refine C_ret0 ?_
|(refine C_cond rfl obQ ?_ ?_ <;> intro h <;> (try simp only [cdS] at h) <;> (try (exfalso; omega)) <;> (try exact cdF h) <;> (try contradiction) <;> (try (exfalso; first | exact nsrc (toL h) | exact nmat (toL h) | exact nwip (toL h) | exact nkey (toL h) | exact h (congrArg ByteArray.toList ymix) | exact h.1.1 (congrArg ByteArray.toList ymix) | exact h.1.2 (congrArg ByteArray.toList ymix) | exact h.2 (congrArg ByteArray.toList ymix))) <;> (try (exfalso; omega))))
|refine S_nil ?_
|refine S_run rfl rfl obQ obQ ?_
|refine S_call (f := 114) rfl obQ (by kernel_rfl) (fun w hw => rRange_c _ _ _ w) ?_
|(refine G_id ?_; first
|refine G_then ?_
|refine G_blockX ?_
|refine G_thenR ?_
|refine G_thenX ?_
|refine G_ret rfl obQ (fun w hw => ⟨?_, hw.below⟩)))
            all_goals rfl
          | wip =>
            have nsrc := kd_ne hk .src (by decide)
            have nmat := kd_ne hk .mat (by decide)
            have nmix := kd_ne hk .mix (by decide)
            have nkey := kd_ne hk .key (by decide)
            have ywip := kd_any hk
            repeat' (first
|(refine C_id ?_; first
|refine C_seq ?_
|refine C_region rfl ?_
|refine C_skip ?_
|refine C_exit ?_
|refine C_ret0 ?_
|(refine C_cond rfl obQ ?_ ?_ <;> intro h <;> (try simp only [cdS] at h) <;> (try (exfalso; omega)) <;> (try exact cdF h) <;> (try contradiction) <;> (try (exfalso; first | exact nsrc (toL h) | exact nmat (toL h) | exact nmix (toL h) | exact nkey (toL h) | exact h (congrArg ByteArray.toList ywip) | exact h.1.1 (congrArg ByteArray.toList ywip) | exact h.1.2 (congrArg ByteArray.toList ywip) | exact h.2 (congrArg ByteArray.toList ywip) | exact h.elim (fun h => h.elim (fun h => nsrc (toL h)) (fun h => nmat (toL h))) (fun h => nmix (toL h)))) <;> (try (exfalso; omega))))
|refine S_nil ?_
|refine S_run rfl rfl obQ obQ ?_
|refine S_call (f := 21) rfl obQ (by kernel_rfl) (fun w hw => xCheckWipe_c x.w w) ?_
|(refine G_id ?_; first
|refine G_then ?_
|refine G_blockX ?_
|refine G_thenR ?_
|refine G_thenX ?_
|refine G_ret rfl obQ (fun w hw => ⟨?_, hw.below⟩)))
            all_goals rfl
          | key =>
            have nsrc := kd_ne hk .src (by decide)
            have nmat := kd_ne hk .mat (by decide)
            have nmix := kd_ne hk .mix (by decide)
            have nwip := kd_ne hk .wip (by decide)
            have ykey := kd_any hk
            repeat' (first
|(refine C_id ?_; first
|refine C_seq ?_
|refine C_region rfl ?_
|refine C_skip ?_
|refine C_exit ?_
|refine C_ret0 ?_
|(refine C_cond rfl obQ ?_ ?_ <;> intro h <;> (try simp only [cdS] at h) <;> (try (exfalso; omega)) <;> (try exact cdF h) <;> (try contradiction) <;> (try (exfalso; first | exact nsrc (toL h) | exact nmat (toL h) | exact nmix (toL h) | exact nwip (toL h) | exact h (congrArg ByteArray.toList ykey) | exact h.1.1 (congrArg ByteArray.toList ykey) | exact h.1.2 (congrArg ByteArray.toList ykey) | exact h.2 (congrArg ByteArray.toList ykey) | exact h.elim (fun h => h.elim (fun h => nsrc (toL h)) (fun h => nmat (toL h))) (fun h => nmix (toL h)))) <;> (try (exfalso; omega))))
|refine S_nil ?_
|refine S_run rfl rfl obQ obQ ?_
|refine S_call (f := 59) rfl obQ (by kernel_rfl) (fun w hw => xCheckSlope_c x.cl x.ga w) ?_
|(refine G_id ?_; first
|refine G_then ?_
|refine G_blockX ?_
|refine G_thenX ?_
|refine G_ret rfl obQ (fun w hw => ⟨?_, hw.below⟩)))
            all_goals rfl
    · have hub : decide (usX x ≠ x) = true := by rw [huX]; exact decide_eq_true hu
      rw [nd_us hk hu]
      repeat' (first
|(refine C_id ?_; first
|refine C_seq ?_
|refine C_region rfl ?_
|refine C_ret0 ?_
|refine C_drawV (id := 2) 6 [(0, true), (1, true), (3, true), (5, true), (2, false), (4, false)] rfl mixed (by kernel_rfl) rfl ?_
|refine C_condT rfl obQ ?_)
|(refine S_id ?_; first
|(refine S_callM (f := 176) rfl obQ (by kernel_rfl) (fun w hw => xInputs_as hin.1 hin.2 rfl w) (fun w1N w2N vN hw1N hbN hRN => ?_); obtain ⟨AN, cN, rfl, hSN⟩ := hRN)
|refine S_pure (binX_pure rfl obQ (fun w => ne_ndX (x := usX x) (y := x) (b := true) hub _ _ w)) ?_
|refine S_nil ?_
|refine S_runN rfl rfl obQ obQ ?_
|refine S_box (fun b2 => ⟨_, _, rfl, obQ, ?_⟩)
|refine S_slice (fun b => ⟨_, _, rfl, obQ, ?_⟩)
|refine S_call (f := 81) rfl obQ (by kernel_rfl) (fun w hw => rWhen_c _ _ w) ?_
|refine S_call (f := 189) rfl obQ (by kernel_rfl) (fun w hw => xused_c x w) ?_
|refine S_call (f := 113) rfl obQ (by kernel_rfl) (fun w hw => rFirstE_c (l := [wh (!true) 13, wh true 1]) rfl (by simp) rfl _ w (.inr ⟨_, rfl, hw.src (i := 1) rfl rfl⟩)) ?_)
|refine V_nil ?_
|refine V_q rfl (Yl_step rfl obQ) ?_
|refine V_n rfl ?_
|(refine G_id ?_; first
|refine G_V ⟨⟨_, rfl, trivial⟩, ⟨_, rfl⟩, rfl, pstQ⟩ rfl ?_
|refine G_then ?_
|refine G_thenR ?_
|refine G_ret rfl obQ (fun w hw => ⟨?_, hw.below⟩)))
      all_goals rfl
theorem xCheckTree_c (A : Option Addr) (c : Nat) (t : List Nod) (hl : t.length ≤ 1000000) (w : World) (hr : Rd w A (t.flatMap ndC)) : Calls Tryz.prog 32 #[.slice A t.length c] w fun r w' => r = .returned (.int .i64 (trE t)) ∧ Below w.heap.size w w' := by
  refine calls_of T_ok Tryz.func32 rfl Tryz.ntmps32 (Nat.le_of_ble_eq_true rfl) rfl ?_
  by_cases h1 : trnE t.length = 0
  · rw [trE_2 h1]
    repeat' (first
|(refine C_id ?_; first
|refine C_seq ?_
|refine C_region rfl ?_
|refine C_block ?_
|refine C_skip ?_
|refine C_ret0 ?_
|(refine C_cond rfl obQ ?_ ?_ <;> intro h <;> (try simp only [cdS] at h) <;> (try (exfalso; omega)) <;> (try exact cdF h) <;> (try contradiction)))
|(refine S_id ?_; first
|refine S_nil ?_
|refine S_run rfl rfl obQ obQ ?_
|refine S_slice (fun b => ⟨_, _, rfl, obQ, ?_⟩)
|refine S_call (f := 81) rfl obQ (by kernel_rfl) (fun w hw => rWhen_c _ _ w) ?_
|refine S_call (f := 113) rfl obQ (by kernel_rfl) (fun w hw => rFirst_c _ _ [wh ((t.length : Int) == 0) 12, wh (decide ((16 : Int) < t.length)) 5] (by simp) w (.inr ⟨_, rfl, hw.src (i := 0) rfl rfl⟩)) ?_)
|refine G_then ?_
|refine G_thenR ?_
|refine G_ret rfl obQ (fun w hw => ⟨?_, hw.below⟩))
    refine C_loopS (fun k : Nat => ⟨[(4, .s (.v (.int .i64 k))), (0, .s (.v (.slice A t.length c)))], [], []⟩) (fun k => k ≤ t.length ∧ firstL ((List.range t.length).map fun i => ndE (gN t i) i) = firstL (((List.range t.length).map fun i => ndE (gN t i) i).drop k)) (fun k => t.length - k) 0 ⟨Nat.zero_le _, rfl⟩ ?_ (fun k hk => ?_)
    · exact svQ
    by_cases hlt : k < t.length
    · obtain ⟨ad, rfl⟩ := hr.some (by rw [nd_len]; omega)
      have hfd := range_drop (f := fun i : Nat => ndE (gN t i) (i : Int)) hlt
      repeat' (first
|(refine C_id ?_; first
|refine C_seq ?_
|refine C_region rfl ?_
|refine C_block ?_
|refine C_skip ?_
|refine C_ret0 ?_
|(refine C_cond rfl obQ ?_ ?_ <;> intro h <;> (try simp only [cdS] at h) <;> (try (exfalso; omega)) <;> (try exact cdF h) <;> (try (exfalso; omega))))
|(refine S_id ?_; first
|refine S_load rfl obQ rfl [.string (gN t k).kd, .int .i64 (gN t k).a, .int .i64 (gN t k).b, .int .i64 (gN t k).c, .int .i64 (gN t k).n, .int .i64 (gN t k).cl, .int .i64 (gN t k).ga, .string (gN t k).w.sh, .int .i64 (gN t k).w.a, .int .i64 (gN t k).w.b, .int .i64 (gN t k).w.at_, .int .i64 (gN t k).w.soft] (.past (w, fun b => b < w.heap.size) memQ _ _ hr.toS _ _ rfl rfl (gN_idx (t := t) (k := k) rfl hlt)) rfl (.inl ⟨rfl, rfl⟩) ?_
|refine S_nil ?_
|refine S_run rfl rfl obQ obQ ?_
|refine S_call (f := 124) rfl obQ (by kernel_rfl) (fun w hw => xCheckNode_c (gN t k) k w) ?_)
|(refine G_id ?_; first
|refine G_loop (k + 1) ?_ (by omega) svQ
|refine G_then ?_
|refine G_block ?_
|refine G_blockR ?_
|refine G_thenR ?_
|refine G_ret rfl obQ (fun w hw => ⟨?_, hw.below⟩)))
      · exact rI (by have h' : ¬ (fun i : Nat => ndE (gN t i) (i : Int)) k = 0 := h; rw [hk.2, hfd, if_neg h'])
      · exact ⟨by omega, by have h' : (fun i : Nat => ndE (gN t i) (i : Int)) k = 0 := h; rw [hk.2, hfd, if_pos h']⟩
    · obtain rfl : k = t.length := by omega
      repeat' (first
|(refine C_id ?_; first
|refine C_seq ?_
|refine C_region rfl ?_
|refine C_block ?_
|refine C_skip ?_
|refine C_exit ?_
|refine C_ret0 ?_
|(refine C_cond rfl obQ ?_ ?_ <;> intro h <;> (try simp only [cdS] at h) <;> (try (exfalso; omega)) <;> (try exact cdF h) <;> (try (exfalso; omega))))
|refine S_nil ?_
|refine S_run rfl rfl obQ obQ ?_
|(refine G_id ?_; first
|refine G_then ?_
|refine G_blockX ?_
|refine G_thenX ?_
|refine G_ret rfl obQ (fun w hw => ⟨?_, hw.below⟩)))
      exact rI (by rw [hk.2, range_end])
  · rw [trE_1 h1]
    repeat' (first
|(refine C_id ?_; first
|refine C_seq ?_
|refine C_region rfl ?_
|refine C_block ?_
|refine C_skip ?_
|refine C_ret0 ?_
|(refine C_cond rfl obQ ?_ ?_ <;> intro h <;> (try simp only [cdS] at h) <;> (try (exfalso; omega)) <;> (try exact cdF h) <;> (try contradiction)))
|(refine S_id ?_; first
|refine S_nil ?_
|refine S_run rfl rfl obQ obQ ?_
|refine S_slice (fun b => ⟨_, _, rfl, obQ, ?_⟩)
|refine S_call (f := 81) rfl obQ (by kernel_rfl) (fun w hw => rWhen_c _ _ w) ?_
|refine S_call (f := 113) rfl obQ (by kernel_rfl) (fun w hw => rFirst_c _ _ [wh ((t.length : Int) == 0) 12, wh (decide ((16 : Int) < t.length)) 5] (by simp) w (.inr ⟨_, rfl, hw.src (i := 0) rfl rfl⟩)) ?_)
|refine G_then ?_
|refine G_thenR ?_
|refine G_ret rfl obQ (fun w hw => ⟨?_, hw.below⟩))
    all_goals rfl
theorem any_eqB {l : List Int} {z : Int} : l.any (eqB z) = decide (z ∈ l) := by
  rw [Bool.eq_iff_iff, List.any_eq_true, decide_eq_true_eq]
  unfold eqB
  constructor
  · rintro ⟨x, hx, h⟩
    rw [of_decide_eq_true h]
    exact hx
  · intro h
    exact ⟨z, h, decide_eq_true rfl⟩
theorem eqB_yes {l : List Int} {z : Int} {k : Nat} (hk : k < l.length) (h : gI l k = z) : l.any (eqB z) = true := by
  rw [any_eqB, ← h]
  exact decide_eq_true (gI_mem hk)
theorem eqB_no {l : List Int} {z : Int} (h : ∀ k, k < l.length → ¬ gI l k = z) : l.any (eqB z) = false := by
  rw [any_eqB]
  refine decide_eq_false fun hz => ?_
  obtain ⟨k, hk, e⟩ := List.getElem_of_mem hz
  exact h k hk (by rw [gI_at hk, e])
theorem xHasInt_c (A : Option Addr) (c : Nat) (l : List Int) (hl : l.length ≤ 1000000) (z : Int) (w : World) (hr : Rd w A (l.map (.int .i64))) : Calls Tryz.prog 74 #[.slice A l.length c, .int .i64 z] w fun r w' => r = .returned (.bool (l.any (eqB z))) ∧ Below w.heap.size w w' := by
  refine calls_of T_ok Tryz.func74 rfl Tryz.ntmps74 (Nat.le_of_ble_eq_true rfl) rfl ?_
  repeat' (first
|(refine C_id ?_; first
|refine C_seq ?_
|refine C_region rfl ?_
|refine C_block ?_
|refine C_skip ?_
|refine C_ret0 ?_
|(refine C_cond rfl obQ ?_ ?_ <;> intro h <;> (try simp only [cdS] at h)))
|refine S_nil ?_
|refine S_run rfl rfl obQ obQ ?_
|refine G_then ?_
|refine G_thenR ?_
|refine G_ret rfl obQ (fun w hw => ⟨?_, hw.below⟩))
  refine C_loopS (fun k : Nat => ⟨[(5, .s (.v (.int .i64 k))), (0, .s (.v (.slice A l.length c))), (1, .s (.v (.int .i64 z)))], [], []⟩) (fun k => k ≤ l.length ∧ ∀ j, j < k → ¬ gI l j = z) (fun k => l.length - k) 0 ⟨Nat.zero_le _, fun j hj => absurd hj (Nat.not_lt_zero _)⟩ ?_ (fun k hk => ?_)
  · exact svQ
  by_cases hlt : k < l.length
  · obtain ⟨ad, rfl⟩ := hr.some (by simp; omega)
    by_cases hz : gI l k = z
    · rw [eqB_yes hlt hz]
      repeat' (first
|(refine C_id ?_; first
|refine C_seq ?_
|refine C_region rfl ?_
|refine C_block ?_
|refine C_skip ?_
|refine C_ret0 ?_
|(refine C_cond rfl obQ ?_ ?_ <;> intro h <;> (try simp only [cdS] at h) <;> (try (exfalso; omega)) <;> (try exact cdF h) <;> (try contradiction) <;> (try (exfalso; omega))))
|refine S_load rfl obQ rfl [.int .i64 (gI l k)] (.past (w, fun b => b < w.heap.size) memQ _ _ hr.toS _ _ rfl rfl (gI_idxZ (k := k) rfl hlt)) rfl (.inr ⟨rfl, rfl⟩) ?_
|refine S_nil ?_
|refine S_run rfl rfl obQ obQ ?_
|(refine G_id ?_; first
|refine G_then ?_
|refine G_blockR ?_
|refine G_thenR ?_
|refine G_ret rfl obQ (fun w hw => ⟨?_, hw.below⟩)))
      all_goals rfl
    · repeat' (first
|(refine C_id ?_; first
|refine C_seq ?_
|refine C_region rfl ?_
|refine C_block ?_
|refine C_skip ?_
|(refine C_cond rfl obQ ?_ ?_ <;> intro h <;> (try simp only [cdS] at h) <;> (try (exfalso; omega)) <;> (try exact cdF h) <;> (try contradiction) <;> (try (exfalso; omega))))
|refine S_load rfl obQ rfl [.int .i64 (gI l k)] (.past (w, fun b => b < w.heap.size) memQ _ _ hr.toS _ _ rfl rfl (gI_idxZ (k := k) rfl hlt)) rfl (.inr ⟨rfl, rfl⟩) ?_
|refine S_nil ?_
|refine S_run rfl rfl obQ obQ ?_
|refine G_loop (k + 1) ⟨by omega, fun j hj => by by_cases e : j = k; subst e; exact hz; exact hk.2 j (by omega)⟩ (by omega) svQ
|refine G_then ?_
|refine G_block ?_)
  · rw [eqB_no (fun j hj => hk.2 j (by omega))]
    repeat' (first
|(refine C_id ?_; first
|refine C_seq ?_
|refine C_region rfl ?_
|refine C_exit ?_
|refine C_ret0 ?_
|(refine C_cond rfl obQ ?_ ?_ <;> intro h <;> (try simp only [cdS] at h) <;> (try (exfalso; omega)) <;> (try exact cdF h) <;> (try (exfalso; omega))))
|refine S_nil ?_
|refine S_run rfl rfl obQ obQ ?_
|(refine G_id ?_; first
|refine G_then ?_
|refine G_blockX ?_
|refine G_thenX ?_
|refine G_ret rfl obQ (fun w hw => ⟨?_, hw.below⟩)))
    all_goals rfl
theorem xHasInt_as {A : Option Addr} {c n : Nat} {l : List Int} {z : Int} {b : Bool} (h : l.any (eqB z) = b) (hn : l.length = n) (hl : n ≤ 1000000) (w : World) (hr : Rd w A (l.map (.int .i64))) : Calls Tryz.prog 74 #[.slice A n c, .int .i64 z] w fun r w' => r = .returned (.bool b) ∧ Below w.heap.size w w' := by
  subst h hn
  exact xHasInt_c A c l hl z w hr
theorem gN_f {t : List Nod} {k : Nat} {z : Int} (e : z = k) (h : k < t.length) (o : Nat) {v : Value} (hv : (ndC (gN t k))[o]? = some v) : ∀ (j : Nat) (u : Value), ([v] : List Value)[j]? = some u → (t.flatMap ndC)[(z.toNat * 12 + o) + j]? = some u := by
  subst e
  rw [gN_at h] at hv
  exact idxF (f := ndC) (fun _ => rfl) h o hv
def scT (t : List Nod) (k : Nat) : List Int := ((List.range k).filter fun (j : Nat) => hasS t (j : Int)).map fun (j : Nat) => (j : Int)
theorem scT_y {t : List Nod} {k : Nat} (h : hasS t k = true) : scT t (k + 1) = scT t k ++ [(k : Int)] := by
  unfold scT
  rw [List.range_succ, List.filter_append, List.map_append]
  simp [h]
theorem scT_n {t : List Nod} {k : Nat} (h : hasS t k = false) : scT t (k + 1) = scT t k := by
  unfold scT
  rw [List.range_succ, List.filter_append, List.map_append]
  simp [h]
theorem scT_le (t : List Nod) (k : Nat) : (scT t k).length ≤ k := by
  unfold scT
  rw [List.length_map]
  have := List.length_filter_le (fun j : Nat => hasS t (j : Int)) (List.range k)
  simp at this ⊢
  omega
theorem hasS_s {t : List Nod} {i : Nat} {k : Int} (h : i < t.length) : hasS (t.take (i + 1)) k = (hasS (t.take i) k || (decide ((gN t i).kd = bSrc) && decide ((gN t i).n = k))) := by
  unfold hasS
  rw [List.take_succ_eq_append_getElem h, List.any_append, ← gN_at h]
  simp
theorem xSources_c (A : Option Addr) (c : Nat) (t : List Nod) (hl : t.length ≤ 1000000) (w : World) (hr : Rd w A (t.flatMap ndC)) : Calls Tryz.prog 46 #[.slice A t.length c] w fun r w' => ∃ v, r = .returned v ∧ Below w.heap.size w w' ∧ Sl w w' v (scI t).length ((scI t).map (.int .i64)) := by
  refine calls_of T_ok Tryz.func46 rfl Tryz.ntmps46 (Nat.le_of_ble_eq_true rfl) rfl ?_
  repeat' (first
|refine C_seq ?_
|refine C_region rfl ?_
|refine C_block ?_
|refine S_nil ?_
|refine S_run rfl rfl obQ obQ ?_
|refine G_then ?_)
  refine C_row0 3 3 1 rfl ?_
  refine C_loopS (fun i : Nat × Option Addr × Nat => ⟨[(4, .s (.v (.int .i64 i.1))), (3, .s (.r i.2.1 (scT t i.1).length i.2.2 0)), (0, .s (.v (.slice A t.length c)))], [], [⟨3, 1, (scT t i.1).length, (scT t i.1).map (.int .i64), .slice i.2.1 (scT t i.1).length i.2.2⟩]⟩) (fun i => i.1 ≤ 8) (fun i => 8 - i.1) (0, none, 0) (Nat.zero_le _) ?_ (fun i hi => ?_)
  · exact svQ
  obtain ⟨k, A2, c2⟩ := i
  have hk : k ≤ 8 := hi
  have hle := scT_le t k
  dsimp only
  by_cases hlt : k < 8
  · repeat' (first
|(refine C_id ?_; first
|refine C_seq ?_
|refine C_region rfl ?_
|refine C_block ?_
|refine C_skip ?_
|refine C_exit ?_
|refine C_ret0 ?_
|(refine C_cond rfl obQ ?_ ?_ <;> intro h <;> (try simp only [cdS] at h) <;> (try (exfalso; omega)) <;> (try exact cdF h) <;> (try (exfalso; omega))))
|refine S_nil ?_
|refine S_run rfl rfl obQ obQ ?_
|(refine G_id ?_; first
|refine G_then ?_
|refine G_blockX ?_
|refine G_thenX ?_
|refine G_ret rfl obQ (fun w hw => ⟨?_, hw.below⟩)))
    refine C_loopS (fun i : Nat => ⟨[(6, .s (.v (.int .i64 i))), (5, .s (.v (.bool (hasS (t.take i) k)))), (4, .s (.v (.int .i64 k))), (3, .s (.r A2 (scT t k).length c2 0)), (0, .s (.v (.slice A t.length c)))], [], [⟨3, 1, (scT t k).length, (scT t k).map (.int .i64), .slice A2 (scT t k).length c2⟩]⟩) (fun i => i ≤ t.length) (fun i => t.length - i) 0 (Nat.zero_le _) ?_ (fun i hi => ?_)
    · exact svQ
    have hi1 : i ≤ t.length := hi
    dsimp only
    by_cases hlt : i < t.length
    · obtain ⟨ad, rfl⟩ := hr.some (by rw [nd_len]; omega)
      have hss := hasS_s (k := k) hlt
      cases hb : hasS (t.take i) k
      · rw [hb, Bool.false_or] at hss
        by_cases hs : (gN t i).kd = bSrc
        · rw [decide_eq_true hs, Bool.true_and] at hss
          by_cases hn : (gN t i).n = k
          · rw [decide_eq_true hn] at hss
            repeat' (first
|(refine C_id ?_; first
|refine C_seq ?_
|refine C_region rfl ?_
|refine C_block ?_
|refine C_skip ?_
|(refine C_cond rfl obQ ?_ ?_ <;> intro h <;> (try simp only [cdS] at h) <;> (try (exfalso; omega)) <;> (try exact cdF h) <;> (try contradiction) <;> (try (exfalso; omega))))
|(refine S_id ?_; first
|((with_reducible (first | refine S_trueE ?_ ?_ | refine S_trueB ?_ ?_ | refine S_trueL ?_ ?_ | refine S_trueD ?_ ?_ | refine S_trueN ?_ ?_)); · (first | rfl | exact tle_t hs | exact beq_iff_eq.2 hn))
|refine S_unG rfl rfl rfl rfl ?_
|refine S_oneE rfl rfl obQ ?_
|((with_reducible refine S_strEq ?_ ?_); · (first | assumption | (apply Eq.symm; assumption)))
|refine S_load rfl obQ rfl [.string (gN t i).kd] (.past (w, fun b => b < w.heap.size) memQ _ _ hr.toS (((i : Nat) : Int).toNat * 12 + 0) _ rfl (add_of_add _ _ _) (gN_f (t := t) (k := i) rfl hlt 0 rfl)) rfl (.inr ⟨rfl, rfl⟩) ?_
|refine S_load rfl obQ rfl [.int .i64 (gN t i).n] (.past (w, fun b => b < w.heap.size) memQ _ _ hr.toS (((i : Nat) : Int).toNat * 12 + 4) _ rfl (add_of_add _ _ _) (gN_f (t := t) (k := i) rfl hlt 4 rfl)) rfl (.inr ⟨rfl, rfl⟩) ?_
|refine S_nil ?_
|refine S_runN rfl rfl obQ obQ ?_)
|refine G_loop (i + 1) (show i + 1 ≤ t.length by omega) (by show t.length - (i + 1) < t.length - i; omega) (by (try dsimp only); rw [hss]; exact svQ)
|refine G_then ?_
|refine G_block ?_)
          · rw [decide_eq_false hn] at hss
            repeat' (first
|(refine C_id ?_; first
|refine C_seq ?_
|refine C_region rfl ?_
|refine C_block ?_
|refine C_skip ?_
|(refine C_cond rfl obQ ?_ ?_ <;> intro h <;> (try simp only [cdS] at h) <;> (try (exfalso; omega)) <;> (try exact cdF h) <;> (try contradiction) <;> (try (exfalso; omega))))
|(refine S_id ?_; first
|((with_reducible (first | refine S_falseN ?_ ?_ | refine S_falseB ?_ ?_ | refine S_falseL ?_ ?_ | refine S_falseD ?_ ?_ | refine S_falseE ?_ ?_)); · (first | rfl | exact beq_eq_false_iff_ne.2 hn))
|((with_reducible refine S_falseO ?_ ?_ ?_); (· rfl); (· first | rfl | (first | rfl | exact beq_eq_false_iff_ne.2 hn)))
|refine S_unG rfl rfl rfl rfl ?_
|refine S_oneE rfl rfl obQ ?_
|((with_reducible refine S_strEq ?_ ?_); · (first | assumption | (apply Eq.symm; assumption)))
|refine S_load rfl obQ rfl [.string (gN t i).kd] (.past (w, fun b => b < w.heap.size) memQ _ _ hr.toS (((i : Nat) : Int).toNat * 12 + 0) _ rfl (add_of_add _ _ _) (gN_f (t := t) (k := i) rfl hlt 0 rfl)) rfl (.inr ⟨rfl, rfl⟩) ?_
|refine S_load rfl obQ rfl [.int .i64 (gN t i).n] (.past (w, fun b => b < w.heap.size) memQ _ _ hr.toS (((i : Nat) : Int).toNat * 12 + 4) _ rfl (add_of_add _ _ _) (gN_f (t := t) (k := i) rfl hlt 4 rfl)) rfl (.inr ⟨rfl, rfl⟩) ?_
|refine S_nil ?_
|refine S_runN rfl rfl obQ obQ ?_)
|refine G_loop (i + 1) (show i + 1 ≤ t.length by omega) (by show t.length - (i + 1) < t.length - i; omega) (by (try dsimp only); rw [hss]; exact svQ)
|refine G_then ?_
|refine G_block ?_)
        · rw [decide_eq_false hs, Bool.false_and] at hss
          repeat' (first
|(refine C_id ?_; first
|refine C_seq ?_
|refine C_region rfl ?_
|refine C_block ?_
|refine C_skip ?_
|(refine C_cond rfl obQ ?_ ?_ <;> intro h <;> (try simp only [cdS] at h) <;> (try (exfalso; omega)) <;> (try exact cdF h) <;> (try contradiction) <;> (try (exfalso; omega))))
|(refine S_id ?_; first
|((with_reducible refine S_falseO ?_ ?_ ?_); (· rfl); (· first | rfl | (first | rfl | exact tle_f hs)))
|refine S_unG rfl rfl rfl rfl ?_
|refine S_oneE rfl rfl obQ ?_
|((with_reducible refine S_strNq ?_ ?_); · (first | assumption | (apply Ne.symm; assumption)))
|refine S_offG (.v (.bool false)) rfl rfl rfl rfl rfl ?_
|refine S_load rfl obQ rfl [.string (gN t i).kd] (.past (w, fun b => b < w.heap.size) memQ _ _ hr.toS (((i : Nat) : Int).toNat * 12 + 0) _ rfl (add_of_add _ _ _) (gN_f (t := t) (k := i) rfl hlt 0 rfl)) rfl (.inr ⟨rfl, rfl⟩) ?_
|refine S_nil ?_
|refine S_runN rfl rfl obQ obQ ?_)
|refine G_loop (i + 1) (show i + 1 ≤ t.length by omega) (by show t.length - (i + 1) < t.length - i; omega) (by (try dsimp only); rw [hss]; exact svQ)
|refine G_then ?_
|refine G_block ?_)
      · rw [hb, Bool.true_or] at hss
        repeat' (first
|(refine C_id ?_; first
|refine C_seq ?_
|refine C_region rfl ?_
|refine C_block ?_
|refine C_skip ?_
|(refine C_cond rfl obQ ?_ ?_ <;> intro h <;> (try simp only [cdS] at h) <;> (try (exfalso; omega)) <;> (try exact cdF h) <;> (try contradiction) <;> (try (exfalso; omega))))
|refine S_offG (.v (.bool false)) rfl rfl rfl rfl rfl ?_
|refine S_nil ?_
|refine S_runN rfl rfl obQ obQ ?_
|refine G_loop (i + 1) (show i + 1 ≤ t.length by omega) (by show t.length - (i + 1) < t.length - i; omega) (by (try dsimp only); rw [hss]; exact svQ)
|refine G_then ?_
|refine G_block ?_)
    · obtain rfl : i = t.length := by omega
      rw [List.take_length]
      cases hb : hasS t k
      · have hst := scT_n hb
        repeat' (first
|(refine C_id ?_; first
|refine C_seq ?_
|refine C_region rfl ?_
|refine C_skip ?_
|refine C_exit ?_
|refine C_condF rfl obQ ?_
|(refine C_cond rfl obQ ?_ ?_ <;> intro h <;> (try simp only [cdS] at h) <;> (try (exfalso; omega)) <;> (try exact cdF h) <;> (try contradiction) <;> (try (exfalso; omega))))
|refine S_nil ?_
|refine S_run rfl rfl obQ obQ ?_
|(refine G_id ?_; first
|refine G_loop (k + 1, A2, c2) (show k + 1 ≤ 8 by omega) (by show 8 - (k + 1) < 8 - k; omega) (by dsimp only; rw [hst]; exact svQ)
|refine G_then ?_
|refine G_block ?_
|refine G_blockX ?_
|refine G_thenX ?_))
      · have hst := scT_y hb
        repeat' (first
|(refine C_id ?_; first
|refine C_seq ?_
|refine C_region rfl ?_
|refine C_exit ?_
|refine C_condT rfl obQ ?_
|(refine C_cond rfl obQ ?_ ?_ <;> intro h <;> (try simp only [cdS] at h) <;> (try (exfalso; omega)) <;> (try exact cdF h) <;> (try contradiction) <;> (try (exfalso; omega))))
|(refine S_id ?_; first
|refine S_append rfl obQ rfl rfl rfl ⟨by decide, rfl⟩ rfl ⟨rfl, rfl, rfl, rfl⟩ [.int .i64 (k : Int)] ⟨by decide, rfl⟩ (by simp [Value.oneCell']) (fun w hw => by first | exact hw.src (i := 0) rfl rfl | exact hw.src (i := 1) rfl rfl | exact hw.src (i := 2) rfl rfl | exact hw.src (i := 3) rfl rfl | exact hw.src (i := 4) rfl rfl | exact hw.src (i := 5) rfl rfl | exact hw.src (i := 6) rfl rfl | exact hw.src (i := 7) rfl rfl | exact hw.src (i := 8) rfl rfl) (by unfold maxLen; dsimp only; omega) (fun gb cap' => ⟨_, rfl, ?_⟩)
|refine S_nil ?_
|refine S_run rfl rfl obQ obQ ?_
|refine S_slice (fun b => ⟨_, _, rfl, obQ, ?_⟩))
|(refine G_id ?_; first
|refine G_loop (k + 1, some ⟨gb, 0, none⟩, cap') (show k + 1 ≤ 8 by omega) (by show 8 - (k + 1) < 8 - k; omega) (by dsimp only; rw [hst, List.map_append, List.length_append]; exact svQ)
|refine G_then ?_
|refine G_block ?_
|refine G_blockX ?_
|refine G_thenX ?_))
  · obtain rfl : k = 8 := by omega
    repeat' (first
|(refine C_id ?_; first
|refine C_seq ?_
|refine C_region rfl ?_
|refine C_exit ?_
|refine C_ret0 ?_
|refine C_condF rfl obQ ?_
|(refine C_cond rfl obQ ?_ ?_ <;> intro h <;> (try simp only [cdS] at h) <;> (try (exfalso; omega)) <;> (try exact cdF h) <;> (try (exfalso; omega))))
|refine S_nil ?_
|refine S_run rfl rfl obQ obQ ?_
|(refine G_id ?_; first
|refine G_then ?_
|refine G_blockX ?_
|refine G_thenX ?_
|refine G_ret rfl obQ (fun w2 hw => ⟨_, rfl, hw.below, HW.rowSl (i := 0) hw rfl rfl rfl rfl⟩)))
end Go.Proofs.YtjkgklhjbopoaaaGreatDoor
