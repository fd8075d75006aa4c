/- Mixer: whole trees, short trees, where a tree may be cut: contracts of the reference. -/
import Derived.Test.YtjkgklhjbopoaaaGreatDoorPartK
namespace Go.Proofs.YtjkgklhjbopoaaaGreatDoor
open Go.E Go.RowKit Go.Fl
attribute [local irreducible] G C S D Calls
set_option maxRecDepth 100000
set_option linter.unusedSimpArgs false
set_option linter.unusedVariables false
set_option maxHeartbeats 8000000
theorem nods_ext {t s : List Nod} (h : t.length = s.length) (hi : ∀ j, j < t.length → gN t j = gN s j) : t = s := by
  refine List.ext_getElem h fun j h1 h2 => ?_
  have := hi j h1
  rwa [gN_at h1, gN_at h2] at this
def shNd (x : Nod) : Bool := decide (x.kd.size ≤ 40) && decide (x.w.sh.size ≤ 40)
def shT (t : List Nod) : Bool := t.all shNd && (decide ((t.length : Int) ≤ 7) || ((t.length : Int) == 17))
theorem shNd_iff {x : Nod} : shNd x = true ↔ x.kd.size ≤ 40 ∧ x.w.sh.size ≤ 40 := by
  unfold shNd
  rw [Bool.and_eq_true, decide_eq_true_eq, decide_eq_true_eq]
theorem shT_no {t : List Nod} {k : Nat} (h : k < t.length) (hk : ¬ ((gN t k).kd.size ≤ 40 ∧ (gN t k).w.sh.size ≤ 40)) : shT t = false := by
  have : t.all shNd = false := by
    cases e : t.all shNd
    · rfl
    · rw [List.all_eq_true] at e
      have := shNd_iff.1 (e t[k] (List.getElem_mem h))
      rw [gN_at h] at hk
      exact absurd this hk
  unfold shT
  rw [this, Bool.false_and]
theorem shT_yes {t : List Nod} (h : ∀ j, j < t.length → (gN t j).kd.size ≤ 40 ∧ (gN t j).w.sh.size ≤ 40) : shT t = (decide ((t.length : Int) ≤ 7) || ((t.length : Int) == 17)) := by
  have : t.all shNd = true := by
    rw [List.all_eq_true]
    intro x hx
    obtain ⟨j, hj, rfl⟩ := List.getElem_of_mem hx
    have := h j hj
    rw [gN_at hj] at this
    exact shNd_iff.2 this
  unfold shT
  rw [this, Bool.true_and]
theorem shT_le {t : List Nod} (h : shT t = true) : t.length ≤ 17 := by
  unfold shT at h
  simp only [Bool.and_eq_true, Bool.or_eq_true, decide_eq_true_eq, beq_iff_eq] at h
  omega
def ccE (t : List Nod) (node m : Int) : Int := if cuE t node m = 0 then wh ((scI t).any (eqB m)) 9 else cuE t node m
theorem xSame_c (A : Option Addr) (c : Nat) (t : List Nod) (hl : t.length ≤ 1000000) (B : Option Addr) (c2 : Nat) (s : List Nod) (hl2 : s.length ≤ 1000000) (w : World) (hr : Rd w A (t.flatMap ndC)) (hr2 : Rd w B (s.flatMap ndC)) : Calls Tryz.prog 36 #[.slice A t.length c, .slice B s.length c2] w fun r w' => r = .returned (.bool (decide (t = s))) ∧ Below w.heap.size w w' := by
  refine calls_of T_ok Tryz.func36 rfl Tryz.ntmps36 (Nat.le_of_ble_eq_true rfl) rfl ?_
  by_cases hne : t.length = s.length
  · repeat' (first
 | (refine C_id ?_; first
 | refine C_seq ?_
 | refine C_region rfl ?_
 | refine C_block ?_
 | refine C_skip ?_
 | refine C_exit ?_
 | refine C_ret0 ?_
 | refine C_draw (id := 6) rfl mixed (by kernel_rfl) ?_
 | refine C_condT rfl obQ ?_
 | refine C_condF rfl obQ ?_
 | (refine C_cond rfl obQ (fun h => ?_) (fun h => ?_) <;> (try simp only [cdS] at h) <;> (try (exfalso; omega)) <;> (try exact cdF h) <;> (try contradiction) <;> (try (exfalso; omega)))
     )
 | refine S_nil ?_
 | refine S_run rfl rfl obQ obQ ?_
 | refine D_nil ?_
 | refine D_tail ?_
 | refine D_run rfl rfl obQ obQ ?_
 | (refine G_id ?_; first
 | refine G_then ?_
 | refine G_block ?_
 | refine G_blockX ?_
 | refine G_blockN rfl ?_
 | refine G_blockR ?_
 | refine G_thenR ?_
 | refine G_thenX ?_
 | refine G_ret rfl obQ (fun w hw => ⟨?_, hw.below⟩)
     )
     )
    refine C_loopS (fun k : Nat => ⟨[(5, .s (.v (.int .i64 k))), (0, .s (.v (.slice A t.length c))), (1, .s (.v (.slice B s.length c2)))], [], []⟩) (fun k => k ≤ t.length ∧ ∀ j, j < k → gN t j = gN s j) (fun k => t.length - k) 0 ⟨Nat.zero_le _, fun j hj => absurd hj (Nat.not_lt_zero _)⟩ ?_ (fun k hk => ?_)
    · exact svQ
    by_cases hlt : k < t.length
    · obtain ⟨ad, rfl⟩ := hr.some (by rw [nd_len]; omega)
      obtain ⟨ad2, rfl⟩ := hr2.some (by rw [nd_len]; omega)
      by_cases he : gN t k = gN s k
      · repeat' (first
 | (refine C_id ?_; first
 | refine C_seq ?_
 | refine C_region rfl ?_
 | refine C_block ?_
 | refine C_skip ?_
 | refine C_exit ?_
 | refine C_ret0 ?_
 | refine C_drawV (id := 6) 8 [(0, true), (1, true), (2, true), (3, true), (4, true), (5, true), (6, true), (7, true)] rfl mixed (by kernel_rfl) rfl ?_
 | refine C_condT rfl obQ ?_
 | refine C_condF rfl obQ ?_
 | (refine C_cond rfl obQ (fun h => ?_) (fun h => ?_) <;> (try simp only [cdS] at h) <;> (try (exfalso; omega)) <;> (try exact cdF h) <;> (try contradiction) <;> (try (exfalso; omega)))
         )
 | (refine S_id ?_; first
 | refine S_load rfl obQ rfl [.string (gN t k).kd, .int .i64 (gN t k).a, .int .i64 (gN t k).b, .int .i64 (gN t k).c, .int .i64 (gN t k).n, .int .i64 (gN t k).cl, .int .i64 (gN t k).ga, .string (gN t k).w.sh, .int .i64 (gN t k).w.a, .int .i64 (gN t k).w.b, .int .i64 (gN t k).w.at_, .int .i64 (gN t k).w.soft] (.past (w, fun b => b < w.heap.size) memQ _ _ hr.toS _ _ rfl rfl (gN_idx (t := t) (k := k) rfl hlt)) rfl (.inl ⟨rfl, rfl⟩) ?_
 | refine S_load rfl obQ rfl [.string (gN s k).kd, .int .i64 (gN s k).a, .int .i64 (gN s k).b, .int .i64 (gN s k).c, .int .i64 (gN s k).n, .int .i64 (gN s k).cl, .int .i64 (gN s k).ga, .string (gN s k).w.sh, .int .i64 (gN s k).w.a, .int .i64 (gN s k).w.b, .int .i64 (gN s k).w.at_, .int .i64 (gN s k).w.soft] (.past (w, fun b => b < w.heap.size) memQ _ _ hr2.toS _ _ rfl rfl (gN_idx (t := s) (k := k) rfl (by omega))) rfl (.inl ⟨rfl, rfl⟩) ?_
 | refine S_pure (binX_pure rfl obQ (fun w => ne_ndX (x := gN t k) (y := gN s k) (b := false) (decide_eq_false (fun e => e he)) _ _ w)) ?_
 | refine S_nil ?_
 | refine S_run rfl rfl obQ obQ ?_
         )
 | refine D_nil ?_
 | refine D_tail ?_
 | refine D_run rfl rfl obQ obQ ?_
 | (refine V_id ?_; first
 | refine V_nil ?_
 | refine V_q rfl (Yl_load rfl obQ rfl [.string (gN t k).kd, .int .i64 (gN t k).a, .int .i64 (gN t k).b, .int .i64 (gN t k).c, .int .i64 (gN t k).n, .int .i64 (gN t k).cl, .int .i64 (gN t k).ga, .string (gN t k).w.sh, .int .i64 (gN t k).w.a, .int .i64 (gN t k).w.b, .int .i64 (gN t k).w.at_, .int .i64 (gN t k).w.soft] (.past (w, fun b => b < w.heap.size) memQ _ _ hr.toS _ _ rfl rfl (gN_idx (t := t) (k := k) rfl hlt)) rfl (.inl ⟨rfl, rfl⟩)) ?_
 | refine V_q rfl (Yl_load rfl obQ rfl [.string (gN s k).kd, .int .i64 (gN s k).a, .int .i64 (gN s k).b, .int .i64 (gN s k).c, .int .i64 (gN s k).n, .int .i64 (gN s k).cl, .int .i64 (gN s k).ga, .string (gN s k).w.sh, .int .i64 (gN s k).w.a, .int .i64 (gN s k).w.b, .int .i64 (gN s k).w.at_, .int .i64 (gN s k).w.soft] (.past (w, fun b => b < w.heap.size) memQ _ _ hr2.toS _ _ rfl rfl (gN_idx (t := s) (k := k) rfl (by omega))) rfl (.inl ⟨rfl, rfl⟩)) ?_
 | refine V_q rfl (Yl_pure (binX_pure rfl obQ (fun w => ne_ndX (x := gN t k) (y := gN s k) (b := false) (decide_eq_false (fun e => e he)) _ _ w))) ?_
 | refine V_q rfl (Yl_step rfl obQ) ?_
 | refine V_n rfl ?_
         )
 | (refine G_id ?_; first
 | refine G_V ⟨⟨_, rfl, trivial⟩, ⟨_, rfl⟩, rfl, pstQ⟩ rfl ?_
 | refine G_loop (k + 1) ⟨by omega, fun j hj => by by_cases e : j = k; subst e; exact he; exact hk.2 j (by omega)⟩ (by omega) svQ
 | refine G_then ?_
 | refine G_block ?_
 | refine G_blockX ?_
 | refine G_blockN rfl ?_
 | refine G_blockR ?_
 | refine G_thenR ?_
 | refine G_thenX ?_
 | refine G_ret rfl obQ (fun w hw => ⟨?_, hw.below⟩)
         )
         )
      · rw [decide_eq_false (fun e => he (by rw [e]) : ¬ t = s)]
        repeat' (first
 | (refine C_id ?_; first
 | refine C_seq ?_
 | refine C_region rfl ?_
 | refine C_block ?_
 | refine C_skip ?_
 | refine C_exit ?_
 | refine C_ret0 ?_
 | refine C_drawV (id := 6) 8 [(0, true), (1, true), (2, true), (3, true), (4, true), (5, true), (6, true), (7, true)] rfl mixed (by kernel_rfl) rfl ?_
 | refine C_condT rfl obQ ?_
 | refine C_condF rfl obQ ?_
 | (refine C_cond rfl obQ (fun h => ?_) (fun h => ?_) <;> (try simp only [cdS] at h) <;> (try (exfalso; omega)) <;> (try exact cdF h) <;> (try contradiction) <;> (try (exfalso; omega)))
         )
 | (refine S_id ?_; first
 | refine S_load rfl obQ rfl [.string (gN t k).kd, .int .i64 (gN t k).a, .int .i64 (gN t k).b, .int .i64 (gN t k).c, .int .i64 (gN t k).n, .int .i64 (gN t k).cl, .int .i64 (gN t k).ga, .string (gN t k).w.sh, .int .i64 (gN t k).w.a, .int .i64 (gN t k).w.b, .int .i64 (gN t k).w.at_, .int .i64 (gN t k).w.soft] (.past (w, fun b => b < w.heap.size) memQ _ _ hr.toS _ _ rfl rfl (gN_idx (t := t) (k := k) rfl hlt)) rfl (.inl ⟨rfl, rfl⟩) ?_
 | refine S_load rfl obQ rfl [.string (gN s k).kd, .int .i64 (gN s k).a, .int .i64 (gN s k).b, .int .i64 (gN s k).c, .int .i64 (gN s k).n, .int .i64 (gN s k).cl, .int .i64 (gN s k).ga, .string (gN s k).w.sh, .int .i64 (gN s k).w.a, .int .i64 (gN s k).w.b, .int .i64 (gN s k).w.at_, .int .i64 (gN s k).w.soft] (.past (w, fun b => b < w.heap.size) memQ _ _ hr2.toS _ _ rfl rfl (gN_idx (t := s) (k := k) rfl (by omega))) rfl (.inl ⟨rfl, rfl⟩) ?_
 | refine S_pure (binX_pure rfl obQ (fun w => ne_ndX (x := gN t k) (y := gN s k) (b := true) (decide_eq_true he) _ _ w)) ?_
 | refine S_nil ?_
 | refine S_run rfl rfl obQ obQ ?_
         )
 | refine D_nil ?_
 | refine D_tail ?_
 | refine D_run rfl rfl obQ obQ ?_
 | (refine V_id ?_; first
 | refine V_nil ?_
 | refine V_q rfl (Yl_load rfl obQ rfl [.string (gN t k).kd, .int .i64 (gN t k).a, .int .i64 (gN t k).b, .int .i64 (gN t k).c, .int .i64 (gN t k).n, .int .i64 (gN t k).cl, .int .i64 (gN t k).ga, .string (gN t k).w.sh, .int .i64 (gN t k).w.a, .int .i64 (gN t k).w.b, .int .i64 (gN t k).w.at_, .int .i64 (gN t k).w.soft] (.past (w, fun b => b < w.heap.size) memQ _ _ hr.toS _ _ rfl rfl (gN_idx (t := t) (k := k) rfl hlt)) rfl (.inl ⟨rfl, rfl⟩)) ?_
 | refine V_q rfl (Yl_load rfl obQ rfl [.string (gN s k).kd, .int .i64 (gN s k).a, .int .i64 (gN s k).b, .int .i64 (gN s k).c, .int .i64 (gN s k).n, .int .i64 (gN s k).cl, .int .i64 (gN s k).ga, .string (gN s k).w.sh, .int .i64 (gN s k).w.a, .int .i64 (gN s k).w.b, .int .i64 (gN s k).w.at_, .int .i64 (gN s k).w.soft] (.past (w, fun b => b < w.heap.size) memQ _ _ hr2.toS _ _ rfl rfl (gN_idx (t := s) (k := k) rfl (by omega))) rfl (.inl ⟨rfl, rfl⟩)) ?_
 | refine V_q rfl (Yl_pure (binX_pure rfl obQ (fun w => ne_ndX (x := gN t k) (y := gN s k) (b := true) (decide_eq_true he) _ _ w))) ?_
 | refine V_q rfl (Yl_step rfl obQ) ?_
 | refine V_n rfl ?_
         )
 | (refine G_id ?_; first
 | refine G_V ⟨⟨_, rfl, trivial⟩, ⟨_, rfl⟩, rfl, pstQ⟩ rfl ?_
 | refine G_then ?_
 | refine G_block ?_
 | refine G_blockX ?_
 | refine G_blockN rfl ?_
 | refine G_blockR ?_
 | refine G_thenR ?_
 | refine G_thenX ?_
 | refine G_ret rfl obQ (fun w hw => ⟨?_, hw.below⟩)
         )
         )
        all_goals rfl
    · rw [decide_eq_true (nods_ext hne (fun j hj => hk.2 j (by omega)))]
      repeat' (first
 | (refine C_id ?_; first
 | refine C_seq ?_
 | refine C_region rfl ?_
 | refine C_block ?_
 | refine C_skip ?_
 | refine C_exit ?_
 | refine C_ret0 ?_
 | refine C_draw (id := 6) rfl mixed (by kernel_rfl) ?_
 | refine C_condT rfl obQ ?_
 | refine C_condF rfl obQ ?_
 | (refine C_cond rfl obQ (fun h => ?_) (fun h => ?_) <;> (try simp only [cdS] at h) <;> (try (exfalso; omega)) <;> (try exact cdF h) <;> (try contradiction) <;> (try (exfalso; omega)))
       )
 | refine S_nil ?_
 | refine S_run rfl rfl obQ obQ ?_
 | refine D_nil ?_
 | refine D_tail ?_
 | refine D_run rfl rfl obQ obQ ?_
 | (refine G_id ?_; first
 | refine G_then ?_
 | refine G_block ?_
 | refine G_blockX ?_
 | refine G_blockN rfl ?_
 | refine G_blockR ?_
 | refine G_thenR ?_
 | refine G_thenX ?_
 | refine G_ret rfl obQ (fun w hw => ⟨?_, hw.below⟩)
       )
       )
      all_goals rfl
  · rw [decide_eq_false (fun e => hne (by rw [e]) : ¬ t = s)]
    repeat' (first
 | (refine C_id ?_; first
 | refine C_seq ?_
 | refine C_region rfl ?_
 | refine C_block ?_
 | refine C_skip ?_
 | refine C_exit ?_
 | refine C_ret0 ?_
 | refine C_draw (id := 6) rfl mixed (by kernel_rfl) ?_
 | refine C_condT rfl obQ ?_
 | refine C_condF rfl obQ ?_
 | (refine C_cond rfl obQ (fun h => ?_) (fun h => ?_) <;> (try simp only [cdS] at h) <;> (try (exfalso; omega)) <;> (try exact cdF h) <;> (try contradiction) <;> (try (exfalso; omega)))
     )
 | refine S_nil ?_
 | refine S_run rfl rfl obQ obQ ?_
 | refine D_nil ?_
 | refine D_tail ?_
 | refine D_run rfl rfl obQ obQ ?_
 | (refine G_id ?_; first
 | refine G_then ?_
 | refine G_block ?_
 | refine G_blockX ?_
 | refine G_blockN rfl ?_
 | refine G_blockR ?_
 | refine G_thenR ?_
 | refine G_thenX ?_
 | refine G_ret rfl obQ (fun w hw => ⟨?_, hw.below⟩)
     )
     )
    all_goals rfl
theorem xShort_c (A : Option Addr) (c : Nat) (t : List Nod) (hl : t.length ≤ maxLen) (w : World) (hr : Rd w A (t.flatMap ndC)) : Calls Tryz.prog 27 #[.slice A t.length c] w fun r w' => r = .returned (.bool (shT t)) ∧ Below w.heap.size w w' := by
  refine calls_of T_ok Tryz.func27 rfl Tryz.ntmps27 (Nat.le_of_ble_eq_true rfl) rfl ?_
  unfold maxLen at hl
  repeat' (first
 | (refine C_id ?_; first
 | refine C_seq ?_
 | refine C_region rfl ?_
 | refine C_block ?_
 | refine C_skip ?_
 | refine C_ret0 ?_
 | (refine C_cond rfl obQ (fun h => ?_) (fun h => ?_) <;> (try simp only [cdS] at h))
   )
 | refine S_nil ?_
 | refine S_run rfl rfl obQ obQ ?_
 | refine G_then ?_
 | refine G_thenR ?_
 | refine G_ret rfl obQ (fun w hw => ⟨?_, hw.below⟩)
   )
  refine C_loopS (fun k : Nat => ⟨[(3, .s (.v (.int .i64 k))), (0, .s (.v (.slice A t.length c)))], [], []⟩) (fun k => k ≤ t.length ∧ ∀ j, j < k → (gN t j).kd.size ≤ 40 ∧ (gN t j).w.sh.size ≤ 40) (fun k => t.length - k) 0 ⟨Nat.zero_le _, fun j hj => absurd hj (Nat.not_lt_zero _)⟩ ?_ (fun k hk => ?_)
  · exact svQ
  by_cases hlt : k < t.length
  · obtain ⟨ad, rfl⟩ := hr.some (by rw [nd_len]; omega)
    by_cases h1 : (gN t k).kd.size ≤ 40
    · by_cases h2 : (gN t k).w.sh.size ≤ 40
      · repeat' (first
 | (refine C_id ?_; first
 | refine C_seq ?_
 | refine C_region rfl ?_
 | refine C_block ?_
 | refine C_skip ?_
 | refine C_exit ?_
 | refine C_ret0 ?_
 | refine C_condT rfl obQ ?_
 | refine C_condF rfl obQ ?_
 | (refine C_cond rfl obQ (fun h => ?_) (fun h => ?_) <;> (try simp only [cdS] at h) <;> (try (exfalso; omega)) <;> (try exact cdF h) <;> (try contradiction) <;> (try (exfalso; omega)))
         )
 | (refine S_id ?_; first
 | ((with_reducible (first | refine S_falseN ?_ ?_ | refine S_falseB ?_ ?_ | refine S_falseL ?_ ?_ | refine S_falseD ?_ ?_ | refine S_falseE ?_ ?_)); · (first | rfl | omega | exact decide_eq_false (by omega)))
 | ((with_reducible refine S_falseO ?_ ?_ ?_); (· rfl); (· first | rfl | (first | rfl | omega | exact decide_eq_false (by omega))))
 | ((with_reducible (first | refine S_trueE ?_ ?_ | refine S_trueB ?_ ?_ | refine S_trueL ?_ ?_ | refine S_trueD ?_ ?_ | refine S_trueN ?_ ?_)); · (first | rfl | assumption | omega | exact decide_eq_true (by omega)))
 | ((with_reducible refine S_trueA ?_ ?_ ?_); (· rfl); (· first | rfl | (first | rfl | assumption | omega | exact decide_eq_true (by omega))))
 | refine S_unG rfl rfl rfl rfl ?_
 | refine S_offG (.v (.bool false)) rfl rfl rfl rfl rfl ?_
 | refine S_offG (.v (.int .i64 0)) rfl rfl rfl rfl rfl ?_
 | refine S_offG (.v (.string ByteArray.empty)) rfl rfl rfl rfl rfl ?_
 | refine S_offG (.v (.bool false)) rfl rfl rfl rfl rfl ?_
 | refine S_load rfl obQ rfl [.string (gN t k).kd] (.past (w, fun b => b < w.heap.size) memQ _ _ hr.toS (((k : Nat) : Int).toNat * 12 + 0) _ rfl (by first | exact (add_of_add _ _ _).trans (add_of_add _ _ _) | exact add_of_add _ _ _ | rfl) (gN_f (t := t) (k := k) rfl hlt 0 rfl)) rfl (.inr ⟨rfl, rfl⟩) ?_
 | refine S_load rfl obQ rfl [.string (gN t k).w.sh] (.past (w, fun b => b < w.heap.size) memQ _ _ hr.toS (((k : Nat) : Int).toNat * 12 + 7) _ rfl (by first | exact (add_of_add _ _ _).trans (add_of_add _ _ _) | exact add_of_add _ _ _ | rfl) (gN_f (t := t) (k := k) rfl hlt 7 rfl)) rfl (.inr ⟨rfl, rfl⟩) ?_
 | refine S_nil ?_
 | refine S_runN rfl rfl obQ obQ ?_
         )
 | (refine G_id ?_; first
 | refine G_loop (k + 1) ⟨by omega, fun j hj => by by_cases e : j = k; subst e; exact ⟨h1, h2⟩; exact hk.2 j (by omega)⟩ (by omega) svQ
 | refine G_then ?_
 | refine G_block ?_
 | refine G_blockX ?_
 | refine G_blockN rfl ?_
 | refine G_blockR ?_
 | refine G_thenR ?_
 | refine G_thenX ?_
 | refine G_ret rfl obQ (fun w hw => ⟨?_, hw.below⟩)
         )
         )
      · rw [shT_no hlt (fun e => h2 e.2)]
        repeat' (first
 | (refine C_id ?_; first
 | refine C_seq ?_
 | refine C_region rfl ?_
 | refine C_block ?_
 | refine C_skip ?_
 | refine C_exit ?_
 | refine C_ret0 ?_
 | refine C_condT rfl obQ ?_
 | refine C_condF rfl obQ ?_
 | (refine C_cond rfl obQ (fun h => ?_) (fun h => ?_) <;> (try simp only [cdS] at h) <;> (try (exfalso; omega)) <;> (try exact cdF h) <;> (try contradiction) <;> (try (exfalso; omega)))
         )
 | (refine S_id ?_; first
 | ((with_reducible (first | refine S_falseN ?_ ?_ | refine S_falseB ?_ ?_ | refine S_falseL ?_ ?_ | refine S_falseD ?_ ?_ | refine S_falseE ?_ ?_)); · (first | rfl | omega | exact decide_eq_false (by omega)))
 | ((with_reducible refine S_falseO ?_ ?_ ?_); (· rfl); (· first | rfl | (first | rfl | omega | exact decide_eq_false (by omega))))
 | ((with_reducible (first | refine S_trueE ?_ ?_ | refine S_trueB ?_ ?_ | refine S_trueL ?_ ?_ | refine S_trueD ?_ ?_ | refine S_trueN ?_ ?_)); · (first | rfl | assumption | omega | exact decide_eq_true (by omega)))
 | ((with_reducible refine S_trueA ?_ ?_ ?_); (· rfl); (· first | rfl | (first | rfl | assumption | omega | exact decide_eq_true (by omega))))
 | refine S_unG rfl rfl rfl rfl ?_
 | refine S_offG (.v (.bool false)) rfl rfl rfl rfl rfl ?_
 | refine S_offG (.v (.int .i64 0)) rfl rfl rfl rfl rfl ?_
 | refine S_offG (.v (.string ByteArray.empty)) rfl rfl rfl rfl rfl ?_
 | refine S_offG (.v (.bool false)) rfl rfl rfl rfl rfl ?_
 | refine S_load rfl obQ rfl [.string (gN t k).kd] (.past (w, fun b => b < w.heap.size) memQ _ _ hr.toS (((k : Nat) : Int).toNat * 12 + 0) _ rfl (by first | exact (add_of_add _ _ _).trans (add_of_add _ _ _) | exact add_of_add _ _ _ | rfl) (gN_f (t := t) (k := k) rfl hlt 0 rfl)) rfl (.inr ⟨rfl, rfl⟩) ?_
 | refine S_load rfl obQ rfl [.string (gN t k).w.sh] (.past (w, fun b => b < w.heap.size) memQ _ _ hr.toS (((k : Nat) : Int).toNat * 12 + 7) _ rfl (by first | exact (add_of_add _ _ _).trans (add_of_add _ _ _) | exact add_of_add _ _ _ | rfl) (gN_f (t := t) (k := k) rfl hlt 7 rfl)) rfl (.inr ⟨rfl, rfl⟩) ?_
 | refine S_nil ?_
 | refine S_runN rfl rfl obQ obQ ?_
         )
 | (refine G_id ?_; first
 | refine G_then ?_
 | refine G_block ?_
 | refine G_blockX ?_
 | refine G_blockN rfl ?_
 | refine G_blockR ?_
 | refine G_thenR ?_
 | refine G_thenX ?_
 | refine G_ret rfl obQ (fun w hw => ⟨?_, hw.below⟩)
         )
         )
        all_goals rfl
    · rw [shT_no hlt (fun e => h1 e.1)]
      repeat' (first
 | (refine C_id ?_; first
 | refine C_seq ?_
 | refine C_region rfl ?_
 | refine C_block ?_
 | refine C_skip ?_
 | refine C_exit ?_
 | refine C_ret0 ?_
 | refine C_condT rfl obQ ?_
 | refine C_condF rfl obQ ?_
 | (refine C_cond rfl obQ (fun h => ?_) (fun h => ?_) <;> (try simp only [cdS] at h) <;> (try (exfalso; omega)) <;> (try exact cdF h) <;> (try contradiction) <;> (try (exfalso; omega)))
       )
 | (refine S_id ?_; first
 | ((with_reducible (first | refine S_falseN ?_ ?_ | refine S_falseB ?_ ?_ | refine S_falseL ?_ ?_ | refine S_falseD ?_ ?_ | refine S_falseE ?_ ?_)); · (first | rfl | omega | exact decide_eq_false (by omega)))
 | ((with_reducible refine S_falseO ?_ ?_ ?_); (· rfl); (· first | rfl | (first | rfl | omega | exact decide_eq_false (by omega))))
 | ((with_reducible (first | refine S_trueE ?_ ?_ | refine S_trueB ?_ ?_ | refine S_trueL ?_ ?_ | refine S_trueD ?_ ?_ | refine S_trueN ?_ ?_)); · (first | rfl | assumption | omega | exact decide_eq_true (by omega)))
 | ((with_reducible refine S_trueA ?_ ?_ ?_); (· rfl); (· first | rfl | (first | rfl | assumption | omega | exact decide_eq_true (by omega))))
 | refine S_unG rfl rfl rfl rfl ?_
 | refine S_offG (.v (.bool false)) rfl rfl rfl rfl rfl ?_
 | refine S_offG (.v (.int .i64 0)) rfl rfl rfl rfl rfl ?_
 | refine S_offG (.v (.string ByteArray.empty)) rfl rfl rfl rfl rfl ?_
 | refine S_offG (.v (.bool false)) rfl rfl rfl rfl rfl ?_
 | refine S_load rfl obQ rfl [.string (gN t k).kd] (.past (w, fun b => b < w.heap.size) memQ _ _ hr.toS (((k : Nat) : Int).toNat * 12 + 0) _ rfl (by first | exact (add_of_add _ _ _).trans (add_of_add _ _ _) | exact add_of_add _ _ _ | rfl) (gN_f (t := t) (k := k) rfl hlt 0 rfl)) rfl (.inr ⟨rfl, rfl⟩) ?_
 | refine S_load rfl obQ rfl [.string (gN t k).w.sh] (.past (w, fun b => b < w.heap.size) memQ _ _ hr.toS (((k : Nat) : Int).toNat * 12 + 7) _ rfl (by first | exact (add_of_add _ _ _).trans (add_of_add _ _ _) | exact add_of_add _ _ _ | rfl) (gN_f (t := t) (k := k) rfl hlt 7 rfl)) rfl (.inr ⟨rfl, rfl⟩) ?_
 | refine S_nil ?_
 | refine S_runN rfl rfl obQ obQ ?_
       )
 | (refine G_id ?_; first
 | refine G_then ?_
 | refine G_block ?_
 | refine G_blockX ?_
 | refine G_blockN rfl ?_
 | refine G_blockR ?_
 | refine G_thenR ?_
 | refine G_thenX ?_
 | refine G_ret rfl obQ (fun w hw => ⟨?_, hw.below⟩)
       )
       )
      all_goals rfl
  · rw [shT_yes (fun j hj => hk.2 j (by omega))]
    by_cases h7 : (t.length : Int) ≤ 7
    · rw [decide_eq_true h7, Bool.true_or]
      repeat' (first
 | (refine C_id ?_; first
 | refine C_seq ?_
 | refine C_region rfl ?_
 | refine C_block ?_
 | refine C_skip ?_
 | refine C_exit ?_
 | refine C_ret0 ?_
 | refine C_condT rfl obQ ?_
 | refine C_condF rfl obQ ?_
 | (refine C_cond rfl obQ (fun h => ?_) (fun h => ?_) <;> (try simp only [cdS] at h) <;> (try (exfalso; omega)) <;> (try exact cdF h) <;> (try contradiction) <;> (try (exfalso; omega)))
       )
 | (refine S_id ?_; first
 | ((with_reducible (first | refine S_falseN ?_ ?_ | refine S_falseB ?_ ?_ | refine S_falseL ?_ ?_ | refine S_falseD ?_ ?_ | refine S_falseE ?_ ?_)); · (first | rfl | omega | exact decide_eq_false (by omega)))
 | ((with_reducible refine S_falseO ?_ ?_ ?_); (· rfl); (· first | rfl | (first | rfl | omega | exact decide_eq_false (by omega))))
 | ((with_reducible (first | refine S_trueE ?_ ?_ | refine S_trueB ?_ ?_ | refine S_trueL ?_ ?_ | refine S_trueD ?_ ?_ | refine S_trueN ?_ ?_)); · (first | rfl | assumption | omega | exact decide_eq_true (by omega)))
 | ((with_reducible refine S_trueA ?_ ?_ ?_); (· rfl); (· first | rfl | (first | rfl | assumption | omega | exact decide_eq_true (by omega))))
 | refine S_unG rfl rfl rfl rfl ?_
 | refine S_offG (.v (.bool false)) rfl rfl rfl rfl rfl ?_
 | refine S_offG (.v (.int .i64 0)) rfl rfl rfl rfl rfl ?_
 | refine S_offG (.v (.string ByteArray.empty)) rfl rfl rfl rfl rfl ?_
 | refine S_offG (.v (.bool false)) rfl rfl rfl rfl rfl ?_
 | refine S_load rfl obQ rfl [.string (gN t k).kd] (.past (w, fun b => b < w.heap.size) memQ _ _ hr.toS (((k : Nat) : Int).toNat * 12 + 0) _ rfl (by first | exact (add_of_add _ _ _).trans (add_of_add _ _ _) | exact add_of_add _ _ _ | rfl) (gN_f (t := t) (k := k) rfl hlt 0 rfl)) rfl (.inr ⟨rfl, rfl⟩) ?_
 | refine S_load rfl obQ rfl [.string (gN t k).w.sh] (.past (w, fun b => b < w.heap.size) memQ _ _ hr.toS (((k : Nat) : Int).toNat * 12 + 7) _ rfl (by first | exact (add_of_add _ _ _).trans (add_of_add _ _ _) | exact add_of_add _ _ _ | rfl) (gN_f (t := t) (k := k) rfl hlt 7 rfl)) rfl (.inr ⟨rfl, rfl⟩) ?_
 | refine S_nil ?_
 | refine S_runN rfl rfl obQ obQ ?_
       )
 | (refine G_id ?_; first
 | refine G_then ?_
 | refine G_block ?_
 | refine G_blockX ?_
 | refine G_blockN rfl ?_
 | refine G_blockR ?_
 | refine G_thenR ?_
 | refine G_thenX ?_
 | refine G_ret rfl obQ (fun w hw => ⟨?_, hw.below⟩)
       )
       )
      all_goals rfl
    · rw [decide_eq_false h7, Bool.false_or]
      repeat' (first
 | (refine C_id ?_; first
 | refine C_seq ?_
 | refine C_region rfl ?_
 | refine C_block ?_
 | refine C_skip ?_
 | refine C_exit ?_
 | refine C_ret0 ?_
 | refine C_condT rfl obQ ?_
 | refine C_condF rfl obQ ?_
 | (refine C_cond rfl obQ (fun h => ?_) (fun h => ?_) <;> (try simp only [cdS] at h) <;> (try (exfalso; omega)) <;> (try exact cdF h) <;> (try contradiction) <;> (try (exfalso; omega)))
       )
 | (refine S_id ?_; first
 | ((with_reducible (first | refine S_falseN ?_ ?_ | refine S_falseB ?_ ?_ | refine S_falseL ?_ ?_ | refine S_falseD ?_ ?_ | refine S_falseE ?_ ?_)); · (first | rfl | omega | exact decide_eq_false (by omega)))
 | ((with_reducible refine S_falseO ?_ ?_ ?_); (· rfl); (· first | rfl | (first | rfl | omega | exact decide_eq_false (by omega))))
 | ((with_reducible (first | refine S_trueE ?_ ?_ | refine S_trueB ?_ ?_ | refine S_trueL ?_ ?_ | refine S_trueD ?_ ?_ | refine S_trueN ?_ ?_)); · (first | rfl | assumption | omega | exact decide_eq_true (by omega)))
 | ((with_reducible refine S_trueA ?_ ?_ ?_); (· rfl); (· first | rfl | (first | rfl | assumption | omega | exact decide_eq_true (by omega))))
 | refine S_unG rfl rfl rfl rfl ?_
 | refine S_offG (.v (.bool false)) rfl rfl rfl rfl rfl ?_
 | refine S_offG (.v (.int .i64 0)) rfl rfl rfl rfl rfl ?_
 | refine S_offG (.v (.string ByteArray.empty)) rfl rfl rfl rfl rfl ?_
 | refine S_offG (.v (.bool false)) rfl rfl rfl rfl rfl ?_
 | refine S_load rfl obQ rfl [.string (gN t k).kd] (.past (w, fun b => b < w.heap.size) memQ _ _ hr.toS (((k : Nat) : Int).toNat * 12 + 0) _ rfl (by first | exact (add_of_add _ _ _).trans (add_of_add _ _ _) | exact add_of_add _ _ _ | rfl) (gN_f (t := t) (k := k) rfl hlt 0 rfl)) rfl (.inr ⟨rfl, rfl⟩) ?_
 | refine S_load rfl obQ rfl [.string (gN t k).w.sh] (.past (w, fun b => b < w.heap.size) memQ _ _ hr.toS (((k : Nat) : Int).toNat * 12 + 7) _ rfl (by first | exact (add_of_add _ _ _).trans (add_of_add _ _ _) | exact add_of_add _ _ _ | rfl) (gN_f (t := t) (k := k) rfl hlt 7 rfl)) rfl (.inr ⟨rfl, rfl⟩) ?_
 | refine S_nil ?_
 | refine S_runN rfl rfl obQ obQ ?_
       )
 | (refine G_id ?_; first
 | refine G_then ?_
 | refine G_block ?_
 | refine G_blockX ?_
 | refine G_blockN rfl ?_
 | refine G_blockR ?_
 | refine G_thenR ?_
 | refine G_thenX ?_
 | refine G_ret rfl obQ (fun w hw => ⟨?_, hw.below⟩)
       )
       )
      all_goals rfl
theorem xCheckCut_c (A : Option Addr) (c : Nat) (t : List Nod) (hl : t.length ≤ 1000000) (node m : Int) (w : World) (hr : Rd w A (t.flatMap ndC)) : Calls Tryz.prog 31 #[.slice A t.length c, .int .i64 node, .int .i64 m] w fun r w' => r = .returned (.int .i64 (ccE t node m)) ∧ Below w.heap.size w w' := by
  refine calls_of T_ok Tryz.func31 rfl Tryz.ntmps31 (Nat.le_of_ble_eq_true rfl) rfl ?_
  by_cases hn0 : node < 0
  · have e2 : cuE t node m = firstL [trE t, wh (true || decide ((t.length : Int) - 1 ≤ node)) 10, wi m 0 7] := by unfold cuE; rw [decide_eq_true hn0]
    have hE : ¬ cuE t node m = 0 := fun h => by have := (cuE_ok h).2.1; omega
    have e1 : ccE t node m = cuE t node m := if_neg hE
    rw [e1, e2]
    rw [e2] at hE
    repeat' (first
 | (refine C_id ?_; first
 | refine C_seq ?_
 | refine C_region rfl ?_
 | refine C_block ?_
 | refine C_skip ?_
 | refine C_exit ?_
 | refine C_ret0 ?_
 | refine C_condT rfl obQ ?_
 | refine C_condF rfl obQ ?_
 | (refine C_cond rfl obQ (fun h => ?_) (fun h => ?_) <;> (try simp only [cdS] at h) <;> (try (exfalso; omega)) <;> (try exact cdF h) <;> (try contradiction) <;> (try (exfalso; omega)))
     )
 | (refine S_id ?_; first
 | ((with_reducible (first | refine S_falseN ?_ ?_ | refine S_falseB ?_ ?_ | refine S_falseL ?_ ?_ | refine S_falseD ?_ ?_ | refine S_falseE ?_ ?_)); · (first | rfl | omega | exact decide_eq_false (by omega)))
 | ((with_reducible refine S_falseO ?_ ?_ ?_); (· rfl); (· first | rfl | (first | rfl | omega | exact decide_eq_false (by omega))))
 | ((with_reducible (first | refine S_trueE ?_ ?_ | refine S_trueB ?_ ?_ | refine S_trueL ?_ ?_ | refine S_trueD ?_ ?_ | refine S_trueN ?_ ?_)); · (first | rfl | assumption | omega | exact decide_eq_true (by omega)))
 | ((with_reducible refine S_trueA ?_ ?_ ?_); (· rfl); (· first | rfl | (first | rfl | assumption | omega | exact decide_eq_true (by omega))))
 | refine S_unG rfl rfl rfl rfl ?_
 | refine S_offG (.v (.bool false)) rfl rfl rfl rfl rfl ?_
 | refine S_offG (.v (.int .i64 0)) rfl rfl rfl rfl rfl ?_
 | refine S_offG (.v (.string ByteArray.empty)) rfl rfl rfl rfl rfl ?_
 | refine S_offG (.v (.bool false)) rfl rfl rfl rfl rfl ?_
 | (refine S_callM (f := 46) rfl obQ (by kernel_rfl) (fun w hw => xSources_c _ c t hl w (hw.rdm hr.toS memQ)) (fun w1S w2S vS hw1S hbS hRS => ?_); obtain ⟨AS, cS, rfl, hSS⟩ := hRS)
 | refine S_nil ?_
 | refine S_runN rfl rfl obQ obQ ?_
 | refine S_slice (fun b => ⟨_, _, rfl, obQ, ?_⟩)
 | refine S_call (f := 32) rfl obQ (by kernel_rfl) (fun w hw => xCheckTree_c _ c t hl w (hw.rdm hr.toS memQ)) ?_
 | refine S_call (f := 81) rfl obQ (by kernel_rfl) (fun w hw => rWhen_c _ _ w) ?_
 | refine S_call (f := 33) rfl obQ (by kernel_rfl) (fun w hw => xCheckNumber_c m w) ?_
 | refine S_call (f := 113) rfl obQ (by kernel_rfl) (fun w hw => rFirst_c _ _ [trE t, wh (true || decide ((t.length : Int) - 1 ≤ node)) 10, wi m 0 7] (by simp) w (.inr ⟨_, rfl, hw.src (i := 0) rfl rfl⟩)) ?_
 | refine S_call (f := 74) rfl obQ (by kernel_rfl) (fun w hw => xHasInt_as (z := m) (l := scI t) rfl rfl (sc_len t) w (hw.rdm hSS memQ)) ?_
     )
 | (refine G_id ?_; first
 | refine G_then ?_
 | refine G_block ?_
 | refine G_blockX ?_
 | refine G_blockN rfl ?_
 | refine G_blockR ?_
 | refine G_thenR ?_
 | refine G_thenX ?_
 | refine G_ret rfl obQ (fun w hw => ⟨?_, hw.below⟩)
     )
     )
    all_goals rfl
  · have e2 : cuE t node m = firstL [trE t, wh (decide ((t.length : Int) - 1 ≤ node)) 10, wi m 0 7] := by unfold cuE; rw [decide_eq_false hn0, Bool.false_or]
    unfold ccE
    rw [e2]
    by_cases hE : firstL [trE t, wh (decide ((t.length : Int) - 1 ≤ node)) 10, wi m 0 7] = 0
    · rw [if_pos hE]
      repeat' (first
 | (refine C_id ?_; first
 | refine C_seq ?_
 | refine C_region rfl ?_
 | refine C_block ?_
 | refine C_skip ?_
 | refine C_exit ?_
 | refine C_ret0 ?_
 | refine C_condT rfl obQ ?_
 | refine C_condF rfl obQ ?_
 | (refine C_cond rfl obQ (fun h => ?_) (fun h => ?_) <;> (try simp only [cdS] at h) <;> (try (exfalso; omega)) <;> (try exact cdF h) <;> (try contradiction) <;> (try (exfalso; omega)))
       )
 | (refine S_id ?_; first
 | ((with_reducible (first | refine S_falseN ?_ ?_ | refine S_falseB ?_ ?_ | refine S_falseL ?_ ?_ | refine S_falseD ?_ ?_ | refine S_falseE ?_ ?_)); · (first | rfl | omega | exact decide_eq_false (by omega)))
 | ((with_reducible refine S_falseO ?_ ?_ ?_); (· rfl); (· first | rfl | (first | rfl | omega | exact decide_eq_false (by omega))))
 | ((with_reducible (first | refine S_trueE ?_ ?_ | refine S_trueB ?_ ?_ | refine S_trueL ?_ ?_ | refine S_trueD ?_ ?_ | refine S_trueN ?_ ?_)); · (first | rfl | assumption | omega | exact decide_eq_true (by omega)))
 | ((with_reducible refine S_trueA ?_ ?_ ?_); (· rfl); (· first | rfl | (first | rfl | assumption | omega | exact decide_eq_true (by omega))))
 | refine S_unG rfl rfl rfl rfl ?_
 | refine S_offG (.v (.bool false)) rfl rfl rfl rfl rfl ?_
 | refine S_offG (.v (.int .i64 0)) rfl rfl rfl rfl rfl ?_
 | refine S_offG (.v (.string ByteArray.empty)) rfl rfl rfl rfl rfl ?_
 | refine S_offG (.v (.bool false)) rfl rfl rfl rfl rfl ?_
 | (refine S_callM (f := 46) rfl obQ (by kernel_rfl) (fun w hw => xSources_c _ c t hl w (hw.rdm hr.toS memQ)) (fun w1S w2S vS hw1S hbS hRS => ?_); obtain ⟨AS, cS, rfl, hSS⟩ := hRS)
 | refine S_nil ?_
 | refine S_runN rfl rfl obQ obQ ?_
 | refine S_slice (fun b => ⟨_, _, rfl, obQ, ?_⟩)
 | refine S_call (f := 32) rfl obQ (by kernel_rfl) (fun w hw => xCheckTree_c _ c t hl w (hw.rdm hr.toS memQ)) ?_
 | refine S_call (f := 81) rfl obQ (by kernel_rfl) (fun w hw => rWhen_c _ _ w) ?_
 | refine S_call (f := 33) rfl obQ (by kernel_rfl) (fun w hw => xCheckNumber_c m w) ?_
 | refine S_call (f := 113) rfl obQ (by kernel_rfl) (fun w hw => rFirst_c _ _ [trE t, wh (decide ((t.length : Int) - 1 ≤ node)) 10, wi m 0 7] (by simp) w (.inr ⟨_, rfl, hw.src (i := 0) rfl rfl⟩)) ?_
 | refine S_call (f := 74) rfl obQ (by kernel_rfl) (fun w hw => xHasInt_as (z := m) (l := scI t) rfl rfl (sc_len t) w (hw.rdm hSS memQ)) ?_
       )
 | (refine G_id ?_; first
 | refine G_then ?_
 | refine G_block ?_
 | refine G_blockX ?_
 | refine G_blockN rfl ?_
 | refine G_blockR ?_
 | refine G_thenR ?_
 | refine G_thenX ?_
 | refine G_ret rfl obQ (fun w hw => ⟨?_, hw.below⟩)
       )
       )
      all_goals rfl
    · rw [if_neg hE]
      repeat' (first
 | (refine C_id ?_; first
 | refine C_seq ?_
 | refine C_region rfl ?_
 | refine C_block ?_
 | refine C_skip ?_
 | refine C_exit ?_
 | refine C_ret0 ?_
 | refine C_condT rfl obQ ?_
 | refine C_condF rfl obQ ?_
 | (refine C_cond rfl obQ (fun h => ?_) (fun h => ?_) <;> (try simp only [cdS] at h) <;> (try (exfalso; omega)) <;> (try exact cdF h) <;> (try contradiction) <;> (try (exfalso; omega)))
       )
 | (refine S_id ?_; first
 | ((with_reducible (first | refine S_falseN ?_ ?_ | refine S_falseB ?_ ?_ | refine S_falseL ?_ ?_ | refine S_falseD ?_ ?_ | refine S_falseE ?_ ?_)); · (first | rfl | omega | exact decide_eq_false (by omega)))
 | ((with_reducible refine S_falseO ?_ ?_ ?_); (· rfl); (· first | rfl | (first | rfl | omega | exact decide_eq_false (by omega))))
 | ((with_reducible (first | refine S_trueE ?_ ?_ | refine S_trueB ?_ ?_ | refine S_trueL ?_ ?_ | refine S_trueD ?_ ?_ | refine S_trueN ?_ ?_)); · (first | rfl | assumption | omega | exact decide_eq_true (by omega)))
 | ((with_reducible refine S_trueA ?_ ?_ ?_); (· rfl); (· first | rfl | (first | rfl | assumption | omega | exact decide_eq_true (by omega))))
 | refine S_unG rfl rfl rfl rfl ?_
 | refine S_offG (.v (.bool false)) rfl rfl rfl rfl rfl ?_
 | refine S_offG (.v (.int .i64 0)) rfl rfl rfl rfl rfl ?_
 | refine S_offG (.v (.string ByteArray.empty)) rfl rfl rfl rfl rfl ?_
 | refine S_offG (.v (.bool false)) rfl rfl rfl rfl rfl ?_
 | (refine S_callM (f := 46) rfl obQ (by kernel_rfl) (fun w hw => xSources_c _ c t hl w (hw.rdm hr.toS memQ)) (fun w1S w2S vS hw1S hbS hRS => ?_); obtain ⟨AS, cS, rfl, hSS⟩ := hRS)
 | refine S_nil ?_
 | refine S_runN rfl rfl obQ obQ ?_
 | refine S_slice (fun b => ⟨_, _, rfl, obQ, ?_⟩)
 | refine S_call (f := 32) rfl obQ (by kernel_rfl) (fun w hw => xCheckTree_c _ c t hl w (hw.rdm hr.toS memQ)) ?_
 | refine S_call (f := 81) rfl obQ (by kernel_rfl) (fun w hw => rWhen_c _ _ w) ?_
 | refine S_call (f := 33) rfl obQ (by kernel_rfl) (fun w hw => xCheckNumber_c m w) ?_
 | refine S_call (f := 113) rfl obQ (by kernel_rfl) (fun w hw => rFirst_c _ _ [trE t, wh (decide ((t.length : Int) - 1 ≤ node)) 10, wi m 0 7] (by simp) w (.inr ⟨_, rfl, hw.src (i := 0) rfl rfl⟩)) ?_
 | refine S_call (f := 74) rfl obQ (by kernel_rfl) (fun w hw => xHasInt_as (z := m) (l := scI t) rfl rfl (sc_len t) w (hw.rdm hSS memQ)) ?_
       )
 | (refine G_id ?_; first
 | refine G_then ?_
 | refine G_block ?_
 | refine G_blockX ?_
 | refine G_blockN rfl ?_
 | refine G_blockR ?_
 | refine G_thenR ?_
 | refine G_thenX ?_
 | refine G_ret rfl obQ (fun w hw => ⟨?_, hw.below⟩)
       )
       )
      all_goals rfl
end Go.Proofs.YtjkgklhjbopoaaaGreatDoor
