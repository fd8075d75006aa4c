/- Mixer: whole trees, short trees, where a tree may be cut: contracts of the reference. -/
import Derived.Test.YtjkgklhjbopoaaaGreatDoorPartK
namespace Go.Proofs.YtjkgklhjbopoaaaGreatDoor
open Go.E Go.RowKit Go.Fl
attribute [local irreducible] G C S D Calls
set_option maxRecDepth 100000
set_option linter.all false
set_option maxHeartbeats 8000000
def shNd (x : Nod) : Bool := decide (x.kd.size ≤ 40) && decide (x.w.sh.size ≤ 40)
def shT (t : List Nod) : Bool := t.all shNd && (decide ((t.length : Int) ≤ 7) || ((t.length : Int) == 17))
theorem shNd_iff {x : Nod} : shNd x = true ↔ x.kd.size ≤ 40 ∧ x.w.sh.size ≤ 40 := by
  unfold shNd
  rw [Bool.and_eq_true, decide_eq_true_eq, decide_eq_true_eq]
theorem shT_no {t : List Nod} {k : Nat} (h : k < t.length) (hk : ¬ ((gN t k).kd.size ≤ 40 ∧ (gN t k).w.sh.size ≤ 40)) : shT t = false := by
  have : t.all shNd = false := by
    cases e : t.all shNd
    · rfl
    · rw [List.all_eq_true] at e
      have := shNd_iff.1 (e t[k] (List.getElem_mem h))
      rw [gN_at h] at hk
      exact absurd this hk
  unfold shT
  rw [this, Bool.false_and]
theorem shT_yes {t : List Nod} (h : ∀ j, j < t.length → (gN t j).kd.size ≤ 40 ∧ (gN t j).w.sh.size ≤ 40) : shT t = (decide ((t.length : Int) ≤ 7) || ((t.length : Int) == 17)) := by
  have : t.all shNd = true := by
    rw [List.all_eq_true]
    intro x hx
    obtain ⟨j, hj, rfl⟩ := List.getElem_of_mem hx
    have := h j hj
    rw [gN_at hj] at this
    exact shNd_iff.2 this
  unfold shT
  rw [this, Bool.true_and]
theorem shT_le {t : List Nod} (h : shT t = true) : t.length ≤ 17 := by
  unfold shT at h
  simp only [Bool.and_eq_true, Bool.or_eq_true, decide_eq_true_eq, beq_iff_eq] at h
  omega
theorem xShort_c (A : Option Addr) (c : Nat) (t : List Nod) (hl : t.length ≤ maxLen) (w : World) (hr : Rd w A (t.flatMap ndC)) : Calls Tryz.prog 27 #[.slice A t.length c] w fun r w' => r = .returned (.bool (shT t)) ∧ Below w.heap.size w w' := by
  refine calls_of T_ok Tryz.func27 rfl Tryz.ntmps27 (Nat.le_of_ble_eq_true rfl) rfl ?_
  unfold maxLen at hl
  repeat' (first
|(refine C_id ?_; first
|refine C_seq ?_
|refine C_region rfl ?_
|refine C_block ?_
|refine C_skip ?_
|refine C_ret0 ?_
|(refine C_cond rfl obQ ?_ ?_ <;> intro h <;> (try simp only [cdS] at h)))
|refine S_nil ?_
|refine S_run rfl rfl obQ obQ ?_
|refine G_then ?_
|refine G_thenR ?_
|refine G_ret rfl obQ (fun w hw => ⟨?_, hw.below⟩))
  refine C_loopS (fun k : Nat => ⟨[(3, .s (.v (.int .i64 k))), (0, .s (.v (.slice A t.length c)))], [], []⟩) (fun k => k ≤ t.length ∧ ∀ j, j < k → (gN t j).kd.size ≤ 40 ∧ (gN t j).w.sh.size ≤ 40) (fun k => t.length - k) 0 ⟨Nat.zero_le _, fun j hj => absurd hj (Nat.not_lt_zero _)⟩ ?_ (fun k hk => ?_)
  · exact svQ
  by_cases hlt : k < t.length
  · obtain ⟨ad, rfl⟩ := hr.some (by rw [nd_len]; omega)
    by_cases h1 : (gN t k).kd.size ≤ 40
    · by_cases h2 : (gN t k).w.sh.size ≤ 40
      · repeat' (first
|(refine C_id ?_; first
|refine C_seq ?_
|refine C_region rfl ?_
|refine C_block ?_
|refine C_skip ?_
|refine C_condT rfl obQ ?_
|refine C_condF rfl obQ ?_)
|(refine S_id ?_; first
|((with_reducible (first | refine S_falseN ?_ ?_ | refine S_falseB ?_ ?_ | refine S_falseL ?_ ?_ | refine S_falseD ?_ ?_ | refine S_falseE ?_ ?_)); · (first | rfl | omega | exact decide_eq_false (by omega)))
|((with_reducible refine S_falseO ?_ ?_ ?_); (· rfl); (· first | rfl | (first | rfl | omega | exact decide_eq_false (by omega))))
|((with_reducible (first | refine S_trueE ?_ ?_ | refine S_trueB ?_ ?_ | refine S_trueL ?_ ?_ | refine S_trueD ?_ ?_ | refine S_trueN ?_ ?_)); · (first | rfl | assumption | omega | exact decide_eq_true (by omega)))
|refine S_unG rfl rfl rfl rfl ?_
|refine S_load rfl obQ rfl [.string (gN t k).kd] (.past (w, fun b => b < w.heap.size) memQ _ _ hr.toS (((k : Nat) : Int).toNat * 12 + 0) _ rfl (by first | exact (add_of_add _ _ _).trans (add_of_add _ _ _) | exact add_of_add _ _ _ | rfl) (gN_f (t := t) (k := k) rfl hlt 0 rfl)) rfl (.inr ⟨rfl, rfl⟩) ?_
|refine S_load rfl obQ rfl [.string (gN t k).w.sh] (.past (w, fun b => b < w.heap.size) memQ _ _ hr.toS (((k : Nat) : Int).toNat * 12 + 7) _ rfl (by first | exact (add_of_add _ _ _).trans (add_of_add _ _ _) | exact add_of_add _ _ _ | rfl) (gN_f (t := t) (k := k) rfl hlt 7 rfl)) rfl (.inr ⟨rfl, rfl⟩) ?_
|refine S_nil ?_
|refine S_runN rfl rfl obQ obQ ?_)
|refine G_loop (k + 1) ⟨by omega, fun j hj => by by_cases e : j = k; subst e; exact ⟨h1, h2⟩; exact hk.2 j (by omega)⟩ (by omega) svQ
|refine G_then ?_
|refine G_block ?_)
      · rw [shT_no hlt (fun e => h2 e.2)]
        repeat' (first
|(refine C_id ?_; first
|refine C_seq ?_
|refine C_region rfl ?_
|refine C_block ?_
|refine C_skip ?_
|refine C_exit ?_
|refine C_ret0 ?_
|refine C_condT rfl obQ ?_
|refine C_condF rfl obQ ?_
|(refine C_cond rfl obQ ?_ ?_ <;> intro h <;> (try simp only [cdS] at h) <;> (try (exfalso; omega)) <;> (try exact cdF h) <;> (try contradiction) <;> (try (exfalso; omega))))
|(refine S_id ?_; first
|((with_reducible (first | refine S_falseN ?_ ?_ | refine S_falseB ?_ ?_ | refine S_falseL ?_ ?_ | refine S_falseD ?_ ?_ | refine S_falseE ?_ ?_)); · (first | rfl | omega | exact decide_eq_false (by omega)))
|((with_reducible (first | refine S_trueE ?_ ?_ | refine S_trueB ?_ ?_ | refine S_trueL ?_ ?_ | refine S_trueD ?_ ?_ | refine S_trueN ?_ ?_)); · (first | rfl | assumption | omega | exact decide_eq_true (by omega)))
|refine S_unG rfl rfl rfl rfl ?_
|refine S_offG (.v (.bool false)) rfl rfl rfl rfl rfl ?_
|refine S_load rfl obQ rfl [.string (gN t k).kd] (.past (w, fun b => b < w.heap.size) memQ _ _ hr.toS (((k : Nat) : Int).toNat * 12 + 0) _ rfl (by first | exact (add_of_add _ _ _).trans (add_of_add _ _ _) | exact add_of_add _ _ _ | rfl) (gN_f (t := t) (k := k) rfl hlt 0 rfl)) rfl (.inr ⟨rfl, rfl⟩) ?_
|refine S_load rfl obQ rfl [.string (gN t k).w.sh] (.past (w, fun b => b < w.heap.size) memQ _ _ hr.toS (((k : Nat) : Int).toNat * 12 + 7) _ rfl (by first | exact (add_of_add _ _ _).trans (add_of_add _ _ _) | exact add_of_add _ _ _ | rfl) (gN_f (t := t) (k := k) rfl hlt 7 rfl)) rfl (.inr ⟨rfl, rfl⟩) ?_
|refine S_nil ?_
|refine S_runN rfl rfl obQ obQ ?_)
|(refine G_id ?_; first
|refine G_then ?_
|refine G_blockX ?_
|refine G_blockR ?_
|refine G_thenR ?_
|refine G_thenX ?_
|refine G_ret rfl obQ (fun w hw => ⟨?_, hw.below⟩)))
        all_goals rfl
    · rw [shT_no hlt (fun e => h1 e.1)]
      repeat' (first
|(refine C_id ?_; first
|refine C_seq ?_
|refine C_region rfl ?_
|refine C_block ?_
|refine C_skip ?_
|refine C_exit ?_
|refine C_ret0 ?_
|refine C_condT rfl obQ ?_
|refine C_condF rfl obQ ?_
|(refine C_cond rfl obQ ?_ ?_ <;> intro h <;> (try simp only [cdS] at h) <;> (try (exfalso; omega)) <;> (try exact cdF h) <;> (try contradiction) <;> (try (exfalso; omega))))
|(refine S_id ?_; first
|((with_reducible (first | refine S_falseN ?_ ?_ | refine S_falseB ?_ ?_ | refine S_falseL ?_ ?_ | refine S_falseD ?_ ?_ | refine S_falseE ?_ ?_)); · (first | rfl | omega | exact decide_eq_false (by omega)))
|((with_reducible (first | refine S_trueE ?_ ?_ | refine S_trueB ?_ ?_ | refine S_trueL ?_ ?_ | refine S_trueD ?_ ?_ | refine S_trueN ?_ ?_)); · (first | rfl | assumption | omega | exact decide_eq_true (by omega)))
|refine S_unG rfl rfl rfl rfl ?_
|refine S_offG (.v (.bool false)) rfl rfl rfl rfl rfl ?_
|refine S_load rfl obQ rfl [.string (gN t k).kd] (.past (w, fun b => b < w.heap.size) memQ _ _ hr.toS (((k : Nat) : Int).toNat * 12 + 0) _ rfl (by first | exact (add_of_add _ _ _).trans (add_of_add _ _ _) | exact add_of_add _ _ _ | rfl) (gN_f (t := t) (k := k) rfl hlt 0 rfl)) rfl (.inr ⟨rfl, rfl⟩) ?_
|refine S_load rfl obQ rfl [.string (gN t k).w.sh] (.past (w, fun b => b < w.heap.size) memQ _ _ hr.toS (((k : Nat) : Int).toNat * 12 + 7) _ rfl (by first | exact (add_of_add _ _ _).trans (add_of_add _ _ _) | exact add_of_add _ _ _ | rfl) (gN_f (t := t) (k := k) rfl hlt 7 rfl)) rfl (.inr ⟨rfl, rfl⟩) ?_
|refine S_nil ?_
|refine S_runN rfl rfl obQ obQ ?_)
|(refine G_id ?_; first
|refine G_then ?_
|refine G_blockX ?_
|refine G_blockR ?_
|refine G_thenR ?_
|refine G_thenX ?_
|refine G_ret rfl obQ (fun w hw => ⟨?_, hw.below⟩)))
      all_goals rfl
  · rw [shT_yes (fun j hj => hk.2 j (by omega))]
    by_cases h7 : (t.length : Int) ≤ 7
    · rw [decide_eq_true h7, Bool.true_or]
      repeat' (first
|(refine C_id ?_; first
|refine C_seq ?_
|refine C_region rfl ?_
|refine C_block ?_
|refine C_skip ?_
|refine C_exit ?_
|refine C_ret0 ?_
|refine C_condT rfl obQ ?_
|refine C_condF rfl obQ ?_
|(refine C_cond rfl obQ ?_ ?_ <;> intro h <;> (try simp only [cdS] at h) <;> (try (exfalso; omega)) <;> (try exact cdF h) <;> (try contradiction) <;> (try (exfalso; omega))))
|(refine S_id ?_; first
|((with_reducible (first | refine S_falseN ?_ ?_ | refine S_falseB ?_ ?_ | refine S_falseL ?_ ?_ | refine S_falseD ?_ ?_ | refine S_falseE ?_ ?_)); · (first | rfl | omega | exact decide_eq_false (by omega)))
|((with_reducible (first | refine S_trueE ?_ ?_ | refine S_trueB ?_ ?_ | refine S_trueL ?_ ?_ | refine S_trueD ?_ ?_ | refine S_trueN ?_ ?_)); · (first | rfl | assumption | omega | exact decide_eq_true (by omega)))
|refine S_unG rfl rfl rfl rfl ?_
|refine S_offG (.v (.bool false)) rfl rfl rfl rfl rfl ?_
|refine S_load rfl obQ rfl [.string (gN t k).kd] (.past (w, fun b => b < w.heap.size) memQ _ _ hr.toS (((k : Nat) : Int).toNat * 12 + 0) _ rfl (by first | exact (add_of_add _ _ _).trans (add_of_add _ _ _) | exact add_of_add _ _ _ | rfl) (gN_f (t := t) (k := k) rfl hlt 0 rfl)) rfl (.inr ⟨rfl, rfl⟩) ?_
|refine S_load rfl obQ rfl [.string (gN t k).w.sh] (.past (w, fun b => b < w.heap.size) memQ _ _ hr.toS (((k : Nat) : Int).toNat * 12 + 7) _ rfl (by first | exact (add_of_add _ _ _).trans (add_of_add _ _ _) | exact add_of_add _ _ _ | rfl) (gN_f (t := t) (k := k) rfl hlt 7 rfl)) rfl (.inr ⟨rfl, rfl⟩) ?_
|refine S_nil ?_
|refine S_runN rfl rfl obQ obQ ?_)
|(refine G_id ?_; first
|refine G_then ?_
|refine G_blockX ?_
|refine G_blockR ?_
|refine G_thenR ?_
|refine G_thenX ?_
|refine G_ret rfl obQ (fun w hw => ⟨?_, hw.below⟩)))
      all_goals rfl
    · rw [decide_eq_false h7, Bool.false_or]
      repeat' (first
|(refine C_id ?_; first
|refine C_seq ?_
|refine C_region rfl ?_
|refine C_block ?_
|refine C_skip ?_
|refine C_exit ?_
|refine C_ret0 ?_
|refine C_condT rfl obQ ?_
|refine C_condF rfl obQ ?_
|(refine C_cond rfl obQ ?_ ?_ <;> intro h <;> (try simp only [cdS] at h) <;> (try (exfalso; omega)) <;> (try exact cdF h) <;> (try contradiction) <;> (try (exfalso; omega))))
|(refine S_id ?_; first
|((with_reducible (first | refine S_falseN ?_ ?_ | refine S_falseB ?_ ?_ | refine S_falseL ?_ ?_ | refine S_falseD ?_ ?_ | refine S_falseE ?_ ?_)); · (first | rfl | omega | exact decide_eq_false (by omega)))
|((with_reducible (first | refine S_trueE ?_ ?_ | refine S_trueB ?_ ?_ | refine S_trueL ?_ ?_ | refine S_trueD ?_ ?_ | refine S_trueN ?_ ?_)); · (first | rfl | assumption | omega | exact decide_eq_true (by omega)))
|refine S_unG rfl rfl rfl rfl ?_
|refine S_offG (.v (.bool false)) rfl rfl rfl rfl rfl ?_
|refine S_load rfl obQ rfl [.string (gN t k).kd] (.past (w, fun b => b < w.heap.size) memQ _ _ hr.toS (((k : Nat) : Int).toNat * 12 + 0) _ rfl (by first | exact (add_of_add _ _ _).trans (add_of_add _ _ _) | exact add_of_add _ _ _ | rfl) (gN_f (t := t) (k := k) rfl hlt 0 rfl)) rfl (.inr ⟨rfl, rfl⟩) ?_
|refine S_load rfl obQ rfl [.string (gN t k).w.sh] (.past (w, fun b => b < w.heap.size) memQ _ _ hr.toS (((k : Nat) : Int).toNat * 12 + 7) _ rfl (by first | exact (add_of_add _ _ _).trans (add_of_add _ _ _) | exact add_of_add _ _ _ | rfl) (gN_f (t := t) (k := k) rfl hlt 7 rfl)) rfl (.inr ⟨rfl, rfl⟩) ?_
|refine S_nil ?_
|refine S_runN rfl rfl obQ obQ ?_)
|(refine G_id ?_; first
|refine G_then ?_
|refine G_blockX ?_
|refine G_blockR ?_
|refine G_thenR ?_
|refine G_thenX ?_
|refine G_ret rfl obQ (fun w hw => ⟨?_, hw.below⟩)))
      all_goals rfl
end Go.Proofs.YtjkgklhjbopoaaaGreatDoor
