/- Lock, Counted, Slip. -/
import Derived.Test.YtmfophoejjcnlaaGreatDoorTiming8
namespace Go.Proofs.YtmfophoejjcnlaaGreatDoor
open Go.E Go.RowKit
attribute [local irreducible] G C S D Calls
set_option maxRecDepth 100000
set_option linter.unusedSimpArgs false
set_option linter.unusedVariables false

/-- The next error of a counter. -/
def lockStep (p s x : Int) : Int := if 2 * x ≤ p then max 0 (x - s) else if p ≤ x + s then 0 else x + s
def lockF (p s : Int) : Nat → Int → List Int → List Int × Int
  | 0, x, l => if 0 < x then ([], 5) else (l, 0)
  | n + 1, x, l => if 0 < x then lockF p s n (lockStep p s x) (l ++ [lockStep p s x]) else (l, 0)
def lockE (p x s : Int) : Int := firstL [wi p 1 10000000, wi x 0 (IntKind.i64.wrap (p - 1)), wi s 1 10000000]
def lockR (p x s : Int) : List Int × Int := if lockE p x s = 0 then lockF p s 255 x [x] else ([], lockE p x s)
theorem lockE_ok {p x s : Int} (h : lockE p x s = 0) : (1 ≤ p ∧ p ≤ 10000000) ∧ (0 ≤ x ∧ x ≤ p - 1) ∧ (1 ≤ s ∧ s ≤ 10000000) := by
  unfold lockE at h
  rw [firstL_zero] at h
  simp only [List.mem_cons, List.mem_nil_iff, or_false, forall_eq_or_imp, forall_eq, wi_eq] at h
  have e : 1 ≤ p ∧ p ≤ 10000000 → IntKind.i64.wrap (p - 1) = p - 1 := fun h => inR_wrap (by simp only [inR]; omega)
  rw [e h.1] at h
  exact h
theorem lockStep_bd {p s x : Int} (hp : 1 ≤ p) (hx : 0 ≤ x ∧ x ≤ p - 1) (hs : 1 ≤ s) : 0 ≤ lockStep p s x ∧ lockStep p s x ≤ p - 1 := by
  unfold lockStep
  split
  · omega
  · split <;> omega
theorem lockF_stop (p s : Int) (n : Nat) {x : Int} (h : ¬ 0 < x) (l : List Int) : lockF p s n x l = (l, 0) := by cases n <;> simp [lockF, h]
theorem lockF_go (p s : Int) (n : Nat) {x : Int} (h : 0 < x) (l : List Int) : lockF p s (n + 1) x l = lockF p s n (lockStep p s x) (l ++ [lockStep p s x]) := by simp [lockF, h]
theorem lockF_none (p s : Int) {x : Int} (h : 0 < x) (l : List Int) : lockF p s 0 x l = ([], 5) := by simp [lockF, h]

set_option maxHeartbeats 400000 in
/-- timing.Lock -/
theorem Lock_c (p x s : Int) (w : World) : Calls Tryz.prog 38 #[.int .i64 p, .int .i64 x, .int .i64 s] w fun r w' => ∃ v, r = .returned v ∧ Below w.heap.size w w' ∧ Sl2 w w' v (lockR p x s).1.length ((lockR p x s).1.map (.int .i64)) (.int .i64 (lockR p x s).2) := by
  refine calls_of (args := [.int .i64 p, .int .i64 x, .int .i64 s]) T_ok Tryz.func38 rfl Tryz.ntmps38 (Nat.le_of_ble_eq_true rfl) rfl ?_
  by_cases hc : lockE p x s = 0
  · obtain ⟨hp, hx, hs⟩ := lockE_ok hc
    have hR : lockR p x s = lockF p s 255 x [x] := by rw [lockR, if_pos hc]
    have hpl : firstL [wi p 1 10000000, wi x 0 (p - 1), wi s 1 10000000] = 0 := by
      rw [firstL_zero]
      simp only [List.mem_cons, List.mem_nil_iff, or_false, forall_eq_or_imp, forall_eq, wi_eq]
      exact ⟨hp, hx, hs⟩
    repeat' (first
 | (refine C_id ?_; first
 | refine C_seq ?_
 | refine C_region rfl ?_
 | refine C_block ?_
 | refine C_skip ?_
 | (refine C_cond rfl obQ (fun h => ?_) (fun h => ?_) <;> (try simp only [Bool.or_eq_true, Bool.and_eq_true, Bool.or_eq_false_iff, Bool.and_eq_false_iff, decide_eq_true_eq, decide_eq_false_iff_not, beq_iff_eq, bne_iff_ne, beq_eq_false_iff_ne, bne_eq_false_iff_eq, ne_eq, Decidable.not_not, List.cons.injEq, and_true, Bool.not_eq_true', Bool.not_eq_false', Int.not_lt, Int.not_le] at h) <;> (try (exfalso; omega)))
     )
 | (refine S_id ?_; first
 | refine S_nil ?_
 | refine S_run rfl rfl obQ obQ ?_
 | refine S_slice (fun b => ⟨_, _, rfl, obQ, ?_⟩)
 | refine S_call (f := 91) rfl obQ (by kernel_rfl) (fun w hw => within_c _ _ _ w) ?_
 | refine S_call (f := 87) rfl obQ (by kernel_rfl) (fun w hw => first_c _ _ [wi p 1 10000000, wi x 0 (p - 1), wi s 1 10000000] (by simp) w (.inr ⟨_, rfl, hw.src (i := 0) rfl rfl⟩)) ?_
     )
 | (refine G_id ?_; first
 | refine G_then ?_
     )
     )
    refine C_boxRow 9 1 1 (bx' := [_]) rfl rfl rfl rfl (by unfold maxLen; omega) ?_
    refine C_loopS (fun i : Nat × List Int × Int × Option Addr × Nat => ⟨[(9, .s (.r i.2.2.2.1 i.1 i.2.2.2.2 0)), (0, .s (.v (.int .i64 p))), (1, .s (.v (.int .i64 i.2.2.1))), (2, .s (.v (.int .i64 s)))], [], [⟨3, 1, i.1, i.2.1.map (.int .i64), .slice i.2.2.2.1 i.1 i.2.2.2.2⟩]⟩)
      (fun i => i.1 = i.2.1.length ∧ (1 ≤ i.1 ∧ i.1 ≤ 256) ∧ (0 ≤ i.2.2.1 ∧ i.2.2.1 ≤ p - 1) ∧ lockF p s (256 - i.1) i.2.2.1 i.2.1 = lockR p x s) (fun i => 257 - i.1) (1, [x], x, some ⟨b, 0, none⟩, 1) ⟨rfl, ⟨Nat.le_refl _, by show 1 ≤ 256; omega⟩, hx, hR.symm⟩ ?_ (fun i hi => ?_)
    · exact ⟨⟨_, rfl, obQ⟩, ⟨_, rfl⟩, rfl, pstQ⟩
    obtain ⟨m, l, xx, A', c'⟩ := i
    obtain ⟨hm, hl, hxx, hI⟩ := hi
    dsimp only at hm hl hxx hI
    have hgo : 0 < xx → m < 256 → ∀ y, y = lockStep p s xx → m + 1 = (l ++ [y]).length ∧ (1 ≤ m + 1 ∧ m + 1 ≤ 256) ∧ (0 ≤ y ∧ y ≤ p - 1) ∧ lockF p s (256 - (m + 1)) y (l ++ [y]) = lockR p x s := fun h0 h1 y hy => by
      have hlen : (l ++ [y]).length = l.length + 1 := by simp
      have := lockStep_bd (p := p) (s := s) hp.1 hxx hs.1
      refine ⟨by omega, by omega, by rw [hy]; exact this, ?_⟩
      rw [← hI, show 256 - m = (256 - (m + 1)) + 1 by omega, lockF_go p s _ h0, hy]
    have hfull : 0 < xx → m = 256 → lockR p x s = ([], 5) := fun h0 h1 => by rw [← hI, h1]; exact lockF_none p s h0 l
    have hstop : ¬ 0 < xx → lockR p x s = (l, 0) := fun h0 => by rw [← hI]; exact lockF_stop p s _ h0 l
    dsimp only
    repeat' (first
 | (refine C_id ?_; first
 | refine C_seq ?_
 | refine C_region rfl ?_
 | refine C_block ?_
 | refine C_skip ?_
 | refine C_exit ?_
 | refine C_ret0 ?_
 | (refine C_cond rfl obQ (fun h => ?_) (fun h => ?_) <;> (try simp only [Bool.or_eq_true, Bool.and_eq_true, Bool.or_eq_false_iff, Bool.and_eq_false_iff, decide_eq_true_eq, decide_eq_false_iff_not, beq_iff_eq, bne_iff_ne, beq_eq_false_iff_ne, bne_eq_false_iff_eq, ne_eq, Decidable.not_not, List.cons.injEq, and_true, Bool.not_eq_true', Bool.not_eq_false', Int.not_lt, Int.not_le] at h) <;> (try (exfalso; omega)))
     )
 | (refine S_id ?_; first
 | refine S_append rfl obQ rfl rfl rfl ⟨by decide, rfl⟩ rfl ⟨rfl, rfl, rfl, rfl⟩ [.int .i64 (max 0 (xx - s))] ⟨by decide, rfl⟩ (by simp [Value.oneCell']) (fun w hw => by first | exact hw.src (i := 0) rfl rfl | exact hw.src (i := 1) rfl rfl | exact hw.src (i := 2) rfl rfl | exact hw.src (i := 3) rfl rfl | exact hw.src (i := 4) rfl rfl | exact hw.src (i := 5) rfl rfl | exact hw.src (i := 6) rfl rfl | exact hw.src (i := 7) rfl rfl | exact hw.src (i := 8) rfl rfl) (by unfold maxLen; dsimp only; omega) (fun gb cap' => ⟨_, rfl, ?_⟩)
 | refine S_append rfl obQ rfl rfl rfl ⟨by decide, rfl⟩ rfl ⟨rfl, rfl, rfl, rfl⟩ [.int .i64 (0)] ⟨by decide, rfl⟩ (by simp [Value.oneCell']) (fun w hw => by first | exact hw.src (i := 0) rfl rfl | exact hw.src (i := 1) rfl rfl | exact hw.src (i := 2) rfl rfl | exact hw.src (i := 3) rfl rfl | exact hw.src (i := 4) rfl rfl | exact hw.src (i := 5) rfl rfl | exact hw.src (i := 6) rfl rfl | exact hw.src (i := 7) rfl rfl | exact hw.src (i := 8) rfl rfl) (by unfold maxLen; dsimp only; omega) (fun gb cap' => ⟨_, rfl, ?_⟩)
 | refine S_append rfl obQ rfl rfl rfl ⟨by decide, rfl⟩ rfl ⟨rfl, rfl, rfl, rfl⟩ [.int .i64 (xx + s)] ⟨by decide, rfl⟩ (by simp [Value.oneCell']) (fun w hw => by first | exact hw.src (i := 0) rfl rfl | exact hw.src (i := 1) rfl rfl | exact hw.src (i := 2) rfl rfl | exact hw.src (i := 3) rfl rfl | exact hw.src (i := 4) rfl rfl | exact hw.src (i := 5) rfl rfl | exact hw.src (i := 6) rfl rfl | exact hw.src (i := 7) rfl rfl | exact hw.src (i := 8) rfl rfl) (by unfold maxLen; dsimp only; omega) (fun gb cap' => ⟨_, rfl, ?_⟩)
 | refine S_nil ?_
 | refine S_run rfl rfl obQ obQ ?_
 | refine S_slice (fun b => ⟨_, _, rfl, obQ, ?_⟩)
     )
 | (refine G_id ?_; first
 | refine G_loop (m + 1, l ++ [max 0 (xx - s)], max 0 (xx - s), some ⟨gb, 0, none⟩, cap') (hgo (by omega) (by omega) _ (by unfold lockStep; (repeat' split) <;> first | rfl | (exfalso; omega) | omega)) (by show 257 - (m + 1) < 257 - m; omega) ⟨⟨_, rfl, obQ⟩, ⟨_, rfl⟩, (by simp), pstQ⟩
 | refine G_loop (m + 1, l ++ [0], 0, some ⟨gb, 0, none⟩, cap') (hgo (by omega) (by omega) _ (by unfold lockStep; (repeat' split) <;> first | rfl | (exfalso; omega) | omega)) (by show 257 - (m + 1) < 257 - m; omega) ⟨⟨_, rfl, obQ⟩, ⟨_, rfl⟩, (by simp), pstQ⟩
 | refine G_loop (m + 1, l ++ [xx + s], xx + s, some ⟨gb, 0, none⟩, cap') (hgo (by omega) (by omega) _ (by unfold lockStep; (repeat' split) <;> first | rfl | (exfalso; omega) | omega)) (by show 257 - (m + 1) < 257 - m; omega) ⟨⟨_, rfl, obQ⟩, ⟨_, rfl⟩, (by simp), pstQ⟩
 | refine G_ret rfl obQ (fun w2 hw => ⟨_, rfl, hw.below, Sl.two (v := .slice none 0 0) (by rw [hfull (by omega) (by omega)]; exact Sl.nil_ _ _) (by rw [hfull (by omega) (by omega)])⟩)
 | refine G_then ?_
 | refine G_block ?_
 | refine G_blockX ?_
 | refine G_blockR ?_
 | refine G_thenR ?_
 | refine G_thenX ?_
 | refine G_ret rfl obQ (fun w2 hw => ⟨_, rfl, hw.below, (HW.rowSl (i := 0) hw rfl rfl (by rw [hstop (by omega)]; exact hm) (by rw [hstop (by omega)])).two (by rw [hstop (by omega)])⟩)
     )
     )
  · have hR : lockR p x s = ([], lockE p x s) := by rw [lockR, if_neg hc]
    repeat' (first
 | (refine C_id ?_; first
 | refine C_seq ?_
 | refine C_region rfl ?_
 | refine C_block ?_
 | refine C_skip ?_
 | refine C_ret0 ?_
 | (refine C_cond rfl obQ (fun h => ?_) (fun h => ?_) <;> (try simp only [Bool.or_eq_true, Bool.and_eq_true, Bool.or_eq_false_iff, Bool.and_eq_false_iff, decide_eq_true_eq, decide_eq_false_iff_not, beq_iff_eq, bne_iff_ne, beq_eq_false_iff_ne, bne_eq_false_iff_eq, ne_eq, Decidable.not_not, List.cons.injEq, and_true, Bool.not_eq_true', Bool.not_eq_false', Int.not_lt, Int.not_le] at h) <;> (try (exfalso; omega)))
     )
 | (refine S_id ?_; first
 | refine S_pure (binX_pure rfl obQ (fun w => wrap_sub _ _ _ _ _ _ w)) ?_
 | refine S_nil ?_
 | refine S_run rfl rfl obQ obQ ?_
 | refine S_slice (fun b => ⟨_, _, rfl, obQ, ?_⟩)
 | refine S_one rfl obQ ?_
 | refine S_call (f := 91) rfl obQ (by kernel_rfl) (fun w hw => within_c _ _ _ w) ?_
 | refine S_call (f := 87) rfl obQ (by kernel_rfl) (fun w hw => first_c _ _ [wi p 1 10000000, wi x 0 (IntKind.i64.wrap (p - 1)), wi s 1 10000000] (by simp) w (.inr ⟨_, rfl, hw.src (i := 0) rfl rfl⟩)) ?_
     )
 | (refine G_id ?_; first
 | refine G_then ?_
 | refine G_thenR ?_
 | refine G_ret rfl obQ (fun w2 hw => ⟨_, rfl, hw.below, Sl.two (v := .slice none 0 0) (by rw [hR]; exact Sl.nil_ _ _) (by rw [hR]; rfl)⟩)
     )
     )
    all_goals (rename_i h; exact absurd h hc)

end Go.Proofs.YtmfophoejjcnlaaGreatDoor
