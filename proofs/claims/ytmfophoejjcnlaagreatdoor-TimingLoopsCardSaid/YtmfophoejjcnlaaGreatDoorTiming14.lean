/- The reference: counters; comparison of lists. -/
import Derived.Test.YtmfophoejjcnlaaGreatDoorTiming13
namespace Go.Proofs.YtmfophoejjcnlaaGreatDoor
open Go.E Go.RowKit
attribute [local irreducible] G C S D Calls
set_option maxRecDepth 100000
set_option linter.unusedSimpArgs false
set_option linter.unusedVariables false

theorem lockE3 (p x s : Int) : lockE p x s = 0 ∨ lockE p x s = 3 := all3 fun y hy => by
  simp only [List.mem_cons, List.mem_nil_iff, or_false] at hy
  rcases hy with rfl | rfl | rfl <;> exact ⟨_, _, _, rfl⟩
theorem rLockE1 {p x s : Int} (h : ¬ wi p 1 10000000 = 0) : lockE p x s = wi p 1 10000000 := by simp [lockE, firstL, h]
theorem rLockE2 {p x s : Int} (h : wi p 1 10000000 = 0) : lockE p x s = firstL [wi x 0 (p - 1), wi s 1 10000000] := by
  have h1 := (wi_eq _ _ _).1 h
  have e : IntKind.i64.wrap (p - 1) = p - 1 := inR_wrap (by simp only [inR]; omega)
  simp [lockE, firstL, h, e]

set_option maxHeartbeats 400000 in
/-- genlockref04.CheckLock -/
theorem rCheckLock_c (p x s : Int) (w : World) : Calls Tryz.prog 41 #[.int .i64 p, .int .i64 x, .int .i64 s] w fun r w' => r = .returned (.int .i64 (lockE p x s)) ∧ Below w.heap.size w w' := by
  have hk : wi p 1 10000000 = 0 → 1 ≤ p ∧ p ≤ 10000000 := (wi_eq _ _ _).1
  refine calls_of (args := [.int .i64 p, .int .i64 x, .int .i64 s]) T_ok Tryz.func41 rfl Tryz.ntmps41 (Nat.le_of_ble_eq_true rfl) rfl ?_
  repeat' (first
 | (refine C_id ?_; first
 | refine C_seq ?_
 | refine C_region rfl ?_
 | refine C_block ?_
 | refine C_skip ?_
 | refine C_exit ?_
 | refine C_ret0 ?_
 | refine C_condT rfl obQ ?_
 | refine C_condF rfl obQ ?_
 | (refine C_cond rfl obQ (fun h => ?_) (fun h => ?_) <;> (try simp only [Bool.or_eq_true, Bool.and_eq_true, Bool.or_eq_false_iff, Bool.and_eq_false_iff, decide_eq_true_eq, decide_eq_false_iff_not, beq_iff_eq, bne_iff_ne, beq_eq_false_iff_ne, bne_eq_false_iff_eq, ne_eq, Decidable.not_not, List.cons.injEq, and_true, Bool.not_eq_true', Bool.not_eq_false', Int.not_lt, Int.not_le] at h))
      )
 | (refine S_id ?_; first
 | refine S_nil ?_
 | refine S_run rfl rfl obQ obQ ?_
 | refine S_slice (fun b => ⟨_, _, rfl, obQ, ?_⟩)
 | refine S_call (f := 43) rfl obQ (by kernel_rfl) (fun w hw => rRange_c _ _ _ w) ?_
 | refine S_call (f := 84) rfl obQ (by kernel_rfl) (fun w hw => rFirst_c _ _ [wi x 0 (p - 1), wi s 1 10000000] (by simp) w (.inr ⟨_, rfl, hw.src (i := 0) rfl rfl⟩)) ?_
      )
 | (refine G_id ?_; first
 | refine G_then ?_
 | refine G_block ?_
 | refine G_blockX ?_
 | refine G_blockN rfl ?_
 | refine G_blockR ?_
 | refine G_thenR ?_
 | refine G_thenX ?_
 | refine G_ret rfl obQ (fun w hw => ⟨?_, hw.below⟩)
      )
    )
  · exact ret1 (rLockE1 h)
  · exact ret1 (rLockE2 h)

set_option maxHeartbeats 400000 in
/-- genlockref04.Lock -/
theorem rLock_c (p x s : Int) (hc : lockE p x s = 0) (w : World) : Calls Tryz.prog 44 #[.int .i64 p, .int .i64 x, .int .i64 s] w fun r w' => ∃ v, r = .returned v ∧ Below w.heap.size w w' ∧ Sl2 w w' v (lockR p x s).1.length ((lockR p x s).1.map (.int .i64)) (.int .i64 (lockR p x s).2) := by
  refine calls_of (args := [.int .i64 p, .int .i64 x, .int .i64 s]) T_ok Tryz.func44 rfl Tryz.ntmps44 (Nat.le_of_ble_eq_true rfl) rfl ?_
  obtain ⟨hp, hx, hs⟩ := lockE_ok hc
  have hR : lockR p x s = lockF p s 255 x [x] := by rw [lockR, if_pos hc]
  repeat' (first
 | (refine C_id ?_; first
 | refine C_seq ?_
 | refine C_region rfl ?_
 | refine C_block ?_
 | refine C_skip ?_
 | refine C_exit ?_
 | refine C_ret0 ?_
 | refine C_condT rfl obQ ?_
 | refine C_condF rfl obQ ?_
 | (refine C_cond rfl obQ (fun h => ?_) (fun h => ?_) <;> (try simp only [Bool.or_eq_true, Bool.and_eq_true, Bool.or_eq_false_iff, Bool.and_eq_false_iff, decide_eq_true_eq, decide_eq_false_iff_not, beq_iff_eq, bne_iff_ne, beq_eq_false_iff_ne, bne_eq_false_iff_eq, ne_eq, Decidable.not_not, List.cons.injEq, and_true, Bool.not_eq_true', Bool.not_eq_false', Int.not_lt, Int.not_le] at h) <;> (try (exfalso; omega)))
        )
 | (refine S_id ?_; first
 | refine S_nil ?_
 | refine S_run rfl rfl obQ obQ ?_
 | refine S_slice (fun b => ⟨_, _, rfl, obQ, ?_⟩)
        )
 | (refine G_id ?_; first
 | refine G_then ?_
 | refine G_block ?_
 | refine G_blockX ?_
 | refine G_blockN rfl ?_
 | refine G_blockR ?_
 | refine G_thenR ?_
 | refine G_thenX ?_
 | refine G_ret rfl obQ (fun w hw => ⟨?_, hw.below⟩)
        )
      )
  refine C_boxRow 8 1 1 (bx' := []) rfl rfl rfl rfl (by unfold maxLen; omega) ?_
  refine C_loopS (fun i : Nat × List Int × Int × Option Addr × Nat => ⟨[(8, .s (.r i.2.2.2.1 i.1 i.2.2.2.2 0)), (0, .s (.v (.int .i64 p))), (1, .s (.v (.int .i64 i.2.2.1))), (2, .s (.v (.int .i64 s)))], [], [⟨3, 1, i.1, i.2.1.map (.int .i64), .slice i.2.2.2.1 i.1 i.2.2.2.2⟩]⟩)
    (fun i => i.1 = i.2.1.length ∧ (1 ≤ i.1 ∧ i.1 ≤ 256) ∧ (0 ≤ i.2.2.1 ∧ i.2.2.1 ≤ p - 1) ∧ lockF p s (256 - i.1) i.2.2.1 i.2.1 = lockR p x s) (fun i => 257 - i.1) (1, [x], x, some ⟨b, 0, none⟩, 1) ⟨rfl, ⟨Nat.le_refl _, by show 1 ≤ 256; omega⟩, hx, hR.symm⟩ ?_ (fun i hi => ?_)
  · exact ⟨⟨_, rfl, obQ⟩, ⟨_, rfl⟩, rfl, pstQ⟩
  obtain ⟨m, l, xx, A', c'⟩ := i
  obtain ⟨hm, hl, hxx, hI⟩ := hi
  dsimp only at hm hl hxx hI
  have hgo : 0 < xx → m < 256 → ∀ y, y = lockStep p s xx → m + 1 = (l ++ [y]).length ∧ (1 ≤ m + 1 ∧ m + 1 ≤ 256) ∧ (0 ≤ y ∧ y ≤ p - 1) ∧ lockF p s (256 - (m + 1)) y (l ++ [y]) = lockR p x s := fun h0 h1 y hy => by
    have hlen : (l ++ [y]).length = l.length + 1 := by simp
    have := lockStep_bd (p := p) (s := s) hp.1 hxx hs.1
    refine ⟨by omega, by omega, by rw [hy]; exact this, ?_⟩
    rw [← hI, show 256 - m = (256 - (m + 1)) + 1 by omega, lockF_go p s _ h0, hy]
  have hfull : 0 < xx → m = 256 → lockR p x s = ([], 5) := fun h0 h1 => by rw [← hI, h1]; exact lockF_none p s h0 l
  have hstop : ¬ 0 < xx → lockR p x s = (l, 0) := fun h0 => by rw [← hI]; exact lockF_stop p s _ h0 l
  dsimp only
  repeat' (first
 | (refine C_id ?_; first
 | refine C_seq ?_
 | refine C_region rfl ?_
 | refine C_block ?_
 | refine C_skip ?_
 | refine C_exit ?_
 | refine C_ret0 ?_
 | refine C_condT rfl obQ ?_
 | refine C_condF rfl obQ ?_
 | (refine C_cond rfl obQ (fun h => ?_) (fun h => ?_) <;> (try simp only [Bool.or_eq_true, Bool.and_eq_true, Bool.or_eq_false_iff, Bool.and_eq_false_iff, decide_eq_true_eq, decide_eq_false_iff_not, beq_iff_eq, bne_iff_ne, beq_eq_false_iff_ne, bne_eq_false_iff_eq, ne_eq, Decidable.not_not, List.cons.injEq, and_true, Bool.not_eq_true', Bool.not_eq_false', Int.not_lt, Int.not_le] at h) <;> (try (exfalso; omega)))
        )
 | (refine S_id ?_; first
 | refine S_append rfl obQ rfl rfl rfl ⟨by decide, rfl⟩ rfl ⟨rfl, rfl, rfl, rfl⟩ [.int .i64 (max 0 (xx - s))] ⟨by decide, rfl⟩ (by simp [Value.oneCell']) (fun w hw => by first | exact hw.src (i := 0) rfl rfl | exact hw.src (i := 1) rfl rfl | exact hw.src (i := 2) rfl rfl | exact hw.src (i := 3) rfl rfl | exact hw.src (i := 4) rfl rfl | exact hw.src (i := 5) rfl rfl) (by unfold maxLen; dsimp only; omega) (fun gb cap' => ⟨_, rfl, ?_⟩)
 | refine S_append rfl obQ rfl rfl rfl ⟨by decide, rfl⟩ rfl ⟨rfl, rfl, rfl, rfl⟩ [.int .i64 (0)] ⟨by decide, rfl⟩ (by simp [Value.oneCell']) (fun w hw => by first | exact hw.src (i := 0) rfl rfl | exact hw.src (i := 1) rfl rfl | exact hw.src (i := 2) rfl rfl | exact hw.src (i := 3) rfl rfl | exact hw.src (i := 4) rfl rfl | exact hw.src (i := 5) rfl rfl) (by unfold maxLen; dsimp only; omega) (fun gb cap' => ⟨_, rfl, ?_⟩)
 | refine S_append rfl obQ rfl rfl rfl ⟨by decide, rfl⟩ rfl ⟨rfl, rfl, rfl, rfl⟩ [.int .i64 (xx + s)] ⟨by decide, rfl⟩ (by simp [Value.oneCell']) (fun w hw => by first | exact hw.src (i := 0) rfl rfl | exact hw.src (i := 1) rfl rfl | exact hw.src (i := 2) rfl rfl | exact hw.src (i := 3) rfl rfl | exact hw.src (i := 4) rfl rfl | exact hw.src (i := 5) rfl rfl) (by unfold maxLen; dsimp only; omega) (fun gb cap' => ⟨_, rfl, ?_⟩)
 | refine S_nil ?_
 | refine S_run rfl rfl obQ obQ ?_
 | refine S_slice (fun b => ⟨_, _, rfl, obQ, ?_⟩)
        )
 | (refine G_id ?_; first
 | refine G_loop (m + 1, l ++ [max 0 (xx - s)], max 0 (xx - s), some ⟨gb, 0, none⟩, cap') (hgo (by omega) (by omega) _ (by unfold lockStep; (repeat' split) <;> first | rfl | (exfalso; omega) | omega)) (by show 257 - (m + 1) < 257 - m; omega) ⟨⟨_, rfl, obQ⟩, ⟨_, rfl⟩, (by simp), pstQ⟩
 | refine G_loop (m + 1, l ++ [0], 0, some ⟨gb, 0, none⟩, cap') (hgo (by omega) (by omega) _ (by unfold lockStep; (repeat' split) <;> first | rfl | (exfalso; omega) | omega)) (by show 257 - (m + 1) < 257 - m; omega) ⟨⟨_, rfl, obQ⟩, ⟨_, rfl⟩, (by simp), pstQ⟩
 | refine G_loop (m + 1, l ++ [xx + s], xx + s, some ⟨gb, 0, none⟩, cap') (hgo (by omega) (by omega) _ (by unfold lockStep; (repeat' split) <;> first | rfl | (exfalso; omega) | omega)) (by show 257 - (m + 1) < 257 - m; omega) ⟨⟨_, rfl, obQ⟩, ⟨_, rfl⟩, (by simp), pstQ⟩
 | refine G_ret rfl obQ (fun w2 hw => ⟨_, rfl, hw.below, Sl.two (v := .slice none 0 0) (by rw [hfull (by omega) (by omega)]; exact Sl.nil_ _ _) (by rw [hfull (by omega) (by omega)])⟩)
 | refine G_then ?_
 | refine G_block ?_
 | refine G_blockX ?_
 | refine G_blockN rfl ?_
 | refine G_blockR ?_
 | refine G_thenR ?_
 | refine G_thenX ?_
 | refine G_ret rfl obQ (fun w2 hw => ⟨_, rfl, hw.below, (HW.rowSl (i := 0) hw rfl rfl (by rw [hstop (by omega)]; exact hm) (by rw [hstop (by omega)])).two (by rw [hstop (by omega)])⟩)
        )
      )

end Go.Proofs.YtmfophoejjcnlaaGreatDoor
