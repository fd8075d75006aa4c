/- The signal. -/
import Derived.Test.YtmfophoejjcnlaaGreatDoorTiming7
namespace Go.Proofs.YtmfophoejjcnlaaGreatDoor
open Go.E Go.RowKit
attribute [local irreducible] G C S D Calls
set_option maxRecDepth 100000
set_option linter.unusedSimpArgs false
set_option linter.unusedVariables false

/-- The level at a tick: 0 sync, 1 blanked, 2 white. -/
def lvl (f : Fmt) (t : Int) : Value := if (atF f t).S < f.Y then .float .f32 3263168512 else if (atF f t).S < f.B ∨ (atF f t).L < f.V then .float .f32 0 else .float .f32 1098907648
def sigE (f : Fmt) (t n : Int) : Int := firstL [checkT f t, wi n 0 4096, wh (decide (0 < n) && decide (IntKind.i64.wrap (10000000 - t) < IntKind.i64.wrap (n - 1))) 4]
def sigL (f : Fmt) (t n : Int) : List Value := if sigE f t n = 0 then (List.range n.toNat).map fun i : Nat => lvl f (t + i) else []
theorem sigE_ok {f : Fmt} {t n : Int} (h : sigE f t n = 0) : Valid f ∧ (0 ≤ t ∧ t ≤ 10000000) ∧ (0 ≤ n ∧ n ≤ 4096) ∧ (0 < n → n - 1 ≤ 10000000 - t) := by
  unfold sigE at h
  rw [firstL_zero] at h
  simp only [List.mem_cons, List.mem_nil_iff, or_false, forall_eq_or_imp, forall_eq, wi_eq, checkT_iff] at h
  obtain ⟨h1, h2, h3⟩ := h
  refine ⟨h1.1, h1.2, h2, fun h4 => ?_⟩
  have e : IntKind.i64.wrap (10000000 - t) = 10000000 - t := inR_wrap (by simp only [inR]; omega)
  have e' : IntKind.i64.wrap (n - 1) = n - 1 := inR_wrap (by simp only [inR]; omega)
  rw [e, e'] at h3
  unfold wh at h3
  split at h3
  · omega
  · rename_i h5
    simp only [Bool.and_eq_true, decide_eq_true_eq] at h5
    omega

set_option maxHeartbeats 400000 in
/-- timing.Signal -/
theorem Signal_c (f : Fmt) (t n : Int) (hn : -9223372036854775808 ≤ n ∧ n ≤ 9223372036854775807) (w : World) (hE : Ex w) : Calls Tryz.prog 31 #[.agg #[.int .i64 f.S, .int .i64 f.L, .int .i64 f.F, .int .i64 f.B, .int .i64 f.Y, .int .i64 f.V, .int .i64 f.C], .int .i64 t, .int .i64 n] w fun r w' => ∃ v, r = .returned v ∧ Below w.heap.size w w' ∧ Sl2 w w' v (sigL f t n).length (sigL f t n) (.int .i64 (sigE f t n)) := by
  refine calls_of (args := [.agg #[.int .i64 f.S, .int .i64 f.L, .int .i64 f.F, .int .i64 f.B, .int .i64 f.Y, .int .i64 f.V, .int .i64 f.C], .int .i64 t, .int .i64 n]) T_ok Tryz.func31 rfl Tryz.ntmps31 (Nat.le_of_ble_eq_true rfl) rfl ?_
  by_cases hc : sigE f t n = 0
  · obtain ⟨hv, ht, hn', hnt⟩ := sigE_ok hc
    have hS := hv.S
    have hL := hv.L
    have hpl : firstL [checkT f t, wi n 0 4096, wh (decide (0 < n) && decide (10000000 - t < n - 1)) 4] = 0 := by
      rw [firstL_zero]
      simp only [List.mem_cons, List.mem_nil_iff, or_false, forall_eq_or_imp, forall_eq, wi_eq, checkT_iff]
      refine ⟨⟨hv, ht⟩, hn', ?_⟩
      unfold wh
      rw [if_neg]
      simp only [Bool.and_eq_true, decide_eq_true_eq]
      omega
    have hsl : sigL f t n = (List.range n.toNat).map fun i : Nat => lvl f (t + i) := by rw [sigL, if_pos hc]
    repeat' (first
 | (refine C_id ?_; first
 | refine C_seq ?_
 | refine C_region rfl ?_
 | refine C_block ?_
 | refine C_skip ?_
 | (refine C_cond rfl obQ (fun h => ?_) (fun h => ?_) <;> (try simp only [Bool.or_eq_true, Bool.and_eq_true, Bool.or_eq_false_iff, Bool.and_eq_false_iff, decide_eq_true_eq, decide_eq_false_iff_not, beq_iff_eq, bne_iff_ne, beq_eq_false_iff_ne, bne_eq_false_iff_eq, ne_eq, Decidable.not_not, List.cons.injEq, and_true, Bool.not_eq_true', Bool.not_eq_false', Int.not_lt, Int.not_le] at h) <;> (try (exfalso; omega)))
     )
 | (refine S_id ?_; first
 | refine S_nil ?_
 | refine S_run rfl rfl obQ obQ ?_
 | refine S_box (fun b => ⟨_, _, rfl, obQ, ?_⟩)
 | refine S_slice (fun b => ⟨_, _, rfl, obQ, ?_⟩)
 | refine S_call (f := 81) rfl obQ (by kernel_rfl) (fun w hw => checkTick_c f t w) ?_
 | refine S_call (f := 91) rfl obQ (by kernel_rfl) (fun w hw => within_c _ _ _ w) ?_
 | refine S_call (f := 99) rfl obQ (by kernel_rfl) (fun w hw => when_c _ _ w) ?_
 | refine S_call (f := 87) rfl obQ (by kernel_rfl) (fun w hw => first_c _ _ [checkT f t, wi n 0 4096, wh (decide (0 < n) && decide (10000000 - t < n - 1)) 4] (by simp) w (.inr ⟨_, rfl, hw.src (i := 1) rfl rfl⟩)) ?_
     )
 | (refine G_id ?_; first
 | refine G_then ?_
     )
     )
    rename_i b3
    refine C_row0 9 76 1 rfl ?_
    refine C_loopS (fun i : Nat × Option Addr × Nat => ⟨[(9, .s (.r i.2.1 i.1 i.2.2 0)), (3, .s (.p b3 0 0)), (1, .s (.v (.int .i64 t))), (33, .s (.v (.int .i64 n))), (34, .s (.v (.int .i64 i.1)))], [⟨b3, 26, [.v (.int .i64 f.S), .v (.int .i64 f.L), .v (.int .i64 f.F), .v (.int .i64 f.B), .v (.int .i64 f.Y), .v (.int .i64 f.V), .v (.int .i64 f.C)]⟩], [⟨76, 1, i.1, (List.range i.1).map fun j : Nat => lvl f (t + j), .slice i.2.1 i.1 i.2.2⟩]⟩) (fun i => (i.1 : Int) ≤ n) (fun i => n.toNat - i.1) (0, none, 0) (by show ((0 : Nat) : Int) ≤ n; omega) ?_ (fun i hi => ?_)
    · exact ⟨⟨_, rfl, obQ⟩, ⟨_, rfl⟩, rfl, pstQ⟩
    obtain ⟨k, A', c'⟩ := i
    have hi' : (k : Int) ≤ n := hi
    have hmt : ((List.range (k + 1)).map fun j : Nat => lvl f (t + j)) = ((List.range k).map fun j : Nat => lvl f (t + j)) ++ [lvl f (t + k)] := by rw [List.range_succ, List.map_append]; rfl
    dsimp only
    by_cases hlt : (k : Int) < n
    · repeat' (first
 | (refine C_id ?_; first
 | refine C_seq ?_
 | refine C_region rfl ?_
 | refine C_block ?_
 | refine C_skip ?_
 | (refine C_cond rfl obQ (fun h => ?_) (fun h => ?_) <;> (try simp only [Bool.or_eq_true, Bool.and_eq_true, Bool.or_eq_false_iff, Bool.and_eq_false_iff, decide_eq_true_eq, decide_eq_false_iff_not, beq_iff_eq, bne_iff_ne, beq_eq_false_iff_ne, bne_eq_false_iff_eq, ne_eq, Decidable.not_not, List.cons.injEq, and_true, Bool.not_eq_true', Bool.not_eq_false', Int.not_lt, Int.not_le] at h) <;> (try (exfalso; omega)))
       )
 | (refine S_id ?_; first
 | refine S_append rfl obQ rfl rfl rfl ⟨by decide, rfl⟩ rfl ⟨rfl, rfl, rfl, rfl⟩ [.float .f32 3263168512] ⟨by decide, rfl⟩ (by simp [Value.oneCell']) (fun w hw => by first | exact hw.src (i := 0) rfl rfl | exact hw.src (i := 1) rfl rfl | exact hw.src (i := 2) rfl rfl | exact hw.src (i := 3) rfl rfl | exact hw.src (i := 4) rfl rfl | exact hw.src (i := 5) rfl rfl | exact hw.src (i := 6) rfl rfl | exact hw.src (i := 7) rfl rfl | exact hw.src (i := 8) rfl rfl) (by unfold maxLen; dsimp only; omega) (fun gb cap' => ⟨_, rfl, ?_⟩)
 | refine S_append rfl obQ rfl rfl rfl ⟨by decide, rfl⟩ rfl ⟨rfl, rfl, rfl, rfl⟩ [.float .f32 0] ⟨by decide, rfl⟩ (by simp [Value.oneCell']) (fun w hw => by first | exact hw.src (i := 0) rfl rfl | exact hw.src (i := 1) rfl rfl | exact hw.src (i := 2) rfl rfl | exact hw.src (i := 3) rfl rfl | exact hw.src (i := 4) rfl rfl | exact hw.src (i := 5) rfl rfl | exact hw.src (i := 6) rfl rfl | exact hw.src (i := 7) rfl rfl | exact hw.src (i := 8) rfl rfl) (by unfold maxLen; dsimp only; omega) (fun gb cap' => ⟨_, rfl, ?_⟩)
 | refine S_append rfl obQ rfl rfl rfl ⟨by decide, rfl⟩ rfl ⟨rfl, rfl, rfl, rfl⟩ [.float .f32 1098907648] ⟨by decide, rfl⟩ (by simp [Value.oneCell']) (fun w hw => by first | exact hw.src (i := 0) rfl rfl | exact hw.src (i := 1) rfl rfl | exact hw.src (i := 2) rfl rfl | exact hw.src (i := 3) rfl rfl | exact hw.src (i := 4) rfl rfl | exact hw.src (i := 5) rfl rfl | exact hw.src (i := 6) rfl rfl | exact hw.src (i := 7) rfl rfl | exact hw.src (i := 8) rfl rfl) (by unfold maxLen; dsimp only; omega) (fun gb cap' => ⟨_, rfl, ?_⟩)
 | refine S_nil ?_
 | refine S_run rfl rfl obQ obQ ?_
 | refine S_box (fun b => ⟨_, _, rfl, obQ, ?_⟩)
 | refine S_slice (fun b => ⟨_, _, rfl, obQ, ?_⟩)
 | refine S_call (f := 82) rfl obQ (by kernel_rfl) (fun w hw => at_c f _ ⟨by omega, hS.2⟩ ⟨by omega, hL.2⟩ (by omega) w (hw.rd memQ hE.toS)) ?_
 | refine S_call (f := 96) rfl obQ (by kernel_rfl) (fun w hw => sync_c f _ w) ?_
 | refine S_call (f := 95) rfl obQ (by kernel_rfl) (fun w hw => blanked_c f _ w) ?_
       )
 | (refine G_id ?_; first
 | refine G_loop (k + 1, some ⟨gb, 0, none⟩, cap') (by show ((k + 1 : Nat) : Int) ≤ n; omega) (by show n.toNat - (k + 1) < n.toNat - k; omega) ⟨⟨_, rfl, obQ⟩, ⟨_, rfl⟩, (by dsimp only; rw [hmt]; unfold lvl; (repeat' split) <;> first | rfl | (exfalso; omega)), pstQ⟩
 | refine G_then ?_
 | refine G_block ?_
       )
       )
    · obtain hkn : k = n.toNat := by omega
      subst hkn
      repeat' (first
 | (refine C_id ?_; first
 | refine C_seq ?_
 | refine C_region rfl ?_
 | refine C_exit ?_
 | refine C_ret0 ?_
 | (refine C_cond rfl obQ (fun h => ?_) (fun h => ?_) <;> (try simp only [Bool.or_eq_true, Bool.and_eq_true, Bool.or_eq_false_iff, Bool.and_eq_false_iff, decide_eq_true_eq, decide_eq_false_iff_not, beq_iff_eq, bne_iff_ne, beq_eq_false_iff_ne, bne_eq_false_iff_eq, ne_eq, Decidable.not_not, List.cons.injEq, and_true, Bool.not_eq_true', Bool.not_eq_false', Int.not_lt, Int.not_le] at h) <;> (try (exfalso; omega)))
       )
 | (refine S_id ?_; first
 | refine S_nil ?_
 | refine S_run rfl rfl obQ obQ ?_
       )
 | (refine G_id ?_; first
 | refine G_then ?_
 | refine G_blockX ?_
 | refine G_thenX ?_
 | refine G_ret rfl obQ (fun w2 hw => ⟨_, rfl, hw.below, (HW.rowSl (i := 0) hw rfl rfl (by dsimp only; rw [hsl]; simp) (by dsimp only; rw [hsl])).two (by rw [hc])⟩)
       )
       )
  · have hsl : sigL f t n = [] := by rw [sigL, if_neg hc]
    repeat' (first
 | (refine C_id ?_; first
 | refine C_seq ?_
 | refine C_region rfl ?_
 | refine C_block ?_
 | refine C_skip ?_
 | refine C_ret0 ?_
 | (refine C_cond rfl obQ (fun h => ?_) (fun h => ?_) <;> (try simp only [Bool.or_eq_true, Bool.and_eq_true, Bool.or_eq_false_iff, Bool.and_eq_false_iff, decide_eq_true_eq, decide_eq_false_iff_not, beq_iff_eq, bne_iff_ne, beq_eq_false_iff_ne, bne_eq_false_iff_eq, ne_eq, Decidable.not_not, List.cons.injEq, and_true, Bool.not_eq_true', Bool.not_eq_false', Int.not_lt, Int.not_le] at h) <;> (try (exfalso; omega)))
     )
 | (refine S_id ?_; first
 | refine S_binG rfl rfl (fun hg => obQ) (fun hg w => wrap_sub _ _ _ _ _ _ w) ?_
 | refine S_nil ?_
 | refine S_run rfl rfl obQ obQ ?_
 | refine S_box (fun b => ⟨_, _, rfl, obQ, ?_⟩)
 | refine S_slice (fun b => ⟨_, _, rfl, obQ, ?_⟩)
 | refine S_one rfl obQ ?_
 | refine S_call (f := 81) rfl obQ (by kernel_rfl) (fun w hw => checkTick_c f t w) ?_
 | refine S_call (f := 91) rfl obQ (by kernel_rfl) (fun w hw => within_c _ _ _ w) ?_
 | refine S_call (f := 99) rfl obQ (by kernel_rfl) (fun w hw => when_c _ _ w) ?_
 | refine S_call (f := 87) rfl obQ (by kernel_rfl) (fun w hw => first_c _ _ [checkT f t, wi n 0 4096, wh (decide (0 < n) && decide (IntKind.i64.wrap (10000000 - t) < IntKind.i64.wrap (n - 1))) 4] (by simp) w (.inr ⟨_, rfl, hw.src (i := 1) rfl rfl⟩)) ?_
     )
 | (refine G_id ?_; first
 | refine G_then ?_
 | refine G_thenR ?_
 | refine G_ret rfl obQ (fun w2 hw => ⟨_, rfl, hw.below, Sl.two (v := .slice none 0 0) (by rw [hsl]; exact Sl.nil_ _ _) rfl⟩)
     )
     )
    rename_i h
    exact absurd h hc

end Go.Proofs.YtmfophoejjcnlaaGreatDoor
