/- The law of the signals: the walk. -/
import Derived.Test.YtmfophoejjcnlaaGreatDoorTiming36
import Derived.Test.YtmfophoejjcnlaaGreatDoorTiming41
import Derived.Test.YtmfophoejjcnlaaGreatDoorEng3
import Derived.Laws.StructEq
namespace Go.Proofs.YtmfophoejjcnlaaGreatDoor
open Go.E Go.RowKit
attribute [local irreducible] G C S D Calls
set_option maxRecDepth 100000
set_option linter.unusedSimpArgs false
set_option linter.unusedVariables false

theorem eq_bool {P : Program} {t : TypeId} {a b : Bool} (ht : P.underlying t = some .bool) (x y : Operand) (w : World) : (do eqGuard .eql t x y (.bool a) (.bool b); binOp .eql t (.bool a) (.bool b) : Sem Value).run P w = .ok (.bool (a == b)) w := by
  have hg : (eqGuard .eql t x y (.bool a) (.bool b)).run P w = .ok () w := by unfold eqGuard; simp
  simp only [Sem.run_bind, hg, Result.andThen_ok]
  have he : (Op.equalIn Op.maxDepth t (.bool a) (.bool b)).run P w = .ok (a == b) w := Go.run_equalIn_bool' (w := w) (P := P) 9999 t a b ht
  simp only [binOp, Op.equal]
  simp [he]
theorem sameSig_c (A B : Option Addr) (c c2 : Nat) (f : Fmt) (t n : Int) (w : World) (hr : Rd w A (sigL f t n)) (hr2 : Rd w B (sigL f t n)) : Calls Tryz.prog 37 #[.slice A (sigL f t n).length c, .slice B (sigL f t n).length c2] w fun r w' => r = .returned (.bool true) ∧ Below w.heap.size w w' := by
  have hl : (sigL f t n).length = (sigN f t n).length := by rw [sigN_eq, List.length_map]
  rw [sigN_eq] at hr hr2
  rw [hl]
  exact sameSamplesT_c A B c c2 (sigN f t n) _ rfl (by have := sigN_len f t n; omega) (sigN_ok f t n) w hr hr2
theorem sameSig0_c (A : Option Addr) (c : Nat) (f : Fmt) (t n : Int) (h : sigL f t n = []) (w : World) : Calls Tryz.prog 37 #[.slice A (sigL f t n).length c, .slice none 0 0] w fun r w' => r = .returned (.bool true) ∧ Below w.heap.size w w' := by
  rw [h]
  exact sameSamplesT_c A none c 0 [] 0 rfl (Nat.zero_le _) (fun x hx => by cases hx) w (.inl rfl) (.inl rfl)

set_option maxHeartbeats 2000000 in
/-- genlocklaw04.TimingSignals -/
theorem lSignals_c (f : Fmt) (t n : Int) (hb : -9223372036854775808 ≤ t ∧ t ≤ 9223372036854775807) (hn : -9223372036854775808 ≤ n ∧ n ≤ 9223372036854775807) (w : World) (hE : Ex w) (hP : Pw w) : Calls Tryz.prog 4 #[.agg #[.int .i64 f.S, .int .i64 f.L, .int .i64 f.F, .int .i64 f.B, .int .i64 f.Y, .int .i64 f.V, .int .i64 f.C], .int .i64 t, .int .i64 n] w fun r w' => r = .returned (.bool true) ∧ Below w.heap.size w w' := by
  refine calls_of (args := [.agg #[.int .i64 f.S, .int .i64 f.L, .int .i64 f.F, .int .i64 f.B, .int .i64 f.Y, .int .i64 f.V, .int .i64 f.C], .int .i64 t, .int .i64 n]) T_ok Tryz.func4 rfl Tryz.ntmps4 (Nat.le_of_ble_eq_true rfl) rfl ?_
  by_cases hS : 40 < n ∧ n ≤ 4096
  · repeat' (first
 | (refine C_id ?_; first
 | refine C_seq ?_
 | refine C_region rfl ?_
 | refine C_block ?_
 | refine C_skip ?_
 | refine C_exit ?_
 | refine C_ret0 ?_
 | refine C_draw (id := 14) rfl mixed (by kernel_rfl) ?_
 | refine C_condT rfl (by (repeat' (first | exact trivial | apply And.intro | rfl | omega | intro _ | (simp only [obS] at *; omega))); first | done | fail) ?_
 | refine C_condF rfl (by (repeat' (first | exact trivial | apply And.intro | rfl | omega | intro _ | (simp only [obS] at *; omega))); first | done | fail) ?_
 | (refine C_cond rfl (by (repeat' (first | exact trivial | apply And.intro | rfl | omega | intro _ | (simp only [obS] at *; omega))); first | done | fail) (fun h => ?_) (fun h => ?_) <;> (try simp only [Bool.or_eq_true, Bool.and_eq_true, Bool.or_eq_false_iff, Bool.and_eq_false_iff, decide_eq_true_eq, decide_eq_false_iff_not, beq_iff_eq, bne_iff_ne, beq_eq_false_iff_ne, bne_eq_false_iff_eq, ne_eq, Decidable.not_not, List.cons.injEq, and_true, Bool.not_eq_true', Bool.not_eq_false', Int.not_lt, Int.not_le] at h) <;> (try (exfalso; omega)))
          )
 | (refine S_id ?_; first
 | refine S_nil ?_
 | refine S_run rfl rfl (by (repeat' (first | exact trivial | apply And.intro | rfl | omega | intro _ | (simp only [obS] at *; omega))); first | done | fail) (by (repeat' (first | exact trivial | apply And.intro | rfl | omega | intro _ | (simp only [obS] at *; omega))); first | done | fail) ?_
 | refine S_box (fun b => ⟨_, _, rfl, (by (repeat' (first | exact trivial | apply And.intro | rfl | omega | intro _ | (simp only [obS] at *; omega))); first | done | fail), ?_⟩)
 | refine S_slice (fun b => ⟨_, _, rfl, (by (repeat' (first | exact trivial | apply And.intro | rfl | omega | intro _ | (simp only [obS] at *; omega))); first | done | fail), ?_⟩)
 | refine S_call (f := 27) rfl (by (repeat' (first | exact trivial | apply And.intro | rfl | omega | intro _ | (simp only [obS] at *; omega))); first | done | fail) (by kernel_rfl) (fun w hw => awake_c w (hw.rdm hE.toS (by repeat (first | exact List.Mem.head _ | apply List.Mem.tail))) (Pw_at hP hw (by repeat (first | exact List.Mem.head _ | apply List.Mem.tail)))) ?_
          )
 | (refine D_id ?_; first
 | refine D_nil ?_
 | refine D_tail ?_
 | refine D_run rfl rfl (by (repeat' (first | exact trivial | apply And.intro | rfl | omega | intro _ | (simp only [obS] at *; omega))); first | done | fail) (by (repeat' (first | exact trivial | apply And.intro | rfl | omega | intro _ | (simp only [obS] at *; omega))); first | done | fail) ?_
 | refine D_call (f := 27) rfl (by (repeat' (first | exact trivial | apply And.intro | rfl | omega | intro _ | (simp only [obS] at *; omega))); first | done | fail) (by kernel_rfl) (fun w hw => awake_c w (hw.rdm hE.toS (by repeat (first | exact List.Mem.head _ | apply List.Mem.tail))) (Pw_at hP hw (by repeat (first | exact List.Mem.head _ | apply List.Mem.tail)))) ?_
          )
 | (refine G_id ?_; first
 | refine G_then ?_
 | refine G_block ?_
 | refine G_blockX ?_
 | refine G_blockN rfl ?_
 | refine G_blockR ?_
 | refine G_thenR ?_
 | refine G_thenX ?_
 | refine G_ret rfl (by (repeat' (first | exact trivial | apply And.intro | rfl | omega | intro _ | (simp only [obS] at *; omega))); first | done | fail) (fun w hw => ⟨?_, hw.below⟩)
          )
        )
    all_goals rfl
  have h4s := sigC_eq f t n
  by_cases hT0 : firstL [checkF f, wi t 0 10000000] = 0
  · have hT : checkT f t = 0 := hT0
    have hT1 : (checkT f t == 0) = true := by simp [hT]
    obtain ⟨hv, ht⟩ := (checkT_iff f t).1 hT
    have hA : atE f t = atF f t := if_pos hT
    have hV1 : True := trivial
    have hV2 : True := trivial
    by_cases h40 : firstL [checkF f, sigC t n] = 0
    · have h4e : sigE f t n = 0 := by rw [← h4s]; exact h40
      repeat' (first
 | (refine C_id ?_; first
 | refine C_seq ?_
 | refine C_region rfl ?_
 | refine C_block ?_
 | refine C_skip ?_
 | refine C_exit ?_
 | refine C_ret0 ?_
 | refine C_draw (id := 14) rfl mixed (by kernel_rfl) ?_
 | refine C_condT rfl (by (repeat' (first | exact trivial | apply And.intro | rfl | omega | intro _ | (simp only [obS] at *; omega))); first | done | fail) ?_
 | refine C_condF rfl (by (repeat' (first | exact trivial | apply And.intro | rfl | omega | intro _ | (simp only [obS] at *; omega))); first | done | fail) ?_
 | (refine C_cond rfl (by (repeat' (first | exact trivial | apply And.intro | rfl | omega | intro _ | (simp only [obS] at *; omega))); first | done | fail) (fun h => ?_) (fun h => ?_) <;> (try simp only [Bool.or_eq_true, Bool.and_eq_true, Bool.or_eq_false_iff, Bool.and_eq_false_iff, decide_eq_true_eq, decide_eq_false_iff_not, beq_iff_eq, bne_iff_ne, beq_eq_false_iff_ne, bne_eq_false_iff_eq, ne_eq, Decidable.not_not, List.cons.injEq, and_true, Bool.not_eq_true', Bool.not_eq_false', Int.not_lt, Int.not_le] at h) <;> (try (exfalso; omega)))
            )
 | (refine S_id ?_; first
 | ((with_reducible refine S_trueE ?_ ?_); · (first | exact beq_self_eq_true _ | (rw [beq_iff_eq]; first | rfl | assumption | (simp only [hT1, hA, hV1, hV2, h4s, Bool.true_and, Bool.false_and]; done) | (simp [hT1, hA, hV1, hV2, h4s, Bool.true_and, Bool.false_and]; done)) | assumption | (simp only [hT1, hA, hV1, hV2, h4s, Bool.true_and, Bool.false_and]; done)))
 | ((with_reducible refine S_trueB ?_ ?_); · (first | exact beq_self_eq_true _ | (rw [beq_iff_eq]; first | rfl | assumption | (simp only [hT1, hA, hV1, hV2, h4s, Bool.true_and, Bool.false_and]; done) | (simp [hT1, hA, hV1, hV2, h4s, Bool.true_and, Bool.false_and]; done)) | assumption | (simp only [hT1, hA, hV1, hV2, h4s, Bool.true_and, Bool.false_and]; done)))
 | ((with_reducible refine S_trueL ?_ ?_); · (first | exact beq_self_eq_true _ | (rw [beq_iff_eq]; first | rfl | assumption | (simp only [hT1, hA, hV1, hV2, h4s, Bool.true_and, Bool.false_and]; done) | (simp [hT1, hA, hV1, hV2, h4s, Bool.true_and, Bool.false_and]; done)) | assumption | (simp only [hT1, hA, hV1, hV2, h4s, Bool.true_and, Bool.false_and]; done)))
 | ((with_reducible refine S_trueD ?_ ?_); · (first | exact beq_self_eq_true _ | (rw [beq_iff_eq]; first | rfl | assumption | (simp only [hT1, hA, hV1, hV2, h4s, Bool.true_and, Bool.false_and]; done) | (simp [hT1, hA, hV1, hV2, h4s, Bool.true_and, Bool.false_and]; done)) | assumption | (simp only [hT1, hA, hV1, hV2, h4s, Bool.true_and, Bool.false_and]; done)))
 | ((with_reducible refine S_trueA ?_ ?_ ?_); (· rfl); (· first | rfl | (first | exact beq_self_eq_true _ | (rw [beq_iff_eq]; first | rfl | assumption | (simp only [hT1, hA, hV1, hV2, h4s, Bool.true_and, Bool.false_and]; done) | (simp [hT1, hA, hV1, hV2, h4s, Bool.true_and, Bool.false_and]; done)) | assumption | (simp only [hT1, hA, hV1, hV2, h4s, Bool.true_and, Bool.false_and]; done))))
 | refine S_unG rfl rfl rfl rfl ?_
 | refine S_pure (binX_pure rfl (by (repeat' (first | exact trivial | apply And.intro | rfl | omega | intro _ | (simp only [obS] at *; omega))); first | done | fail) (fun w => eq_bool (by kernel_rfl) _ _ w)) ?_
 | refine S_pure (binX_pure rfl (by (repeat' (first | exact trivial | apply And.intro | rfl | omega | intro _ | (simp only [obS] at *; omega))); first | done | fail) (fun w => eq_flat (k := .i64) (n := 2) (xs := [(vertR f t).1.1, (vertR f t).1.2]) (ys := [(vertR f t).1.1, (vertR f t).1.2]) (by kernel_rfl) rfl rfl _ _ w)) ?_
 | refine S_nil ?_
 | refine S_runN rfl rfl (by (repeat' (first | exact trivial | apply And.intro | rfl | omega | intro _ | (simp only [obS] at *; omega))); first | done | fail) (by (repeat' (first | exact trivial | apply And.intro | rfl | omega | intro _ | (simp only [obS] at *; omega))); first | done | fail) ?_
 | refine S_box (fun b => ⟨_, _, rfl, (by (repeat' (first | exact trivial | apply And.intro | rfl | omega | intro _ | (simp only [obS] at *; omega))); first | done | fail), ?_⟩)
 | refine S_slice (fun b => ⟨_, _, rfl, (by (repeat' (first | exact trivial | apply And.intro | rfl | omega | intro _ | (simp only [obS] at *; omega))); first | done | fail), ?_⟩)
 | refine S_call (f := 28) rfl (by (repeat' (first | exact trivial | apply And.intro | rfl | omega | intro _ | (simp only [obS] at *; omega))); first | done | fail) (by kernel_rfl) (fun w hw => Blanked_c f t w (hw.rdm hE.toS (by repeat (first | exact List.Mem.head _ | apply List.Mem.tail)))) ?_
 | refine S_call (f := 29) rfl (by (repeat' (first | exact trivial | apply And.intro | rfl | omega | intro _ | (simp only [obS] at *; omega))); first | done | fail) (by kernel_rfl) (fun w hw => InSync_c f t w (hw.rdm hE.toS (by repeat (first | exact List.Mem.head _ | apply List.Mem.tail)))) ?_
 | refine S_call (f := 30) rfl (by (repeat' (first | exact trivial | apply And.intro | rfl | omega | intro _ | (simp only [obS] at *; omega))); first | done | fail) (by kernel_rfl) (fun w hw => Vertical_c f t hb w (hw.rdm hE.toS (by repeat (first | exact List.Mem.head _ | apply List.Mem.tail)))) ?_
 | refine S_call (f := 18) rfl (by (repeat' (first | exact trivial | apply And.intro | rfl | omega | intro _ | (simp only [obS] at *; omega))); first | done | fail) (by kernel_rfl) (fun w hw => rCheckFormat_c f w) ?_
 | refine S_call (f := 20) rfl (by (repeat' (first | exact trivial | apply And.intro | rfl | omega | intro _ | (simp only [obS] at *; omega))); first | done | fail) (by kernel_rfl) (fun w hw => rCheckTick_c t w) ?_
 | refine S_call (f := 32) rfl (by (repeat' (first | exact trivial | apply And.intro | rfl | omega | intro _ | (simp only [obS] at *; omega))); first | done | fail) (by kernel_rfl) (fun w hw => rCheckSignal_c t n w) ?_
 | refine S_call (f := 19) rfl (by (repeat' (first | exact trivial | apply And.intro | rfl | omega | intro _ | (simp only [obS] at *; omega))); first | done | fail) (by kernel_rfl) (fun w hw => lfirst_c _ _ [checkF f, wi t 0 10000000] (by simp) w (by first | exact .inr ⟨_, rfl, hw.src (i := 2) rfl rfl⟩ | exact .inr ⟨_, rfl, hw.src (i := 3) rfl rfl⟩ | exact .inr ⟨_, rfl, hw.src (i := 4) rfl rfl⟩ | exact .inr ⟨_, rfl, hw.src (i := 5) rfl rfl⟩ | exact .inr ⟨_, rfl, hw.src (i := 6) rfl rfl⟩)) ?_
 | refine S_call (f := 19) rfl (by (repeat' (first | exact trivial | apply And.intro | rfl | omega | intro _ | (simp only [obS] at *; omega))); first | done | fail) (by kernel_rfl) (fun w hw => lfirst_c _ _ [checkF f, sigC t n] (by simp) w (by first | exact .inr ⟨_, rfl, hw.src (i := 2) rfl rfl⟩ | exact .inr ⟨_, rfl, hw.src (i := 3) rfl rfl⟩ | exact .inr ⟨_, rfl, hw.src (i := 4) rfl rfl⟩ | exact .inr ⟨_, rfl, hw.src (i := 5) rfl rfl⟩ | exact .inr ⟨_, rfl, hw.src (i := 6) rfl rfl⟩)) ?_
 | refine S_call (f := 27) rfl (by (repeat' (first | exact trivial | apply And.intro | rfl | omega | intro _ | (simp only [obS] at *; omega))); first | done | fail) (by kernel_rfl) (fun w hw => awake_c w (hw.rdm hE.toS (by repeat (first | exact List.Mem.head _ | apply List.Mem.tail))) (Pw_at hP hw (by repeat (first | exact List.Mem.head _ | apply List.Mem.tail)))) ?_
 | refine S_call (f := 33) rfl (by (repeat' (first | exact trivial | apply And.intro | rfl | omega | intro _ | (simp only [obS] at *; omega))); first | done | fail) (by kernel_rfl) (fun w hw => rBlanked_c f t hv (by omega) w) ?_
 | refine S_call (f := 34) rfl (by (repeat' (first | exact trivial | apply And.intro | rfl | omega | intro _ | (simp only [obS] at *; omega))); first | done | fail) (by kernel_rfl) (fun w hw => rInSync_c f t hv (by omega) w) ?_
 | refine S_call (f := 35) rfl (by (repeat' (first | exact trivial | apply And.intro | rfl | omega | intro _ | (simp only [obS] at *; omega))); first | done | fail) (by kernel_rfl) (fun w hw => rVertical_c f t hT w) ?_
 | refine S_call (f := 37) rfl (by (repeat' (first | exact trivial | apply And.intro | rfl | omega | intro _ | (simp only [obS] at *; omega))); first | done | fail) (by kernel_rfl) (fun w hw => sameSig_c _ _ _ _ f t n w (hw.rdm hSL (by repeat (first | exact List.Mem.head _ | apply List.Mem.tail))) (hw.rdm hSK (by repeat (first | exact List.Mem.head _ | apply List.Mem.tail)))) ?_
 | (refine S_callM (f := 31) rfl (by (repeat' (first | exact trivial | apply And.intro | rfl | omega | intro _ | (simp only [obS] at *; omega))); first | done | fail) (by kernel_rfl) (fun w hw => Signal_c f t n hn w (hw.rdm hE.toS (by repeat (first | exact List.Mem.head _ | apply List.Mem.tail)))) (fun w1L w2L vL hw1L hbL hRL => ?_); obtain ⟨AL, cL, rfl, hSL⟩ := hRL)
 | (refine S_callM (f := 36) rfl (by (repeat' (first | exact trivial | apply And.intro | rfl | omega | intro _ | (simp only [obS] at *; omega))); first | done | fail) (by kernel_rfl) (fun w hw => rSignal_c f t n h4e w) (fun w1K w2K vK hw1K hbK hRK => ?_); obtain ⟨AK, cK, rfl, hSK⟩ := hRK)
            )
 | (refine D_id ?_; first
 | refine D_nil ?_
 | refine D_tail ?_
 | refine D_run rfl rfl (by (repeat' (first | exact trivial | apply And.intro | rfl | omega | intro _ | (simp only [obS] at *; omega))); first | done | fail) (by (repeat' (first | exact trivial | apply And.intro | rfl | omega | intro _ | (simp only [obS] at *; omega))); first | done | fail) ?_
 | refine D_call (f := 28) rfl (by (repeat' (first | exact trivial | apply And.intro | rfl | omega | intro _ | (simp only [obS] at *; omega))); first | done | fail) (by kernel_rfl) (fun w hw => Blanked_c f t w (hw.rdm hE.toS (by repeat (first | exact List.Mem.head _ | apply List.Mem.tail)))) ?_
 | refine D_call (f := 29) rfl (by (repeat' (first | exact trivial | apply And.intro | rfl | omega | intro _ | (simp only [obS] at *; omega))); first | done | fail) (by kernel_rfl) (fun w hw => InSync_c f t w (hw.rdm hE.toS (by repeat (first | exact List.Mem.head _ | apply List.Mem.tail)))) ?_
 | refine D_call (f := 30) rfl (by (repeat' (first | exact trivial | apply And.intro | rfl | omega | intro _ | (simp only [obS] at *; omega))); first | done | fail) (by kernel_rfl) (fun w hw => Vertical_c f t hb w (hw.rdm hE.toS (by repeat (first | exact List.Mem.head _ | apply List.Mem.tail)))) ?_
 | refine D_call (f := 18) rfl (by (repeat' (first | exact trivial | apply And.intro | rfl | omega | intro _ | (simp only [obS] at *; omega))); first | done | fail) (by kernel_rfl) (fun w hw => rCheckFormat_c f w) ?_
 | refine D_call (f := 20) rfl (by (repeat' (first | exact trivial | apply And.intro | rfl | omega | intro _ | (simp only [obS] at *; omega))); first | done | fail) (by kernel_rfl) (fun w hw => rCheckTick_c t w) ?_
 | refine D_call (f := 32) rfl (by (repeat' (first | exact trivial | apply And.intro | rfl | omega | intro _ | (simp only [obS] at *; omega))); first | done | fail) (by kernel_rfl) (fun w hw => rCheckSignal_c t n w) ?_
 | refine D_call (f := 19) rfl (by (repeat' (first | exact trivial | apply And.intro | rfl | omega | intro _ | (simp only [obS] at *; omega))); first | done | fail) (by kernel_rfl) (fun w hw => lfirst_c _ _ [checkF f, wi t 0 10000000] (by simp) w (by first | exact .inr ⟨_, rfl, hw.src (i := 2) rfl rfl⟩ | exact .inr ⟨_, rfl, hw.src (i := 3) rfl rfl⟩ | exact .inr ⟨_, rfl, hw.src (i := 4) rfl rfl⟩ | exact .inr ⟨_, rfl, hw.src (i := 5) rfl rfl⟩ | exact .inr ⟨_, rfl, hw.src (i := 6) rfl rfl⟩)) ?_
 | refine D_call (f := 19) rfl (by (repeat' (first | exact trivial | apply And.intro | rfl | omega | intro _ | (simp only [obS] at *; omega))); first | done | fail) (by kernel_rfl) (fun w hw => lfirst_c _ _ [checkF f, sigC t n] (by simp) w (by first | exact .inr ⟨_, rfl, hw.src (i := 2) rfl rfl⟩ | exact .inr ⟨_, rfl, hw.src (i := 3) rfl rfl⟩ | exact .inr ⟨_, rfl, hw.src (i := 4) rfl rfl⟩ | exact .inr ⟨_, rfl, hw.src (i := 5) rfl rfl⟩ | exact .inr ⟨_, rfl, hw.src (i := 6) rfl rfl⟩)) ?_
 | refine D_call (f := 27) rfl (by (repeat' (first | exact trivial | apply And.intro | rfl | omega | intro _ | (simp only [obS] at *; omega))); first | done | fail) (by kernel_rfl) (fun w hw => awake_c w (hw.rdm hE.toS (by repeat (first | exact List.Mem.head _ | apply List.Mem.tail))) (Pw_at hP hw (by repeat (first | exact List.Mem.head _ | apply List.Mem.tail)))) ?_
 | refine D_call (f := 33) rfl (by (repeat' (first | exact trivial | apply And.intro | rfl | omega | intro _ | (simp only [obS] at *; omega))); first | done | fail) (by kernel_rfl) (fun w hw => rBlanked_c f t hv (by omega) w) ?_
 | refine D_call (f := 34) rfl (by (repeat' (first | exact trivial | apply And.intro | rfl | omega | intro _ | (simp only [obS] at *; omega))); first | done | fail) (by kernel_rfl) (fun w hw => rInSync_c f t hv (by omega) w) ?_
 | refine D_call (f := 35) rfl (by (repeat' (first | exact trivial | apply And.intro | rfl | omega | intro _ | (simp only [obS] at *; omega))); first | done | fail) (by kernel_rfl) (fun w hw => rVertical_c f t hT w) ?_
 | refine D_call (f := 37) rfl (by (repeat' (first | exact trivial | apply And.intro | rfl | omega | intro _ | (simp only [obS] at *; omega))); first | done | fail) (by kernel_rfl) (fun w hw => sameSig_c _ _ _ _ f t n w (hw.rdm hSL (by repeat (first | exact List.Mem.head _ | apply List.Mem.tail))) (hw.rdm hSK (by repeat (first | exact List.Mem.head _ | apply List.Mem.tail)))) ?_
            )
 | (refine G_id ?_; first
 | refine G_then ?_
 | refine G_block ?_
 | refine G_blockX ?_
 | refine G_blockN rfl ?_
 | refine G_blockR ?_
 | refine G_thenR ?_
 | refine G_thenX ?_
 | refine G_ret rfl (by (repeat' (first | exact trivial | apply And.intro | rfl | omega | intro _ | (simp only [obS] at *; omega))); first | done | fail) (fun w hw => ⟨?_, hw.below⟩)
            )
          )
      all_goals rfl
    · have h4n : sigL f t n = [] := by unfold sigL; rw [if_neg (by rw [← h4s]; exact h40)]
      repeat' (first
 | (refine C_id ?_; first
 | refine C_seq ?_
 | refine C_region rfl ?_
 | refine C_block ?_
 | refine C_skip ?_
 | refine C_exit ?_
 | refine C_ret0 ?_
 | refine C_draw (id := 14) rfl mixed (by kernel_rfl) ?_
 | refine C_condT rfl (by (repeat' (first | exact trivial | apply And.intro | rfl | omega | intro _ | (simp only [obS] at *; omega))); first | done | fail) ?_
 | refine C_condF rfl (by (repeat' (first | exact trivial | apply And.intro | rfl | omega | intro _ | (simp only [obS] at *; omega))); first | done | fail) ?_
 | (refine C_cond rfl (by (repeat' (first | exact trivial | apply And.intro | rfl | omega | intro _ | (simp only [obS] at *; omega))); first | done | fail) (fun h => ?_) (fun h => ?_) <;> (try simp only [Bool.or_eq_true, Bool.and_eq_true, Bool.or_eq_false_iff, Bool.and_eq_false_iff, decide_eq_true_eq, decide_eq_false_iff_not, beq_iff_eq, bne_iff_ne, beq_eq_false_iff_ne, bne_eq_false_iff_eq, ne_eq, Decidable.not_not, List.cons.injEq, and_true, Bool.not_eq_true', Bool.not_eq_false', Int.not_lt, Int.not_le] at h) <;> (try (exfalso; omega)))
            )
 | (refine S_id ?_; first
 | ((with_reducible refine S_trueE ?_ ?_); · (first | exact beq_self_eq_true _ | (rw [beq_iff_eq]; first | rfl | assumption | (simp only [hT1, hA, hV1, hV2, h4s, Bool.true_and, Bool.false_and]; done) | (simp [hT1, hA, hV1, hV2, h4s, Bool.true_and, Bool.false_and]; done)) | assumption | (simp only [hT1, hA, hV1, hV2, h4s, Bool.true_and, Bool.false_and]; done)))
 | ((with_reducible refine S_trueB ?_ ?_); · (first | exact beq_self_eq_true _ | (rw [beq_iff_eq]; first | rfl | assumption | (simp only [hT1, hA, hV1, hV2, h4s, Bool.true_and, Bool.false_and]; done) | (simp [hT1, hA, hV1, hV2, h4s, Bool.true_and, Bool.false_and]; done)) | assumption | (simp only [hT1, hA, hV1, hV2, h4s, Bool.true_and, Bool.false_and]; done)))
 | ((with_reducible refine S_trueL ?_ ?_); · (first | exact beq_self_eq_true _ | (rw [beq_iff_eq]; first | rfl | assumption | (simp only [hT1, hA, hV1, hV2, h4s, Bool.true_and, Bool.false_and]; done) | (simp [hT1, hA, hV1, hV2, h4s, Bool.true_and, Bool.false_and]; done)) | assumption | (simp only [hT1, hA, hV1, hV2, h4s, Bool.true_and, Bool.false_and]; done)))
 | ((with_reducible refine S_trueD ?_ ?_); · (first | exact beq_self_eq_true _ | (rw [beq_iff_eq]; first | rfl | assumption | (simp only [hT1, hA, hV1, hV2, h4s, Bool.true_and, Bool.false_and]; done) | (simp [hT1, hA, hV1, hV2, h4s, Bool.true_and, Bool.false_and]; done)) | assumption | (simp only [hT1, hA, hV1, hV2, h4s, Bool.true_and, Bool.false_and]; done)))
 | ((with_reducible refine S_trueA ?_ ?_ ?_); (· rfl); (· first | rfl | (first | exact beq_self_eq_true _ | (rw [beq_iff_eq]; first | rfl | assumption | (simp only [hT1, hA, hV1, hV2, h4s, Bool.true_and, Bool.false_and]; done) | (simp [hT1, hA, hV1, hV2, h4s, Bool.true_and, Bool.false_and]; done)) | assumption | (simp only [hT1, hA, hV1, hV2, h4s, Bool.true_and, Bool.false_and]; done))))
 | refine S_unG rfl rfl rfl rfl ?_
 | refine S_pure (binX_pure rfl (by (repeat' (first | exact trivial | apply And.intro | rfl | omega | intro _ | (simp only [obS] at *; omega))); first | done | fail) (fun w => eq_bool (by kernel_rfl) _ _ w)) ?_
 | refine S_pure (binX_pure rfl (by (repeat' (first | exact trivial | apply And.intro | rfl | omega | intro _ | (simp only [obS] at *; omega))); first | done | fail) (fun w => eq_flat (k := .i64) (n := 2) (xs := [(vertR f t).1.1, (vertR f t).1.2]) (ys := [(vertR f t).1.1, (vertR f t).1.2]) (by kernel_rfl) rfl rfl _ _ w)) ?_
 | refine S_nil ?_
 | refine S_runN rfl rfl (by (repeat' (first | exact trivial | apply And.intro | rfl | omega | intro _ | (simp only [obS] at *; omega))); first | done | fail) (by (repeat' (first | exact trivial | apply And.intro | rfl | omega | intro _ | (simp only [obS] at *; omega))); first | done | fail) ?_
 | refine S_box (fun b => ⟨_, _, rfl, (by (repeat' (first | exact trivial | apply And.intro | rfl | omega | intro _ | (simp only [obS] at *; omega))); first | done | fail), ?_⟩)
 | refine S_slice (fun b => ⟨_, _, rfl, (by (repeat' (first | exact trivial | apply And.intro | rfl | omega | intro _ | (simp only [obS] at *; omega))); first | done | fail), ?_⟩)
 | refine S_call (f := 28) rfl (by (repeat' (first | exact trivial | apply And.intro | rfl | omega | intro _ | (simp only [obS] at *; omega))); first | done | fail) (by kernel_rfl) (fun w hw => Blanked_c f t w (hw.rdm hE.toS (by repeat (first | exact List.Mem.head _ | apply List.Mem.tail)))) ?_
 | refine S_call (f := 29) rfl (by (repeat' (first | exact trivial | apply And.intro | rfl | omega | intro _ | (simp only [obS] at *; omega))); first | done | fail) (by kernel_rfl) (fun w hw => InSync_c f t w (hw.rdm hE.toS (by repeat (first | exact List.Mem.head _ | apply List.Mem.tail)))) ?_
 | refine S_call (f := 30) rfl (by (repeat' (first | exact trivial | apply And.intro | rfl | omega | intro _ | (simp only [obS] at *; omega))); first | done | fail) (by kernel_rfl) (fun w hw => Vertical_c f t hb w (hw.rdm hE.toS (by repeat (first | exact List.Mem.head _ | apply List.Mem.tail)))) ?_
 | refine S_call (f := 18) rfl (by (repeat' (first | exact trivial | apply And.intro | rfl | omega | intro _ | (simp only [obS] at *; omega))); first | done | fail) (by kernel_rfl) (fun w hw => rCheckFormat_c f w) ?_
 | refine S_call (f := 20) rfl (by (repeat' (first | exact trivial | apply And.intro | rfl | omega | intro _ | (simp only [obS] at *; omega))); first | done | fail) (by kernel_rfl) (fun w hw => rCheckTick_c t w) ?_
 | refine S_call (f := 32) rfl (by (repeat' (first | exact trivial | apply And.intro | rfl | omega | intro _ | (simp only [obS] at *; omega))); first | done | fail) (by kernel_rfl) (fun w hw => rCheckSignal_c t n w) ?_
 | refine S_call (f := 19) rfl (by (repeat' (first | exact trivial | apply And.intro | rfl | omega | intro _ | (simp only [obS] at *; omega))); first | done | fail) (by kernel_rfl) (fun w hw => lfirst_c _ _ [checkF f, wi t 0 10000000] (by simp) w (by first | exact .inr ⟨_, rfl, hw.src (i := 2) rfl rfl⟩ | exact .inr ⟨_, rfl, hw.src (i := 3) rfl rfl⟩ | exact .inr ⟨_, rfl, hw.src (i := 4) rfl rfl⟩ | exact .inr ⟨_, rfl, hw.src (i := 5) rfl rfl⟩ | exact .inr ⟨_, rfl, hw.src (i := 6) rfl rfl⟩)) ?_
 | refine S_call (f := 19) rfl (by (repeat' (first | exact trivial | apply And.intro | rfl | omega | intro _ | (simp only [obS] at *; omega))); first | done | fail) (by kernel_rfl) (fun w hw => lfirst_c _ _ [checkF f, sigC t n] (by simp) w (by first | exact .inr ⟨_, rfl, hw.src (i := 2) rfl rfl⟩ | exact .inr ⟨_, rfl, hw.src (i := 3) rfl rfl⟩ | exact .inr ⟨_, rfl, hw.src (i := 4) rfl rfl⟩ | exact .inr ⟨_, rfl, hw.src (i := 5) rfl rfl⟩ | exact .inr ⟨_, rfl, hw.src (i := 6) rfl rfl⟩)) ?_
 | refine S_call (f := 27) rfl (by (repeat' (first | exact trivial | apply And.intro | rfl | omega | intro _ | (simp only [obS] at *; omega))); first | done | fail) (by kernel_rfl) (fun w hw => awake_c w (hw.rdm hE.toS (by repeat (first | exact List.Mem.head _ | apply List.Mem.tail))) (Pw_at hP hw (by repeat (first | exact List.Mem.head _ | apply List.Mem.tail)))) ?_
 | refine S_call (f := 33) rfl (by (repeat' (first | exact trivial | apply And.intro | rfl | omega | intro _ | (simp only [obS] at *; omega))); first | done | fail) (by kernel_rfl) (fun w hw => rBlanked_c f t hv (by omega) w) ?_
 | refine S_call (f := 34) rfl (by (repeat' (first | exact trivial | apply And.intro | rfl | omega | intro _ | (simp only [obS] at *; omega))); first | done | fail) (by kernel_rfl) (fun w hw => rInSync_c f t hv (by omega) w) ?_
 | refine S_call (f := 35) rfl (by (repeat' (first | exact trivial | apply And.intro | rfl | omega | intro _ | (simp only [obS] at *; omega))); first | done | fail) (by kernel_rfl) (fun w hw => rVertical_c f t hT w) ?_
 | refine S_call (f := 37) rfl (by (repeat' (first | exact trivial | apply And.intro | rfl | omega | intro _ | (simp only [obS] at *; omega))); first | done | fail) (by kernel_rfl) (fun w hw => sameSig0_c _ _ f t n h4n w) ?_
 | (refine S_callM (f := 31) rfl (by (repeat' (first | exact trivial | apply And.intro | rfl | omega | intro _ | (simp only [obS] at *; omega))); first | done | fail) (by kernel_rfl) (fun w hw => Signal_c f t n hn w (hw.rdm hE.toS (by repeat (first | exact List.Mem.head _ | apply List.Mem.tail)))) (fun w1L w2L vL hw1L hbL hRL => ?_); obtain ⟨AL, cL, rfl, hSL⟩ := hRL)
            )
 | (refine D_id ?_; first
 | refine D_nil ?_
 | refine D_tail ?_
 | refine D_run rfl rfl (by (repeat' (first | exact trivial | apply And.intro | rfl | omega | intro _ | (simp only [obS] at *; omega))); first | done | fail) (by (repeat' (first | exact trivial | apply And.intro | rfl | omega | intro _ | (simp only [obS] at *; omega))); first | done | fail) ?_
 | refine D_call (f := 28) rfl (by (repeat' (first | exact trivial | apply And.intro | rfl | omega | intro _ | (simp only [obS] at *; omega))); first | done | fail) (by kernel_rfl) (fun w hw => Blanked_c f t w (hw.rdm hE.toS (by repeat (first | exact List.Mem.head _ | apply List.Mem.tail)))) ?_
 | refine D_call (f := 29) rfl (by (repeat' (first | exact trivial | apply And.intro | rfl | omega | intro _ | (simp only [obS] at *; omega))); first | done | fail) (by kernel_rfl) (fun w hw => InSync_c f t w (hw.rdm hE.toS (by repeat (first | exact List.Mem.head _ | apply List.Mem.tail)))) ?_
 | refine D_call (f := 30) rfl (by (repeat' (first | exact trivial | apply And.intro | rfl | omega | intro _ | (simp only [obS] at *; omega))); first | done | fail) (by kernel_rfl) (fun w hw => Vertical_c f t hb w (hw.rdm hE.toS (by repeat (first | exact List.Mem.head _ | apply List.Mem.tail)))) ?_
 | refine D_call (f := 18) rfl (by (repeat' (first | exact trivial | apply And.intro | rfl | omega | intro _ | (simp only [obS] at *; omega))); first | done | fail) (by kernel_rfl) (fun w hw => rCheckFormat_c f w) ?_
 | refine D_call (f := 20) rfl (by (repeat' (first | exact trivial | apply And.intro | rfl | omega | intro _ | (simp only [obS] at *; omega))); first | done | fail) (by kernel_rfl) (fun w hw => rCheckTick_c t w) ?_
 | refine D_call (f := 32) rfl (by (repeat' (first | exact trivial | apply And.intro | rfl | omega | intro _ | (simp only [obS] at *; omega))); first | done | fail) (by kernel_rfl) (fun w hw => rCheckSignal_c t n w) ?_
 | refine D_call (f := 19) rfl (by (repeat' (first | exact trivial | apply And.intro | rfl | omega | intro _ | (simp only [obS] at *; omega))); first | done | fail) (by kernel_rfl) (fun w hw => lfirst_c _ _ [checkF f, wi t 0 10000000] (by simp) w (by first | exact .inr ⟨_, rfl, hw.src (i := 2) rfl rfl⟩ | exact .inr ⟨_, rfl, hw.src (i := 3) rfl rfl⟩ | exact .inr ⟨_, rfl, hw.src (i := 4) rfl rfl⟩ | exact .inr ⟨_, rfl, hw.src (i := 5) rfl rfl⟩ | exact .inr ⟨_, rfl, hw.src (i := 6) rfl rfl⟩)) ?_
 | refine D_call (f := 19) rfl (by (repeat' (first | exact trivial | apply And.intro | rfl | omega | intro _ | (simp only [obS] at *; omega))); first | done | fail) (by kernel_rfl) (fun w hw => lfirst_c _ _ [checkF f, sigC t n] (by simp) w (by first | exact .inr ⟨_, rfl, hw.src (i := 2) rfl rfl⟩ | exact .inr ⟨_, rfl, hw.src (i := 3) rfl rfl⟩ | exact .inr ⟨_, rfl, hw.src (i := 4) rfl rfl⟩ | exact .inr ⟨_, rfl, hw.src (i := 5) rfl rfl⟩ | exact .inr ⟨_, rfl, hw.src (i := 6) rfl rfl⟩)) ?_
 | refine D_call (f := 27) rfl (by (repeat' (first | exact trivial | apply And.intro | rfl | omega | intro _ | (simp only [obS] at *; omega))); first | done | fail) (by kernel_rfl) (fun w hw => awake_c w (hw.rdm hE.toS (by repeat (first | exact List.Mem.head _ | apply List.Mem.tail))) (Pw_at hP hw (by repeat (first | exact List.Mem.head _ | apply List.Mem.tail)))) ?_
 | refine D_call (f := 33) rfl (by (repeat' (first | exact trivial | apply And.intro | rfl | omega | intro _ | (simp only [obS] at *; omega))); first | done | fail) (by kernel_rfl) (fun w hw => rBlanked_c f t hv (by omega) w) ?_
 | refine D_call (f := 34) rfl (by (repeat' (first | exact trivial | apply And.intro | rfl | omega | intro _ | (simp only [obS] at *; omega))); first | done | fail) (by kernel_rfl) (fun w hw => rInSync_c f t hv (by omega) w) ?_
 | refine D_call (f := 35) rfl (by (repeat' (first | exact trivial | apply And.intro | rfl | omega | intro _ | (simp only [obS] at *; omega))); first | done | fail) (by kernel_rfl) (fun w hw => rVertical_c f t hT w) ?_
 | refine D_call (f := 37) rfl (by (repeat' (first | exact trivial | apply And.intro | rfl | omega | intro _ | (simp only [obS] at *; omega))); first | done | fail) (by kernel_rfl) (fun w hw => sameSig0_c _ _ f t n h4n w) ?_
            )
 | (refine G_id ?_; first
 | refine G_then ?_
 | refine G_block ?_
 | refine G_blockX ?_
 | refine G_blockN rfl ?_
 | refine G_blockR ?_
 | refine G_thenR ?_
 | refine G_thenX ?_
 | refine G_ret rfl (by (repeat' (first | exact trivial | apply And.intro | rfl | omega | intro _ | (simp only [obS] at *; omega))); first | done | fail) (fun w hw => ⟨?_, hw.below⟩)
            )
          )
      all_goals rfl
  · have hT : ¬ checkT f t = 0 := hT0
    have hT1 : (checkT f t == 0) = false := by simp [hT]
    have hA : True := trivial
    have hV1 : (vertR f t).1 = (0, 0) := by unfold vertR; rw [if_pos hT]
    have hV2 : (vertR f t).2 = firstL [checkF f, wi t 0 10000000] := by unfold vertR; rw [if_pos hT]; rfl
    have h40 : ¬ firstL [checkF f, sigC t n] = 0 := by
      rw [h4s]
      intro h
      have := sigE_ok h
      exact hT ((checkT_iff f t).2 ⟨this.1, this.2.1⟩)
    have h4n : sigL f t n = [] := by unfold sigL; rw [if_neg (by rw [← h4s]; exact h40)]
    repeat' (first
 | (refine C_id ?_; first
 | refine C_seq ?_
 | refine C_region rfl ?_
 | refine C_block ?_
 | refine C_skip ?_
 | refine C_exit ?_
 | refine C_ret0 ?_
 | refine C_draw (id := 14) rfl mixed (by kernel_rfl) ?_
 | refine C_condT rfl (by (repeat' (first | exact trivial | apply And.intro | rfl | omega | intro _ | (simp only [obS] at *; omega))); first | done | fail) ?_
 | refine C_condF rfl (by (repeat' (first | exact trivial | apply And.intro | rfl | omega | intro _ | (simp only [obS] at *; omega))); first | done | fail) ?_
 | (refine C_cond rfl (by (repeat' (first | exact trivial | apply And.intro | rfl | omega | intro _ | (simp only [obS] at *; omega))); first | done | fail) (fun h => ?_) (fun h => ?_) <;> (try simp only [Bool.or_eq_true, Bool.and_eq_true, Bool.or_eq_false_iff, Bool.and_eq_false_iff, decide_eq_true_eq, decide_eq_false_iff_not, beq_iff_eq, bne_iff_ne, beq_eq_false_iff_ne, bne_eq_false_iff_eq, ne_eq, Decidable.not_not, List.cons.injEq, and_true, Bool.not_eq_true', Bool.not_eq_false', Int.not_lt, Int.not_le] at h) <;> (try (exfalso; omega)))
          )
 | (refine S_id ?_; first
 | ((with_reducible refine S_trueE ?_ ?_); · (first | exact beq_self_eq_true _ | (rw [beq_iff_eq]; first | rfl | assumption | (simp only [hT1, hA, hV1, hV2, h4s, Bool.true_and, Bool.false_and]; done) | (simp [hT1, hA, hV1, hV2, h4s, Bool.true_and, Bool.false_and]; done)) | assumption | (simp only [hT1, hA, hV1, hV2, h4s, Bool.true_and, Bool.false_and]; done)))
 | ((with_reducible refine S_trueB ?_ ?_); · (first | exact beq_self_eq_true _ | (rw [beq_iff_eq]; first | rfl | assumption | (simp only [hT1, hA, hV1, hV2, h4s, Bool.true_and, Bool.false_and]; done) | (simp [hT1, hA, hV1, hV2, h4s, Bool.true_and, Bool.false_and]; done)) | assumption | (simp only [hT1, hA, hV1, hV2, h4s, Bool.true_and, Bool.false_and]; done)))
 | ((with_reducible refine S_trueL ?_ ?_); · (first | exact beq_self_eq_true _ | (rw [beq_iff_eq]; first | rfl | assumption | (simp only [hT1, hA, hV1, hV2, h4s, Bool.true_and, Bool.false_and]; done) | (simp [hT1, hA, hV1, hV2, h4s, Bool.true_and, Bool.false_and]; done)) | assumption | (simp only [hT1, hA, hV1, hV2, h4s, Bool.true_and, Bool.false_and]; done)))
 | ((with_reducible refine S_trueD ?_ ?_); · (first | exact beq_self_eq_true _ | (rw [beq_iff_eq]; first | rfl | assumption | (simp only [hT1, hA, hV1, hV2, h4s, Bool.true_and, Bool.false_and]; done) | (simp [hT1, hA, hV1, hV2, h4s, Bool.true_and, Bool.false_and]; done)) | assumption | (simp only [hT1, hA, hV1, hV2, h4s, Bool.true_and, Bool.false_and]; done)))
 | ((with_reducible refine S_trueA ?_ ?_ ?_); (· rfl); (· first | rfl | (first | exact beq_self_eq_true _ | (rw [beq_iff_eq]; first | rfl | assumption | (simp only [hT1, hA, hV1, hV2, h4s, Bool.true_and, Bool.false_and]; done) | (simp [hT1, hA, hV1, hV2, h4s, Bool.true_and, Bool.false_and]; done)) | assumption | (simp only [hT1, hA, hV1, hV2, h4s, Bool.true_and, Bool.false_and]; done))))
 | refine S_unG rfl rfl rfl rfl ?_
 | refine S_pure (binX_pure rfl (by (repeat' (first | exact trivial | apply And.intro | rfl | omega | intro _ | (simp only [obS] at *; omega))); first | done | fail) (fun w => eq_bool (by kernel_rfl) _ _ w)) ?_
 | refine S_pure (binX_pure rfl (by (repeat' (first | exact trivial | apply And.intro | rfl | omega | intro _ | (simp only [obS] at *; omega))); first | done | fail) (fun w => eq_flat (k := .i64) (n := 2) (xs := [(vertR f t).1.1, (vertR f t).1.2]) (ys := [0, 0]) (by kernel_rfl) rfl rfl _ _ w)) ?_
 | refine S_nil ?_
 | refine S_runN rfl rfl (by (repeat' (first | exact trivial | apply And.intro | rfl | omega | intro _ | (simp only [obS] at *; omega))); first | done | fail) (by (repeat' (first | exact trivial | apply And.intro | rfl | omega | intro _ | (simp only [obS] at *; omega))); first | done | fail) ?_
 | refine S_box (fun b => ⟨_, _, rfl, (by (repeat' (first | exact trivial | apply And.intro | rfl | omega | intro _ | (simp only [obS] at *; omega))); first | done | fail), ?_⟩)
 | refine S_slice (fun b => ⟨_, _, rfl, (by (repeat' (first | exact trivial | apply And.intro | rfl | omega | intro _ | (simp only [obS] at *; omega))); first | done | fail), ?_⟩)
 | refine S_call (f := 28) rfl (by (repeat' (first | exact trivial | apply And.intro | rfl | omega | intro _ | (simp only [obS] at *; omega))); first | done | fail) (by kernel_rfl) (fun w hw => Blanked_c f t w (hw.rdm hE.toS (by repeat (first | exact List.Mem.head _ | apply List.Mem.tail)))) ?_
 | refine S_call (f := 29) rfl (by (repeat' (first | exact trivial | apply And.intro | rfl | omega | intro _ | (simp only [obS] at *; omega))); first | done | fail) (by kernel_rfl) (fun w hw => InSync_c f t w (hw.rdm hE.toS (by repeat (first | exact List.Mem.head _ | apply List.Mem.tail)))) ?_
 | refine S_call (f := 30) rfl (by (repeat' (first | exact trivial | apply And.intro | rfl | omega | intro _ | (simp only [obS] at *; omega))); first | done | fail) (by kernel_rfl) (fun w hw => Vertical_c f t hb w (hw.rdm hE.toS (by repeat (first | exact List.Mem.head _ | apply List.Mem.tail)))) ?_
 | refine S_call (f := 18) rfl (by (repeat' (first | exact trivial | apply And.intro | rfl | omega | intro _ | (simp only [obS] at *; omega))); first | done | fail) (by kernel_rfl) (fun w hw => rCheckFormat_c f w) ?_
 | refine S_call (f := 20) rfl (by (repeat' (first | exact trivial | apply And.intro | rfl | omega | intro _ | (simp only [obS] at *; omega))); first | done | fail) (by kernel_rfl) (fun w hw => rCheckTick_c t w) ?_
 | refine S_call (f := 32) rfl (by (repeat' (first | exact trivial | apply And.intro | rfl | omega | intro _ | (simp only [obS] at *; omega))); first | done | fail) (by kernel_rfl) (fun w hw => rCheckSignal_c t n w) ?_
 | refine S_call (f := 19) rfl (by (repeat' (first | exact trivial | apply And.intro | rfl | omega | intro _ | (simp only [obS] at *; omega))); first | done | fail) (by kernel_rfl) (fun w hw => lfirst_c _ _ [checkF f, wi t 0 10000000] (by simp) w (by first | exact .inr ⟨_, rfl, hw.src (i := 2) rfl rfl⟩ | exact .inr ⟨_, rfl, hw.src (i := 3) rfl rfl⟩ | exact .inr ⟨_, rfl, hw.src (i := 4) rfl rfl⟩ | exact .inr ⟨_, rfl, hw.src (i := 5) rfl rfl⟩ | exact .inr ⟨_, rfl, hw.src (i := 6) rfl rfl⟩)) ?_
 | refine S_call (f := 19) rfl (by (repeat' (first | exact trivial | apply And.intro | rfl | omega | intro _ | (simp only [obS] at *; omega))); first | done | fail) (by kernel_rfl) (fun w hw => lfirst_c _ _ [checkF f, sigC t n] (by simp) w (by first | exact .inr ⟨_, rfl, hw.src (i := 2) rfl rfl⟩ | exact .inr ⟨_, rfl, hw.src (i := 3) rfl rfl⟩ | exact .inr ⟨_, rfl, hw.src (i := 4) rfl rfl⟩ | exact .inr ⟨_, rfl, hw.src (i := 5) rfl rfl⟩ | exact .inr ⟨_, rfl, hw.src (i := 6) rfl rfl⟩)) ?_
 | refine S_call (f := 27) rfl (by (repeat' (first | exact trivial | apply And.intro | rfl | omega | intro _ | (simp only [obS] at *; omega))); first | done | fail) (by kernel_rfl) (fun w hw => awake_c w (hw.rdm hE.toS (by repeat (first | exact List.Mem.head _ | apply List.Mem.tail))) (Pw_at hP hw (by repeat (first | exact List.Mem.head _ | apply List.Mem.tail)))) ?_
 | refine S_call (f := 37) rfl (by (repeat' (first | exact trivial | apply And.intro | rfl | omega | intro _ | (simp only [obS] at *; omega))); first | done | fail) (by kernel_rfl) (fun w hw => sameSig0_c _ _ f t n h4n w) ?_
 | (refine S_callM (f := 31) rfl (by (repeat' (first | exact trivial | apply And.intro | rfl | omega | intro _ | (simp only [obS] at *; omega))); first | done | fail) (by kernel_rfl) (fun w hw => Signal_c f t n hn w (hw.rdm hE.toS (by repeat (first | exact List.Mem.head _ | apply List.Mem.tail)))) (fun w1L w2L vL hw1L hbL hRL => ?_); obtain ⟨AL, cL, rfl, hSL⟩ := hRL)
          )
 | (refine D_id ?_; first
 | refine D_nil ?_
 | refine D_tail ?_
 | refine D_run rfl rfl (by (repeat' (first | exact trivial | apply And.intro | rfl | omega | intro _ | (simp only [obS] at *; omega))); first | done | fail) (by (repeat' (first | exact trivial | apply And.intro | rfl | omega | intro _ | (simp only [obS] at *; omega))); first | done | fail) ?_
 | refine D_call (f := 28) rfl (by (repeat' (first | exact trivial | apply And.intro | rfl | omega | intro _ | (simp only [obS] at *; omega))); first | done | fail) (by kernel_rfl) (fun w hw => Blanked_c f t w (hw.rdm hE.toS (by repeat (first | exact List.Mem.head _ | apply List.Mem.tail)))) ?_
 | refine D_call (f := 29) rfl (by (repeat' (first | exact trivial | apply And.intro | rfl | omega | intro _ | (simp only [obS] at *; omega))); first | done | fail) (by kernel_rfl) (fun w hw => InSync_c f t w (hw.rdm hE.toS (by repeat (first | exact List.Mem.head _ | apply List.Mem.tail)))) ?_
 | refine D_call (f := 30) rfl (by (repeat' (first | exact trivial | apply And.intro | rfl | omega | intro _ | (simp only [obS] at *; omega))); first | done | fail) (by kernel_rfl) (fun w hw => Vertical_c f t hb w (hw.rdm hE.toS (by repeat (first | exact List.Mem.head _ | apply List.Mem.tail)))) ?_
 | refine D_call (f := 18) rfl (by (repeat' (first | exact trivial | apply And.intro | rfl | omega | intro _ | (simp only [obS] at *; omega))); first | done | fail) (by kernel_rfl) (fun w hw => rCheckFormat_c f w) ?_
 | refine D_call (f := 20) rfl (by (repeat' (first | exact trivial | apply And.intro | rfl | omega | intro _ | (simp only [obS] at *; omega))); first | done | fail) (by kernel_rfl) (fun w hw => rCheckTick_c t w) ?_
 | refine D_call (f := 32) rfl (by (repeat' (first | exact trivial | apply And.intro | rfl | omega | intro _ | (simp only [obS] at *; omega))); first | done | fail) (by kernel_rfl) (fun w hw => rCheckSignal_c t n w) ?_
 | refine D_call (f := 19) rfl (by (repeat' (first | exact trivial | apply And.intro | rfl | omega | intro _ | (simp only [obS] at *; omega))); first | done | fail) (by kernel_rfl) (fun w hw => lfirst_c _ _ [checkF f, wi t 0 10000000] (by simp) w (by first | exact .inr ⟨_, rfl, hw.src (i := 2) rfl rfl⟩ | exact .inr ⟨_, rfl, hw.src (i := 3) rfl rfl⟩ | exact .inr ⟨_, rfl, hw.src (i := 4) rfl rfl⟩ | exact .inr ⟨_, rfl, hw.src (i := 5) rfl rfl⟩ | exact .inr ⟨_, rfl, hw.src (i := 6) rfl rfl⟩)) ?_
 | refine D_call (f := 19) rfl (by (repeat' (first | exact trivial | apply And.intro | rfl | omega | intro _ | (simp only [obS] at *; omega))); first | done | fail) (by kernel_rfl) (fun w hw => lfirst_c _ _ [checkF f, sigC t n] (by simp) w (by first | exact .inr ⟨_, rfl, hw.src (i := 2) rfl rfl⟩ | exact .inr ⟨_, rfl, hw.src (i := 3) rfl rfl⟩ | exact .inr ⟨_, rfl, hw.src (i := 4) rfl rfl⟩ | exact .inr ⟨_, rfl, hw.src (i := 5) rfl rfl⟩ | exact .inr ⟨_, rfl, hw.src (i := 6) rfl rfl⟩)) ?_
 | refine D_call (f := 27) rfl (by (repeat' (first | exact trivial | apply And.intro | rfl | omega | intro _ | (simp only [obS] at *; omega))); first | done | fail) (by kernel_rfl) (fun w hw => awake_c w (hw.rdm hE.toS (by repeat (first | exact List.Mem.head _ | apply List.Mem.tail))) (Pw_at hP hw (by repeat (first | exact List.Mem.head _ | apply List.Mem.tail)))) ?_
 | refine D_call (f := 37) rfl (by (repeat' (first | exact trivial | apply And.intro | rfl | omega | intro _ | (simp only [obS] at *; omega))); first | done | fail) (by kernel_rfl) (fun w hw => sameSig0_c _ _ f t n h4n w) ?_
          )
 | (refine G_id ?_; first
 | refine G_then ?_
 | refine G_block ?_
 | refine G_blockX ?_
 | refine G_blockN rfl ?_
 | refine G_blockR ?_
 | refine G_thenR ?_
 | refine G_thenX ?_
 | refine G_ret rfl (by (repeat' (first | exact trivial | apply And.intro | rfl | omega | intro _ | (simp only [obS] at *; omega))); first | done | fail) (fun w hw => ⟨?_, hw.below⟩)
          )
        )
    all_goals rfl

end Go.Proofs.YtmfophoejjcnlaaGreatDoor
