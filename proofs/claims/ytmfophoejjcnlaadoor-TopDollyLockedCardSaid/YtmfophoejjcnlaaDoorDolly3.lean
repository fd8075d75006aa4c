/- The walk of the law on slipping sources. -/
import Derived.Test.YtmfophoejjcnlaaDoorDolly2
namespace Go.Proofs.YtmfophoejjcnlaaDoor
open Go.E Go.RowKit
attribute [local irreducible] G C S D Calls
set_option maxRecDepth 100000
set_option linter.unusedSimpArgs false
set_option linter.unusedVariables false

theorem rng_at {n d P : Int} {j : Nat} (h : j < 10) : ∀ (i : Nat) (u : Value), ([.int .i64 (slN n d P j)] : List Value)[i]? = some u → ((List.range 10).map fun k => Value.int .i64 (slN n d P k))[((j : Int).toNat * 1) + i]? = some u := by
  intro i u hu
  cases i with
  | succ i => simp at hu
  | zero =>
    simp only [List.getElem?_cons_zero, Option.some.injEq] at hu
    subst hu
    simp [h]

set_option maxHeartbeats 4000000 in
/-- genlocktop.TopDollyLocked -/
theorem top_c (f : Fmt) (n d : Int) (w : World) (hE : Ex w) : Calls Tryd.prog 3 #[.agg #[.int .i64 f.S, .int .i64 f.L, .int .i64 f.F, .int .i64 f.B, .int .i64 f.Y, .int .i64 f.V, .int .i64 f.C], .agg #[.int .i64 n, .int .i64 d]] w fun r w' => r = .returned (.bool true) ∧ Below w.heap.size w w' := by
  refine calls_of (args := [.agg #[.int .i64 f.S, .int .i64 f.L, .int .i64 f.F, .int .i64 f.B, .int .i64 f.Y, .int .i64 f.V, .int .i64 f.C], .agg #[.int .i64 n, .int .i64 d]]) T_ok Tryd.func3 rfl Tryd.ntmps3 (Nat.le_of_ble_eq_true rfl) rfl ?_
  by_cases hc : checkF f = 0 ∧ f.S ≤ 40 ∧ f.L ≤ 30 ∧ clockE n d = 0
  · obtain ⟨hf, hS, hL, hk⟩ := hc
    have hv := (valid_iff f).1 hf
    have hvS := hv.S
    have hvL := hv.L
    have hm1 : 2 * 2 ≤ f.S * f.L := Int.mul_le_mul hvS.1 hvL.1 (by omega) (by omega)
    have hm2 : f.S * f.L ≤ 40 * 30 := Int.mul_le_mul hS hL (by omega) (by omega)
    have hck := clock_ok hk
    repeat' (first
        | (refine C_id ?_; first
            | refine C_seq ?_
            | refine C_region rfl ?_
            | refine C_block ?_
            | refine C_skip ?_
            | refine C_exit ?_
            | refine C_ret0 ?_
            | refine C_condT rfl (by (repeat' (first | exact trivial | apply And.intro | rfl | omega | intro _ | (simp only [decide_eq_true_eq, decide_eq_false_iff_not, beq_iff_eq, Int.not_lt, Int.not_le] at *; omega))); first | done | fail) ?_
            | refine C_condF rfl (by (repeat' (first | exact trivial | apply And.intro | rfl | omega | intro _ | (simp only [decide_eq_true_eq, decide_eq_false_iff_not, beq_iff_eq, Int.not_lt, Int.not_le] at *; omega))); first | done | fail) ?_
            | (refine C_cond rfl (by (repeat' (first | exact trivial | apply And.intro | rfl | omega | intro _ | (simp only [decide_eq_true_eq, decide_eq_false_iff_not, beq_iff_eq, Int.not_lt, Int.not_le] at *; omega))); first | done | fail) (fun h => ?_) (fun h => ?_) <;> (try simp only [Bool.or_eq_true, Bool.and_eq_true, Bool.or_eq_false_iff, Bool.and_eq_false_iff, decide_eq_true_eq, decide_eq_false_iff_not, beq_iff_eq, bne_iff_ne, beq_eq_false_iff_ne, bne_eq_false_iff_eq, ne_eq, Decidable.not_not, List.cons.injEq, and_true, Bool.not_eq_true', Bool.not_eq_false', Int.not_lt, Int.not_le] at h) <;> (try (exfalso; omega)) <;> (try (exfalso; simp at h; done)) <;> (try (exfalso; simp only [not_true_eq_false, false_or, or_false] at h; omega)))
          )
        | (refine S_id ?_; first
            | refine S_nil ?_
            | refine S_run rfl rfl (by (repeat' (first | exact trivial | apply And.intro | rfl | omega | intro _ | (simp only [decide_eq_true_eq, decide_eq_false_iff_not, beq_iff_eq, Int.not_lt, Int.not_le] at *; omega))); first | done | fail) (by (repeat' (first | exact trivial | apply And.intro | rfl | omega | intro _ | (simp only [decide_eq_true_eq, decide_eq_false_iff_not, beq_iff_eq, Int.not_lt, Int.not_le] at *; omega))); first | done | fail) ?_
            | refine S_box (fun b => ⟨_, _, rfl, (by (repeat' (first | exact trivial | apply And.intro | rfl | omega | intro _ | (simp only [decide_eq_true_eq, decide_eq_false_iff_not, beq_iff_eq, Int.not_lt, Int.not_le] at *; omega))); first | done | fail), ?_⟩)
            | refine S_slice (fun b => ⟨_, _, rfl, (by (repeat' (first | exact trivial | apply And.intro | rfl | omega | intro _ | (simp only [decide_eq_true_eq, decide_eq_false_iff_not, beq_iff_eq, Int.not_lt, Int.not_le] at *; omega))); first | done | fail), ?_⟩)
            | refine S_call rfl (by (repeat' (first | exact trivial | apply And.intro | rfl | omega | intro _ | (simp only [decide_eq_true_eq, decide_eq_false_iff_not, beq_iff_eq, Int.not_lt, Int.not_le] at *; omega))); first | done | fail) (by kernel_rfl) (fun w hw => rCheckFormat_c f w) ?_
            | refine S_call rfl (by (repeat' (first | exact trivial | apply And.intro | rfl | omega | intro _ | (simp only [decide_eq_true_eq, decide_eq_false_iff_not, beq_iff_eq, Int.not_lt, Int.not_le] at *; omega))); first | done | fail) (by kernel_rfl) (fun w hw => rCheckClock_c n d w) ?_
            | refine S_callG rfl rfl (fun hg => (by (repeat' (first | exact trivial | apply And.intro | rfl | omega | intro _ | (simp only [decide_eq_true_eq, decide_eq_false_iff_not, beq_iff_eq, Int.not_lt, Int.not_le] at *; omega))); first | done | fail)) (by kernel_rfl) (fun hg w hw => rCheckClock_c n d w) ?_
            | refine S_call rfl (by (repeat' (first | exact trivial | apply And.intro | rfl | omega | intro _ | (simp only [decide_eq_true_eq, decide_eq_false_iff_not, beq_iff_eq, Int.not_lt, Int.not_le] at *; omega))); first | done | fail) (by kernel_rfl) (fun w hw => dollyPhase_c w) ?_
            | refine S_callG rfl rfl (fun hg => (by (repeat' (first | exact trivial | apply And.intro | rfl | omega | intro _ | (simp only [decide_eq_true_eq, decide_eq_false_iff_not, beq_iff_eq, Int.not_lt, Int.not_le] at *; omega))); first | done | fail)) (by kernel_rfl) (fun hg w hw => dollyPhase_c w) ?_
          )
        | (refine G_id ?_; first
            | refine G_then ?_
            | refine G_block ?_
            | refine G_blockX ?_
            | refine G_blockN rfl ?_
            | refine G_blockR ?_
            | refine G_thenR ?_
            | refine G_thenX ?_
            | refine G_ret rfl (by (repeat' (first | exact trivial | apply And.intro | rfl | omega | intro _ | (simp only [decide_eq_true_eq, decide_eq_false_iff_not, beq_iff_eq, Int.not_lt, Int.not_le] at *; omega))); first | done | fail) (fun w hw => ⟨?_, hw.below⟩)
          )
        )
    rename_i b2
    obtain ⟨P, hP⟩ : ∃ P, f.S * f.L = P := ⟨_, rfl⟩
    rw [hP] at hm1 hm2 ⊢
    have hclk : Clk n d P := ⟨hck.1.1, hck.1.2, by omega, hk⟩
    refine C_row0 6 3 1 rfl ?_
    refine C_loopS (fun i : Nat × Option Addr × Nat => ⟨[(51, .s (.v (.int .i64 i.1))), (2, .s (.p b2 0 0)), (3, .s (.p b 1 0)), (5, .s (.v (.int .i64 P))), (6, .s (.r i.2.1 i.1 i.2.2 0)), (7, .s (.v (.int .i64 (stN n d P i.1))))], [⟨b2, 23, [.v (.int .i64 f.S), .v (.int .i64 f.L), .v (.int .i64 f.F), .v (.int .i64 f.B), .v (.int .i64 f.Y), .v (.int .i64 f.V), .v (.int .i64 f.C)]⟩, ⟨b, 25, [.v (.int .i64 n), .v (.int .i64 d)]⟩], [⟨3, 1, i.1, (List.range i.1).map fun k => Value.int .i64 (slN n d P k), .slice i.2.1 i.1 i.2.2⟩]⟩) (fun i => i.1 ≤ 10 ∧ (0 < i.1 → ∃ g, i.2.1 = some ⟨g, 0, none⟩)) (fun i => 10 - i.1) (0, none, 0) ⟨Nat.zero_le _, fun h => absurd h (Nat.lt_irrefl _)⟩ ?_ (fun i hi => ?_)
    · exact ⟨⟨_, rfl, (by (repeat' (first | exact trivial | apply And.intro | rfl | omega | intro _ | (simp only [decide_eq_true_eq, decide_eq_false_iff_not, beq_iff_eq, Int.not_lt, Int.not_le] at *; omega))); first | done | fail)⟩, ⟨_, rfl⟩, rfl, (by intro p hp; repeat (first | exact hp | apply List.mem_cons_of_mem))⟩
    obtain ⟨k, A1, c1⟩ := i
    obtain ⟨hk10, hA⟩ := hi
    dsimp only at hk10 hA ⊢
    by_cases hlt : k < 10
    · have hb0 := kP_bd hclk hk10
      have hb1 := kP_bd hclk (show k + 1 ≤ 10 by omega)
      have hk1 : ((k : Int) + 1) * P = (k : Int) * P + P := by rw [Int.add_mul, Int.one_mul]
      have hc0 := cN_bd hclk hk10
      have hc1 := cN_bd hclk (show k + 1 ≤ 10 by omega)
      have hst := stN_bd hclk hk10
      repeat' (first
          | (refine C_id ?_; first
              | refine C_seq ?_
              | refine C_region rfl ?_
              | refine C_block ?_
              | refine C_skip ?_
              | refine C_exit ?_
              | refine C_ret0 ?_
              | refine C_condT rfl (by (repeat' (first | exact trivial | apply And.intro | rfl | omega | intro _ | (simp only [decide_eq_true_eq, decide_eq_false_iff_not, beq_iff_eq, Int.not_lt, Int.not_le] at *; omega))); first | done | fail) ?_
              | refine C_condF rfl (by (repeat' (first | exact trivial | apply And.intro | rfl | omega | intro _ | (simp only [decide_eq_true_eq, decide_eq_false_iff_not, beq_iff_eq, Int.not_lt, Int.not_le] at *; omega))); first | done | fail) ?_
              | (refine C_cond rfl (by (repeat' (first | exact trivial | apply And.intro | rfl | omega | intro _ | (simp only [decide_eq_true_eq, decide_eq_false_iff_not, beq_iff_eq, Int.not_lt, Int.not_le] at *; omega))); first | done | fail) (fun h => ?_) (fun h => ?_) <;> (try simp only [Bool.or_eq_true, Bool.and_eq_true, Bool.or_eq_false_iff, Bool.and_eq_false_iff, decide_eq_true_eq, decide_eq_false_iff_not, beq_iff_eq, bne_iff_ne, beq_eq_false_iff_ne, bne_eq_false_iff_eq, ne_eq, Decidable.not_not, List.cons.injEq, and_true, Bool.not_eq_true', Bool.not_eq_false', Int.not_lt, Int.not_le] at h) <;> (try (exfalso; omega)) <;> (try (exfalso; simp at h; done)) <;> (try (exfalso; simp only [not_true_eq_false, false_or, or_false] at h; omega)))
            )
          | (refine S_id ?_; first
              | refine S_pure (max3_pure rfl (by (repeat' (first | exact trivial | apply And.intro | rfl | omega | intro _ | (simp only [decide_eq_true_eq, decide_eq_false_iff_not, beq_iff_eq, Int.not_lt, Int.not_le] at *; omega))); first | done | fail)) ?_
              | refine S_append rfl (by (repeat' (first | exact trivial | apply And.intro | rfl | omega | intro _ | (simp only [decide_eq_true_eq, decide_eq_false_iff_not, beq_iff_eq, Int.not_lt, Int.not_le] at *; omega))); first | done | fail) rfl rfl rfl ⟨by decide, rfl⟩ rfl ⟨rfl, rfl, rfl, rfl⟩ [.int .i64 (cN n d P (k + 1) - cN n d P k - P)] ⟨by decide, rfl⟩ (by simp [Value.oneCell']) (fun w hw => by first | exact hw.src (i := 0) rfl rfl | exact hw.src (i := 1) rfl rfl | exact hw.src (i := 2) rfl rfl | exact hw.src (i := 3) rfl rfl | exact hw.src (i := 4) rfl rfl | exact hw.src (i := 5) rfl rfl) (by unfold maxLen; dsimp only; omega) (fun gb cap' => ⟨_, rfl, ?_⟩)
              | refine S_nil ?_
              | refine S_run rfl rfl (by (repeat' (first | exact trivial | apply And.intro | rfl | omega | intro _ | (simp only [decide_eq_true_eq, decide_eq_false_iff_not, beq_iff_eq, Int.not_lt, Int.not_le] at *; omega))); first | done | fail) (by (repeat' (first | exact trivial | apply And.intro | rfl | omega | intro _ | (simp only [decide_eq_true_eq, decide_eq_false_iff_not, beq_iff_eq, Int.not_lt, Int.not_le] at *; omega))); first | done | fail) ?_
              | refine S_box (fun b => ⟨_, _, rfl, (by (repeat' (first | exact trivial | apply And.intro | rfl | omega | intro _ | (simp only [decide_eq_true_eq, decide_eq_false_iff_not, beq_iff_eq, Int.not_lt, Int.not_le] at *; omega))); first | done | fail), ?_⟩)
              | refine S_slice (fun b => ⟨_, _, rfl, (by (repeat' (first | exact trivial | apply And.intro | rfl | omega | intro _ | (simp only [decide_eq_true_eq, decide_eq_false_iff_not, beq_iff_eq, Int.not_lt, Int.not_le] at *; omega))); first | done | fail), ?_⟩)
              | refine S_one rfl (by (repeat' (first | exact trivial | apply And.intro | rfl | omega | intro _ | (simp only [decide_eq_true_eq, decide_eq_false_iff_not, beq_iff_eq, Int.not_lt, Int.not_le] at *; omega))); first | done | fail) ?_
              | refine S_call rfl (by (repeat' (first | exact trivial | apply And.intro | rfl | omega | intro _ | (simp only [decide_eq_true_eq, decide_eq_false_iff_not, beq_iff_eq, Int.not_lt, Int.not_le] at *; omega))); first | done | fail) (by kernel_rfl) (fun w hw => cnt_c hclk (k := k) (by omega) rfl w) ?_
              | refine S_call rfl (by (repeat' (first | exact trivial | apply And.intro | rfl | omega | intro _ | (simp only [decide_eq_true_eq, decide_eq_false_iff_not, beq_iff_eq, Int.not_lt, Int.not_le] at *; omega))); first | done | fail) (by kernel_rfl) (fun w hw => cnt_c hclk (k := k + 1) (by omega) rfl w) ?_
              | refine S_call rfl (by (repeat' (first | exact trivial | apply And.intro | rfl | omega | intro _ | (simp only [decide_eq_true_eq, decide_eq_false_iff_not, beq_iff_eq, Int.not_lt, Int.not_le] at *; omega))); first | done | fail) (by kernel_rfl) (fun w hw => vert_c hf hP hclk (k := k) hlt w (hw.rdm hE.toS (by repeat (first | exact List.Mem.head _ | apply List.Mem.tail)))) ?_
            )
          | (refine G_id ?_; first
              | refine G_loop (k + 1, some ⟨gb, 0, none⟩, cap') ⟨by show k + 1 ≤ 10; omega, fun _ => ⟨gb, rfl⟩⟩ (by show 10 - (k + 1) < 10 - k; omega) ⟨⟨_, rfl, (by (repeat' (first | exact trivial | apply And.intro | rfl | omega | intro _ | (simp only [decide_eq_true_eq, decide_eq_false_iff_not, beq_iff_eq, Int.not_lt, Int.not_le] at *; omega))); first | done | fail)⟩, ⟨_, rfl⟩, (by dsimp only; rw [List.range_succ, List.map_append]; rfl), (by intro p hp; repeat (first | exact hp | apply List.mem_cons_of_mem))⟩
              | refine G_then ?_
              | refine G_block ?_
              | refine G_blockX ?_
              | refine G_blockN rfl ?_
              | refine G_blockR ?_
              | refine G_thenR ?_
              | refine G_thenX ?_
              | refine G_ret rfl (by (repeat' (first | exact trivial | apply And.intro | rfl | omega | intro _ | (simp only [decide_eq_true_eq, decide_eq_false_iff_not, beq_iff_eq, Int.not_lt, Int.not_le] at *; omega))); first | done | fail) (fun w hw => ⟨?_, hw.below⟩)
            )
          )
    · obtain rfl : k = 10 := by omega
      obtain ⟨g, rfl⟩ := hA (by omega)
      have hst := stN_bd hclk (Nat.le_refl 10)
      by_cases h4 : 4 * stN n d P 10 < P ∧ stN n d P 10 ≠ 0
      · repeat' (first
            | (refine C_id ?_; first
                | refine C_seq ?_
                | refine C_region rfl ?_
                | refine C_block ?_
                | refine C_skip ?_
                | refine C_exit ?_
                | refine C_ret0 ?_
                | refine C_condT rfl (by (repeat' (first | exact trivial | apply And.intro | rfl | omega | intro _ | (simp only [decide_eq_true_eq, decide_eq_false_iff_not, beq_iff_eq, Int.not_lt, Int.not_le] at *; omega))); first | done | fail) ?_
                | refine C_condF rfl (by (repeat' (first | exact trivial | apply And.intro | rfl | omega | intro _ | (simp only [decide_eq_true_eq, decide_eq_false_iff_not, beq_iff_eq, Int.not_lt, Int.not_le] at *; omega))); first | done | fail) ?_
                | (refine C_cond rfl (by (repeat' (first | exact trivial | apply And.intro | rfl | omega | intro _ | (simp only [decide_eq_true_eq, decide_eq_false_iff_not, beq_iff_eq, Int.not_lt, Int.not_le] at *; omega))); first | done | fail) (fun h => ?_) (fun h => ?_) <;> (try simp only [Bool.or_eq_true, Bool.and_eq_true, Bool.or_eq_false_iff, Bool.and_eq_false_iff, decide_eq_true_eq, decide_eq_false_iff_not, beq_iff_eq, bne_iff_ne, beq_eq_false_iff_ne, bne_eq_false_iff_eq, ne_eq, Decidable.not_not, List.cons.injEq, and_true, Bool.not_eq_true', Bool.not_eq_false', Int.not_lt, Int.not_le] at h) <;> (try (exfalso; omega)) <;> (try (exfalso; simp at h; done)) <;> (try (exfalso; simp only [not_true_eq_false, false_or, or_false] at h; omega)))
              )
            | (refine S_id ?_; first
                | refine S_nil ?_
                | refine S_run rfl rfl (by (repeat' (first | exact trivial | apply And.intro | rfl | omega | intro _ | (simp only [decide_eq_true_eq, decide_eq_false_iff_not, beq_iff_eq, Int.not_lt, Int.not_le] at *; omega))); first | done | fail) (by (repeat' (first | exact trivial | apply And.intro | rfl | omega | intro _ | (simp only [decide_eq_true_eq, decide_eq_false_iff_not, beq_iff_eq, Int.not_lt, Int.not_le] at *; omega))); first | done | fail) ?_
                | refine S_box (fun b => ⟨_, _, rfl, (by (repeat' (first | exact trivial | apply And.intro | rfl | omega | intro _ | (simp only [decide_eq_true_eq, decide_eq_false_iff_not, beq_iff_eq, Int.not_lt, Int.not_le] at *; omega))); first | done | fail), ?_⟩)
                | refine S_slice (fun b => ⟨_, _, rfl, (by (repeat' (first | exact trivial | apply And.intro | rfl | omega | intro _ | (simp only [decide_eq_true_eq, decide_eq_false_iff_not, beq_iff_eq, Int.not_lt, Int.not_le] at *; omega))); first | done | fail), ?_⟩)
                | refine S_call rfl (by (repeat' (first | exact trivial | apply And.intro | rfl | omega | intro _ | (simp only [decide_eq_true_eq, decide_eq_false_iff_not, beq_iff_eq, Int.not_lt, Int.not_le] at *; omega))); first | done | fail) (by kernel_rfl) (fun w hw => rCheckFormat_c f w) ?_
                | refine S_call rfl (by (repeat' (first | exact trivial | apply And.intro | rfl | omega | intro _ | (simp only [decide_eq_true_eq, decide_eq_false_iff_not, beq_iff_eq, Int.not_lt, Int.not_le] at *; omega))); first | done | fail) (by kernel_rfl) (fun w hw => rCheckClock_c n d w) ?_
                | refine S_callG rfl rfl (fun hg => (by (repeat' (first | exact trivial | apply And.intro | rfl | omega | intro _ | (simp only [decide_eq_true_eq, decide_eq_false_iff_not, beq_iff_eq, Int.not_lt, Int.not_le] at *; omega))); first | done | fail)) (by kernel_rfl) (fun hg w hw => rCheckClock_c n d w) ?_
                | refine S_call rfl (by (repeat' (first | exact trivial | apply And.intro | rfl | omega | intro _ | (simp only [decide_eq_true_eq, decide_eq_false_iff_not, beq_iff_eq, Int.not_lt, Int.not_le] at *; omega))); first | done | fail) (by kernel_rfl) (fun w hw => dollyPhase_c w) ?_
                | refine S_callG rfl rfl (fun hg => (by (repeat' (first | exact trivial | apply And.intro | rfl | omega | intro _ | (simp only [decide_eq_true_eq, decide_eq_false_iff_not, beq_iff_eq, Int.not_lt, Int.not_le] at *; omega))); first | done | fail)) (by kernel_rfl) (fun hg w hw => dollyPhase_c w) ?_
              )
            | (refine G_id ?_; first
                | refine G_then ?_
                | refine G_block ?_
                | refine G_blockX ?_
                | refine G_blockN rfl ?_
                | refine G_blockR ?_
                | refine G_thenR ?_
                | refine G_thenX ?_
                | refine G_ret rfl (by (repeat' (first | exact trivial | apply And.intro | rfl | omega | intro _ | (simp only [decide_eq_true_eq, decide_eq_false_iff_not, beq_iff_eq, Int.not_lt, Int.not_le] at *; omega))); first | done | fail) (fun w hw => ⟨?_, hw.below⟩)
              )
            )
        refine C_loopS (fun j : Nat => ⟨[(123, .s (.v (.int .i64 j))), (122, .s (.v (.int .i64 ((10 : Nat) : Int)))), (121, .s (.r (some ⟨g, 0, none⟩) 10 c1 0)), (3, .s (.p b 1 0)), (5, .s (.v (.int .i64 P))), (7, .s (.v (.int .i64 (stN n d P 10)))), (16, .s (.v (.int .i64 (smN n d P j))))], [⟨b2, 23, [.v (.int .i64 f.S), .v (.int .i64 f.L), .v (.int .i64 f.F), .v (.int .i64 f.B), .v (.int .i64 f.Y), .v (.int .i64 f.V), .v (.int .i64 f.C)]⟩, ⟨b, 25, [.v (.int .i64 n), .v (.int .i64 d)]⟩], [⟨3, 1, 10, (List.range 10).map fun k => Value.int .i64 (slN n d P k), .slice (some ⟨g, 0, none⟩) 10 c1⟩]⟩) (fun j => j ≤ 10) (fun j => 10 - j) 0 (Nat.zero_le _) ?_ (fun j hj => ?_)
        · exact ⟨⟨_, rfl, (by (repeat' (first | exact trivial | exact congrArg (fun x => AV.s (PV.v (Value.int .i64 x))) (smN_zero n d P).symm | apply And.intro | rfl | omega | intro _ | (simp only [decide_eq_true_eq, decide_eq_false_iff_not, beq_iff_eq, Int.not_lt, Int.not_le] at *; omega))); first | done | fail)⟩, ⟨_, rfl⟩, rfl, (by intro p hp; repeat (first | exact hp | apply List.mem_cons_of_mem))⟩
        dsimp only
        by_cases hlt2 : j < 10
        · have hsl := slN_le (n := n) (d := d) (P := P) hlt2
          have hsb := slN_bd hclk hlt2
          have hsm := smN_succ n d P j
          have hmb := smN_bd hclk hj
          have hmb1 := smN_bd hclk (show j + 1 ≤ 10 by omega)
          have hwr : (slN n d P j + P) % P = wrN n d P j := rfl
          have hwb := wr_bd hclk hlt2 h4.1
          by_cases hw0 : wrN n d P j = 0
          · repeat' (first
                | (refine C_id ?_; first
                    | refine C_seq ?_
                    | refine C_region rfl ?_
                    | refine C_block ?_
                    | refine C_skip ?_
                    | refine C_exit ?_
                    | refine C_ret0 ?_
                    | refine C_condT rfl (by (repeat' (first | exact trivial | apply And.intro | rfl | omega | intro _ | (simp only [decide_eq_true_eq, decide_eq_false_iff_not, beq_iff_eq, Int.not_lt, Int.not_le] at *; omega))); first | done | fail) ?_
                    | refine C_condF rfl (by (repeat' (first | exact trivial | apply And.intro | rfl | omega | intro _ | (simp only [decide_eq_true_eq, decide_eq_false_iff_not, beq_iff_eq, Int.not_lt, Int.not_le] at *; omega))); first | done | fail) ?_
                    | (refine C_cond rfl (by (repeat' (first | exact trivial | apply And.intro | rfl | omega | intro _ | (simp only [decide_eq_true_eq, decide_eq_false_iff_not, beq_iff_eq, Int.not_lt, Int.not_le] at *; omega))); first | done | fail) (fun h => ?_) (fun h => ?_) <;> (try simp only [Bool.or_eq_true, Bool.and_eq_true, Bool.or_eq_false_iff, Bool.and_eq_false_iff, decide_eq_true_eq, decide_eq_false_iff_not, beq_iff_eq, bne_iff_ne, beq_eq_false_iff_ne, bne_eq_false_iff_eq, ne_eq, Decidable.not_not, List.cons.injEq, and_true, Bool.not_eq_true', Bool.not_eq_false', Int.not_lt, Int.not_le] at h) <;> (try (exfalso; omega)) <;> (try (exfalso; simp at h; done)) <;> (try (exfalso; simp only [not_true_eq_false, false_or, or_false] at h; omega)) <;> (try (exfalso; simp only [hwr, not_true_eq_false, false_or, or_false] at h; omega)))
                  )
                | (refine S_id ?_; first
                    | refine S_load rfl (by (repeat' (first | exact trivial | apply And.intro | rfl | omega | intro _ | (simp only [decide_eq_true_eq, decide_eq_false_iff_not, beq_iff_eq, Int.not_lt, Int.not_le] at *; omega))); first | done | fail) rfl [.int .i64 (slN n d P j)] (.row 0 _ rfl g 10 c1 ((j : Int).toNat * 1) rfl rfl (rng_at hlt2)) rfl (.inr ⟨rfl, rfl⟩) ?_
                    | (refine S_callM rfl (by (repeat' (first | exact trivial | apply And.intro | rfl | omega | intro _ | (simp only [decide_eq_true_eq, decide_eq_false_iff_not, beq_iff_eq, Int.not_lt, Int.not_le] at *; omega))); first | done | fail) (by kernel_rfl) (fun w hw => lk_c hclk hlt2 h4.1 h4.2 (lock_zero hclk hlt2 h4.1 h4.2 hw0) (m := 1) rfl (xs := [.int .i64 0]) rfl w) (fun w1L w2L vL hw1L hbL hRL => ?_); obtain ⟨AL, cL, rfl, hSL⟩ := hRL; obtain ⟨adL, rfl⟩ := hSL.rd.some (by simp))
                    | refine S_loadG rfl rfl (fun hg => (by (repeat' (first | exact trivial | apply And.intro | rfl | omega | intro _ | (simp only [decide_eq_true_eq, decide_eq_false_iff_not, beq_iff_eq, Int.not_lt, Int.not_le] at *; omega))); first | done | fail)) rfl [.int .i64 0] (fun hg => .past (w2L, fun b => w1L.heap.size ≤ b ∧ b < w2L.heap.size) (by repeat (first | exact List.Mem.head _ | apply List.Mem.tail)) _ _ hSL 0 _ rfl rfl (by intro j u hu; cases j with | zero => simpa using hu | succ j => simp at hu)) rfl (.inr ⟨rfl, rfl⟩) ?_
                    | refine S_nil ?_
                    | refine S_run rfl rfl (by (repeat' (first | exact trivial | apply And.intro | rfl | omega | intro _ | (simp only [decide_eq_true_eq, decide_eq_false_iff_not, beq_iff_eq, Int.not_lt, Int.not_le] at *; omega))); first | done | fail) (by (repeat' (first | exact trivial | apply And.intro | rfl | omega | intro _ | (simp only [decide_eq_true_eq, decide_eq_false_iff_not, beq_iff_eq, Int.not_lt, Int.not_le] at *; omega))); first | done | fail) ?_
                    | refine S_box (fun b => ⟨_, _, rfl, (by (repeat' (first | exact trivial | apply And.intro | rfl | omega | intro _ | (simp only [decide_eq_true_eq, decide_eq_false_iff_not, beq_iff_eq, Int.not_lt, Int.not_le] at *; omega))); first | done | fail), ?_⟩)
                    | refine S_slice (fun b => ⟨_, _, rfl, (by (repeat' (first | exact trivial | apply And.intro | rfl | omega | intro _ | (simp only [decide_eq_true_eq, decide_eq_false_iff_not, beq_iff_eq, Int.not_lt, Int.not_le] at *; omega))); first | done | fail), ?_⟩)
                    | refine S_one rfl (by (repeat' (first | exact trivial | apply And.intro | rfl | omega | intro _ | (simp only [decide_eq_true_eq, decide_eq_false_iff_not, beq_iff_eq, Int.not_lt, Int.not_le] at *; omega))); first | done | fail) ?_
                  )
                | (refine G_id ?_; first
                    | refine G_loop (j + 1) (by omega) (by omega) ⟨⟨_, rfl, (by (repeat' (first | exact trivial | exact congrArg (fun x => AV.s (PV.v (Value.int .i64 x))) hsm | apply And.intro | rfl | omega | intro _ | (simp only [decide_eq_true_eq, decide_eq_false_iff_not, beq_iff_eq, Int.not_lt, Int.not_le] at *; omega))); first | done | fail)⟩, ⟨_, rfl⟩, rfl, (by intro p hp; repeat (first | exact hp | apply List.mem_cons_of_mem))⟩
                    | refine G_then ?_
                    | refine G_block ?_
                    | refine G_blockX ?_
                    | refine G_blockN rfl ?_
                    | refine G_blockR ?_
                    | refine G_thenR ?_
                    | refine G_thenX ?_
                    | refine G_ret rfl (by (repeat' (first | exact trivial | apply And.intro | rfl | omega | intro _ | (simp only [decide_eq_true_eq, decide_eq_false_iff_not, beq_iff_eq, Int.not_lt, Int.not_le] at *; omega))); first | done | fail) (fun w hw => ⟨?_, hw.below⟩)
                  )
                )
          · repeat' (first
                | (refine C_id ?_; first
                    | refine C_seq ?_
                    | refine C_region rfl ?_
                    | refine C_block ?_
                    | refine C_skip ?_
                    | refine C_exit ?_
                    | refine C_ret0 ?_
                    | refine C_condT rfl (by (repeat' (first | exact trivial | apply And.intro | rfl | omega | intro _ | (simp only [decide_eq_true_eq, decide_eq_false_iff_not, beq_iff_eq, Int.not_lt, Int.not_le] at *; omega))); first | done | fail) ?_
                    | refine C_condF rfl (by (repeat' (first | exact trivial | apply And.intro | rfl | omega | intro _ | (simp only [decide_eq_true_eq, decide_eq_false_iff_not, beq_iff_eq, Int.not_lt, Int.not_le] at *; omega))); first | done | fail) ?_
                    | (refine C_cond rfl (by (repeat' (first | exact trivial | apply And.intro | rfl | omega | intro _ | (simp only [decide_eq_true_eq, decide_eq_false_iff_not, beq_iff_eq, Int.not_lt, Int.not_le] at *; omega))); first | done | fail) (fun h => ?_) (fun h => ?_) <;> (try simp only [Bool.or_eq_true, Bool.and_eq_true, Bool.or_eq_false_iff, Bool.and_eq_false_iff, decide_eq_true_eq, decide_eq_false_iff_not, beq_iff_eq, bne_iff_ne, beq_eq_false_iff_ne, bne_eq_false_iff_eq, ne_eq, Decidable.not_not, List.cons.injEq, and_true, Bool.not_eq_true', Bool.not_eq_false', Int.not_lt, Int.not_le] at h) <;> (try (exfalso; omega)) <;> (try (exfalso; simp at h; done)) <;> (try (exfalso; simp only [not_true_eq_false, false_or, or_false] at h; omega)) <;> (try (exfalso; simp only [hwr, not_true_eq_false, false_or, or_false] at h; omega)))
                  )
                | (refine S_id ?_; first
                    | refine S_load rfl (by (repeat' (first | exact trivial | apply And.intro | rfl | omega | intro _ | (simp only [decide_eq_true_eq, decide_eq_false_iff_not, beq_iff_eq, Int.not_lt, Int.not_le] at *; omega))); first | done | fail) rfl [.int .i64 (slN n d P j)] (.row 0 _ rfl g 10 c1 ((j : Int).toNat * 1) rfl rfl (rng_at hlt2)) rfl (.inr ⟨rfl, rfl⟩) ?_
                    | (refine S_callM rfl (by (repeat' (first | exact trivial | apply And.intro | rfl | omega | intro _ | (simp only [decide_eq_true_eq, decide_eq_false_iff_not, beq_iff_eq, Int.not_lt, Int.not_le] at *; omega))); first | done | fail) (by kernel_rfl) (fun w hw => lk_c hclk hlt2 h4.1 h4.2 (lock_one hclk hlt2 h4.1 h4.2 hw0) (m := 2) rfl (xs := [.int .i64 (wrN n d P j), .int .i64 0]) rfl w) (fun w1L w2L vL hw1L hbL hRL => ?_); obtain ⟨AL, cL, rfl, hSL⟩ := hRL; obtain ⟨adL, rfl⟩ := hSL.rd.some (by simp))
                    | refine S_loadG rfl rfl (fun hg => (by (repeat' (first | exact trivial | apply And.intro | rfl | omega | intro _ | (simp only [decide_eq_true_eq, decide_eq_false_iff_not, beq_iff_eq, Int.not_lt, Int.not_le] at *; omega))); first | done | fail)) rfl [.int .i64 (wrN n d P j)] (fun hg => .past (w2L, fun b => w1L.heap.size ≤ b ∧ b < w2L.heap.size) (by repeat (first | exact List.Mem.head _ | apply List.Mem.tail)) _ _ hSL 0 _ rfl rfl (by intro j u hu; cases j with | zero => simpa using hu | succ j => simp at hu)) rfl (.inr ⟨rfl, rfl⟩) ?_
                    | refine S_loadG rfl rfl (fun hg => (by (repeat' (first | exact trivial | apply And.intro | rfl | omega | intro _ | (simp only [decide_eq_true_eq, decide_eq_false_iff_not, beq_iff_eq, Int.not_lt, Int.not_le] at *; omega))); first | done | fail)) rfl [.int .i64 0] (fun hg => .past (w2L, fun b => w1L.heap.size ≤ b ∧ b < w2L.heap.size) (by repeat (first | exact List.Mem.head _ | apply List.Mem.tail)) _ _ hSL 1 _ rfl rfl (by intro j u hu; cases j with | zero => simpa using hu | succ j => simp at hu)) rfl (.inr ⟨rfl, rfl⟩) ?_
                    | refine S_nil ?_
                    | refine S_run rfl rfl (by (repeat' (first | exact trivial | apply And.intro | rfl | omega | intro _ | (simp only [decide_eq_true_eq, decide_eq_false_iff_not, beq_iff_eq, Int.not_lt, Int.not_le] at *; omega))); first | done | fail) (by (repeat' (first | exact trivial | apply And.intro | rfl | omega | intro _ | (simp only [decide_eq_true_eq, decide_eq_false_iff_not, beq_iff_eq, Int.not_lt, Int.not_le] at *; omega))); first | done | fail) ?_
                    | refine S_box (fun b => ⟨_, _, rfl, (by (repeat' (first | exact trivial | apply And.intro | rfl | omega | intro _ | (simp only [decide_eq_true_eq, decide_eq_false_iff_not, beq_iff_eq, Int.not_lt, Int.not_le] at *; omega))); first | done | fail), ?_⟩)
                    | refine S_slice (fun b => ⟨_, _, rfl, (by (repeat' (first | exact trivial | apply And.intro | rfl | omega | intro _ | (simp only [decide_eq_true_eq, decide_eq_false_iff_not, beq_iff_eq, Int.not_lt, Int.not_le] at *; omega))); first | done | fail), ?_⟩)
                    | refine S_one rfl (by (repeat' (first | exact trivial | apply And.intro | rfl | omega | intro _ | (simp only [decide_eq_true_eq, decide_eq_false_iff_not, beq_iff_eq, Int.not_lt, Int.not_le] at *; omega))); first | done | fail) ?_
                  )
                | (refine G_id ?_; first
                    | refine G_loop (j + 1) (by omega) (by omega) ⟨⟨_, rfl, (by (repeat' (first | exact trivial | exact congrArg (fun x => AV.s (PV.v (Value.int .i64 x))) hsm | apply And.intro | rfl | omega | intro _ | (simp only [decide_eq_true_eq, decide_eq_false_iff_not, beq_iff_eq, Int.not_lt, Int.not_le] at *; omega))); first | done | fail)⟩, ⟨_, rfl⟩, rfl, (by intro p hp; repeat (first | exact hp | apply List.mem_cons_of_mem))⟩
                    | refine G_then ?_
                    | refine G_block ?_
                    | refine G_blockX ?_
                    | refine G_blockN rfl ?_
                    | refine G_blockR ?_
                    | refine G_thenR ?_
                    | refine G_thenX ?_
                    | refine G_ret rfl (by (repeat' (first | exact trivial | apply And.intro | rfl | omega | intro _ | (simp only [decide_eq_true_eq, decide_eq_false_iff_not, beq_iff_eq, Int.not_lt, Int.not_le] at *; omega))); first | done | fail) (fun w hw => ⟨?_, hw.below⟩)
                  )
                )
        · obtain rfl : j = 10 := by omega
          have hs10 : smN n d P 10 = cN n d P 10 - 10 * P := rfl
          have hc10 := cN_bd hclk (Nat.le_refl 10)
          have hmb := smN_bd hclk (Nat.le_refl 10)
          by_cases hl : max (smN n d P 10) (0 - smN n d P 10) ≠ 0 ∧ max (smN n d P 10) (0 - smN n d P 10) ≤ 1000
          · have hlaw := slip_law hclk rfl hl.1 hl.2
            repeat' (first
                | (refine C_id ?_; first
                    | refine C_seq ?_
                    | refine C_region rfl ?_
                    | refine C_block ?_
                    | refine C_skip ?_
                    | refine C_exit ?_
                    | refine C_ret0 ?_
                    | refine C_condT rfl (by (repeat' (first | exact trivial | apply And.intro | rfl | omega | intro _ | (simp only [decide_eq_true_eq, decide_eq_false_iff_not, beq_iff_eq, Int.not_lt, Int.not_le] at *; omega))); first | done | fail) ?_
                    | refine C_condF rfl (by (repeat' (first | exact trivial | apply And.intro | rfl | omega | intro _ | (simp only [decide_eq_true_eq, decide_eq_false_iff_not, beq_iff_eq, Int.not_lt, Int.not_le] at *; omega))); first | done | fail) ?_
                    | (refine C_cond rfl (by (repeat' (first | exact trivial | apply And.intro | rfl | omega | intro _ | (simp only [decide_eq_true_eq, decide_eq_false_iff_not, beq_iff_eq, Int.not_lt, Int.not_le] at *; omega))); first | done | fail) (fun h => ?_) (fun h => ?_) <;> (try simp only [Bool.or_eq_true, Bool.and_eq_true, Bool.or_eq_false_iff, Bool.and_eq_false_iff, decide_eq_true_eq, decide_eq_false_iff_not, beq_iff_eq, bne_iff_ne, beq_eq_false_iff_ne, bne_eq_false_iff_eq, ne_eq, Decidable.not_not, List.cons.injEq, and_true, Bool.not_eq_true', Bool.not_eq_false', Int.not_lt, Int.not_le] at h) <;> (try (exfalso; omega)) <;> (try (exfalso; simp at h; done)) <;> (try (exfalso; simp only [not_true_eq_false, false_or, or_false] at h; omega)))
                  )
                | (refine S_id ?_; first
                    | refine S_nil ?_
                    | refine S_run rfl rfl (by (repeat' (first | exact trivial | apply And.intro | rfl | omega | intro _ | (simp only [decide_eq_true_eq, decide_eq_false_iff_not, beq_iff_eq, Int.not_lt, Int.not_le] at *; omega))); first | done | fail) (by (repeat' (first | exact trivial | apply And.intro | rfl | omega | intro _ | (simp only [decide_eq_true_eq, decide_eq_false_iff_not, beq_iff_eq, Int.not_lt, Int.not_le] at *; omega))); first | done | fail) ?_
                    | refine S_box (fun b => ⟨_, _, rfl, (by (repeat' (first | exact trivial | apply And.intro | rfl | omega | intro _ | (simp only [decide_eq_true_eq, decide_eq_false_iff_not, beq_iff_eq, Int.not_lt, Int.not_le] at *; omega))); first | done | fail), ?_⟩)
                    | refine S_slice (fun b => ⟨_, _, rfl, (by (repeat' (first | exact trivial | apply And.intro | rfl | omega | intro _ | (simp only [decide_eq_true_eq, decide_eq_false_iff_not, beq_iff_eq, Int.not_lt, Int.not_le] at *; omega))); first | done | fail), ?_⟩)
                    | refine S_one rfl (by (repeat' (first | exact trivial | apply And.intro | rfl | omega | intro _ | (simp only [decide_eq_true_eq, decide_eq_false_iff_not, beq_iff_eq, Int.not_lt, Int.not_le] at *; omega))); first | done | fail) ?_
                    | refine S_call rfl (by (repeat' (first | exact trivial | apply And.intro | rfl | omega | intro _ | (simp only [decide_eq_true_eq, decide_eq_false_iff_not, beq_iff_eq, Int.not_lt, Int.not_le] at *; omega))); first | done | fail) (by kernel_rfl) (fun w hw => rCheckFormat_c f w) ?_
                    | refine S_call rfl (by (repeat' (first | exact trivial | apply And.intro | rfl | omega | intro _ | (simp only [decide_eq_true_eq, decide_eq_false_iff_not, beq_iff_eq, Int.not_lt, Int.not_le] at *; omega))); first | done | fail) (by kernel_rfl) (fun w hw => rCheckClock_c n d w) ?_
                    | refine S_callG rfl rfl (fun hg => (by (repeat' (first | exact trivial | apply And.intro | rfl | omega | intro _ | (simp only [decide_eq_true_eq, decide_eq_false_iff_not, beq_iff_eq, Int.not_lt, Int.not_le] at *; omega))); first | done | fail)) (by kernel_rfl) (fun hg w hw => rCheckClock_c n d w) ?_
                    | refine S_call rfl (by (repeat' (first | exact trivial | apply And.intro | rfl | omega | intro _ | (simp only [decide_eq_true_eq, decide_eq_false_iff_not, beq_iff_eq, Int.not_lt, Int.not_le] at *; omega))); first | done | fail) (by kernel_rfl) (fun w hw => dollyPhase_c w) ?_
                    | refine S_callG rfl rfl (fun hg => (by (repeat' (first | exact trivial | apply And.intro | rfl | omega | intro _ | (simp only [decide_eq_true_eq, decide_eq_false_iff_not, beq_iff_eq, Int.not_lt, Int.not_le] at *; omega))); first | done | fail)) (by kernel_rfl) (fun hg w hw => dollyPhase_c w) ?_
                    | refine S_call rfl (by (repeat' (first | exact trivial | apply And.intro | rfl | omega | intro _ | (simp only [decide_eq_true_eq, decide_eq_false_iff_not, beq_iff_eq, Int.not_lt, Int.not_le] at *; omega))); first | done | fail) (by kernel_rfl) (fun w hw => cnt_c hclk (k := 10) (Nat.le_refl _) rfl w) ?_
                    | refine S_call rfl (by (repeat' (first | exact trivial | apply And.intro | rfl | omega | intro _ | (simp only [decide_eq_true_eq, decide_eq_false_iff_not, beq_iff_eq, Int.not_lt, Int.not_le] at *; omega))); first | done | fail) (by kernel_rfl) (fun w hw => slp_c hclk rfl hl.1 hl.2 w) ?_
                  )
                | (refine G_id ?_; first
                    | refine G_then ?_
                    | refine G_block ?_
                    | refine G_blockX ?_
                    | refine G_blockN rfl ?_
                    | refine G_blockR ?_
                    | refine G_thenR ?_
                    | refine G_thenX ?_
                    | refine G_ret rfl (by (repeat' (first | exact trivial | apply And.intro | rfl | omega | intro _ | (simp only [decide_eq_true_eq, decide_eq_false_iff_not, beq_iff_eq, Int.not_lt, Int.not_le] at *; omega))); first | done | fail) (fun w hw => ⟨?_, hw.below⟩)
                  )
                )
            all_goals (obtain ⟨_, q1, q2⟩ := hlaw; generalize slipN n d (max (smN n d P 10) (0 - smN n d P 10)) = N at q1 q2 ⊢; simp [q1, q2])
          · repeat' (first
                | (refine C_id ?_; first
                    | refine C_seq ?_
                    | refine C_region rfl ?_
                    | refine C_block ?_
                    | refine C_skip ?_
                    | refine C_exit ?_
                    | refine C_ret0 ?_
                    | refine C_condT rfl (by (repeat' (first | exact trivial | apply And.intro | rfl | omega | intro _ | (simp only [decide_eq_true_eq, decide_eq_false_iff_not, beq_iff_eq, Int.not_lt, Int.not_le] at *; omega))); first | done | fail) ?_
                    | refine C_condF rfl (by (repeat' (first | exact trivial | apply And.intro | rfl | omega | intro _ | (simp only [decide_eq_true_eq, decide_eq_false_iff_not, beq_iff_eq, Int.not_lt, Int.not_le] at *; omega))); first | done | fail) ?_
                    | (refine C_cond rfl (by (repeat' (first | exact trivial | apply And.intro | rfl | omega | intro _ | (simp only [decide_eq_true_eq, decide_eq_false_iff_not, beq_iff_eq, Int.not_lt, Int.not_le] at *; omega))); first | done | fail) (fun h => ?_) (fun h => ?_) <;> (try simp only [Bool.or_eq_true, Bool.and_eq_true, Bool.or_eq_false_iff, Bool.and_eq_false_iff, decide_eq_true_eq, decide_eq_false_iff_not, beq_iff_eq, bne_iff_ne, beq_eq_false_iff_ne, bne_eq_false_iff_eq, ne_eq, Decidable.not_not, List.cons.injEq, and_true, Bool.not_eq_true', Bool.not_eq_false', Int.not_lt, Int.not_le] at h) <;> (try (exfalso; omega)) <;> (try (exfalso; simp at h; done)) <;> (try (exfalso; simp only [not_true_eq_false, false_or, or_false] at h; omega)))
                  )
                | (refine S_id ?_; first
                    | refine S_nil ?_
                    | refine S_run rfl rfl (by (repeat' (first | exact trivial | apply And.intro | rfl | omega | intro _ | (simp only [decide_eq_true_eq, decide_eq_false_iff_not, beq_iff_eq, Int.not_lt, Int.not_le] at *; omega))); first | done | fail) (by (repeat' (first | exact trivial | apply And.intro | rfl | omega | intro _ | (simp only [decide_eq_true_eq, decide_eq_false_iff_not, beq_iff_eq, Int.not_lt, Int.not_le] at *; omega))); first | done | fail) ?_
                    | refine S_box (fun b => ⟨_, _, rfl, (by (repeat' (first | exact trivial | apply And.intro | rfl | omega | intro _ | (simp only [decide_eq_true_eq, decide_eq_false_iff_not, beq_iff_eq, Int.not_lt, Int.not_le] at *; omega))); first | done | fail), ?_⟩)
                    | refine S_slice (fun b => ⟨_, _, rfl, (by (repeat' (first | exact trivial | apply And.intro | rfl | omega | intro _ | (simp only [decide_eq_true_eq, decide_eq_false_iff_not, beq_iff_eq, Int.not_lt, Int.not_le] at *; omega))); first | done | fail), ?_⟩)
                    | refine S_one rfl (by (repeat' (first | exact trivial | apply And.intro | rfl | omega | intro _ | (simp only [decide_eq_true_eq, decide_eq_false_iff_not, beq_iff_eq, Int.not_lt, Int.not_le] at *; omega))); first | done | fail) ?_
                    | refine S_call rfl (by (repeat' (first | exact trivial | apply And.intro | rfl | omega | intro _ | (simp only [decide_eq_true_eq, decide_eq_false_iff_not, beq_iff_eq, Int.not_lt, Int.not_le] at *; omega))); first | done | fail) (by kernel_rfl) (fun w hw => rCheckFormat_c f w) ?_
                    | refine S_call rfl (by (repeat' (first | exact trivial | apply And.intro | rfl | omega | intro _ | (simp only [decide_eq_true_eq, decide_eq_false_iff_not, beq_iff_eq, Int.not_lt, Int.not_le] at *; omega))); first | done | fail) (by kernel_rfl) (fun w hw => rCheckClock_c n d w) ?_
                    | refine S_callG rfl rfl (fun hg => (by (repeat' (first | exact trivial | apply And.intro | rfl | omega | intro _ | (simp only [decide_eq_true_eq, decide_eq_false_iff_not, beq_iff_eq, Int.not_lt, Int.not_le] at *; omega))); first | done | fail)) (by kernel_rfl) (fun hg w hw => rCheckClock_c n d w) ?_
                    | refine S_call rfl (by (repeat' (first | exact trivial | apply And.intro | rfl | omega | intro _ | (simp only [decide_eq_true_eq, decide_eq_false_iff_not, beq_iff_eq, Int.not_lt, Int.not_le] at *; omega))); first | done | fail) (by kernel_rfl) (fun w hw => dollyPhase_c w) ?_
                    | refine S_callG rfl rfl (fun hg => (by (repeat' (first | exact trivial | apply And.intro | rfl | omega | intro _ | (simp only [decide_eq_true_eq, decide_eq_false_iff_not, beq_iff_eq, Int.not_lt, Int.not_le] at *; omega))); first | done | fail)) (by kernel_rfl) (fun hg w hw => dollyPhase_c w) ?_
                    | refine S_call rfl (by (repeat' (first | exact trivial | apply And.intro | rfl | omega | intro _ | (simp only [decide_eq_true_eq, decide_eq_false_iff_not, beq_iff_eq, Int.not_lt, Int.not_le] at *; omega))); first | done | fail) (by kernel_rfl) (fun w hw => cnt_c hclk (k := 10) (Nat.le_refl _) rfl w) ?_
                  )
                | (refine G_id ?_; first
                    | refine G_then ?_
                    | refine G_block ?_
                    | refine G_blockX ?_
                    | refine G_blockN rfl ?_
                    | refine G_blockR ?_
                    | refine G_thenR ?_
                    | refine G_thenX ?_
                    | refine G_ret rfl (by (repeat' (first | exact trivial | apply And.intro | rfl | omega | intro _ | (simp only [decide_eq_true_eq, decide_eq_false_iff_not, beq_iff_eq, Int.not_lt, Int.not_le] at *; omega))); first | done | fail) (fun w hw => ⟨?_, hw.below⟩)
                  )
                )
            all_goals rfl
      · repeat' (first
            | (refine C_id ?_; first
                | refine C_seq ?_
                | refine C_region rfl ?_
                | refine C_block ?_
                | refine C_skip ?_
                | refine C_exit ?_
                | refine C_ret0 ?_
                | refine C_condT rfl (by (repeat' (first | exact trivial | apply And.intro | rfl | omega | intro _ | (simp only [decide_eq_true_eq, decide_eq_false_iff_not, beq_iff_eq, Int.not_lt, Int.not_le] at *; omega))); first | done | fail) ?_
                | refine C_condF rfl (by (repeat' (first | exact trivial | apply And.intro | rfl | omega | intro _ | (simp only [decide_eq_true_eq, decide_eq_false_iff_not, beq_iff_eq, Int.not_lt, Int.not_le] at *; omega))); first | done | fail) ?_
                | (refine C_cond rfl (by (repeat' (first | exact trivial | apply And.intro | rfl | omega | intro _ | (simp only [decide_eq_true_eq, decide_eq_false_iff_not, beq_iff_eq, Int.not_lt, Int.not_le] at *; omega))); first | done | fail) (fun h => ?_) (fun h => ?_) <;> (try simp only [Bool.or_eq_true, Bool.and_eq_true, Bool.or_eq_false_iff, Bool.and_eq_false_iff, decide_eq_true_eq, decide_eq_false_iff_not, beq_iff_eq, bne_iff_ne, beq_eq_false_iff_ne, bne_eq_false_iff_eq, ne_eq, Decidable.not_not, List.cons.injEq, and_true, Bool.not_eq_true', Bool.not_eq_false', Int.not_lt, Int.not_le] at h) <;> (try (exfalso; omega)) <;> (try (exfalso; simp at h; done)) <;> (try (exfalso; simp only [not_true_eq_false, false_or, or_false] at h; omega)))
              )
            | (refine S_id ?_; first
                | refine S_nil ?_
                | refine S_run rfl rfl (by (repeat' (first | exact trivial | apply And.intro | rfl | omega | intro _ | (simp only [decide_eq_true_eq, decide_eq_false_iff_not, beq_iff_eq, Int.not_lt, Int.not_le] at *; omega))); first | done | fail) (by (repeat' (first | exact trivial | apply And.intro | rfl | omega | intro _ | (simp only [decide_eq_true_eq, decide_eq_false_iff_not, beq_iff_eq, Int.not_lt, Int.not_le] at *; omega))); first | done | fail) ?_
                | refine S_box (fun b => ⟨_, _, rfl, (by (repeat' (first | exact trivial | apply And.intro | rfl | omega | intro _ | (simp only [decide_eq_true_eq, decide_eq_false_iff_not, beq_iff_eq, Int.not_lt, Int.not_le] at *; omega))); first | done | fail), ?_⟩)
                | refine S_slice (fun b => ⟨_, _, rfl, (by (repeat' (first | exact trivial | apply And.intro | rfl | omega | intro _ | (simp only [decide_eq_true_eq, decide_eq_false_iff_not, beq_iff_eq, Int.not_lt, Int.not_le] at *; omega))); first | done | fail), ?_⟩)
                | refine S_call rfl (by (repeat' (first | exact trivial | apply And.intro | rfl | omega | intro _ | (simp only [decide_eq_true_eq, decide_eq_false_iff_not, beq_iff_eq, Int.not_lt, Int.not_le] at *; omega))); first | done | fail) (by kernel_rfl) (fun w hw => rCheckFormat_c f w) ?_
                | refine S_call rfl (by (repeat' (first | exact trivial | apply And.intro | rfl | omega | intro _ | (simp only [decide_eq_true_eq, decide_eq_false_iff_not, beq_iff_eq, Int.not_lt, Int.not_le] at *; omega))); first | done | fail) (by kernel_rfl) (fun w hw => rCheckClock_c n d w) ?_
                | refine S_callG rfl rfl (fun hg => (by (repeat' (first | exact trivial | apply And.intro | rfl | omega | intro _ | (simp only [decide_eq_true_eq, decide_eq_false_iff_not, beq_iff_eq, Int.not_lt, Int.not_le] at *; omega))); first | done | fail)) (by kernel_rfl) (fun hg w hw => rCheckClock_c n d w) ?_
                | refine S_call rfl (by (repeat' (first | exact trivial | apply And.intro | rfl | omega | intro _ | (simp only [decide_eq_true_eq, decide_eq_false_iff_not, beq_iff_eq, Int.not_lt, Int.not_le] at *; omega))); first | done | fail) (by kernel_rfl) (fun w hw => dollyPhase_c w) ?_
                | refine S_callG rfl rfl (fun hg => (by (repeat' (first | exact trivial | apply And.intro | rfl | omega | intro _ | (simp only [decide_eq_true_eq, decide_eq_false_iff_not, beq_iff_eq, Int.not_lt, Int.not_le] at *; omega))); first | done | fail)) (by kernel_rfl) (fun hg w hw => dollyPhase_c w) ?_
              )
            | (refine G_id ?_; first
                | refine G_then ?_
                | refine G_block ?_
                | refine G_blockX ?_
                | refine G_blockN rfl ?_
                | refine G_blockR ?_
                | refine G_thenR ?_
                | refine G_thenX ?_
                | refine G_ret rfl (by (repeat' (first | exact trivial | apply And.intro | rfl | omega | intro _ | (simp only [decide_eq_true_eq, decide_eq_false_iff_not, beq_iff_eq, Int.not_lt, Int.not_le] at *; omega))); first | done | fail) (fun w hw => ⟨?_, hw.below⟩)
              )
            )
        all_goals rfl
  · repeat' (first
        | (refine C_id ?_; first
            | refine C_seq ?_
            | refine C_region rfl ?_
            | refine C_block ?_
            | refine C_skip ?_
            | refine C_exit ?_
            | refine C_ret0 ?_
            | refine C_condT rfl (by (repeat' (first | exact trivial | apply And.intro | rfl | omega | intro _ | (simp only [decide_eq_true_eq, decide_eq_false_iff_not, beq_iff_eq, Int.not_lt, Int.not_le] at *; omega))); first | done | fail) ?_
            | refine C_condF rfl (by (repeat' (first | exact trivial | apply And.intro | rfl | omega | intro _ | (simp only [decide_eq_true_eq, decide_eq_false_iff_not, beq_iff_eq, Int.not_lt, Int.not_le] at *; omega))); first | done | fail) ?_
            | (refine C_cond rfl (by (repeat' (first | exact trivial | apply And.intro | rfl | omega | intro _ | (simp only [decide_eq_true_eq, decide_eq_false_iff_not, beq_iff_eq, Int.not_lt, Int.not_le] at *; omega))); first | done | fail) (fun h => ?_) (fun h => ?_) <;> (try simp only [Bool.or_eq_true, Bool.and_eq_true, Bool.or_eq_false_iff, Bool.and_eq_false_iff, decide_eq_true_eq, decide_eq_false_iff_not, beq_iff_eq, bne_iff_ne, beq_eq_false_iff_ne, bne_eq_false_iff_eq, ne_eq, Decidable.not_not, List.cons.injEq, and_true, Bool.not_eq_true', Bool.not_eq_false', Int.not_lt, Int.not_le] at h) <;> (try (exfalso; omega)) <;> (try (exfalso; simp at h; done)) <;> (try (exfalso; simp only [not_true_eq_false, false_or, or_false] at h; omega)))
          )
        | (refine S_id ?_; first
            | refine S_nil ?_
            | refine S_run rfl rfl (by (repeat' (first | exact trivial | apply And.intro | rfl | omega | intro _ | (simp only [decide_eq_true_eq, decide_eq_false_iff_not, beq_iff_eq, Int.not_lt, Int.not_le] at *; omega))); first | done | fail) (by (repeat' (first | exact trivial | apply And.intro | rfl | omega | intro _ | (simp only [decide_eq_true_eq, decide_eq_false_iff_not, beq_iff_eq, Int.not_lt, Int.not_le] at *; omega))); first | done | fail) ?_
            | refine S_box (fun b => ⟨_, _, rfl, (by (repeat' (first | exact trivial | apply And.intro | rfl | omega | intro _ | (simp only [decide_eq_true_eq, decide_eq_false_iff_not, beq_iff_eq, Int.not_lt, Int.not_le] at *; omega))); first | done | fail), ?_⟩)
            | refine S_slice (fun b => ⟨_, _, rfl, (by (repeat' (first | exact trivial | apply And.intro | rfl | omega | intro _ | (simp only [decide_eq_true_eq, decide_eq_false_iff_not, beq_iff_eq, Int.not_lt, Int.not_le] at *; omega))); first | done | fail), ?_⟩)
            | refine S_call rfl (by (repeat' (first | exact trivial | apply And.intro | rfl | omega | intro _ | (simp only [decide_eq_true_eq, decide_eq_false_iff_not, beq_iff_eq, Int.not_lt, Int.not_le] at *; omega))); first | done | fail) (by kernel_rfl) (fun w hw => rCheckFormat_c f w) ?_
            | refine S_call rfl (by (repeat' (first | exact trivial | apply And.intro | rfl | omega | intro _ | (simp only [decide_eq_true_eq, decide_eq_false_iff_not, beq_iff_eq, Int.not_lt, Int.not_le] at *; omega))); first | done | fail) (by kernel_rfl) (fun w hw => rCheckClock_c n d w) ?_
            | refine S_callG rfl rfl (fun hg => (by (repeat' (first | exact trivial | apply And.intro | rfl | omega | intro _ | (simp only [decide_eq_true_eq, decide_eq_false_iff_not, beq_iff_eq, Int.not_lt, Int.not_le] at *; omega))); first | done | fail)) (by kernel_rfl) (fun hg w hw => rCheckClock_c n d w) ?_
            | refine S_call rfl (by (repeat' (first | exact trivial | apply And.intro | rfl | omega | intro _ | (simp only [decide_eq_true_eq, decide_eq_false_iff_not, beq_iff_eq, Int.not_lt, Int.not_le] at *; omega))); first | done | fail) (by kernel_rfl) (fun w hw => dollyPhase_c w) ?_
            | refine S_callG rfl rfl (fun hg => (by (repeat' (first | exact trivial | apply And.intro | rfl | omega | intro _ | (simp only [decide_eq_true_eq, decide_eq_false_iff_not, beq_iff_eq, Int.not_lt, Int.not_le] at *; omega))); first | done | fail)) (by kernel_rfl) (fun hg w hw => dollyPhase_c w) ?_
          )
        | (refine G_id ?_; first
            | refine G_then ?_
            | refine G_block ?_
            | refine G_blockX ?_
            | refine G_blockN rfl ?_
            | refine G_blockR ?_
            | refine G_thenR ?_
            | refine G_thenX ?_
            | refine G_ret rfl (by (repeat' (first | exact trivial | apply And.intro | rfl | omega | intro _ | (simp only [decide_eq_true_eq, decide_eq_false_iff_not, beq_iff_eq, Int.not_lt, Int.not_le] at *; omega))); first | done | fail) (fun w hw => ⟨?_, hw.below⟩)
          )
        )
    all_goals rfl

end Go.Proofs.YtmfophoejjcnlaaDoor
