/- The law of steps: the walk. -/
import Derived.Test.YtmfophoejjcnlaaGreatDoorTiming36
import Derived.Test.YtmfophoejjcnlaaGreatDoorTiming46
import Derived.Test.YtmfophoejjcnlaaGreatDoorEng3
namespace Go.Proofs.YtmfophoejjcnlaaGreatDoor
open Go.E Go.RowKit
attribute [local irreducible] G C S D Calls
set_option maxRecDepth 100000
set_option linter.unusedSimpArgs false
set_option linter.unusedVariables false

theorem ld1 {L : List Int} {i : Nat} {z : Int} (h : L[i]? = some z) : ∀ (j : Nat) (u : Value), ([.int .i64 z] : List Value)[j]? = some u → (L.map (Value.int .i64))[i + j]? = some u := by
  intro j u hu
  cases j with
  | succ j => simp at hu
  | zero =>
    simp only [List.getElem?_cons_zero, Option.some.injEq] at hu
    subst hu
    simp [h]
theorem counted_ok_c (n d t : Int) (hc : clockE n d = 0) (ht : 0 ≤ t ∧ t ≤ 10000000) (w : World) : Calls Tryz.prog 39 #[.agg #[.int .i64 n, .int .i64 d], .int .i64 t] w fun r w' => r = .returned (.tuple #[.int .i64 (t * n / d), .int .i64 0]) ∧ Below w.heap.size w w' := by
  have h := Counted_c n d t w
  rw [countR_ok hc ht] at h
  exact h
theorem slip_as_c (n d t a b : Int) (hs : slipR n d t = (a, b)) (w : World) : Calls Tryz.prog 40 #[.agg #[.int .i64 n, .int .i64 d], .int .i64 t] w fun r w' => r = .returned (.tuple #[.int .i64 a, .int .i64 b]) ∧ Below w.heap.size w w' := by
  have h := Slip_c n d t w
  rw [hs] at h
  exact h
theorem lastI {L : List Int} (h : 0 < L.length) : ((L.length : Int) - 1).toNat * 1 = L.length - 1 := by omega

set_option maxHeartbeats 2000000 in
/-- genlocklaw04.TimingSteps -/
theorem lSteps_c (x0 x1 x2 n d k0 k1 : Int) (hx0 : 0 ≤ x0 ∧ x0 ≤ 255) (hx1 : 0 ≤ x1 ∧ x1 ≤ 255) (hx2 : 0 ≤ x2 ∧ x2 ≤ 255) (hk0 : 0 ≤ k0 ∧ k0 ≤ 65535) (hk1 : 0 ≤ k1 ∧ k1 ≤ 65535) (w : World) (hE : Ex w) (hP : Pw w) : Calls Tryz.prog 7 #[.agg #[.int .u8 x0, .int .u8 x1, .int .u8 x2], .agg #[.int .i64 n, .int .i64 d], .agg #[.int .u16 k0, .int .u16 k1]] w fun r w' => r = .returned (.bool true) ∧ Below w.heap.size w w' := by
  refine calls_of (args := [.agg #[.int .u8 x0, .int .u8 x1, .int .u8 x2], .agg #[.int .i64 n, .int .i64 d], .agg #[.int .u16 k0, .int .u16 k1]]) T_ok Tryz.func7 rfl Tryz.ntmps7 (Nat.le_of_ble_eq_true rfl) rfl ?_
  by_cases hc : clockE n d = 0
  · obtain ⟨⟨hn1, hd1⟩, _⟩ := clock_ok hc
    have hp0 : 1 ≤ 1 + x0 ∧ 1 + x0 ≤ 256 := by omega
    have hs0 : 1 ≤ 1 + x2 ∧ 1 + x2 ≤ 256 := by omega
    have hw0 := Int.emod_nonneg x1 (show 1 + x0 ≠ 0 by omega)
    have hw1 := Int.emod_lt_of_pos x1 (show 0 < 1 + x0 by omega)
    obtain ⟨L, hLR, hLk⟩ := locked (p := 1 + x0) (x := x1 % (1 + x0)) (s := 1 + x2) hp0.2 ⟨hw0, hw1⟩ (by omega)
    have hq0 := Int.ediv_nonneg (show 0 ≤ way (1 + x0) (x1 % (1 + x0)) + (1 + x2) - 1 by unfold way; omega) (show 0 ≤ 1 + x2 by omega)
    have hq1 := Int.ediv_le_self (1 + x2) (show 0 ≤ way (1 + x0) (x1 % (1 + x0)) + (1 + x2) - 1 by unfold way; omega)
    have hwy : 0 ≤ way (1 + x0) (x1 % (1 + x0)) ∧ way (1 + x0) (x1 % (1 + x0)) ≤ 256 := by unfold way; omega
    have hlen := hLk.len
    have hL0 : 0 < L.length := by omega
    have hq0' : 0 ≤ (min (x1 % (1 + x0)) (1 + x0 - x1 % (1 + x0)) + (1 + x2) - 1) / (1 + x2) := hq0
    have hq1' : (min (x1 % (1 + x0)) (1 + x0 - x1 % (1 + x0)) + (1 + x2) - 1) / (1 + x2) ≤ min (x1 % (1 + x0)) (1 + x0 - x1 % (1 + x0)) + (1 + x2) - 1 := hq1
    repeat' (first
 | (refine C_id ?_; first
 | refine C_seq ?_
 | refine C_region rfl ?_
 | refine C_block ?_
 | refine C_skip ?_
 | refine C_exit ?_
 | refine C_ret0 ?_
 | refine C_draw (id := 3) rfl mixed (by kernel_rfl) ?_
 | refine C_draw (id := 12) rfl mixed (by kernel_rfl) ?_
 | refine C_condT rfl (by (repeat' (first | exact trivial | apply And.intro | rfl | omega | intro _ | (simp only [obS] at *; omega))); first | done | fail) ?_
 | refine C_condF rfl (by (repeat' (first | exact trivial | apply And.intro | rfl | omega | intro _ | (simp only [obS] at *; omega))); first | done | fail) ?_
 | (refine C_cond rfl (by (repeat' (first | exact trivial | apply And.intro | rfl | omega | intro _ | (simp only [obS] at *; omega))); first | done | fail) (fun h => ?_) (fun h => ?_) <;> (try simp only [Bool.or_eq_true, Bool.and_eq_true, Bool.or_eq_false_iff, Bool.and_eq_false_iff, decide_eq_true_eq, decide_eq_false_iff_not, beq_iff_eq, bne_iff_ne, beq_eq_false_iff_ne, bne_eq_false_iff_eq, ne_eq, Decidable.not_not, List.cons.injEq, and_true, Bool.not_eq_true', Bool.not_eq_false', Int.not_lt, Int.not_le] at h) <;> (try (exfalso; omega)))
          )
 | (refine S_id ?_; first
 | ((with_reducible refine S_falseN ?_ ?_); · (first | exact decide_eq_false (by omega) | exact bne_self_eq_false _ | (rw [bne_eq_false_iff_eq]; first | rfl | exact hLk.len | omega | assumption) | omega | assumption))
 | ((with_reducible refine S_falseB ?_ ?_); · (first | exact decide_eq_false (by omega) | exact bne_self_eq_false _ | (rw [bne_eq_false_iff_eq]; first | rfl | exact hLk.len | omega | assumption) | omega | assumption))
 | ((with_reducible refine S_falseL ?_ ?_); · (first | exact decide_eq_false (by omega) | exact bne_self_eq_false _ | (rw [bne_eq_false_iff_eq]; first | rfl | exact hLk.len | omega | assumption) | omega | assumption))
 | ((with_reducible refine S_falseD ?_ ?_); · (first | exact decide_eq_false (by omega) | exact bne_self_eq_false _ | (rw [bne_eq_false_iff_eq]; first | rfl | exact hLk.len | omega | assumption) | omega | assumption))
 | ((with_reducible refine S_falseO ?_ ?_ ?_); (· rfl); (· first | rfl | (first | exact decide_eq_false (by omega) | exact bne_self_eq_false _ | (rw [bne_eq_false_iff_eq]; first | rfl | exact hLk.len | omega | assumption) | omega | assumption)))
 | ((with_reducible refine S_trueE ?_ ?_); · (first | exact decide_eq_true (by omega) | exact beq_self_eq_true _ | (rw [beq_iff_eq]; first | rfl | omega | assumption) | omega | assumption))
 | ((with_reducible refine S_trueB ?_ ?_); · (first | exact decide_eq_true (by omega) | exact beq_self_eq_true _ | (rw [beq_iff_eq]; first | rfl | omega | assumption) | omega | assumption))
 | ((with_reducible refine S_trueL ?_ ?_); · (first | exact decide_eq_true (by omega) | exact beq_self_eq_true _ | (rw [beq_iff_eq]; first | rfl | omega | assumption) | omega | assumption))
 | ((with_reducible refine S_trueD ?_ ?_); · (first | exact decide_eq_true (by omega) | exact beq_self_eq_true _ | (rw [beq_iff_eq]; first | rfl | omega | assumption) | omega | assumption))
 | ((with_reducible refine S_trueA ?_ ?_ ?_); (· rfl); (· first | rfl | (first | exact decide_eq_true (by omega) | exact beq_self_eq_true _ | (rw [beq_iff_eq]; first | rfl | omega | assumption) | omega | assumption)))
 | refine S_unG rfl rfl rfl rfl ?_
 | (refine S_callM (f := 38) rfl (by (repeat' (first | exact trivial | apply And.intro | rfl | omega | intro _ | (simp only [obS] at *; omega))); first | done | fail) (by kernel_rfl) (fun w hw => (by have h := Lock_c (1 + x0) (x1 % (1 + x0)) (1 + x2) w; rw [hLR] at h; exact h)) (fun w1L w2L vL hw1L hbL hRL => ?_); obtain ⟨AL, cL, rfl, hSL⟩ := hRL; obtain ⟨adL, rfl⟩ := hSL.rd.some (by rw [List.length_map]; exact hL0))
 | refine S_load rfl (by (repeat' (first | exact trivial | apply And.intro | rfl | omega | intro _ | (simp only [obS] at *; omega))); first | done | fail) rfl [.int .i64 (x1 % (1 + x0))] (.past (w2L, fun b => w1L.heap.size ≤ b ∧ b < w2L.heap.size) (by repeat (first | exact List.Mem.head _ | apply List.Mem.tail)) _ _ hSL (0) _ rfl rfl (ld1 (hLk.first))) rfl (.inr ⟨rfl, rfl⟩) ?_
 | refine S_load rfl (by (repeat' (first | exact trivial | apply And.intro | rfl | omega | intro _ | (simp only [obS] at *; omega))); first | done | fail) rfl [.int .i64 (0)] (.past (w2L, fun b => w1L.heap.size ≤ b ∧ b < w2L.heap.size) (by repeat (first | exact List.Mem.head _ | apply List.Mem.tail)) _ _ hSL (L.length - 1) _ rfl (congrArg adL.add (lastI hL0)) (ld1 (hLk.last))) rfl (.inr ⟨rfl, rfl⟩) ?_
 | refine S_nil ?_
 | refine S_runN rfl rfl (by (repeat' (first | exact trivial | apply And.intro | rfl | omega | intro _ | (simp only [obS] at *; omega))); first | done | fail) (by (repeat' (first | exact trivial | apply And.intro | rfl | omega | intro _ | (simp only [obS] at *; omega))); first | done | fail) ?_
 | refine S_box (fun b => ⟨_, _, rfl, (by (repeat' (first | exact trivial | apply And.intro | rfl | omega | intro _ | (simp only [obS] at *; omega))); first | done | fail), ?_⟩)
 | refine S_slice (fun b => ⟨_, _, rfl, (by (repeat' (first | exact trivial | apply And.intro | rfl | omega | intro _ | (simp only [obS] at *; omega))); first | done | fail), ?_⟩)
 | refine S_call (f := 27) rfl (by (repeat' (first | exact trivial | apply And.intro | rfl | omega | intro _ | (simp only [obS] at *; omega))); first | done | fail) (by kernel_rfl) (fun w hw => awake_c w (hw.rdm hE.toS (by repeat (first | exact List.Mem.head _ | apply List.Mem.tail))) (Pw_at hP hw (by repeat (first | exact List.Mem.head _ | apply List.Mem.tail)))) ?_
 | refine S_call (f := 42) rfl (by (repeat' (first | exact trivial | apply And.intro | rfl | omega | intro _ | (simp only [obS] at *; omega))); first | done | fail) (by kernel_rfl) (fun w hw => rCheckClock_c n d w) ?_
          )
 | (refine D_id ?_; first
 | refine D_nil ?_
 | refine D_tail ?_
 | refine D_run rfl rfl (by (repeat' (first | exact trivial | apply And.intro | rfl | omega | intro _ | (simp only [obS] at *; omega))); first | done | fail) (by (repeat' (first | exact trivial | apply And.intro | rfl | omega | intro _ | (simp only [obS] at *; omega))); first | done | fail) ?_
 | refine D_call (f := 27) rfl (by (repeat' (first | exact trivial | apply And.intro | rfl | omega | intro _ | (simp only [obS] at *; omega))); first | done | fail) (by kernel_rfl) (fun w hw => awake_c w (hw.rdm hE.toS (by repeat (first | exact List.Mem.head _ | apply List.Mem.tail))) (Pw_at hP hw (by repeat (first | exact List.Mem.head _ | apply List.Mem.tail)))) ?_
 | refine D_call (f := 42) rfl (by (repeat' (first | exact trivial | apply And.intro | rfl | omega | intro _ | (simp only [obS] at *; omega))); first | done | fail) (by kernel_rfl) (fun w hw => rCheckClock_c n d w) ?_
          )
 | (refine G_id ?_; first
 | refine G_then ?_
 | refine G_block ?_
 | refine G_blockX ?_
 | refine G_blockN rfl ?_
 | refine G_blockR ?_
 | refine G_thenR ?_
 | refine G_thenX ?_
 | refine G_ret rfl (by (repeat' (first | exact trivial | apply And.intro | rfl | omega | intro _ | (simp only [obS] at *; omega))); first | done | fail) (fun w hw => ⟨?_, hw.below⟩)
          )
        )
    rename_i ba bb
    refine C_loopS (fun i : Nat => ⟨[(13, .s (.v (.int .i64 i))), (10, .s (.v (.slice (some adL) L.length cL))), (7, .s (.v (.int .i64 (1 + x0)))), (8, .s (.v (.int .i64 (1 + x2)))), (12, .s (.v (.int .i64 (min (x1 % (1 + x0)) (1 + x0 - x1 % (1 + x0)))))), (3, .s (.p ba 0 0)), (4, .s (.p bb 1 0)), (5, .s (.p b 2 0))], [⟨ba, 77, [.v (.int .u8 x0), .v (.int .u8 x1), .v (.int .u8 x2)]⟩, ⟨bb, 61, [.v (.int .i64 n), .v (.int .i64 d)]⟩, ⟨b, 79, [.v (.int .u16 k0), .v (.int .u16 k1)]⟩], []⟩) (fun i => 1 ≤ i ∧ (i = 1 ∨ i ≤ L.length - 1)) (fun i => L.length - i) 1 ⟨Nat.le_refl _, .inl rfl⟩ ?_ (fun i hi => ?_)
    · exact ⟨⟨_, rfl, (by (repeat' (first | exact trivial | apply And.intro | rfl | omega | intro _ | (simp only [obS] at *; omega))); first | done | fail)⟩, ⟨_, rfl⟩, rfl, (by intro p hp; repeat (first | exact hp | apply List.mem_cons_of_mem))⟩
    obtain ⟨hi1, hi2⟩ := hi
    dsimp only
    have hLl : L.length ≤ 1000 := by omega
    by_cases hlt : i + 1 < L.length
    · obtain ⟨z, hz⟩ : ∃ z, L[i]? = some z := ⟨L[i], List.getElem?_eq_getElem (by omega)⟩
      have hzb := hLk.rng z (List.mem_of_getElem? hz)
      have hmid : min z (1 + x0 - z) = min (x1 % (1 + x0)) (1 + x0 - x1 % (1 + x0)) - (i : Int) * (1 + x2) := hLk.mid i z hi1 hlt hz
      have his0 : 0 ≤ (i : Int) * (1 + x2) := Int.mul_nonneg (by omega) (by omega)
      have his1 : (i : Int) * (1 + x2) ≤ 1000 * 256 := Int.mul_le_mul (by omega) hs0.2 (by omega) (by omega)
      repeat' (first
 | (refine C_id ?_; first
 | refine C_seq ?_
 | refine C_region rfl ?_
 | refine C_block ?_
 | refine C_skip ?_
 | refine C_exit ?_
 | refine C_ret0 ?_
 | refine C_draw (id := 3) rfl mixed (by kernel_rfl) ?_
 | refine C_draw (id := 12) rfl mixed (by kernel_rfl) ?_
 | refine C_condT rfl (by (repeat' (first | exact trivial | apply And.intro | rfl | omega | intro _ | (simp only [obS] at *; omega))); first | done | fail) ?_
 | refine C_condF rfl (by (repeat' (first | exact trivial | apply And.intro | rfl | omega | intro _ | (simp only [obS] at *; omega))); first | done | fail) ?_
 | (refine C_cond rfl (by (repeat' (first | exact trivial | apply And.intro | rfl | omega | intro _ | (simp only [obS] at *; omega))); first | done | fail) (fun h => ?_) (fun h => ?_) <;> (try simp only [Bool.or_eq_true, Bool.and_eq_true, Bool.or_eq_false_iff, Bool.and_eq_false_iff, decide_eq_true_eq, decide_eq_false_iff_not, beq_iff_eq, bne_iff_ne, beq_eq_false_iff_ne, bne_eq_false_iff_eq, ne_eq, Decidable.not_not, List.cons.injEq, and_true, Bool.not_eq_true', Bool.not_eq_false', Int.not_lt, Int.not_le] at h) <;> (try (exfalso; omega)))
            )
 | (refine S_id ?_; first
 | refine S_nil ?_
 | refine S_run rfl rfl (by (repeat' (first | exact trivial | apply And.intro | rfl | omega | intro _ | (simp only [obS] at *; omega))); first | done | fail) (by (repeat' (first | exact trivial | apply And.intro | rfl | omega | intro _ | (simp only [obS] at *; omega))); first | done | fail) ?_
 | refine S_box (fun b => ⟨_, _, rfl, (by (repeat' (first | exact trivial | apply And.intro | rfl | omega | intro _ | (simp only [obS] at *; omega))); first | done | fail), ?_⟩)
 | refine S_slice (fun b => ⟨_, _, rfl, (by (repeat' (first | exact trivial | apply And.intro | rfl | omega | intro _ | (simp only [obS] at *; omega))); first | done | fail), ?_⟩)
            )
 | (refine D_id ?_; first
 | refine D_load rfl (by (repeat' (first | exact trivial | apply And.intro | rfl | omega | intro _ | (simp only [obS] at *; omega))); first | done | fail) rfl [.int .i64 (z)] (.past (w2L, fun b => w1L.heap.size ≤ b ∧ b < w2L.heap.size) (by repeat (first | exact List.Mem.head _ | apply List.Mem.tail)) _ _ hSL (((i : Nat) : Int).toNat * 1) _ rfl rfl (ld1 (by simpa using hz))) rfl (.inr ⟨rfl, rfl⟩) ?_
 | refine D_nil ?_
 | refine D_tail ?_
 | refine D_run rfl rfl (by (repeat' (first | exact trivial | apply And.intro | rfl | omega | intro _ | (simp only [obS] at *; omega))); first | done | fail) (by (repeat' (first | exact trivial | apply And.intro | rfl | omega | intro _ | (simp only [obS] at *; omega))); first | done | fail) ?_
            )
 | (refine G_id ?_; first
 | refine G_loop (i + 1) ⟨by omega, .inr (by omega)⟩ (by show L.length - (i + 1) < L.length - i; omega) ⟨⟨_, rfl, (by (repeat' (first | exact trivial | apply And.intro | rfl | omega | intro _ | (simp only [obS] at *; omega))); first | done | fail)⟩, ⟨_, rfl⟩, rfl, (by intro p hp; repeat (first | exact hp | apply List.mem_cons_of_mem))⟩
 | refine G_then ?_
 | refine G_block ?_
 | refine G_blockX ?_
 | refine G_blockN rfl ?_
 | refine G_blockR ?_
 | refine G_thenR ?_
 | refine G_thenX ?_
 | refine G_ret rfl (by (repeat' (first | exact trivial | apply And.intro | rfl | omega | intro _ | (simp only [obS] at *; omega))); first | done | fail) (fun w hw => ⟨?_, hw.below⟩)
            )
          )
    · have hk := hk0
      have hm0 : 0 ≤ k0 * n := Int.mul_nonneg hk0.1 (by omega)
      have ha0 := Int.ediv_nonneg hm0 (show 0 ≤ d by omega)
      have hab := count_mono (n := n) (d := d) (a := k0) (b := k0 + 1) hn1.1 hd1.1 (by omega)
      have hbb : (k0 + 1) * n / d ≤ 65536 * 100000 := Int.le_trans (Int.ediv_le_self d (Int.mul_nonneg (by omega) (by omega))) (Int.mul_le_mul (by omega) hn1.2 (by omega) (by omega))
      have hli : 1 ≤ 1 + k1 % 50 ∧ 1 + k1 % 50 ≤ 50 := by omega
      have hSE := slipE_ok (t := 1 + k1 % 50) hc (by omega)
      have hNp := slipN_pos (n := n) (d := d) (t := 1 + k1 % 50) hd1.1 hli.1
      by_cases hnd : n = d
      · have hSR : slipR n d (1 + k1 % 50) = (0, 7) := slipR_big hSE (slipN_none (by omega) (by omega)) (by omega)
        repeat' (first
 | (refine C_id ?_; first
 | refine C_seq ?_
 | refine C_region rfl ?_
 | refine C_block ?_
 | refine C_skip ?_
 | refine C_exit ?_
 | refine C_ret0 ?_
 | refine C_draw (id := 3) rfl mixed (by kernel_rfl) ?_
 | refine C_draw (id := 12) rfl mixed (by kernel_rfl) ?_
 | refine C_condT rfl (by (repeat' (first | exact trivial | apply And.intro | rfl | omega | intro _ | (simp only [obS] at *; omega))); first | done | fail) ?_
 | refine C_condF rfl (by (repeat' (first | exact trivial | apply And.intro | rfl | omega | intro _ | (simp only [obS] at *; omega))); first | done | fail) ?_
 | (refine C_cond rfl (by (repeat' (first | exact trivial | apply And.intro | rfl | omega | intro _ | (simp only [obS] at *; omega))); first | done | fail) (fun h => ?_) (fun h => ?_) <;> (try simp only [Bool.or_eq_true, Bool.and_eq_true, Bool.or_eq_false_iff, Bool.and_eq_false_iff, decide_eq_true_eq, decide_eq_false_iff_not, beq_iff_eq, bne_iff_ne, beq_eq_false_iff_ne, bne_eq_false_iff_eq, ne_eq, Decidable.not_not, List.cons.injEq, and_true, Bool.not_eq_true', Bool.not_eq_false', Int.not_lt, Int.not_le] at h) <;> (try (exfalso; omega)))
              )
 | (refine S_id ?_; first
 | ((with_reducible refine S_falseN ?_ ?_); · (first | exact decide_eq_false (by omega) | exact bne_self_eq_false _ | (rw [bne_eq_false_iff_eq]; first | rfl | exact hLk.len | omega | assumption) | omega | assumption))
 | ((with_reducible refine S_falseB ?_ ?_); · (first | exact decide_eq_false (by omega) | exact bne_self_eq_false _ | (rw [bne_eq_false_iff_eq]; first | rfl | exact hLk.len | omega | assumption) | omega | assumption))
 | ((with_reducible refine S_falseL ?_ ?_); · (first | exact decide_eq_false (by omega) | exact bne_self_eq_false _ | (rw [bne_eq_false_iff_eq]; first | rfl | exact hLk.len | omega | assumption) | omega | assumption))
 | ((with_reducible refine S_falseD ?_ ?_); · (first | exact decide_eq_false (by omega) | exact bne_self_eq_false _ | (rw [bne_eq_false_iff_eq]; first | rfl | exact hLk.len | omega | assumption) | omega | assumption))
 | ((with_reducible refine S_falseO ?_ ?_ ?_); (· rfl); (· first | rfl | (first | exact decide_eq_false (by omega) | exact bne_self_eq_false _ | (rw [bne_eq_false_iff_eq]; first | rfl | exact hLk.len | omega | assumption) | omega | assumption)))
 | ((with_reducible refine S_trueE ?_ ?_); · (first | exact decide_eq_true (by omega) | exact beq_self_eq_true _ | (rw [beq_iff_eq]; first | rfl | omega | assumption) | omega | assumption))
 | ((with_reducible refine S_trueB ?_ ?_); · (first | exact decide_eq_true (by omega) | exact beq_self_eq_true _ | (rw [beq_iff_eq]; first | rfl | omega | assumption) | omega | assumption))
 | ((with_reducible refine S_trueL ?_ ?_); · (first | exact decide_eq_true (by omega) | exact beq_self_eq_true _ | (rw [beq_iff_eq]; first | rfl | omega | assumption) | omega | assumption))
 | ((with_reducible refine S_trueD ?_ ?_); · (first | exact decide_eq_true (by omega) | exact beq_self_eq_true _ | (rw [beq_iff_eq]; first | rfl | omega | assumption) | omega | assumption))
 | ((with_reducible refine S_trueA ?_ ?_ ?_); (· rfl); (· first | rfl | (first | exact decide_eq_true (by omega) | exact beq_self_eq_true _ | (rw [beq_iff_eq]; first | rfl | omega | assumption) | omega | assumption)))
 | refine S_unG rfl rfl rfl rfl ?_
 | refine S_nil ?_
 | refine S_runN rfl rfl (by (repeat' (first | exact trivial | apply And.intro | rfl | omega | intro _ | (simp only [obS] at *; omega))); first | done | fail) (by (repeat' (first | exact trivial | apply And.intro | rfl | omega | intro _ | (simp only [obS] at *; omega))); first | done | fail) ?_
 | refine S_box (fun b => ⟨_, _, rfl, (by (repeat' (first | exact trivial | apply And.intro | rfl | omega | intro _ | (simp only [obS] at *; omega))); first | done | fail), ?_⟩)
 | refine S_slice (fun b => ⟨_, _, rfl, (by (repeat' (first | exact trivial | apply And.intro | rfl | omega | intro _ | (simp only [obS] at *; omega))); first | done | fail), ?_⟩)
 | refine S_call (f := 27) rfl (by (repeat' (first | exact trivial | apply And.intro | rfl | omega | intro _ | (simp only [obS] at *; omega))); first | done | fail) (by kernel_rfl) (fun w hw => awake_c w (hw.rdm hE.toS (by repeat (first | exact List.Mem.head _ | apply List.Mem.tail))) (Pw_at hP hw (by repeat (first | exact List.Mem.head _ | apply List.Mem.tail)))) ?_
 | refine S_call (f := 42) rfl (by (repeat' (first | exact trivial | apply And.intro | rfl | omega | intro _ | (simp only [obS] at *; omega))); first | done | fail) (by kernel_rfl) (fun w hw => rCheckClock_c n d w) ?_
 | refine S_call (f := 39) rfl (by (repeat' (first | exact trivial | apply And.intro | rfl | omega | intro _ | (simp only [obS] at *; omega))); first | done | fail) (by kernel_rfl) (fun w hw => counted_ok_c n d (k0) hc (by omega) w) ?_
 | refine S_call (f := 39) rfl (by (repeat' (first | exact trivial | apply And.intro | rfl | omega | intro _ | (simp only [obS] at *; omega))); first | done | fail) (by kernel_rfl) (fun w hw => counted_ok_c n d (k0 + 1) hc (by omega) w) ?_
 | refine S_call (f := 40) rfl (by (repeat' (first | exact trivial | apply And.intro | rfl | omega | intro _ | (simp only [obS] at *; omega))); first | done | fail) (by kernel_rfl) (fun w hw => slip_as_c n d (1 + k1 % 50) _ _ hSR w) ?_
              )
 | (refine D_id ?_; first
 | refine D_nil ?_
 | refine D_tail ?_
 | refine D_run rfl rfl (by (repeat' (first | exact trivial | apply And.intro | rfl | omega | intro _ | (simp only [obS] at *; omega))); first | done | fail) (by (repeat' (first | exact trivial | apply And.intro | rfl | omega | intro _ | (simp only [obS] at *; omega))); first | done | fail) ?_
 | refine D_call (f := 27) rfl (by (repeat' (first | exact trivial | apply And.intro | rfl | omega | intro _ | (simp only [obS] at *; omega))); first | done | fail) (by kernel_rfl) (fun w hw => awake_c w (hw.rdm hE.toS (by repeat (first | exact List.Mem.head _ | apply List.Mem.tail))) (Pw_at hP hw (by repeat (first | exact List.Mem.head _ | apply List.Mem.tail)))) ?_
 | refine D_call (f := 42) rfl (by (repeat' (first | exact trivial | apply And.intro | rfl | omega | intro _ | (simp only [obS] at *; omega))); first | done | fail) (by kernel_rfl) (fun w hw => rCheckClock_c n d w) ?_
 | refine D_call (f := 39) rfl (by (repeat' (first | exact trivial | apply And.intro | rfl | omega | intro _ | (simp only [obS] at *; omega))); first | done | fail) (by kernel_rfl) (fun w hw => counted_ok_c n d (k0) hc (by omega) w) ?_
 | refine D_call (f := 39) rfl (by (repeat' (first | exact trivial | apply And.intro | rfl | omega | intro _ | (simp only [obS] at *; omega))); first | done | fail) (by kernel_rfl) (fun w hw => counted_ok_c n d (k0 + 1) hc (by omega) w) ?_
 | refine D_call (f := 40) rfl (by (repeat' (first | exact trivial | apply And.intro | rfl | omega | intro _ | (simp only [obS] at *; omega))); first | done | fail) (by kernel_rfl) (fun w hw => slip_as_c n d (1 + k1 % 50) _ _ hSR w) ?_
              )
 | (refine G_id ?_; first
 | refine G_then ?_
 | refine G_block ?_
 | refine G_blockX ?_
 | refine G_blockN rfl ?_
 | refine G_blockR ?_
 | refine G_thenR ?_
 | refine G_thenX ?_
 | refine G_ret rfl (by (repeat' (first | exact trivial | apply And.intro | rfl | omega | intro _ | (simp only [obS] at *; omega))); first | done | fail) (fun w hw => ⟨?_, hw.below⟩)
              )
            )
        all_goals rfl
      · by_cases hbig : 10000000 < slipN n d (1 + k1 % 50)
        · have hSR : slipR n d (1 + k1 % 50) = (0, 7) := slipR_big hSE rfl hbig
          have hgap : ¬ 1 + k1 % 50 ≤ max (10000000 * n / d - 10000000) (0 - (10000000 * n / d - 10000000)) := fun h => absurd ((slip_iff (n := n) (x := 10000000) hd1.1 hli.1 (by omega)).1 h) (by omega)
          have hg0 := Int.ediv_nonneg (show 0 ≤ 10000000 * n by omega) (show 0 ≤ d by omega)
          have hg1 := Int.ediv_le_self d (show 0 ≤ 10000000 * n by omega)
          repeat' (first
 | (refine C_id ?_; first
 | refine C_seq ?_
 | refine C_region rfl ?_
 | refine C_block ?_
 | refine C_skip ?_
 | refine C_exit ?_
 | refine C_ret0 ?_
 | refine C_draw (id := 3) rfl mixed (by kernel_rfl) ?_
 | refine C_draw (id := 12) rfl mixed (by kernel_rfl) ?_
 | refine C_condT rfl (by (repeat' (first | exact trivial | apply And.intro | rfl | omega | intro _ | (simp only [obS] at *; omega))); first | done | fail) ?_
 | refine C_condF rfl (by (repeat' (first | exact trivial | apply And.intro | rfl | omega | intro _ | (simp only [obS] at *; omega))); first | done | fail) ?_
 | (refine C_cond rfl (by (repeat' (first | exact trivial | apply And.intro | rfl | omega | intro _ | (simp only [obS] at *; omega))); first | done | fail) (fun h => ?_) (fun h => ?_) <;> (try simp only [Bool.or_eq_true, Bool.and_eq_true, Bool.or_eq_false_iff, Bool.and_eq_false_iff, decide_eq_true_eq, decide_eq_false_iff_not, beq_iff_eq, bne_iff_ne, beq_eq_false_iff_ne, bne_eq_false_iff_eq, ne_eq, Decidable.not_not, List.cons.injEq, and_true, Bool.not_eq_true', Bool.not_eq_false', Int.not_lt, Int.not_le] at h) <;> (try (exfalso; omega)))
                )
 | (refine S_id ?_; first
 | ((with_reducible refine S_falseN ?_ ?_); · (first | exact decide_eq_false (by omega) | exact bne_self_eq_false _ | (rw [bne_eq_false_iff_eq]; first | rfl | exact hLk.len | omega | assumption) | omega | assumption))
 | ((with_reducible refine S_falseB ?_ ?_); · (first | exact decide_eq_false (by omega) | exact bne_self_eq_false _ | (rw [bne_eq_false_iff_eq]; first | rfl | exact hLk.len | omega | assumption) | omega | assumption))
 | ((with_reducible refine S_falseL ?_ ?_); · (first | exact decide_eq_false (by omega) | exact bne_self_eq_false _ | (rw [bne_eq_false_iff_eq]; first | rfl | exact hLk.len | omega | assumption) | omega | assumption))
 | ((with_reducible refine S_falseD ?_ ?_); · (first | exact decide_eq_false (by omega) | exact bne_self_eq_false _ | (rw [bne_eq_false_iff_eq]; first | rfl | exact hLk.len | omega | assumption) | omega | assumption))
 | ((with_reducible refine S_falseO ?_ ?_ ?_); (· rfl); (· first | rfl | (first | exact decide_eq_false (by omega) | exact bne_self_eq_false _ | (rw [bne_eq_false_iff_eq]; first | rfl | exact hLk.len | omega | assumption) | omega | assumption)))
 | ((with_reducible refine S_trueE ?_ ?_); · (first | exact decide_eq_true (by omega) | exact beq_self_eq_true _ | (rw [beq_iff_eq]; first | rfl | omega | assumption) | omega | assumption))
 | ((with_reducible refine S_trueB ?_ ?_); · (first | exact decide_eq_true (by omega) | exact beq_self_eq_true _ | (rw [beq_iff_eq]; first | rfl | omega | assumption) | omega | assumption))
 | ((with_reducible refine S_trueL ?_ ?_); · (first | exact decide_eq_true (by omega) | exact beq_self_eq_true _ | (rw [beq_iff_eq]; first | rfl | omega | assumption) | omega | assumption))
 | ((with_reducible refine S_trueD ?_ ?_); · (first | exact decide_eq_true (by omega) | exact beq_self_eq_true _ | (rw [beq_iff_eq]; first | rfl | omega | assumption) | omega | assumption))
 | ((with_reducible refine S_trueA ?_ ?_ ?_); (· rfl); (· first | rfl | (first | exact decide_eq_true (by omega) | exact beq_self_eq_true _ | (rw [beq_iff_eq]; first | rfl | omega | assumption) | omega | assumption)))
 | refine S_unG rfl rfl rfl rfl ?_
 | refine S_nil ?_
 | refine S_runN rfl rfl (by (repeat' (first | exact trivial | apply And.intro | rfl | omega | intro _ | (simp only [obS] at *; omega))); first | done | fail) (by (repeat' (first | exact trivial | apply And.intro | rfl | omega | intro _ | (simp only [obS] at *; omega))); first | done | fail) ?_
 | refine S_box (fun b => ⟨_, _, rfl, (by (repeat' (first | exact trivial | apply And.intro | rfl | omega | intro _ | (simp only [obS] at *; omega))); first | done | fail), ?_⟩)
 | refine S_slice (fun b => ⟨_, _, rfl, (by (repeat' (first | exact trivial | apply And.intro | rfl | omega | intro _ | (simp only [obS] at *; omega))); first | done | fail), ?_⟩)
 | refine S_call (f := 27) rfl (by (repeat' (first | exact trivial | apply And.intro | rfl | omega | intro _ | (simp only [obS] at *; omega))); first | done | fail) (by kernel_rfl) (fun w hw => awake_c w (hw.rdm hE.toS (by repeat (first | exact List.Mem.head _ | apply List.Mem.tail))) (Pw_at hP hw (by repeat (first | exact List.Mem.head _ | apply List.Mem.tail)))) ?_
 | refine S_call (f := 42) rfl (by (repeat' (first | exact trivial | apply And.intro | rfl | omega | intro _ | (simp only [obS] at *; omega))); first | done | fail) (by kernel_rfl) (fun w hw => rCheckClock_c n d w) ?_
 | refine S_call (f := 39) rfl (by (repeat' (first | exact trivial | apply And.intro | rfl | omega | intro _ | (simp only [obS] at *; omega))); first | done | fail) (by kernel_rfl) (fun w hw => counted_ok_c n d (k0) hc (by omega) w) ?_
 | refine S_call (f := 39) rfl (by (repeat' (first | exact trivial | apply And.intro | rfl | omega | intro _ | (simp only [obS] at *; omega))); first | done | fail) (by kernel_rfl) (fun w hw => counted_ok_c n d (k0 + 1) hc (by omega) w) ?_
 | refine S_call (f := 39) rfl (by (repeat' (first | exact trivial | apply And.intro | rfl | omega | intro _ | (simp only [obS] at *; omega))); first | done | fail) (by kernel_rfl) (fun w hw => counted_ok_c n d (10000000) hc (by omega) w) ?_
 | refine S_call (f := 40) rfl (by (repeat' (first | exact trivial | apply And.intro | rfl | omega | intro _ | (simp only [obS] at *; omega))); first | done | fail) (by kernel_rfl) (fun w hw => slip_as_c n d (1 + k1 % 50) _ _ hSR w) ?_
                )
 | (refine D_id ?_; first
 | refine D_nil ?_
 | refine D_tail ?_
 | refine D_run rfl rfl (by (repeat' (first | exact trivial | apply And.intro | rfl | omega | intro _ | (simp only [obS] at *; omega))); first | done | fail) (by (repeat' (first | exact trivial | apply And.intro | rfl | omega | intro _ | (simp only [obS] at *; omega))); first | done | fail) ?_
 | refine D_call (f := 27) rfl (by (repeat' (first | exact trivial | apply And.intro | rfl | omega | intro _ | (simp only [obS] at *; omega))); first | done | fail) (by kernel_rfl) (fun w hw => awake_c w (hw.rdm hE.toS (by repeat (first | exact List.Mem.head _ | apply List.Mem.tail))) (Pw_at hP hw (by repeat (first | exact List.Mem.head _ | apply List.Mem.tail)))) ?_
 | refine D_call (f := 42) rfl (by (repeat' (first | exact trivial | apply And.intro | rfl | omega | intro _ | (simp only [obS] at *; omega))); first | done | fail) (by kernel_rfl) (fun w hw => rCheckClock_c n d w) ?_
 | refine D_call (f := 39) rfl (by (repeat' (first | exact trivial | apply And.intro | rfl | omega | intro _ | (simp only [obS] at *; omega))); first | done | fail) (by kernel_rfl) (fun w hw => counted_ok_c n d (k0) hc (by omega) w) ?_
 | refine D_call (f := 39) rfl (by (repeat' (first | exact trivial | apply And.intro | rfl | omega | intro _ | (simp only [obS] at *; omega))); first | done | fail) (by kernel_rfl) (fun w hw => counted_ok_c n d (k0 + 1) hc (by omega) w) ?_
 | refine D_call (f := 39) rfl (by (repeat' (first | exact trivial | apply And.intro | rfl | omega | intro _ | (simp only [obS] at *; omega))); first | done | fail) (by kernel_rfl) (fun w hw => counted_ok_c n d (10000000) hc (by omega) w) ?_
 | refine D_call (f := 40) rfl (by (repeat' (first | exact trivial | apply And.intro | rfl | omega | intro _ | (simp only [obS] at *; omega))); first | done | fail) (by kernel_rfl) (fun w hw => slip_as_c n d (1 + k1 % 50) _ _ hSR w) ?_
                )
 | (refine G_id ?_; first
 | refine G_then ?_
 | refine G_block ?_
 | refine G_blockX ?_
 | refine G_blockN rfl ?_
 | refine G_blockR ?_
 | refine G_thenR ?_
 | refine G_thenX ?_
 | refine G_ret rfl (by (repeat' (first | exact trivial | apply And.intro | rfl | omega | intro _ | (simp only [obS] at *; omega))); first | done | fail) (fun w hw => ⟨?_, hw.below⟩)
                )
              )
          all_goals rfl
        · have hSR : slipR n d (1 + k1 % 50) = (slipN n d (1 + k1 % 50), 0) := slipR_ok hSE rfl (by omega)
          obtain ⟨N, hN⟩ : ∃ N, slipN n d (1 + k1 % 50) = N := ⟨_, rfl⟩
          rw [hN] at hSR hNp hbig
          have hg1 := (slip_iff (n := n) (d := d) (t := 1 + k1 % 50) (x := N) hd1.1 hli.1 (by omega)).2 (by rw [hN]; omega)
          have hg2 : ¬ 1 + k1 % 50 ≤ max ((N - 1) * n / d - (N - 1)) (0 - ((N - 1) * n / d - (N - 1))) := fun h => absurd ((slip_iff (n := n) (d := d) (t := 1 + k1 % 50) (x := N - 1) hd1.1 hli.1 (by omega)).1 h) (by rw [hN]; omega)
          have hc0 := Int.ediv_nonneg (Int.mul_nonneg (show 0 ≤ N by omega) (show 0 ≤ n by omega)) (show 0 ≤ d by omega)
          have hc1 : N * n / d ≤ 10000000 * 100000 := Int.le_trans (Int.ediv_le_self d (Int.mul_nonneg (by omega) (by omega))) (Int.mul_le_mul (by omega) hn1.2 (by omega) (by omega))
          have hc2 := Int.ediv_nonneg (Int.mul_nonneg (show 0 ≤ N - 1 by omega) (show 0 ≤ n by omega)) (show 0 ≤ d by omega)
          have hc3 : (N - 1) * n / d ≤ 10000000 * 100000 := Int.le_trans (Int.ediv_le_self d (Int.mul_nonneg (by omega) (by omega))) (Int.mul_le_mul (by omega) hn1.2 (by omega) (by omega))
          repeat' (first
 | (refine C_id ?_; first
 | refine C_seq ?_
 | refine C_region rfl ?_
 | refine C_block ?_
 | refine C_skip ?_
 | refine C_exit ?_
 | refine C_ret0 ?_
 | refine C_draw (id := 3) rfl mixed (by kernel_rfl) ?_
 | refine C_draw (id := 12) rfl mixed (by kernel_rfl) ?_
 | refine C_condT rfl (by (repeat' (first | exact trivial | apply And.intro | rfl | omega | intro _ | (simp only [obS] at *; omega))); first | done | fail) ?_
 | refine C_condF rfl (by (repeat' (first | exact trivial | apply And.intro | rfl | omega | intro _ | (simp only [obS] at *; omega))); first | done | fail) ?_
 | (refine C_cond rfl (by (repeat' (first | exact trivial | apply And.intro | rfl | omega | intro _ | (simp only [obS] at *; omega))); first | done | fail) (fun h => ?_) (fun h => ?_) <;> (try simp only [Bool.or_eq_true, Bool.and_eq_true, Bool.or_eq_false_iff, Bool.and_eq_false_iff, decide_eq_true_eq, decide_eq_false_iff_not, beq_iff_eq, bne_iff_ne, beq_eq_false_iff_ne, bne_eq_false_iff_eq, ne_eq, Decidable.not_not, List.cons.injEq, and_true, Bool.not_eq_true', Bool.not_eq_false', Int.not_lt, Int.not_le] at h) <;> (try (exfalso; omega)))
                )
 | (refine S_id ?_; first
 | ((with_reducible refine S_falseN ?_ ?_); · (first | exact decide_eq_false (by omega) | exact bne_self_eq_false _ | (rw [bne_eq_false_iff_eq]; first | rfl | exact hLk.len | omega | assumption) | omega | assumption))
 | ((with_reducible refine S_falseB ?_ ?_); · (first | exact decide_eq_false (by omega) | exact bne_self_eq_false _ | (rw [bne_eq_false_iff_eq]; first | rfl | exact hLk.len | omega | assumption) | omega | assumption))
 | ((with_reducible refine S_falseL ?_ ?_); · (first | exact decide_eq_false (by omega) | exact bne_self_eq_false _ | (rw [bne_eq_false_iff_eq]; first | rfl | exact hLk.len | omega | assumption) | omega | assumption))
 | ((with_reducible refine S_falseD ?_ ?_); · (first | exact decide_eq_false (by omega) | exact bne_self_eq_false _ | (rw [bne_eq_false_iff_eq]; first | rfl | exact hLk.len | omega | assumption) | omega | assumption))
 | ((with_reducible refine S_falseO ?_ ?_ ?_); (· rfl); (· first | rfl | (first | exact decide_eq_false (by omega) | exact bne_self_eq_false _ | (rw [bne_eq_false_iff_eq]; first | rfl | exact hLk.len | omega | assumption) | omega | assumption)))
 | ((with_reducible refine S_trueE ?_ ?_); · (first | exact decide_eq_true (by omega) | exact beq_self_eq_true _ | (rw [beq_iff_eq]; first | rfl | omega | assumption) | omega | assumption))
 | ((with_reducible refine S_trueB ?_ ?_); · (first | exact decide_eq_true (by omega) | exact beq_self_eq_true _ | (rw [beq_iff_eq]; first | rfl | omega | assumption) | omega | assumption))
 | ((with_reducible refine S_trueL ?_ ?_); · (first | exact decide_eq_true (by omega) | exact beq_self_eq_true _ | (rw [beq_iff_eq]; first | rfl | omega | assumption) | omega | assumption))
 | ((with_reducible refine S_trueD ?_ ?_); · (first | exact decide_eq_true (by omega) | exact beq_self_eq_true _ | (rw [beq_iff_eq]; first | rfl | omega | assumption) | omega | assumption))
 | ((with_reducible refine S_trueA ?_ ?_ ?_); (· rfl); (· first | rfl | (first | exact decide_eq_true (by omega) | exact beq_self_eq_true _ | (rw [beq_iff_eq]; first | rfl | omega | assumption) | omega | assumption)))
 | refine S_unG rfl rfl rfl rfl ?_
 | refine S_nil ?_
 | refine S_runN rfl rfl (by (repeat' (first | exact trivial | apply And.intro | rfl | omega | intro _ | (simp only [obS] at *; omega))); first | done | fail) (by (repeat' (first | exact trivial | apply And.intro | rfl | omega | intro _ | (simp only [obS] at *; omega))); first | done | fail) ?_
 | refine S_box (fun b => ⟨_, _, rfl, (by (repeat' (first | exact trivial | apply And.intro | rfl | omega | intro _ | (simp only [obS] at *; omega))); first | done | fail), ?_⟩)
 | refine S_slice (fun b => ⟨_, _, rfl, (by (repeat' (first | exact trivial | apply And.intro | rfl | omega | intro _ | (simp only [obS] at *; omega))); first | done | fail), ?_⟩)
 | refine S_call (f := 27) rfl (by (repeat' (first | exact trivial | apply And.intro | rfl | omega | intro _ | (simp only [obS] at *; omega))); first | done | fail) (by kernel_rfl) (fun w hw => awake_c w (hw.rdm hE.toS (by repeat (first | exact List.Mem.head _ | apply List.Mem.tail))) (Pw_at hP hw (by repeat (first | exact List.Mem.head _ | apply List.Mem.tail)))) ?_
 | refine S_call (f := 42) rfl (by (repeat' (first | exact trivial | apply And.intro | rfl | omega | intro _ | (simp only [obS] at *; omega))); first | done | fail) (by kernel_rfl) (fun w hw => rCheckClock_c n d w) ?_
 | refine S_call (f := 39) rfl (by (repeat' (first | exact trivial | apply And.intro | rfl | omega | intro _ | (simp only [obS] at *; omega))); first | done | fail) (by kernel_rfl) (fun w hw => counted_ok_c n d (k0) hc (by omega) w) ?_
 | refine S_call (f := 39) rfl (by (repeat' (first | exact trivial | apply And.intro | rfl | omega | intro _ | (simp only [obS] at *; omega))); first | done | fail) (by kernel_rfl) (fun w hw => counted_ok_c n d (k0 + 1) hc (by omega) w) ?_
 | refine S_call (f := 39) rfl (by (repeat' (first | exact trivial | apply And.intro | rfl | omega | intro _ | (simp only [obS] at *; omega))); first | done | fail) (by kernel_rfl) (fun w hw => counted_ok_c n d (N) hc (by omega) w) ?_
 | refine S_call (f := 39) rfl (by (repeat' (first | exact trivial | apply And.intro | rfl | omega | intro _ | (simp only [obS] at *; omega))); first | done | fail) (by kernel_rfl) (fun w hw => counted_ok_c n d (N - 1) hc (by omega) w) ?_
 | refine S_call (f := 40) rfl (by (repeat' (first | exact trivial | apply And.intro | rfl | omega | intro _ | (simp only [obS] at *; omega))); first | done | fail) (by kernel_rfl) (fun w hw => slip_as_c n d (1 + k1 % 50) _ _ hSR w) ?_
                )
 | (refine D_id ?_; first
 | refine D_nil ?_
 | refine D_tail ?_
 | refine D_run rfl rfl (by (repeat' (first | exact trivial | apply And.intro | rfl | omega | intro _ | (simp only [obS] at *; omega))); first | done | fail) (by (repeat' (first | exact trivial | apply And.intro | rfl | omega | intro _ | (simp only [obS] at *; omega))); first | done | fail) ?_
 | refine D_call (f := 27) rfl (by (repeat' (first | exact trivial | apply And.intro | rfl | omega | intro _ | (simp only [obS] at *; omega))); first | done | fail) (by kernel_rfl) (fun w hw => awake_c w (hw.rdm hE.toS (by repeat (first | exact List.Mem.head _ | apply List.Mem.tail))) (Pw_at hP hw (by repeat (first | exact List.Mem.head _ | apply List.Mem.tail)))) ?_
 | refine D_call (f := 42) rfl (by (repeat' (first | exact trivial | apply And.intro | rfl | omega | intro _ | (simp only [obS] at *; omega))); first | done | fail) (by kernel_rfl) (fun w hw => rCheckClock_c n d w) ?_
 | refine D_call (f := 39) rfl (by (repeat' (first | exact trivial | apply And.intro | rfl | omega | intro _ | (simp only [obS] at *; omega))); first | done | fail) (by kernel_rfl) (fun w hw => counted_ok_c n d (k0) hc (by omega) w) ?_
 | refine D_call (f := 39) rfl (by (repeat' (first | exact trivial | apply And.intro | rfl | omega | intro _ | (simp only [obS] at *; omega))); first | done | fail) (by kernel_rfl) (fun w hw => counted_ok_c n d (k0 + 1) hc (by omega) w) ?_
 | refine D_call (f := 39) rfl (by (repeat' (first | exact trivial | apply And.intro | rfl | omega | intro _ | (simp only [obS] at *; omega))); first | done | fail) (by kernel_rfl) (fun w hw => counted_ok_c n d (N) hc (by omega) w) ?_
 | refine D_call (f := 39) rfl (by (repeat' (first | exact trivial | apply And.intro | rfl | omega | intro _ | (simp only [obS] at *; omega))); first | done | fail) (by kernel_rfl) (fun w hw => counted_ok_c n d (N - 1) hc (by omega) w) ?_
 | refine D_call (f := 40) rfl (by (repeat' (first | exact trivial | apply And.intro | rfl | omega | intro _ | (simp only [obS] at *; omega))); first | done | fail) (by kernel_rfl) (fun w hw => slip_as_c n d (1 + k1 % 50) _ _ hSR w) ?_
                )
 | (refine G_id ?_; first
 | refine G_then ?_
 | refine G_block ?_
 | refine G_blockX ?_
 | refine G_blockN rfl ?_
 | refine G_blockR ?_
 | refine G_thenR ?_
 | refine G_thenX ?_
 | refine G_ret rfl (by (repeat' (first | exact trivial | apply And.intro | rfl | omega | intro _ | (simp only [obS] at *; omega))); first | done | fail) (fun w hw => ⟨?_, hw.below⟩)
                )
              )
          all_goals rfl
  · repeat' (first
 | (refine C_id ?_; first
 | refine C_seq ?_
 | refine C_region rfl ?_
 | refine C_block ?_
 | refine C_skip ?_
 | refine C_exit ?_
 | refine C_ret0 ?_
 | refine C_draw (id := 3) rfl mixed (by kernel_rfl) ?_
 | refine C_draw (id := 12) rfl mixed (by kernel_rfl) ?_
 | refine C_condT rfl (by (repeat' (first | exact trivial | apply And.intro | rfl | omega | intro _ | (simp only [obS] at *; omega))); first | done | fail) ?_
 | refine C_condF rfl (by (repeat' (first | exact trivial | apply And.intro | rfl | omega | intro _ | (simp only [obS] at *; omega))); first | done | fail) ?_
 | (refine C_cond rfl (by (repeat' (first | exact trivial | apply And.intro | rfl | omega | intro _ | (simp only [obS] at *; omega))); first | done | fail) (fun h => ?_) (fun h => ?_) <;> (try simp only [Bool.or_eq_true, Bool.and_eq_true, Bool.or_eq_false_iff, Bool.and_eq_false_iff, decide_eq_true_eq, decide_eq_false_iff_not, beq_iff_eq, bne_iff_ne, beq_eq_false_iff_ne, bne_eq_false_iff_eq, ne_eq, Decidable.not_not, List.cons.injEq, and_true, Bool.not_eq_true', Bool.not_eq_false', Int.not_lt, Int.not_le] at h) <;> (try (exfalso; omega)))
          )
 | (refine S_id ?_; first
 | refine S_nil ?_
 | refine S_run rfl rfl (by (repeat' (first | exact trivial | apply And.intro | rfl | omega | intro _ | (simp only [obS] at *; omega))); first | done | fail) (by (repeat' (first | exact trivial | apply And.intro | rfl | omega | intro _ | (simp only [obS] at *; omega))); first | done | fail) ?_
 | refine S_box (fun b => ⟨_, _, rfl, (by (repeat' (first | exact trivial | apply And.intro | rfl | omega | intro _ | (simp only [obS] at *; omega))); first | done | fail), ?_⟩)
 | refine S_slice (fun b => ⟨_, _, rfl, (by (repeat' (first | exact trivial | apply And.intro | rfl | omega | intro _ | (simp only [obS] at *; omega))); first | done | fail), ?_⟩)
 | refine S_call (f := 27) rfl (by (repeat' (first | exact trivial | apply And.intro | rfl | omega | intro _ | (simp only [obS] at *; omega))); first | done | fail) (by kernel_rfl) (fun w hw => awake_c w (hw.rdm hE.toS (by repeat (first | exact List.Mem.head _ | apply List.Mem.tail))) (Pw_at hP hw (by repeat (first | exact List.Mem.head _ | apply List.Mem.tail)))) ?_
 | refine S_call (f := 42) rfl (by (repeat' (first | exact trivial | apply And.intro | rfl | omega | intro _ | (simp only [obS] at *; omega))); first | done | fail) (by kernel_rfl) (fun w hw => rCheckClock_c n d w) ?_
          )
 | (refine D_id ?_; first
 | refine D_nil ?_
 | refine D_tail ?_
 | refine D_run rfl rfl (by (repeat' (first | exact trivial | apply And.intro | rfl | omega | intro _ | (simp only [obS] at *; omega))); first | done | fail) (by (repeat' (first | exact trivial | apply And.intro | rfl | omega | intro _ | (simp only [obS] at *; omega))); first | done | fail) ?_
 | refine D_call (f := 27) rfl (by (repeat' (first | exact trivial | apply And.intro | rfl | omega | intro _ | (simp only [obS] at *; omega))); first | done | fail) (by kernel_rfl) (fun w hw => awake_c w (hw.rdm hE.toS (by repeat (first | exact List.Mem.head _ | apply List.Mem.tail))) (Pw_at hP hw (by repeat (first | exact List.Mem.head _ | apply List.Mem.tail)))) ?_
 | refine D_call (f := 42) rfl (by (repeat' (first | exact trivial | apply And.intro | rfl | omega | intro _ | (simp only [obS] at *; omega))); first | done | fail) (by kernel_rfl) (fun w hw => rCheckClock_c n d w) ?_
          )
 | (refine G_id ?_; first
 | refine G_then ?_
 | refine G_block ?_
 | refine G_blockX ?_
 | refine G_blockN rfl ?_
 | refine G_blockR ?_
 | refine G_thenR ?_
 | refine G_thenX ?_
 | refine G_ret rfl (by (repeat' (first | exact trivial | apply And.intro | rfl | omega | intro _ | (simp only [obS] at *; omega))); first | done | fail) (fun w hw => ⟨?_, hw.below⟩)
          )
        )
    all_goals rfl

end Go.Proofs.YtmfophoejjcnlaaGreatDoor
