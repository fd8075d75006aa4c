/- Rows, phases, vertical intervals. -/
import Derived.Test.YtmfophoejjcnlaaGreatDoorTiming5
namespace Go.Proofs.YtmfophoejjcnlaaGreatDoor
open Go.E Go.RowKit
attribute [local irreducible] G C S D Calls
set_option maxRecDepth 100000
set_option linter.unusedSimpArgs false
set_option linter.unusedVariables false

theorem TickR_ok {f : Fmt} {p : Pos} (h : (TickR f p).2 = 0) : Valid f ∧ (0 ≤ p.L ∧ p.L ≤ 2000) ∧ (0 ≤ p.F ∧ p.F ≤ 1) := by
  unfold TickR at h
  split at h
  · rename_i h1; exact absurd h h1
  · rename_i h1
    have hv := (valid_iff f).1 (Classical.not_not.1 h1)
    refine ⟨hv, ?_⟩
    unfold tickR at h
    split at h
    · omega
    · split at h
      · rename_i h2; exact absurd h h2
      · rename_i h2
        split at h
        · rename_i h3; exact absurd h h3
        · rename_i h3
          have g1 := (wi_eq _ _ _).1 (Classical.not_not.1 h2)
          have g2 := (tickE2_iff f p).1 (Classical.not_not.1 h3)
          have := linesF_bd f p.F ⟨by have := hv.L; omega, hv.L.2⟩
          have := hv.F
          omega
theorem atF_bd {f : Fmt} (hv : Valid f) {t : Int} (ht : 0 ≤ t) : (0 ≤ (atF f t).R ∧ (atF f t).R ≤ t) ∧ ((atF f t).F = 0 ∨ (atF f t).F = 1) ∧ (0 ≤ (atF f t).S ∧ (atF f t).S < f.S) ∧ (0 ≤ (atF f t).L ∧ (atF f t).L ≤ 2000) := by
  have hS := hv.S
  have hL := hv.L
  have hfr := frame_bd f ⟨by omega, hS.2⟩ ⟨by omega, hL.2⟩
  have hl := linesF_bd f 0 ⟨by omega, hL.2⟩
  have h1 := Int.ediv_nonneg ht (show 0 ≤ f.S * f.L by omega)
  have h2 := Int.ediv_le_self (f.S * f.L) ht
  have h3 := Int.emod_nonneg t (show f.S ≠ 0 by omega)
  have h4 := Int.emod_lt_of_pos t (show 0 < f.S by omega)
  have h5 := Int.emod_nonneg t (show f.S * f.L ≠ 0 by omega)
  have h6 := Int.emod_lt_of_pos t (show 0 < f.S * f.L by omega)
  have h7 := Int.ediv_nonneg h5 (show 0 ≤ f.S by omega)
  have h8 : t % (f.S * f.L) / f.S < f.L := Int.ediv_lt_of_lt_mul (by omega) (by rwa [Int.mul_comm f.L f.S])
  unfold atF
  dsimp only
  split
  · exact ⟨⟨h1, h2⟩, .inr rfl, ⟨h3, h4⟩, by dsimp only; omega⟩
  · exact ⟨⟨h1, h2⟩, .inl rfl, ⟨h3, h4⟩, by dsimp only; omega⟩
theorem atE_ok {f : Fmt} {t : Int} (h : checkT f t = 0) : Valid f ∧ (0 ≤ t ∧ t ≤ 10000000) ∧ (0 ≤ (atE f t).R ∧ (atE f t).R ≤ t) ∧ ((atE f t).F = 0 ∨ (atE f t).F = 1) := by
  have hv := (checkT_iff f t).1 h
  have := atF_bd hv.1 hv.2.1
  rw [atE, if_pos h]
  exact ⟨hv.1, hv.2, this.1, this.2.1⟩
theorem mul12 {a b m : Int} (ha : 0 ≤ a ∧ a ≤ m) (hb : b = 1 ∨ b = 2) : 0 ≤ a * b ∧ a * b ≤ 2 * m := by
  rcases hb with rfl | rfl <;> omega
def RowR (f : Fmt) (p : Pos) : Int × Int := if ¬ (TickR f p).2 = 0 then (0, (TickR f p).2) else (p.L * f.F + p.F, 0)
def PhaseR (f : Fmt) (t : Int) : Int × Int := if ¬ checkT f t = 0 then (0, checkT f t) else (((atE f t).R * f.F + (atE f t).F) % f.C, 0)

set_option maxHeartbeats 400000 in
/-- timing.Row -/
theorem Row_c (f : Fmt) (p : Pos) (w : World) (hE : Ex w) : Calls Tryz.prog 16 #[.agg #[.int .i64 f.S, .int .i64 f.L, .int .i64 f.F, .int .i64 f.B, .int .i64 f.Y, .int .i64 f.V, .int .i64 f.C], .agg #[.int .i64 p.R, .int .i64 p.F, .int .i64 p.L, .int .i64 p.S]] w fun r w' => r = .returned (.tuple #[.int .i64 (RowR f p).1, .int .i64 (RowR f p).2]) ∧ Below w.heap.size w w' := by
  have hk : (TickR f p).2 = 0 → (0 ≤ p.L * f.F ∧ p.L * f.F ≤ 2 * 2000) ∧ (0 ≤ p.F ∧ p.F ≤ 1) := fun h => by
    have hk := TickR_ok h
    exact ⟨mul12 hk.2.1 (by have := hk.1.F; omega), hk.2.2⟩
  refine calls_of (args := [.agg #[.int .i64 f.S, .int .i64 f.L, .int .i64 f.F, .int .i64 f.B, .int .i64 f.Y, .int .i64 f.V, .int .i64 f.C], .agg #[.int .i64 p.R, .int .i64 p.F, .int .i64 p.L, .int .i64 p.S]]) T_ok Tryz.func16 rfl Tryz.ntmps16 (Nat.le_of_ble_eq_true rfl) rfl ?_
  repeat' (first
 | (refine C_id ?_; first
 | refine C_seq ?_
 | refine C_region rfl ?_
 | refine C_skip ?_
 | refine C_ret0 ?_
 | (refine C_cond rfl obQ (fun h => ?_) (fun h => ?_) <;> (try simp only [Bool.or_eq_true, Bool.and_eq_true, Bool.or_eq_false_iff, Bool.and_eq_false_iff, decide_eq_true_eq, decide_eq_false_iff_not, beq_iff_eq, bne_iff_ne, beq_eq_false_iff_ne, bne_eq_false_iff_eq, ne_eq, Decidable.not_not, List.cons.injEq, and_true, Bool.not_eq_true', Bool.not_eq_false', Int.not_lt, Int.not_le] at h))
 )
 | (refine S_id ?_; first
 | refine S_nil ?_
 | refine S_run rfl rfl obQ obQ ?_
 | refine S_box (fun b => ⟨_, _, rfl, obQ, ?_⟩)
 | refine S_call (f := 15) rfl obQ (by kernel_rfl) (fun w hw => Tick_c f p w (hw.rd memQ hE.toS)) ?_
 )
 | (refine G_id ?_; first
 | refine G_then ?_
 | refine G_thenR ?_
 | refine G_ret rfl obQ (fun w hw => ⟨?_, hw.below⟩)
 )
 )
  all_goals simp [RowR, h]

set_option maxHeartbeats 400000 in
/-- timing.Phase -/
theorem Phase_c (f : Fmt) (t : Int) (w : World) (hE : Ex w) : Calls Tryz.prog 17 #[.agg #[.int .i64 f.S, .int .i64 f.L, .int .i64 f.F, .int .i64 f.B, .int .i64 f.Y, .int .i64 f.V, .int .i64 f.C], .int .i64 t] w fun r w' => r = .returned (.tuple #[.int .i64 (PhaseR f t).1, .int .i64 (PhaseR f t).2]) ∧ Below w.heap.size w w' := by
  have hk : checkT f t = 0 → (0 ≤ (atE f t).R * f.F ∧ (atE f t).R * f.F ≤ 2 * 10000000) ∧ (0 ≤ (atE f t).F ∧ (atE f t).F ≤ 1) ∧ 1 ≤ f.C := fun h => by
    have hk := atE_ok h
    exact ⟨mul12 (by omega) (by have := hk.1.F; omega), by omega, hk.1.C.1⟩
  refine calls_of (args := [.agg #[.int .i64 f.S, .int .i64 f.L, .int .i64 f.F, .int .i64 f.B, .int .i64 f.Y, .int .i64 f.V, .int .i64 f.C], .int .i64 t]) T_ok Tryz.func17 rfl Tryz.ntmps17 (Nat.le_of_ble_eq_true rfl) rfl ?_
  repeat' (first
 | (refine C_id ?_; first
 | refine C_seq ?_
 | refine C_region rfl ?_
 | refine C_skip ?_
 | refine C_ret0 ?_
 | (refine C_cond rfl obQ (fun h => ?_) (fun h => ?_) <;> (try simp only [Bool.or_eq_true, Bool.and_eq_true, Bool.or_eq_false_iff, Bool.and_eq_false_iff, decide_eq_true_eq, decide_eq_false_iff_not, beq_iff_eq, bne_iff_ne, beq_eq_false_iff_ne, bne_eq_false_iff_eq, ne_eq, Decidable.not_not, List.cons.injEq, and_true, Bool.not_eq_true', Bool.not_eq_false', Int.not_lt, Int.not_le] at h))
 )
 | (refine S_id ?_; first
 | refine S_nil ?_
 | refine S_run rfl rfl obQ obQ ?_
 | refine S_box (fun b => ⟨_, _, rfl, obQ, ?_⟩)
 | refine S_call (f := 14) rfl obQ (by kernel_rfl) (fun w hw => At_c f t w (hw.rd memQ hE.toS)) ?_
 )
 | (refine G_id ?_; first
 | refine G_then ?_
 | refine G_thenR ?_
 | refine G_ret rfl obQ (fun w hw => ⟨?_, hw.below⟩)
 )
 )
  all_goals simp [PhaseR, h]

end Go.Proofs.YtmfophoejjcnlaaGreatDoor
