/- Vertical intervals. -/
import Derived.Test.YtmfophoejjcnlaaGreatDoorTiming6
namespace Go.Proofs.YtmfophoejjcnlaaGreatDoor
open Go.E Go.RowKit
attribute [local irreducible] G C S D Calls
set_option maxRecDepth 100000
set_option linter.unusedSimpArgs false
set_option linter.unusedVariables false

/-- Where the first field begins at a tick or after it. -/
def vb0 (f : Fmt) (t : Int) : Int := t / (f.S * f.L) * (f.S * f.L)
def vb1 (f : Fmt) (t : Int) : Int := vb0 f t + linesF f 0 * f.S
def vb2 (f : Fmt) (t : Int) : Int := vb1 f t + linesF f 1 * f.S
def vertT (f : Fmt) (t : Int) : Int := if t ≤ vb0 f t then vb0 f t else if t ≤ vb1 f t then vb1 f t else vb2 f t
def vertR (f : Fmt) (t : Int) : (Int × Int) × Int :=
  if ¬ checkT f t = 0 then ((0, 0), checkT f t) else
  if 10000000 < vertT f t + f.V * f.S then ((0, 0), 7) else ((vertT f t, vertT f t + f.V * f.S), 0)
/-- The states of the loop: field and begin. -/
def vInv (f : Fmt) (t : Int) (i : Nat × Int) : Prop :=
  (i.1 = 0 ∧ i.2 = vb0 f t) ∨ (i.1 = 1 ∧ i.2 = vb1 f t ∧ vb0 f t < t) ∨ (i.1 = 2 ∧ i.2 = vb2 f t ∧ vb1 f t < t ∧ f.F = 2 ∧ vb0 f t < t)
theorem vert_facts {f : Fmt} {t : Int} (hv : Valid f) (ht : 0 ≤ t ∧ t ≤ 10000000) : (0 ≤ vb0 f t ∧ vb0 f t ≤ t) ∧ (0 ≤ linesF f 0 * f.S ∧ linesF f 0 * f.S ≤ 4000000) ∧ (0 ≤ linesF f 1 * f.S ∧ linesF f 1 * f.S ≤ 4000000)
    ∧ (0 ≤ f.V * f.S ∧ f.V * f.S ≤ 4000000) ∧ (f.F = 1 → t ≤ vb1 f t) ∧ (f.F = 2 → t ≤ vb2 f t) := by
  have hS := hv.S
  have hL := hv.L
  have hF := hv.F
  have hV := hv.V
  have hfr := frame_bd f ⟨by omega, hS.2⟩ ⟨by omega, hL.2⟩
  have hl0 := linesF_bd f 0 ⟨by omega, hL.2⟩
  have hl1 := linesF_bd f 1 ⟨by omega, hL.2⟩
  have hd := Int.ediv_le_self f.F (show 0 ≤ f.L by omega)
  have key : ∀ x : Int, 0 ≤ x ∧ x ≤ 2000 → 0 ≤ x * f.S ∧ x * f.S ≤ 4000000 := fun x hx => by
    have h1 := Int.mul_nonneg hx.1 (show 0 ≤ f.S by omega)
    have h2 := Int.mul_le_mul hx.2 hS.2 (by omega) (by omega)
    omega
  have e := Int.mul_ediv_add_emod t (f.S * f.L)
  have h5 := Int.emod_nonneg t (show f.S * f.L ≠ 0 by omega)
  have h6 := Int.emod_lt_of_pos t (show 0 < f.S * f.L by omega)
  have h7 := Int.mul_nonneg (Int.ediv_nonneg ht.1 (show 0 ≤ f.S * f.L by omega)) (show 0 ≤ f.S * f.L by omega)
  rw [Int.mul_comm] at e
  refine ⟨by unfold vb0; omega, key _ hl0, key _ hl1, key _ (by omega), fun h => ?_, fun h => ?_⟩
  · have : linesF f 0 * f.S = f.S * f.L := by simp [linesF, h, Int.mul_comm]
    unfold vb1 vb0
    omega
  · have h0 : linesF f 0 + linesF f 1 = f.L := by
      simp [linesF, h, exA]
      omega
    have : linesF f 0 * f.S + linesF f 1 * f.S = f.S * f.L := by rw [← Int.add_mul, h0, Int.mul_comm]
    unfold vb2 vb1 vb0
    omega
theorem vStep {f : Fmt} {t : Int} (hv : Valid f) (ht : 0 ≤ t ∧ t ≤ 10000000) {k : Nat} {b : Int} (hi : vInv f t (k, b)) : (0 ≤ b ∧ b ≤ 18000000) ∧ (t ≤ b → b = vertT f t) ∧
    (b < t → ((k : Int) % f.F = 0 ∨ (k : Int) % f.F = 1) ∧ (0 ≤ linesF f ((k : Int) % f.F) * f.S ∧ linesF f ((k : Int) % f.F) * f.S ≤ 4000000) ∧ k ≤ 1 ∧ vInv f t (k + 1, b + linesF f ((k : Int) % f.F) * f.S)) := by
  have hF := hv.F
  obtain ⟨h0, h1, h2, h3, h4, h5⟩ := vert_facts hv ht
  have e1 : vb1 f t = vb0 f t + linesF f 0 * f.S := rfl
  have e2 : vb2 f t = vb1 f t + linesF f 1 * f.S := rfl
  rcases hi with ⟨a1, a2⟩ | ⟨a1, a2, a3⟩ | ⟨a1, a2, a3, a4, a5⟩
  · simp only at a1 a2
    subst a1; subst a2
    have z : ((0 : Nat) : Int) % f.F = 0 := by simp
    rw [z]
    refine ⟨by omega, fun h => by rw [vertT, if_pos h], fun h => ⟨.inl rfl, h1, by omega, .inr (.inl ⟨rfl, rfl, h⟩)⟩⟩
  · simp only at a1 a2
    subst a1; subst a2
    refine ⟨by omega, fun h => by rw [vertT, if_neg (by omega), if_pos h], fun h => ?_⟩
    have hf : f.F = 2 := by omega
    have z : ((1 : Nat) : Int) % f.F = 1 := by rw [hf]; rfl
    rw [z]
    exact ⟨.inr rfl, h2, by omega, .inr (.inr ⟨rfl, rfl, h, hf, a3⟩)⟩
  · simp only at a1 a2
    subst a1; subst a2
    have := h5 a4
    exact ⟨by omega, fun h => by rw [vertT, if_neg (by omega), if_neg (by omega)], fun h => by omega⟩
theorem vertT_eq {f : Fmt} {t b : Int} (h : b = vertT f t) (hc : checkT f t = 0) (n : 10000000 < b + f.V * f.S) : vertR f t = ((0, 0), 7) := by subst h; simp [vertR, hc, n]
theorem vertT_eq' {f : Fmt} {t b : Int} (h : b = vertT f t) (hc : checkT f t = 0) (n : b + f.V * f.S ≤ 10000000) : vertR f t = ((b, b + f.V * f.S), 0) := by subst h; simp [vertR, hc]; omega

set_option maxHeartbeats 400000 in
/-- timing.Vertical -/
theorem Vertical_c (f : Fmt) (t : Int) (ht : -9223372036854775808 ≤ t ∧ t ≤ 9223372036854775807) (w : World) (hE : Ex w) : Calls Tryz.prog 30 #[.agg #[.int .i64 f.S, .int .i64 f.L, .int .i64 f.F, .int .i64 f.B, .int .i64 f.Y, .int .i64 f.V, .int .i64 f.C], .int .i64 t] w fun r w' => r = .returned (.tuple #[.agg #[.int .i64 (vertR f t).1.1, .int .i64 (vertR f t).1.2], .int .i64 (vertR f t).2]) ∧ Below w.heap.size w w' := by
  refine calls_of (args := [.agg #[.int .i64 f.S, .int .i64 f.L, .int .i64 f.F, .int .i64 f.B, .int .i64 f.Y, .int .i64 f.V, .int .i64 f.C], .int .i64 t]) T_ok Tryz.func30 rfl Tryz.ntmps30 (Nat.le_of_ble_eq_true rfl) rfl ?_
  by_cases hc : checkT f t = 0
  · have hv := (checkT_iff f t).1 hc
    have hS := hv.1.S
    have hL := hv.1.L
    have hF := hv.1.F
    have hfr := frame_bd f ⟨by omega, hS.2⟩ ⟨by omega, hL.2⟩
    have hfs := vert_facts hv.1 hv.2
    have hvb : t / (f.S * f.L) * (f.S * f.L) = vb0 f t := rfl
    have htd := Int.ediv_nonneg hv.2.1 (show 0 ≤ f.S * f.L by omega)
    have htl := Int.ediv_le_self (f.S * f.L) hv.2.1
    repeat' (first
 | (refine C_id ?_; first
 | refine C_seq ?_
 | refine C_region rfl ?_
 | refine C_block ?_
 | refine C_skip ?_
 | refine C_ret0 ?_
 | refine C_draw (id := 4) rfl mixed (by kernel_rfl) ?_
 | (refine C_cond rfl obQ (fun h => ?_) (fun h => ?_) <;> (try simp only [Bool.or_eq_true, Bool.and_eq_true, Bool.or_eq_false_iff, Bool.and_eq_false_iff, decide_eq_true_eq, decide_eq_false_iff_not, beq_iff_eq, bne_iff_ne, beq_eq_false_iff_ne, bne_eq_false_iff_eq, ne_eq, Decidable.not_not, List.cons.injEq, and_true, Bool.not_eq_true', Bool.not_eq_false', Int.not_lt, Int.not_le] at h) <;> (try (exfalso; omega)))
     )
 | (refine S_id ?_; first
 | refine S_nil ?_
 | refine S_run rfl rfl obQ obQ ?_
 | refine S_box (fun b => ⟨_, _, rfl, obQ, ?_⟩)
 | refine S_call (f := 81) rfl obQ (by kernel_rfl) (fun w hw => checkTick_c f t w) ?_
     )
 | (refine D_id ?_; first
 | refine D_nil ?_
 | refine D_run rfl rfl obQ obQ ?_
 | refine D_call (f := 97) rfl obQ (by kernel_rfl) (fun w hw => frame_c f ⟨by omega, hS.2⟩ ⟨by omega, hL.2⟩ w) ?_
     )
 | (refine G_id ?_; first
 | refine G_then ?_
 | refine G_thenR ?_
 | refine G_ret rfl obQ (fun w hw => ⟨?_, hw.below⟩)
     )
     )
    rename_i b2
    refine C_loopS (fun i : Nat × Int => ⟨[(2, .s (.p b2 0 0)), (4, .s (.p b 1 0)), (1, .s (.v (.int .i64 t))), (5, .s (.v (.int .i64 0))), (7, .s (.v (.int .i64 i.2))), (8, .s (.v (.int .i64 i.1)))], [⟨b2, 26, [.v (.int .i64 f.S), .v (.int .i64 f.L), .v (.int .i64 f.F), .v (.int .i64 f.B), .v (.int .i64 f.Y), .v (.int .i64 f.V), .v (.int .i64 f.C)]⟩, ⟨b, 46, [.v (.int .i64 0), .v (.int .i64 0)]⟩], []⟩) (vInv f t) (fun i => 3 - i.1) (0, vb0 f t) (.inl ⟨rfl, rfl⟩) ?_ (fun i hi => ?_)
    · exact ⟨⟨_, rfl, obQ⟩, ⟨[], rfl⟩, rfl, pstQ⟩
    obtain ⟨k, bb⟩ := i
    obtain ⟨q1, q2, q3⟩ := vStep hv.1 hv.2 hi
    have q4 : bb < t → k ≤ 1 := fun h => (q3 h).2.2.1
    have q5 : bb < t → 0 ≤ linesF f ((k : Int) % f.F) * f.S ∧ linesF f ((k : Int) % f.F) * f.S ≤ 4000000 := fun h => (q3 h).2.1
    dsimp only
    repeat' (first
 | (refine C_id ?_; first
 | refine C_seq ?_
 | refine C_region rfl ?_
 | refine C_block ?_
 | refine C_skip ?_
 | refine C_exit ?_
 | refine C_ret0 ?_
 | refine C_draw (id := 8) rfl mixed (by kernel_rfl) ?_
 | (refine C_cond rfl obQ (fun h => ?_) (fun h => ?_) <;> (try simp only [Bool.or_eq_true, Bool.and_eq_true, Bool.or_eq_false_iff, Bool.and_eq_false_iff, decide_eq_true_eq, decide_eq_false_iff_not, beq_iff_eq, bne_iff_ne, beq_eq_false_iff_ne, bne_eq_false_iff_eq, ne_eq, Decidable.not_not, List.cons.injEq, and_true, Bool.not_eq_true', Bool.not_eq_false', Int.not_lt, Int.not_le] at h) <;> (try (exfalso; omega)))
     )
 | (refine S_id ?_; first
 | refine S_nil ?_
 | refine S_run rfl rfl obQ obQ ?_
 | refine S_box (fun b => ⟨_, _, rfl, obQ, ?_⟩)
     )
 | (refine D_id ?_; first
 | refine D_nil ?_
 | refine D_run rfl rfl obQ obQ ?_
 | refine D_call (f := 98) rfl obQ (by kernel_rfl) (fun w hw => lines_c f _ ⟨by omega, hL.2⟩ (by have := q3 (by omega); omega) w (hw.rd memQ hE.toS)) ?_
     )
 | (refine G_id ?_; first
 | refine G_loop (k + 1, bb + linesF f ((k : Int) % f.F) * f.S) (q3 (by omega)).2.2.2 (by have := q3 (by omega); show 3 - (k + 1) < 3 - k; omega) ⟨⟨_, rfl, obQ⟩, ⟨_, rfl⟩, rfl, pstQ⟩
 | refine G_then ?_
 | refine G_block ?_
 | refine G_blockX ?_
 | refine G_thenR ?_
 | refine G_thenX ?_
 | refine G_ret rfl obQ (fun w hw => ⟨?_, hw.below⟩)
     )
     )
    · rename_i g0
      rw [vertT_eq (q2 g0) hc h]
    · rename_i g0
      rw [vertT_eq' (q2 g0) hc h]
  · repeat' (first
 | (refine C_id ?_; first
 | refine C_seq ?_
 | refine C_region rfl ?_
 | refine C_block ?_
 | refine C_skip ?_
 | refine C_ret0 ?_
 | refine C_draw (id := 4) rfl mixed (by kernel_rfl) ?_
 | (refine C_cond rfl obQ (fun h => ?_) (fun h => ?_) <;> (try simp only [Bool.or_eq_true, Bool.and_eq_true, Bool.or_eq_false_iff, Bool.and_eq_false_iff, decide_eq_true_eq, decide_eq_false_iff_not, beq_iff_eq, bne_iff_ne, beq_eq_false_iff_ne, bne_eq_false_iff_eq, ne_eq, Decidable.not_not, List.cons.injEq, and_true, Bool.not_eq_true', Bool.not_eq_false', Int.not_lt, Int.not_le] at h) <;> (try (exfalso; omega)))
     )
 | (refine S_id ?_; first
 | refine S_nil ?_
 | refine S_run rfl rfl obQ obQ ?_
 | refine S_box (fun b => ⟨_, _, rfl, obQ, ?_⟩)
 | refine S_call (f := 81) rfl obQ (by kernel_rfl) (fun w hw => checkTick_c f t w) ?_
     )
 | (refine D_id ?_; first
 | refine D_nil ?_
 | refine D_run rfl rfl obQ obQ ?_
 | refine D_call (f := 97) rfl obQ (by kernel_rfl) (fun w hw => frame_c f ⟨by omega, hS.2⟩ ⟨by omega, hL.2⟩ w) ?_
     )
 | (refine G_id ?_; first
 | refine G_then ?_
 | refine G_thenR ?_
 | refine G_ret rfl obQ (fun w hw => ⟨?_, hw.below⟩)
     )
     )
    all_goals simp [vertR, hc]

end Go.Proofs.YtmfophoejjcnlaaGreatDoor
