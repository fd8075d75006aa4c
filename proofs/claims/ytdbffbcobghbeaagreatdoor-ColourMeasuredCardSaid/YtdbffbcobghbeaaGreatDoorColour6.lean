/- Curves: inverses, knees of the reference; divisors; lists of samples. -/
import Derived.Test.YtdbffbcobghbeaaGreatDoorColour5
namespace Go.Proofs.YtdbffbcobghbeaaGreatDoor
open Go.E Go.RowKit Go.Fl
attribute [local irreducible] G C S D Calls
set_option maxRecDepth 100000
set_option linter.unusedSimpArgs false
set_option linter.unusedVariables false

def ptS (p : Pt) : List Value := [.int .i64 p.2, .int .i64 p.1]
theorem ptS_eq (l : List Pt) : l.flatMap ptS = (invF l).flatMap ptC := by
  unfold invF
  rw [List.flatMap_map]
  rfl
theorem take_ptS {l : List Pt} {k : Nat} (h : k < l.length) : (l.take (k + 1)).flatMap ptS = (l.take k).flatMap ptS ++ [.int .i64 (gP l k).2, .int .i64 (gP l k).1] := by
  rw [flatMap_take_succ (f := ptS) h, gP_at h]
  rfl

set_option maxHeartbeats 400000 in
/-- genlockref02.Inverse -/
theorem rInverse_c (A : Option Addr) (c : Nat) (l : List Pt) (hl : l.length ≤ 1000000) (w : World) (hr : Rd w A (l.flatMap ptC)) : Calls Tryz.prog 32 #[.slice A l.length c] w fun r w' => ∃ v, r = .returned v ∧ Below w.heap.size w w' ∧ Sl w w' v l.length ((invF l).flatMap ptC) := by
  refine calls_of (args := [.slice A l.length c]) T_ok Tryz.func32 rfl Tryz.ntmps32 (Nat.le_of_ble_eq_true rfl) rfl ?_
  rw [← ptS_eq]
  repeat' (first
 | (refine C_id ?_; first
 | refine C_seq ?_
 | refine C_region rfl ?_
 | refine C_block ?_
 )
 | (refine S_id ?_; first
 | refine S_nil ?_
 | refine S_run rfl rfl obQ obQ ?_
 )
 | (refine G_id ?_; first
 | refine G_then ?_
 )
 )
  refine C_row0 3 163 2 rfl ?_
  refine C_loopS (fun i : Nat × Option Addr × Nat => ⟨[(3, .s (.r i.2.1 i.1 i.2.2 0)), (4, .s (.v (.int .i64 i.1))), (0, .s (.v (.slice A l.length c)))], [], [⟨163, 2, i.1, (l.take i.1).flatMap ptS, .slice i.2.1 i.1 i.2.2⟩]⟩) (fun i => i.1 ≤ l.length) (fun i => l.length - i.1) (0, none, 0) (Nat.zero_le _) ?_ (fun i hi => ?_)
  · exact ⟨⟨_, rfl, obQ⟩, ⟨_, rfl⟩, rfl, pstQ⟩
  obtain ⟨k, A', c'⟩ := i
  have hi' : k ≤ l.length := hi
  dsimp only
  by_cases hlt : k < l.length
  · obtain ⟨ad, rfl⟩ := hr.some (by rw [pt_len]; omega)
    have hmt := take_ptS hlt
    repeat' (first
 | (refine C_id ?_; first
 | refine C_seq ?_
 | refine C_region rfl ?_
 | refine C_block ?_
 | refine C_skip ?_
 | refine C_drawV (id := 5) 13 [(0, true), (1, true), (2, true), (3, true), (4, true), (5, true), (6, true), (7, true), (8, true), (9, true), (10, true), (11, true), (12, false)] rfl mixed (by kernel_rfl) rfl ?_
 | (refine C_cond rfl obQ (fun h => ?_) (fun h => ?_) <;> (try simp only [Bool.or_eq_true, Bool.and_eq_true, Bool.or_eq_false_iff, Bool.and_eq_false_iff, decide_eq_true_eq, decide_eq_false_iff_not, beq_iff_eq, bne_iff_ne, beq_eq_false_iff_ne, bne_eq_false_iff_eq, ne_eq, Decidable.not_not, List.cons.injEq, and_true, Bool.not_eq_true', Bool.not_eq_false', Int.not_lt, Int.not_le] at h) <;> (try (exfalso; omega)))
     )
 | (refine S_id ?_; first
 | refine S_append rfl obQ rfl rfl rfl ⟨by decide, rfl⟩ rfl ⟨rfl, rfl, rfl, rfl⟩ [.int .i64 (gP l k).2, .int .i64 (gP l k).1] ⟨by decide, rfl⟩ (by simp [Value.oneCell']) (fun w hw => by first | exact hw.src (i := 0) rfl rfl | exact hw.src (i := 1) rfl rfl | exact hw.src (i := 2) rfl rfl | exact hw.src (i := 3) rfl rfl | exact hw.src (i := 4) rfl rfl | exact hw.src (i := 5) rfl rfl | exact hw.src (i := 6) rfl rfl | exact hw.src (i := 7) rfl rfl | exact hw.src (i := 8) rfl rfl) (by unfold maxLen; dsimp only; omega) (fun gb cap' => ⟨_, rfl, ?_⟩)
 | refine S_nil ?_
 | refine S_run rfl rfl obQ obQ ?_
 | refine S_slice (fun b => ⟨_, _, rfl, obQ, ?_⟩)
     )
 | (refine V_id ?_; first
 | refine V_nil ?_
 | refine V_q rfl (Yl_load rfl obQ rfl [.int .i64 (gP l (k)).2] (.past _ memQ _ _ hr.toS _ _ rfl (add_of_add _ _ _) (gP_2 (k := k) rfl hlt)) rfl (.inr ⟨rfl, rfl⟩)) ?_
 | refine V_q rfl (Yl_load rfl obQ rfl [.int .i64 (gP l (k)).1] (.past _ memQ _ _ hr.toS _ _ rfl (add_of_add _ _ _) (gP_1 (k := k) rfl hlt)) rfl (.inr ⟨rfl, rfl⟩)) ?_
 | refine V_q rfl (Yl_step rfl obQ) ?_
 | refine V_n rfl ?_
     )
 | (refine G_id ?_; first
 | refine G_V ⟨⟨_, rfl, trivial⟩, ⟨_, rfl⟩, rfl, pstQ⟩ rfl ?_
 | refine G_loop (k + 1, some ⟨gb, 0, none⟩, cap') (by show k + 1 ≤ _; omega) (by show l.length - (k + 1) < l.length - k; omega) ⟨⟨_, rfl, obQ⟩, ⟨_, rfl⟩, (by dsimp only; rw [hmt]), pstQ⟩
 | refine G_then ?_
 | refine G_block ?_
     )
     )
  · obtain rfl : k = l.length := by omega
    repeat' (first
 | (refine C_id ?_; first
 | refine C_seq ?_
 | refine C_region rfl ?_
 | refine C_exit ?_
 | refine C_ret0 ?_
 | (refine C_cond rfl obQ (fun h => ?_) (fun h => ?_) <;> (try simp only [Bool.or_eq_true, Bool.and_eq_true, Bool.or_eq_false_iff, Bool.and_eq_false_iff, decide_eq_true_eq, decide_eq_false_iff_not, beq_iff_eq, bne_iff_ne, beq_eq_false_iff_ne, bne_eq_false_iff_eq, ne_eq, Decidable.not_not, List.cons.injEq, and_true, Bool.not_eq_true', Bool.not_eq_false', Int.not_lt, Int.not_le] at h) <;> (try (exfalso; omega)))
     )
 | (refine S_id ?_; first
 | refine S_nil ?_
 | refine S_run rfl rfl obQ obQ ?_
     )
 | (refine G_id ?_; first
 | refine G_then ?_
 | refine G_blockX ?_
 | refine G_thenX ?_
 | refine G_ret rfl obQ (fun w2 hw => ⟨_, rfl, hw.below, HW.rowSl (i := 0) hw rfl rfl rfl (by rw [List.take_length])⟩)
     )
     )

theorem rValue2_c (A : Option Addr) (c n : Nat) (l : List Pt) (hn : n = l.length) (z : Int) (hv : CvOk l) (w : World) (hr : Rd w A (l.flatMap ptC)) : Calls Tryz.prog 30 #[.slice A n c, .int .i64 z] w fun r w' => r = .returned (.int .i64 (valF l z)) ∧ Below w.heap.size w w' := by
  subst hn
  exact rValue_c A c l z hv w hr
theorem knee_up {a b : Int} (h : kneeOk a b) : (16384 - a + b - 1) / b = if (16384 - a) / b * b < 16384 - a then (16384 - a) / b + 1 else (16384 - a) / b := by
  obtain ⟨h1, h2⟩ := h
  have hb : 0 < b := by omega
  have g1 := Int.mul_ediv_add_emod (16384 - a) b
  have g2 := Int.emod_nonneg (16384 - a) (show b ≠ 0 by omega)
  have g3 := Int.emod_lt_of_pos (16384 - a) hb
  rw [Int.mul_comm] at g1
  generalize (16384 - a) / b = q at *
  generalize (16384 - a) % b = r at *
  split
  · exact ediv_of hb (by rw [Int.add_mul, Int.one_mul]; omega) (by rw [Int.add_mul, Int.add_mul, Int.one_mul]; omega)
  · exact ediv_of hb (by omega) (by rw [Int.add_mul, Int.one_mul]; omega)

set_option maxHeartbeats 400000 in
/-- genlockref02.Survives -/
theorem rSurvives_c (A : Option Addr) (c : Nat) (l : List Pt) (hl : l.length ≤ 1000000) (n : Int) (hv : CvOk l) (w : World) (hr : Rd w A (l.flatMap ptC)) : Calls Tryz.prog 31 #[.slice A l.length c, .int .i64 n] w fun r w' => r = .returned (.bool (survF l n)) ∧ Below w.heap.size w w' := by
  refine calls_of (args := [.slice A l.length c, .int .i64 n]) T_ok Tryz.func31 rfl Tryz.ntmps31 (Nat.le_of_ble_eq_true rfl) rfl ?_
  repeat' (first
 | (refine C_id ?_; first
 | refine C_seq ?_
 | refine C_region rfl ?_
 | refine C_ret0 ?_
 )
 | (refine S_id ?_; first
 | refine S_nil ?_
 | refine S_run rfl rfl obQ obQ ?_
 | refine S_call (f := 30) rfl obQ (by kernel_rfl) (fun w hw => rValue_c A c l n hv w (hw.rdm hr.toS memQ)) ?_
 | refine S_call (f := 30) rfl obQ (by kernel_rfl) (fun w hw => rValue2_c _ _ _ (invF l) (invF_len l).symm _ hv.inv w (hw.rdm hSI memQ)) ?_
 | (refine S_callM (f := 32) rfl obQ (by kernel_rfl) (fun w hw => rInverse_c A c l hl w (hw.rdm hr.toS memQ)) (fun w1I w2I vI hw1I hbI hRI => ?_); obtain ⟨AI, cI, rfl, hSI⟩ := hRI)
 )
 | (refine G_id ?_; first
 | refine G_then ?_
 | refine G_ret rfl obQ (fun w hw => ⟨?_, hw.below⟩)
 )
 )
  rfl

set_option maxHeartbeats 400000 in
/-- genlockref02.Knee -/
theorem rKnee_c (at_ dv : Int) (hk : kneeOk at_ dv) (w : World) : Calls Tryz.prog 33 #[.int .i64 at_, .int .i64 dv] w fun r w' => ∃ v, r = .returned v ∧ Below w.heap.size w w' ∧ Sl w w' v 3 ((kneeF at_ dv).flatMap ptC) := by
  refine calls_of (args := [.int .i64 at_, .int .i64 dv]) T_ok Tryz.func33 rfl Tryz.ntmps33 (Nat.le_of_ble_eq_true rfl) rfl ?_
  have hu := knee_up hk
  obtain ⟨hk1, hk2⟩ := hk
  have hq := Int.ediv_nonneg (show 0 ≤ 16384 - at_ by omega) (show 0 ≤ dv by omega)
  have hq2 := Int.ediv_le_self dv (show 0 ≤ 16384 - at_ by omega)
  have hq3 := Int.ediv_mul_le (16384 - at_) (show dv ≠ 0 by omega)
  have hq4 := Int.mul_nonneg hq (show 0 ≤ dv by omega)
  unfold kneeF
  by_cases h0 : (16384 - at_) / dv * dv < 16384 - at_
  · rw [if_pos h0] at hu
    rw [hu]
    repeat' (first
 | (refine C_id ?_; first
 | refine C_seq ?_
 | refine C_region rfl ?_
 | refine C_skip ?_
 | refine C_ret0 ?_
 | (refine C_cond rfl obQ (fun h => ?_) (fun h => ?_) <;> (try simp only [Bool.or_eq_true, Bool.and_eq_true, Bool.or_eq_false_iff, Bool.and_eq_false_iff, decide_eq_true_eq, decide_eq_false_iff_not, beq_iff_eq, bne_iff_ne, beq_eq_false_iff_ne, bne_eq_false_iff_eq, ne_eq, Decidable.not_not, List.cons.injEq, and_true, Bool.not_eq_true', Bool.not_eq_false', Int.not_lt, Int.not_le] at h) <;> (try (exfalso; omega)) <;> (try (exfalso; simp at h; done)) <;> (try (exfalso; simp only [not_true_eq_false, false_or, or_false] at h; omega)) <;> (try contradiction))
     )
 | (refine S_id ?_; first
 | refine S_nil ?_
 | refine S_run rfl rfl obQ obQ ?_
 | refine S_slice (fun b => ⟨_, _, rfl, obQ, ?_⟩)
     )
 | (refine G_id ?_; first
 | refine G_then ?_
 | refine G_ret rfl obQ (fun w2 hw => ⟨_, rfl, hw.below, HW.slBox (i := 0) hw rfl rfl rfl⟩)
     )
     )
  · rw [if_neg h0] at hu
    rw [hu]
    repeat' (first
 | (refine C_id ?_; first
 | refine C_seq ?_
 | refine C_region rfl ?_
 | refine C_skip ?_
 | refine C_ret0 ?_
 | (refine C_cond rfl obQ (fun h => ?_) (fun h => ?_) <;> (try simp only [Bool.or_eq_true, Bool.and_eq_true, Bool.or_eq_false_iff, Bool.and_eq_false_iff, decide_eq_true_eq, decide_eq_false_iff_not, beq_iff_eq, bne_iff_ne, beq_eq_false_iff_ne, bne_eq_false_iff_eq, ne_eq, Decidable.not_not, List.cons.injEq, and_true, Bool.not_eq_true', Bool.not_eq_false', Int.not_lt, Int.not_le] at h) <;> (try (exfalso; omega)) <;> (try (exfalso; simp at h; done)) <;> (try (exfalso; simp only [not_true_eq_false, false_or, or_false] at h; omega)) <;> (try contradiction))
     )
 | (refine S_id ?_; first
 | refine S_nil ?_
 | refine S_run rfl rfl obQ obQ ?_
 | refine S_slice (fun b => ⟨_, _, rfl, obQ, ?_⟩)
     )
 | (refine G_id ?_; first
 | refine G_then ?_
 | refine G_ret rfl obQ (fun w2 hw => ⟨_, rfl, hw.below, HW.slBox (i := 0) hw rfl rfl rfl⟩)
     )
     )

set_option maxHeartbeats 400000 in
/-- genlockref02.ShortCurve -/
theorem rShortCurve_c (A : Option Addr) (n c : Nat) (hn : n ≤ maxLen) (w : World) : Calls Tryz.prog 19 #[.slice A n c] w fun r w' => r = .returned (.bool (decide (n ≤ 17))) ∧ Below w.heap.size w w' := by
  unfold maxLen at hn
  refine calls_of (args := [.slice A n c]) T_ok Tryz.func19 rfl Tryz.ntmps19 (Nat.le_of_ble_eq_true rfl) rfl ?_
  repeat' (first
 | (refine C_id ?_; first
 | refine C_seq ?_
 | refine C_region rfl ?_
 | refine C_block ?_
 | refine C_skip ?_
 | refine C_ret0 ?_
 | (refine C_cond rfl obQ (fun h => ?_) (fun h => ?_) <;> (try simp only [Bool.or_eq_true, Bool.and_eq_true, Bool.or_eq_false_iff, Bool.and_eq_false_iff, decide_eq_true_eq, decide_eq_false_iff_not, beq_iff_eq, bne_iff_ne, beq_eq_false_iff_ne, bne_eq_false_iff_eq, ne_eq, Decidable.not_not, List.cons.injEq, and_true, Bool.not_eq_true', Bool.not_eq_false', Int.not_lt, Int.not_le] at h))
 )
 | (refine S_id ?_; first
 | refine S_nil ?_
 | refine S_run rfl rfl obQ obQ ?_
 )
 | (refine G_id ?_; first
 | refine G_then ?_
 | refine G_thenR ?_
 | refine G_ret rfl obQ (fun w hw => ⟨?_, hw.below⟩)
 )
 )
  exact rB (decide_eq_decide.2 (by omega))

set_option maxHeartbeats 400000 in
/-- genlocklaw02.number -/
theorem lnumber_c (x e b z : Int) (w : World) : Calls Tryz.prog 35 #[.int .i64 x, .int .i64 e, .int .i64 b, .int .i64 z] w fun r w' => r = .returned (.bool (decide (x = if b = 0 then z else 0) && decide (e = b))) ∧ Below w.heap.size w w' := by
  refine calls_of (args := [.int .i64 x, .int .i64 e, .int .i64 b, .int .i64 z]) T_ok Tryz.func35 rfl Tryz.ntmps35 (Nat.le_of_ble_eq_true rfl) rfl ?_
  repeat' (first
 | (refine C_id ?_; first
 | refine C_seq ?_
 | refine C_region rfl ?_
 | refine C_block ?_
 | refine C_skip ?_
 | refine C_ret0 ?_
 | (refine C_cond rfl obQ (fun h => ?_) (fun h => ?_) <;> (try simp only [Bool.or_eq_true, Bool.and_eq_true, Bool.or_eq_false_iff, Bool.and_eq_false_iff, decide_eq_true_eq, decide_eq_false_iff_not, beq_iff_eq, bne_iff_ne, beq_eq_false_iff_ne, bne_eq_false_iff_eq, ne_eq, Decidable.not_not, List.cons.injEq, and_true, Bool.not_eq_true', Bool.not_eq_false', Int.not_lt, Int.not_le] at h))
 )
 | (refine S_id ?_; first
 | refine S_nil ?_
 | refine S_run rfl rfl obQ obQ ?_
 )
 | (refine G_id ?_; first
 | refine G_then ?_
 | refine G_thenR ?_
 | refine G_ret rfl obQ (fun w hw => ⟨?_, hw.below⟩)
 )
 )
  · rw [if_neg h]
    rfl
  · rw [if_pos h]
    rfl

theorem gcd_tstep {a b : Int} : Int.gcd b (a.tmod b) = Int.gcd a b := by
  show Nat.gcd b.natAbs (a.tmod b).natAbs = Nat.gcd a.natAbs b.natAbs
  rw [Int.natAbs_tmod, Nat.gcd_comm b.natAbs, ← Nat.gcd_rec, Nat.gcd_comm]
theorem tmod_bd {a b m : Int} (hb : b ≠ 0) (hm : -m ≤ b ∧ b ≤ m) : (-m ≤ a.tmod b ∧ a.tmod b ≤ m) ∧ (a.tmod b).natAbs < b.natAbs := by
  have h := Nat.mod_lt a.natAbs (show 0 < b.natAbs by omega)
  rw [← Int.natAbs_tmod] at h
  omega

set_option maxHeartbeats 400000 in
/-- genlockref01.Divisor -/
theorem rDivisor_c (n d : Int) (hn : -1125899906842624 ≤ n ∧ n ≤ 1125899906842624) (hd : -1125899906842624 ≤ d ∧ d ≤ 1125899906842624) (w : World) : Calls Tryz.prog 135 #[.int .i64 n, .int .i64 d] w fun r w' => r = .returned (.int .i64 (Int.gcd n d : Nat)) ∧ Below w.heap.size w w' := by
  refine calls_of (args := [.int .i64 n, .int .i64 d]) T_ok Tryz.func135 rfl Tryz.ntmps135 (Nat.le_of_ble_eq_true rfl) rfl ?_
  repeat' (first
 | (refine C_id ?_; first
 | refine C_seq ?_
 | refine C_region rfl ?_
 | refine C_block ?_
 )
 | (refine S_id ?_; first
 | refine S_nil ?_
 | refine S_run rfl rfl obQ obQ ?_
 )
 | (refine G_id ?_; first
 | refine G_then ?_
 )
 )
  refine C_loopS (fun i : Int × Int => ⟨[(0, .s (.v (.int .i64 i.1))), (1, .s (.v (.int .i64 i.2))), (4, .s (.v (.int .i64 0)))], [], []⟩) (fun i => (-1125899906842624 ≤ i.1 ∧ i.1 ≤ 1125899906842624) ∧ (-1125899906842624 ≤ i.2 ∧ i.2 ≤ 1125899906842624) ∧ Int.gcd i.1 i.2 = Int.gcd n d) (fun i => i.2.natAbs) (n, d) ⟨hn, hd, rfl⟩ ?_ (fun i hi => ?_)
  · exact ⟨⟨_, rfl, obQ⟩, ⟨_, rfl⟩, rfl, pstQ⟩
  obtain ⟨a, b⟩ := i
  obtain ⟨ha, hb, hg⟩ := hi
  dsimp only at ha hb hg ⊢
  by_cases hlt : b ≠ 0
  · have h1 := tmod_bd (a := a) (m := 1125899906842624) hlt hb
    repeat' (first
 | (refine C_id ?_; first
 | refine C_seq ?_
 | refine C_region rfl ?_
 | refine C_block ?_
 | refine C_skip ?_
 | refine C_draw (id := 2) rfl mixed (by kernel_rfl) ?_
 | (refine C_cond rfl obQ (fun h => ?_) (fun h => ?_) <;> (try simp only [Bool.or_eq_true, Bool.and_eq_true, Bool.or_eq_false_iff, Bool.and_eq_false_iff, decide_eq_true_eq, decide_eq_false_iff_not, beq_iff_eq, bne_iff_ne, beq_eq_false_iff_ne, bne_eq_false_iff_eq, ne_eq, Decidable.not_not, List.cons.injEq, and_true, Bool.not_eq_true', Bool.not_eq_false', Int.not_lt, Int.not_le] at h) <;> (try (exfalso; omega)))
     )
 | (refine S_id ?_; first
 | refine S_nil ?_
 | refine S_run rfl rfl obQ obQ ?_
     )
 | (refine D_id ?_; first
 | refine D_pure (binX_pure rfl obQ (fun w => wrap_rem _ _ _ _ _ _ (by omega) w)) ?_
 | refine D_nil ?_
 | refine D_run rfl rfl obQ obQ ?_
 | refine D_one rfl obQ ?_
     )
 | (refine G_id ?_; first
 | refine G_loop (b, a.tmod b) ⟨hb, h1.1, by rw [← hg]; exact gcd_tstep⟩ (by show (a.tmod b).natAbs < b.natAbs; omega) ⟨⟨_, rfl, obQ⟩, ⟨_, rfl⟩, rfl, pstQ⟩
 | refine G_then ?_
 | refine G_block ?_
     )
     )
  · obtain rfl : b = 0 := by omega
    have hga : ((Int.gcd n d : Nat) : Int) = (a.natAbs : Int) := by rw [← hg, Int.gcd_zero_right]
    repeat' (first
 | (refine C_id ?_; first
 | refine C_seq ?_
 | refine C_region rfl ?_
 | refine C_skip ?_
 | refine C_exit ?_
 | refine C_ret0 ?_
 | refine C_condF rfl obQ ?_
 | (refine C_cond rfl obQ (fun h => ?_) (fun h => ?_) <;> (try simp only [Bool.or_eq_true, Bool.and_eq_true, Bool.or_eq_false_iff, Bool.and_eq_false_iff, decide_eq_true_eq, decide_eq_false_iff_not, beq_iff_eq, bne_iff_ne, beq_eq_false_iff_ne, bne_eq_false_iff_eq, ne_eq, Decidable.not_not, List.cons.injEq, and_true, Bool.not_eq_true', Bool.not_eq_false', Int.not_lt, Int.not_le] at h) <;> (try (exfalso; omega)))
     )
 | (refine S_id ?_; first
 | refine S_nil ?_
 | refine S_run rfl rfl obQ obQ ?_
     )
 | (refine G_id ?_; first
 | refine G_then ?_
 | refine G_blockX ?_
 | refine G_thenR ?_
 | refine G_thenX ?_
 | refine G_ret rfl obQ (fun w hw => ⟨?_, hw.below⟩)
     )
     )
    · rw [hga, show (a.natAbs : Int) = 0 - a by omega]
    · rw [hga, show (a.natAbs : Int) = a by omega]

set_option maxHeartbeats 400000 in
/-- colour.divisor -/
theorem divisor_c (n d : Int) (hn : -1125899906842624 ≤ n ∧ n ≤ 1125899906842624) (hd : -1125899906842624 ≤ d ∧ d ≤ 1125899906842624) (w : World) : Calls Tryz.prog 132 #[.int .i64 n, .int .i64 d] w fun r w' => r = .returned (.int .i64 (Int.gcd n d : Nat)) ∧ Below w.heap.size w w' := by
  refine calls_of (args := [.int .i64 n, .int .i64 d]) T_ok Tryz.func132 rfl Tryz.ntmps132 (Nat.le_of_ble_eq_true rfl) rfl ?_
  repeat' (first
 | (refine C_id ?_; first
 | refine C_seq ?_
 | refine C_region rfl ?_
 | refine C_block ?_
 )
 | (refine S_id ?_; first
 | refine S_nil ?_
 | refine S_run rfl rfl obQ obQ ?_
 )
 | (refine G_id ?_; first
 | refine G_then ?_
 )
 )
  refine C_loopS (fun i : Int × Int => ⟨[(0, .s (.v (.int .i64 i.1))), (1, .s (.v (.int .i64 i.2))), (4, .s (.v (.int .i64 0)))], [], []⟩) (fun i => (-1125899906842624 ≤ i.1 ∧ i.1 ≤ 1125899906842624) ∧ (-1125899906842624 ≤ i.2 ∧ i.2 ≤ 1125899906842624) ∧ Int.gcd i.1 i.2 = Int.gcd n d) (fun i => i.2.natAbs) (n, d) ⟨hn, hd, rfl⟩ ?_ (fun i hi => ?_)
  · exact ⟨⟨_, rfl, obQ⟩, ⟨_, rfl⟩, rfl, pstQ⟩
  obtain ⟨a, b⟩ := i
  obtain ⟨ha, hb, hg⟩ := hi
  dsimp only at ha hb hg ⊢
  by_cases hlt : b ≠ 0
  · have h1 := tmod_bd (a := a) (m := 1125899906842624) hlt hb
    repeat' (first
 | (refine C_id ?_; first
 | refine C_seq ?_
 | refine C_region rfl ?_
 | refine C_block ?_
 | refine C_skip ?_
 | refine C_draw (id := 2) rfl mixed (by kernel_rfl) ?_
 | (refine C_cond rfl obQ (fun h => ?_) (fun h => ?_) <;> (try simp only [Bool.or_eq_true, Bool.and_eq_true, Bool.or_eq_false_iff, Bool.and_eq_false_iff, decide_eq_true_eq, decide_eq_false_iff_not, beq_iff_eq, bne_iff_ne, beq_eq_false_iff_ne, bne_eq_false_iff_eq, ne_eq, Decidable.not_not, List.cons.injEq, and_true, Bool.not_eq_true', Bool.not_eq_false', Int.not_lt, Int.not_le] at h) <;> (try (exfalso; omega)))
     )
 | (refine S_id ?_; first
 | refine S_nil ?_
 | refine S_run rfl rfl obQ obQ ?_
     )
 | (refine D_id ?_; first
 | refine D_pure (binX_pure rfl obQ (fun w => wrap_rem _ _ _ _ _ _ (by omega) w)) ?_
 | refine D_nil ?_
 | refine D_run rfl rfl obQ obQ ?_
 | refine D_one rfl obQ ?_
     )
 | (refine G_id ?_; first
 | refine G_loop (b, a.tmod b) ⟨hb, h1.1, by rw [← hg]; exact gcd_tstep⟩ (by show (a.tmod b).natAbs < b.natAbs; omega) ⟨⟨_, rfl, obQ⟩, ⟨_, rfl⟩, rfl, pstQ⟩
 | refine G_then ?_
 | refine G_block ?_
     )
     )
  · obtain rfl : b = 0 := by omega
    have hga : ((Int.gcd n d : Nat) : Int) = (a.natAbs : Int) := by rw [← hg, Int.gcd_zero_right]
    repeat' (first
 | (refine C_id ?_; first
 | refine C_seq ?_
 | refine C_region rfl ?_
 | refine C_skip ?_
 | refine C_exit ?_
 | refine C_ret0 ?_
 | refine C_condF rfl obQ ?_
 | (refine C_cond rfl obQ (fun h => ?_) (fun h => ?_) <;> (try simp only [Bool.or_eq_true, Bool.and_eq_true, Bool.or_eq_false_iff, Bool.and_eq_false_iff, decide_eq_true_eq, decide_eq_false_iff_not, beq_iff_eq, bne_iff_ne, beq_eq_false_iff_ne, bne_eq_false_iff_eq, ne_eq, Decidable.not_not, List.cons.injEq, and_true, Bool.not_eq_true', Bool.not_eq_false', Int.not_lt, Int.not_le] at h) <;> (try (exfalso; omega)))
     )
 | (refine S_id ?_; first
 | refine S_nil ?_
 | refine S_run rfl rfl obQ obQ ?_
     )
 | (refine G_id ?_; first
 | refine G_then ?_
 | refine G_blockX ?_
 | refine G_thenR ?_
 | refine G_thenX ?_
 | refine G_ret rfl obQ (fun w hw => ⟨?_, hw.below⟩)
     )
     )
    exact rI (by rw [hga]; omega)

set_option maxHeartbeats 400000 in
/-- genlockref01.Sixteenths -/
theorem sixteenths_c (b : Nat) (hf : Fin32 b) (hb : -2 ^ 159 ≤ B32 b ∧ B32 b ≤ 2 ^ 159) (w : World) : Calls Tryz.prog 98 #[.float .f32 b] w fun r w' => r = .returned (.int .i64 (lvl b)) ∧ Below w.heap.size w w' := by
  obtain ⟨r, hm, hr1, hr2⟩ := mul16 hf hb
  have hl := lvl_bd hb
  refine calls_of (args := [.float .f32 b]) T_ok Tryz.func98 rfl Tryz.ntmps98 (Nat.le_of_ble_eq_true rfl) rfl ?_
  repeat' (first
 | (refine C_id ?_; first
 | refine C_seq ?_
 | refine C_region rfl ?_
 | refine C_ret0 ?_
 )
 | (refine S_id ?_; first
 | refine S_pure (binX_pure rfl obQ (fun w => fl_arith (op := .mul) (k := .f32) hm _ _ _ w)) ?_
 | refine S_pure (convX_pure rfl obQ (fun w => cv_lvl hr2 hr1 hl w)) ?_
 | refine S_nil ?_
 | refine S_run rfl rfl obQ obQ ?_
 )
 | (refine G_id ?_; first
 | refine G_then ?_
 | refine G_ret rfl obQ (fun w hw => ⟨?_, hw.below⟩)
 )
 )
  rfl

set_option maxHeartbeats 400000 in
/-- genlockref01.Sample -/
theorem rSample_c (n : Int) (hn : -16384 ≤ n ∧ n ≤ 16384) (w : World) : Calls Tryz.prog 99 #[.int .i64 n] w fun r w' => r = .returned (.float .f32 (smp n)) ∧ Below w.heap.size w w' := by
  have hs := (smp_ok (n := n) (by omega)).1
  refine calls_of (args := [.int .i64 n]) T_ok Tryz.func99 rfl Tryz.ntmps99 (Nat.le_of_ble_eq_true rfl) rfl ?_
  repeat' (first
 | (refine C_id ?_; first
 | refine C_seq ?_
 | refine C_region rfl ?_
 | refine C_ret0 ?_
 )
 | (refine S_id ?_; first
 | refine S_pure (convX_pure rfl obQ (fun w => cv_flt n w)) ?_
 | refine S_pure (binX_pure rfl obQ (fun w => fl_arith (op := .quo) (k := .f32) hs _ _ _ w)) ?_
 | refine S_nil ?_
 | refine S_run rfl rfl obQ obQ ?_
 )
 | (refine G_id ?_; first
 | refine G_then ?_
 | refine G_ret rfl obQ (fun w hw => ⟨?_, hw.below⟩)
 )
 )
  rfl

set_option maxHeartbeats 400000 in
/-- genlockref01.IsLarge -/
theorem rIsLarge_c (n : Int) (w : World) : Calls Tryz.prog 145 #[.int .i64 n] w fun r w' => r = .returned (.bool (decide (16384 < n) || decide (n < -16384))) ∧ Below w.heap.size w w' := by
  refine calls_of (args := [.int .i64 n]) T_ok Tryz.func145 rfl Tryz.ntmps145 (Nat.le_of_ble_eq_true rfl) rfl ?_
  repeat' (first
 | (refine C_id ?_; first
 | refine C_seq ?_
 | refine C_region rfl ?_
 | refine C_block ?_
 | refine C_skip ?_
 | refine C_ret0 ?_
 | (refine C_cond rfl obQ (fun h => ?_) (fun h => ?_) <;> (try simp only [Bool.or_eq_true, Bool.and_eq_true, Bool.or_eq_false_iff, Bool.and_eq_false_iff, decide_eq_true_eq, decide_eq_false_iff_not, beq_iff_eq, bne_iff_ne, beq_eq_false_iff_ne, bne_eq_false_iff_eq, ne_eq, Decidable.not_not, List.cons.injEq, and_true, Bool.not_eq_true', Bool.not_eq_false', Int.not_lt, Int.not_le] at h))
 )
 | (refine S_id ?_; first
 | refine S_nil ?_
 | refine S_run rfl rfl obQ obQ ?_
 )
 | (refine G_id ?_; first
 | refine G_then ?_
 | refine G_thenR ?_
 | refine G_ret rfl obQ (fun w hw => ⟨?_, hw.below⟩)
 )
 )
  rfl

def gB (l : List Nat) (k : Nat) : Nat := l.getD k 0
theorem gB_at {l : List Nat} {k : Nat} (h : k < l.length) : gB l k = l[k] := by simp [gB, h]
theorem gB_idx {l : List Nat} {k : Nat} (h : k < l.length) : ∀ (j : Nat) (u : Value), ([.float .f32 (gB l k)] : List Value)[j]? = some u → (l.map (Value.float .f32))[((k : Int).toNat * 1 + j)]? = some u := by
  rw [gB_at h]
  exact idx1 h
theorem gB_mem {l : List Nat} {k : Nat} (h : k < l.length) : gB l k ∈ l := by rw [gB_at h]; exact List.getElem_mem h
theorem fl_ne_to {k : FloatKind} {a b : Nat} {r : Bool} {X : Cx} (h : (k.format.order a b != some .eq) = r) (t : TypeId) (x y : Operand) (w : World) : (do eqGuard .neq t x y (.float k a) (.float k b); binOp .neq t (.float k a) (.float k b) : Sem Value).run X.P w = .ok (.bool r) w := by
  subst h
  simp only [Sem.run_bind, eqGuard_float, Result.andThen_ok]
  simp [binOp, Op.floatCmp]
theorem eq_gB {a b : List Nat} (hl : a.length = b.length) (h : ∀ k, k < a.length → B32 (gB a k) = B32 (gB b k)) : a.map B32 = b.map B32 := by
  refine List.ext_getElem (by simpa using hl) fun k h1 h2 => ?_
  have hk : k < a.length := by simpa using h1
  have := h k hk
  rw [gB_at hk, gB_at (by omega)] at this
  simpa using this

set_option maxHeartbeats 400000 in
/-- genlockref01.SameSamples -/
theorem rSameSamples_c (A B : Option Addr) (c c2 : Nat) (a b : List Nat) (ha : a.length ≤ 1000000) (hb : b.length ≤ 1000000) (fa : ∀ x ∈ a, Fin32 x) (fb : ∀ x ∈ b, Fin32 x) (w : World) (hra : Rd w A (a.map (.float .f32))) (hrb : Rd w B (b.map (.float .f32))) : Calls Tryz.prog 109 #[.slice A a.length c, .slice B b.length c2] w fun r w' => r = .returned (.bool (decide (a.map B32 = b.map B32))) ∧ Below w.heap.size w w' := by
  refine calls_of (args := [.slice A a.length c, .slice B b.length c2]) T_ok Tryz.func109 rfl Tryz.ntmps109 (Nat.le_of_ble_eq_true rfl) rfl ?_
  repeat' (first
 | (refine C_id ?_; first
 | refine C_seq ?_
 | refine C_region rfl ?_
 | refine C_block ?_
 | refine C_skip ?_
 | refine C_ret0 ?_
 | (refine C_cond rfl obQ (fun h => ?_) (fun h => ?_) <;> (try simp only [Bool.or_eq_true, Bool.and_eq_true, Bool.or_eq_false_iff, Bool.and_eq_false_iff, decide_eq_true_eq, decide_eq_false_iff_not, beq_iff_eq, bne_iff_ne, beq_eq_false_iff_ne, bne_eq_false_iff_eq, ne_eq, Decidable.not_not, List.cons.injEq, and_true, Bool.not_eq_true', Bool.not_eq_false', Int.not_lt, Int.not_le] at h))
 )
 | (refine S_id ?_; first
 | refine S_nil ?_
 | refine S_run rfl rfl obQ obQ ?_
 )
 | (refine G_id ?_; first
 | refine G_then ?_
 | refine G_thenR ?_
 | refine G_ret rfl obQ (fun w hw => ⟨?_, hw.below⟩)
 )
 )
  · exact rB (decide_eq_false fun e => by have := congrArg List.length e; simp at this; omega).symm
  have hlen : a.length = b.length := by omega
  refine C_loopS (fun k : Nat => ⟨[(5, .s (.v (.int .i64 k))), (0, .s (.v (.slice A a.length c))), (1, .s (.v (.slice B b.length c2)))], [], []⟩) (fun k => k ≤ a.length ∧ ∀ j, j < k → B32 (gB a j) = B32 (gB b j)) (fun k => a.length - k) 0 ⟨Nat.zero_le _, fun j hj => absurd hj (Nat.not_lt_zero j)⟩ ?_ (fun k hk => ?_)
  · exact ⟨⟨_, rfl, obQ⟩, ⟨_, rfl⟩, rfl, pstQ⟩
  by_cases hlt : k < a.length
  · have hlb : k < b.length := by omega
    obtain ⟨ad, rfl⟩ := hra.some (by simp; omega)
    obtain ⟨bd, rfl⟩ := hrb.some (by simp; omega)
    have hord := order32 (fa _ (gB_mem hlt)) (fb _ (gB_mem hlb))
    have hne : (FloatKind.f32.format.order (gB a k) (gB b k) != some .eq) = decide (B32 (gB a k) ≠ B32 (gB b k)) := by
      rw [show FloatKind.f32.format = Ieee.single from rfl, hord, cmp_ne]
    repeat' (first
 | (refine C_id ?_; first
 | refine C_seq ?_
 | refine C_region rfl ?_
 | refine C_block ?_
 | refine C_skip ?_
 | refine C_ret0 ?_
 | refine C_draw (id := 6) rfl mixed (by kernel_rfl) ?_
 | (refine C_cond rfl obQ (fun h => ?_) (fun h => ?_) <;> (try simp only [Bool.or_eq_true, Bool.and_eq_true, Bool.or_eq_false_iff, Bool.and_eq_false_iff, decide_eq_true_eq, decide_eq_false_iff_not, beq_iff_eq, bne_iff_ne, beq_eq_false_iff_ne, bne_eq_false_iff_eq, ne_eq, Decidable.not_not, List.cons.injEq, and_true, Bool.not_eq_true', Bool.not_eq_false', Int.not_lt, Int.not_le] at h) <;> (try (exfalso; omega)))
     )
 | (refine S_id ?_; first
 | refine S_nil ?_
 | refine S_run rfl rfl obQ obQ ?_
     )
 | (refine D_id ?_; first
 | refine D_pure (binX_pure rfl obQ (fun w => fl_ne_to hne _ _ _ w)) ?_
 | refine D_load rfl obQ rfl [.float .f32 (gB a k)] (.past _ memQ _ _ hra.toS _ _ rfl rfl (gB_idx (l := a) hlt)) rfl (.inr ⟨rfl, rfl⟩) ?_
 | refine D_load rfl obQ rfl [.float .f32 (gB b k)] (.past _ memQ _ _ hrb.toS _ _ rfl rfl (gB_idx (l := b) hlb)) rfl (.inr ⟨rfl, rfl⟩) ?_
 | refine D_nil ?_
 | refine D_run rfl rfl obQ obQ ?_
     )
 | (refine G_id ?_; first
 | refine G_loop (k + 1) ?_ (by omega) ⟨⟨_, rfl, obQ⟩, ⟨_, rfl⟩, rfl, pstQ⟩
 | refine G_then ?_
 | refine G_block ?_
 | refine G_blockR ?_
 | refine G_thenR ?_
 | refine G_ret rfl obQ (fun w hw => ⟨?_, hw.below⟩)
     )
     )
    · refine rB (decide_eq_false fun e => ?_).symm
      have h1 : (a.map B32)[k]? = (b.map B32)[k]? := by rw [e]
      rw [gB_at hlt, gB_at hlb] at h
      simp [hlt, hlb] at h1
      simp [h1] at h
    · refine ⟨by omega, fun j hj => ?_⟩
      rcases Nat.lt_or_ge j k with h1 | h1
      · exact hk.2 j h1
      · obtain rfl : j = k := by omega
        exact h
  · obtain rfl : k = a.length := by omega
    repeat' (first
 | (refine C_id ?_; first
 | refine C_seq ?_
 | refine C_region rfl ?_
 | refine C_exit ?_
 | refine C_ret0 ?_
 | (refine C_cond rfl obQ (fun h => ?_) (fun h => ?_) <;> (try simp only [Bool.or_eq_true, Bool.and_eq_true, Bool.or_eq_false_iff, Bool.and_eq_false_iff, decide_eq_true_eq, decide_eq_false_iff_not, beq_iff_eq, bne_iff_ne, beq_eq_false_iff_ne, bne_eq_false_iff_eq, ne_eq, Decidable.not_not, List.cons.injEq, and_true, Bool.not_eq_true', Bool.not_eq_false', Int.not_lt, Int.not_le] at h) <;> (try (exfalso; omega)))
     )
 | (refine S_id ?_; first
 | refine S_nil ?_
 | refine S_run rfl rfl obQ obQ ?_
     )
 | (refine G_id ?_; first
 | refine G_then ?_
 | refine G_blockX ?_
 | refine G_thenX ?_
 | refine G_ret rfl obQ (fun w hw => ⟨?_, hw.below⟩)
     )
     )
    exact rB (decide_eq_true (eq_gB hlen hk.2)).symm

end Go.Proofs.YtdbffbcobghbeaaGreatDoor
