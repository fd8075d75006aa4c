/- The colours of a cube: the reference. -/
import Derived.Test.YtdbffbcobghbeaaGreatDoorColour13
import Derived.Test.YtdbffbcobghbeaaGreatDoorColour32
namespace Go.Proofs.YtdbffbcobghbeaaGreatDoor
open Go.E Go.RowKit Go.Fl
attribute [local irreducible] G C S D Calls
set_option maxRecDepth 100000
set_option linter.unusedSimpArgs false
set_option linter.unusedVariables false

set_option maxHeartbeats 400000 in
/-- genlockref02.CheckInterval -/
theorem rCheckInterval_c (lo hi : Int) (w : World) : Calls Tryz.prog 49 #[.agg #[.int .i64 lo, .int .i64 hi]] w fun r w' => r = .returned (.int .i64 (ivE lo hi)) ∧ Below w.heap.size w w' := by
  refine calls_of (args := [.agg #[.int .i64 lo, .int .i64 hi]]) T_ok Tryz.func49 rfl Tryz.ntmps49 (Nat.le_of_ble_eq_true rfl) rfl ?_
  repeat' (first
 | (refine C_id ?_; first
 | refine C_seq ?_
 | refine C_region rfl ?_
 | refine C_ret0 ?_
 | refine C_drawV (id := 1) 11 [(0, true), (1, true), (3, true), (4, true), (6, true), (7, true), (8, true), (9, true), (10, true), (2, false), (5, false)] rfl mixed (by kernel_rfl) rfl ?_
 )
 | (refine S_id ?_; first
 | refine S_nil ?_
 | refine S_run rfl rfl obQ obQ ?_
 | refine S_box (fun b => ⟨_, _, rfl, obQ, ?_⟩)
 | refine S_slice (fun b => ⟨_, _, rfl, obQ, ?_⟩)
 | refine S_call (f := 118) rfl obQ (by kernel_rfl) (fun w hw => rlevel_c _ w) ?_
 | refine S_call (f := 119) rfl obQ (by kernel_rfl) (fun w hw => rWhen_c _ _ w) ?_
 | refine S_call (f := 117) rfl obQ (by kernel_rfl) (fun w hw => rFirst_c _ _ [lvE lo, lvE hi, wh (decide (hi < lo)) 11] (by simp) w (.inr ⟨_, rfl, hw.src (i := 1) rfl rfl⟩)) ?_
 )
 | (refine V_id ?_; first
 | refine V_nil ?_
 | refine V_q rfl (Yl_step rfl obQ) ?_
 | refine V_n rfl ?_
 )
 | (refine G_id ?_; first
 | refine G_V ⟨⟨_, rfl, trivial⟩, ⟨_, rfl⟩, rfl, pstQ⟩ rfl ?_
 | refine G_then ?_
 | refine G_ret rfl obQ (fun w hw => ⟨?_, hw.below⟩)
 )
 )
  rfl

/-- The number of a colour of a cube of side n. -/
def cuK (n : Nat) (i j m : Nat) : Nat := (i * n + j) * n + m
theorem cuA {lo hi : Int} {n : Nat} (hn : hi - lo + 1 = n) {i j m : Nat} (hj : j < n) (hm : m < n) : colA lo hi (cuK n i j m) = (lo + i, lo + j, lo + m) := by
  have h0 : 0 < n := by omega
  have e1 : cuK n i j m / n = i * n + j := by
    unfold cuK
    rw [Nat.mul_comm (i * n + j) n, Nat.mul_add_div h0, Nat.div_eq_of_lt hm, Nat.add_zero]
  have e2 : cuK n i j m % n = m := by
    unfold cuK
    rw [Nat.mul_comm (i * n + j) n, Nat.mul_add_mod, Nat.mod_eq_of_lt hm]
  have e3 : (i * n + j) / n = i := by rw [Nat.mul_comm i n, Nat.mul_add_div h0, Nat.div_eq_of_lt hj, Nat.add_zero]
  have e4 : (i * n + j) % n = j := by rw [Nat.mul_comm i n, Nat.mul_add_mod, Nat.mod_eq_of_lt hj]
  unfold colA
  rw [hn, ← Int.natCast_ediv, e1, ← Int.natCast_ediv, e3, ← Int.natCast_emod, e4, ← Int.natCast_emod, e2]
theorem cuK_lt {n i j m : Nat} (hi : i < n) (hj : j < n) (hm : m < n) : cuK n i j m < n * n * n := by
  have h1 : i * n + j + 1 ≤ n * n := by
    have := Nat.mul_le_mul_right n (show i + 1 ≤ n by omega)
    rw [Nat.add_mul, Nat.one_mul] at this
    omega
  have h2 := Nat.mul_le_mul_right n h1
  rw [Nat.add_mul, Nat.one_mul] at h2
  unfold cuK
  omega
theorem cubeN_n {lo hi : Int} {n : Nat} (hn : hi - lo + 1 = n) : cubeN lo hi = n * n * n := by
  unfold cubeN
  rw [hn]
  have : ((n : Int) * n * n) = ((n * n * n : Nat) : Int) := by simp
  rw [this, Int.toNat_natCast]
theorem cu_take {lo hi : Int} {n : Nat} (hn : hi - lo + 1 = n) {i j m : Nat} (hi' : i < n) (hj : j < n) (hm : m < n) : (cubeL lo hi).take (cuK n i j (m + 1)) = (cubeL lo hi).take (cuK n i j m) ++ [(lo + i, lo + j, lo + m)] := by
  have h1 : cuK n i j m < (cubeL lo hi).length := by
    have := cuK_lt hi' hj hm
    rw [← cubeN_n hn] at this
    simpa [cubeL] using this
  have h2 : cuK n i j (m + 1) = cuK n i j m + 1 := by unfold cuK; omega
  rw [h2, List.take_succ_eq_append_getElem h1]
  congr 2
  rw [← cuA hn hj hm]
  simp [cubeL]
theorem cuK_j (n i j : Nat) : cuK n i j n = cuK n i (j + 1) 0 := by
  unfold cuK
  rw [show i * n + (j + 1) = i * n + j + 1 by omega, Nat.add_mul (i * n + j) 1 n]
  omega
theorem cuK_i (n i : Nat) : cuK n i n 0 = cuK n (i + 1) 0 0 := by
  unfold cuK
  rw [Nat.add_mul i 1 n, Nat.one_mul, Nat.add_zero]
  rfl
theorem cu_len {lo hi : Int} {n k : Nat} (hn : hi - lo + 1 = n) (hk : k ≤ n * n * n) : ((cubeL lo hi).take k).length = k := by
  rw [List.length_take]
  have : (cubeL lo hi).length = n * n * n := by rw [← cubeN_n hn]; simp [cubeL]
  omega

set_option maxHeartbeats 1000000 in
/-- genlockref02.Colours -/
theorem rColours_c (lo hi : Int) (hc : CuOk lo hi) (w : World) : Calls Tryz.prog 136 #[.agg #[.int .i64 lo, .int .i64 hi]] w fun r w' => ∃ v, r = .returned v ∧ Below w.heap.size w w' ∧ Sl w w' v (cubeL lo hi).length ((cubeL lo hi).flatMap coC) := by
  refine calls_of (args := [.agg #[.int .i64 lo, .int .i64 hi]]) T_ok Tryz.func136 rfl Tryz.ntmps136 (Nat.le_of_ble_eq_true rfl) rfl ?_
  have hlo := hc.low
  have hhi := hc.high
  obtain ⟨n, hn⟩ : ∃ n : Nat, hi - lo + 1 = n := ⟨(hi - lo + 1).toNat, by have := hc.n; omega⟩
  have hnb := hc.n
  have hn6 : n ≤ 6 := by omega
  have hnn : n * n * n ≤ 216 := by
    have h1 : n = 1 ∨ n = 2 ∨ n = 3 ∨ n = 4 ∨ n = 5 ∨ n = 6 := by omega
    rcases h1 with rfl | rfl | rfl | rfl | rfl | rfl <;> decide
  have hN := cubeN_n hn
  repeat' (first
 | (refine C_id ?_; first
 | refine C_seq ?_
 | refine C_regionNe 2 rfl rfl ?_
   )
 | (refine S_id ?_; first
 | refine S_nil ?_
 | refine S_run rfl rfl obQ obQ ?_
 | refine S_box (fun b0 => ⟨_, _, rfl, obQ, ?_⟩)
   )
 | (refine G_id ?_; first
 | refine G_then ?_
   )
   )
  obtain ⟨b1, rfl⟩ : ∃ z, z = b0 := ⟨b0, rfl⟩
  refine C_row0 3 50 3 rfl ?_
  repeat' (first
 | (refine C_id ?_; first
 | refine C_seq ?_
 | refine C_region rfl ?_
 | refine C_block ?_
 | refine C_skip ?_
 | (refine C_cond rfl obQ (fun h => ?_) (fun h => ?_) <;> (try simp only [Bool.or_eq_true, Bool.and_eq_true, Bool.or_eq_false_iff, Bool.and_eq_false_iff, decide_eq_true_eq, decide_eq_false_iff_not, beq_iff_eq, bne_iff_ne, beq_eq_false_iff_ne, bne_eq_false_iff_eq, ne_eq, Decidable.not_not, List.cons.injEq, and_true, Bool.not_eq_true', Bool.not_eq_false', Int.not_lt, Int.not_le] at h) <;> (try (exfalso; omega)))
   )
 | (refine S_id ?_; first
 | refine S_nil ?_
 | refine S_run rfl rfl obQ obQ ?_
   )
 | (refine G_id ?_; first
 | refine G_then ?_
   )
   )
  refine C_loopS (fun i : Nat × Int × Option Addr × Nat => ⟨[(4, .s (.v (.int .i64 i.2.1))), (3, .s (.r i.2.2.1 (cuK n i.1 0 0) i.2.2.2 0)), (1, .s (.p b1 0 0))], [⟨b1, 73, [.v (.int .i64 lo), .v (.int .i64 hi)]⟩], [⟨50, 3, cuK n i.1 0 0, ((cubeL lo hi).take (cuK n i.1 0 0)).flatMap coC, .slice i.2.2.1 (cuK n i.1 0 0) i.2.2.2⟩]⟩) (fun i => i.1 ≤ n ∧ i.2.1 = lo + i.1) (fun i => n - i.1) (0, lo, none, 0) ⟨Nat.zero_le _, by simp⟩ ?_ (fun i hi0 => ?_)
  · dsimp only
    rw [show cuK n 0 0 0 = 0 by simp [cuK]]
    exact ⟨⟨_, rfl, obQ⟩, ⟨_, rfl⟩, rfl, pstQ⟩
  obtain ⟨a, za, A1, c1⟩ := i
  obtain ⟨ha, hza⟩ : a ≤ n ∧ za = lo + a := hi0
  dsimp only
  by_cases hla : a < n
  · repeat' (first
 | (refine C_id ?_; first
 | refine C_seq ?_
 | refine C_region rfl ?_
 | refine C_block ?_
 | refine C_skip ?_
 | (refine C_cond rfl obQ (fun h => ?_) (fun h => ?_) <;> (try simp only [Bool.or_eq_true, Bool.and_eq_true, Bool.or_eq_false_iff, Bool.and_eq_false_iff, decide_eq_true_eq, decide_eq_false_iff_not, beq_iff_eq, bne_iff_ne, beq_eq_false_iff_ne, bne_eq_false_iff_eq, ne_eq, Decidable.not_not, List.cons.injEq, and_true, Bool.not_eq_true', Bool.not_eq_false', Int.not_lt, Int.not_le] at h) <;> (try (exfalso; omega)))
     )
 | (refine S_id ?_; first
 | refine S_nil ?_
 | refine S_run rfl rfl obQ obQ ?_
     )
 | (refine G_id ?_; first
 | refine G_then ?_
     )
     )
    refine C_loopS (fun i : Nat × Int × Option Addr × Nat => ⟨[(5, .s (.v (.int .i64 i.2.1))), (4, .s (.v (.int .i64 za))), (3, .s (.r i.2.2.1 (cuK n a i.1 0) i.2.2.2 0)), (1, .s (.p b1 0 0))], [⟨b1, 73, [.v (.int .i64 lo), .v (.int .i64 hi)]⟩], [⟨50, 3, cuK n a i.1 0, ((cubeL lo hi).take (cuK n a i.1 0)).flatMap coC, .slice i.2.2.1 (cuK n a i.1 0) i.2.2.2⟩]⟩) (fun i => i.1 ≤ n ∧ i.2.1 = lo + i.1) (fun i => n - i.1) (0, lo, A1, c1) ⟨Nat.zero_le _, by simp⟩ ?_ (fun i hi0 => ?_)
    · exact ⟨⟨_, rfl, obQ⟩, ⟨_, rfl⟩, rfl, pstQ⟩
    obtain ⟨b, zb, A2, c2⟩ := i
    obtain ⟨hb, hzb⟩ : b ≤ n ∧ zb = lo + b := hi0
    dsimp only
    by_cases hlb : b < n
    · repeat' (first
 | (refine C_id ?_; first
 | refine C_seq ?_
 | refine C_region rfl ?_
 | refine C_block ?_
 | refine C_skip ?_
 | (refine C_cond rfl obQ (fun h => ?_) (fun h => ?_) <;> (try simp only [Bool.or_eq_true, Bool.and_eq_true, Bool.or_eq_false_iff, Bool.and_eq_false_iff, decide_eq_true_eq, decide_eq_false_iff_not, beq_iff_eq, bne_iff_ne, beq_eq_false_iff_ne, bne_eq_false_iff_eq, ne_eq, Decidable.not_not, List.cons.injEq, and_true, Bool.not_eq_true', Bool.not_eq_false', Int.not_lt, Int.not_le] at h) <;> (try (exfalso; omega)))
       )
 | (refine S_id ?_; first
 | refine S_nil ?_
 | refine S_run rfl rfl obQ obQ ?_
       )
 | (refine G_id ?_; first
 | refine G_then ?_
       )
       )
      refine C_loopS (fun i : Nat × Int × Option Addr × Nat => ⟨[(6, .s (.v (.int .i64 i.2.1))), (5, .s (.v (.int .i64 zb))), (4, .s (.v (.int .i64 za))), (3, .s (.r i.2.2.1 (cuK n a b i.1) i.2.2.2 0)), (1, .s (.p b1 0 0))], [⟨b1, 73, [.v (.int .i64 lo), .v (.int .i64 hi)]⟩], [⟨50, 3, cuK n a b i.1, ((cubeL lo hi).take (cuK n a b i.1)).flatMap coC, .slice i.2.2.1 (cuK n a b i.1) i.2.2.2⟩]⟩) (fun i => i.1 ≤ n ∧ i.2.1 = lo + i.1) (fun i => n - i.1) (0, lo, A2, c2) ⟨Nat.zero_le _, by simp⟩ ?_ (fun i hi0 => ?_)
      · exact ⟨⟨_, rfl, obQ⟩, ⟨_, rfl⟩, rfl, pstQ⟩
      obtain ⟨m, zm, A3, c3⟩ := i
      obtain ⟨hm, hzm⟩ : m ≤ n ∧ zm = lo + m := hi0
      dsimp only
      by_cases hlm : m < n
      · have hlt := cuK_lt hla hlb hlm
        have htk := cu_take hn hla hlb hlm
        rw [← hza, ← hzb, ← hzm] at htk
        repeat' (first
 | (refine C_id ?_; first
 | refine C_seq ?_
 | refine C_region rfl ?_
 | refine C_block ?_
 | refine C_skip ?_
 | (refine C_cond rfl obQ (fun h => ?_) (fun h => ?_) <;> (try simp only [Bool.or_eq_true, Bool.and_eq_true, Bool.or_eq_false_iff, Bool.and_eq_false_iff, decide_eq_true_eq, decide_eq_false_iff_not, beq_iff_eq, bne_iff_ne, beq_eq_false_iff_ne, bne_eq_false_iff_eq, ne_eq, Decidable.not_not, List.cons.injEq, and_true, Bool.not_eq_true', Bool.not_eq_false', Int.not_lt, Int.not_le] at h) <;> (try (exfalso; omega)))
         )
 | (refine S_id ?_; first
 | refine S_append rfl obQ rfl rfl rfl ⟨by decide, rfl⟩ rfl ⟨rfl, rfl, rfl, rfl⟩ [.int .i64 za, .int .i64 zb, .int .i64 zm] ⟨by decide, rfl⟩ (by simp [Value.oneCell']) (fun w hw => by first | exact hw.src (i := 0) rfl rfl | exact hw.src (i := 1) rfl rfl | exact hw.src (i := 2) rfl rfl | exact hw.src (i := 3) rfl rfl | exact hw.src (i := 4) rfl rfl | exact hw.src (i := 5) rfl rfl | exact hw.src (i := 6) rfl rfl | exact hw.src (i := 7) rfl rfl | exact hw.src (i := 8) rfl rfl) (by unfold maxLen; dsimp only; omega) (fun gb cap' => ⟨_, rfl, ?_⟩)
 | refine S_nil ?_
 | refine S_run rfl rfl obQ obQ ?_
 | refine S_slice (fun b => ⟨_, _, rfl, obQ, ?_⟩)
         )
 | (refine G_id ?_; first
 | refine G_loop (m + 1, zm + 1, some ⟨gb, 0, none⟩, cap') (show m + 1 ≤ n ∧ zm + 1 = lo + ((m + 1 : Nat) : Int) by omega) (by show n - (m + 1) < n - m; omega) (by dsimp only; rw [htk, List.flatMap_append]; exact ⟨⟨_, rfl, obQ⟩, ⟨_, rfl⟩, rfl, pstQ⟩)
 | refine G_then ?_
 | refine G_block ?_
         )
         )
      · obtain rfl : m = n := by omega
        rw [cuK_j]
        repeat' (first
 | (refine C_id ?_; first
 | refine C_seq ?_
 | refine C_region rfl ?_
 | refine C_exit ?_
 | (refine C_cond rfl obQ (fun h => ?_) (fun h => ?_) <;> (try simp only [Bool.or_eq_true, Bool.and_eq_true, Bool.or_eq_false_iff, Bool.and_eq_false_iff, decide_eq_true_eq, decide_eq_false_iff_not, beq_iff_eq, bne_iff_ne, beq_eq_false_iff_ne, bne_eq_false_iff_eq, ne_eq, Decidable.not_not, List.cons.injEq, and_true, Bool.not_eq_true', Bool.not_eq_false', Int.not_lt, Int.not_le] at h) <;> (try (exfalso; omega)))
         )
 | (refine S_id ?_; first
 | refine S_nil ?_
 | refine S_run rfl rfl obQ obQ ?_
         )
 | (refine G_id ?_; first
 | refine G_loop (b + 1, zb + 1, A3, c3) (show b + 1 ≤ m ∧ zb + 1 = lo + ((b + 1 : Nat) : Int) by omega) (by show m - (b + 1) < m - b; omega) ⟨⟨_, rfl, obQ⟩, ⟨_, rfl⟩, rfl, pstQ⟩
 | refine G_then ?_
 | refine G_block ?_
 | refine G_blockX ?_
 | refine G_thenX ?_
         )
         )
    · obtain rfl : b = n := by omega
      rw [cuK_i]
      repeat' (first
 | (refine C_id ?_; first
 | refine C_seq ?_
 | refine C_region rfl ?_
 | refine C_exit ?_
 | (refine C_cond rfl obQ (fun h => ?_) (fun h => ?_) <;> (try simp only [Bool.or_eq_true, Bool.and_eq_true, Bool.or_eq_false_iff, Bool.and_eq_false_iff, decide_eq_true_eq, decide_eq_false_iff_not, beq_iff_eq, bne_iff_ne, beq_eq_false_iff_ne, bne_eq_false_iff_eq, ne_eq, Decidable.not_not, List.cons.injEq, and_true, Bool.not_eq_true', Bool.not_eq_false', Int.not_lt, Int.not_le] at h) <;> (try (exfalso; omega)))
       )
 | (refine S_id ?_; first
 | refine S_nil ?_
 | refine S_run rfl rfl obQ obQ ?_
       )
 | (refine G_id ?_; first
 | refine G_loop (a + 1, za + 1, A2, c2) (show a + 1 ≤ b ∧ za + 1 = lo + ((a + 1 : Nat) : Int) by omega) (by show b - (a + 1) < b - a; omega) ⟨⟨_, rfl, obQ⟩, ⟨_, rfl⟩, rfl, pstQ⟩
 | refine G_then ?_
 | refine G_block ?_
 | refine G_blockX ?_
 | refine G_thenX ?_
       )
       )
  · obtain rfl : a = n := by omega
    rw [show cuK a a 0 0 = cubeN lo hi by rw [hN]; unfold cuK; simp]
    repeat' (first
 | (refine C_id ?_; first
 | refine C_seq ?_
 | refine C_region rfl ?_
 | refine C_exit ?_
 | refine C_ret0 ?_
 | (refine C_cond rfl obQ (fun h => ?_) (fun h => ?_) <;> (try simp only [Bool.or_eq_true, Bool.and_eq_true, Bool.or_eq_false_iff, Bool.and_eq_false_iff, decide_eq_true_eq, decide_eq_false_iff_not, beq_iff_eq, bne_iff_ne, beq_eq_false_iff_ne, bne_eq_false_iff_eq, ne_eq, Decidable.not_not, List.cons.injEq, and_true, Bool.not_eq_true', Bool.not_eq_false', Int.not_lt, Int.not_le] at h) <;> (try (exfalso; omega)))
     )
 | (refine S_id ?_; first
 | refine S_nil ?_
 | refine S_run rfl rfl obQ obQ ?_
     )
 | (refine G_id ?_; first
 | refine G_then ?_
 | refine G_blockX ?_
 | refine G_thenX ?_
 | refine G_ret rfl obQ (fun w2 hw => ⟨_, rfl, hw.below, HW.rowSl (i := 0) hw rfl rfl (by simp [cubeL]) (by rw [List.take_of_length_le (by simp [cubeL])])⟩)
     )
     )

end Go.Proofs.YtdbffbcobghbeaaGreatDoor
