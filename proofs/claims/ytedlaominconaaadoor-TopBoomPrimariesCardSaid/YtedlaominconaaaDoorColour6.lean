/- Curves: inverses, knees of the reference; divisors; lists of samples. -/
import Derived.Test.YtedlaominconaaaDoorColour5
namespace Go.Proofs.YtedlaominconaaaDoor
open Go.E Go.RowKit Go.Fl
attribute [local irreducible] G C S D Calls
set_option maxRecDepth 100000
set_option linter.unusedSimpArgs false
set_option linter.unusedVariables false

-- rInverse

-- rValue2_c
-- rSurvives

-- rKnee

-- rShortCurve

-- lnumber

theorem gcd_tstep {a b : Int} : Int.gcd b (a.tmod b) = Int.gcd a b := by
  show Nat.gcd b.natAbs (a.tmod b).natAbs = Nat.gcd a.natAbs b.natAbs
  rw [Int.natAbs_tmod, Nat.gcd_comm b.natAbs, ← Nat.gcd_rec, Nat.gcd_comm]
theorem tmod_bd {a b m : Int} (hb : b ≠ 0) (hm : -m ≤ b ∧ b ≤ m) : (-m ≤ a.tmod b ∧ a.tmod b ≤ m) ∧ (a.tmod b).natAbs < b.natAbs := by
  have h := Nat.mod_lt a.natAbs (show 0 < b.natAbs by omega)
  rw [← Int.natAbs_tmod] at h
  omega

-- rDivisor

set_option maxHeartbeats 400000 in
/-- colour.divisor -/
theorem divisor_c (n d : Int) (hn : -1125899906842624 ≤ n ∧ n ≤ 1125899906842624) (hd : -1125899906842624 ≤ d ∧ d ≤ 1125899906842624) (w : World) : Calls Tryd.prog 24 #[.int .i64 n, .int .i64 d] w fun r w' => r = .returned (.int .i64 (Int.gcd n d : Nat)) ∧ Below w.heap.size w w' := by
  refine calls_of (args := [.int .i64 n, .int .i64 d]) T_ok Tryd.func24 rfl Tryd.ntmps24 (Nat.le_of_ble_eq_true rfl) rfl ?_
  repeat' (first
 | (refine C_id ?_; first
 | refine C_seq ?_
 | refine C_region rfl ?_
 | refine C_block ?_
 )
 | (refine S_id ?_; first
 | refine S_nil ?_
 | refine S_run rfl rfl obQ obQ ?_
 )
 | (refine G_id ?_; first
 | refine G_then ?_
 )
 )
  refine C_loopS (fun i : Int × Int => ⟨[(0, .s (.v (.int .i64 i.1))), (1, .s (.v (.int .i64 i.2))), (4, .s (.v (.int .i64 0)))], [], []⟩) (fun i => (-1125899906842624 ≤ i.1 ∧ i.1 ≤ 1125899906842624) ∧ (-1125899906842624 ≤ i.2 ∧ i.2 ≤ 1125899906842624) ∧ Int.gcd i.1 i.2 = Int.gcd n d) (fun i => i.2.natAbs) (n, d) ⟨hn, hd, rfl⟩ ?_ (fun i hi => ?_)
  · exact ⟨⟨_, rfl, obQ⟩, ⟨_, rfl⟩, rfl, pstQ⟩
  obtain ⟨a, b⟩ := i
  obtain ⟨ha, hb, hg⟩ := hi
  dsimp only at ha hb hg ⊢
  by_cases hlt : b ≠ 0
  · have h1 := tmod_bd (a := a) (m := 1125899906842624) hlt hb
    repeat' (first
 | (refine C_id ?_; first
 | refine C_seq ?_
 | refine C_region rfl ?_
 | refine C_block ?_
 | refine C_skip ?_
 | refine C_draw (id := 2) rfl mixed (by kernel_rfl) ?_
 | (refine C_cond rfl obQ (fun h => ?_) (fun h => ?_) <;> (try simp only [Bool.or_eq_true, Bool.and_eq_true, Bool.or_eq_false_iff, Bool.and_eq_false_iff, decide_eq_true_eq, decide_eq_false_iff_not, beq_iff_eq, bne_iff_ne, beq_eq_false_iff_ne, bne_eq_false_iff_eq, ne_eq, Decidable.not_not, List.cons.injEq, and_true, Bool.not_eq_true', Bool.not_eq_false', Int.not_lt, Int.not_le] at h) <;> (try (exfalso; omega)))
     )
 | (refine S_id ?_; first
 | refine S_nil ?_
 | refine S_run rfl rfl obQ obQ ?_
     )
 | (refine D_id ?_; first
 | refine D_pure (binX_pure rfl obQ (fun w => wrap_rem _ _ _ _ _ _ (by omega) w)) ?_
 | refine D_nil ?_
 | refine D_run rfl rfl obQ obQ ?_
 | refine D_one rfl obQ ?_
     )
 | (refine G_id ?_; first
 | refine G_loop (b, a.tmod b) ⟨hb, h1.1, by rw [← hg]; exact gcd_tstep⟩ (by show (a.tmod b).natAbs < b.natAbs; omega) ⟨⟨_, rfl, obQ⟩, ⟨_, rfl⟩, rfl, pstQ⟩
 | refine G_then ?_
 | refine G_block ?_
     )
     )
  · obtain rfl : b = 0 := by omega
    have hga : ((Int.gcd n d : Nat) : Int) = (a.natAbs : Int) := by rw [← hg, Int.gcd_zero_right]
    repeat' (first
 | (refine C_id ?_; first
 | refine C_seq ?_
 | refine C_region rfl ?_
 | refine C_skip ?_
 | refine C_exit ?_
 | refine C_ret0 ?_
 | refine C_condF rfl obQ ?_
 | (refine C_cond rfl obQ (fun h => ?_) (fun h => ?_) <;> (try simp only [Bool.or_eq_true, Bool.and_eq_true, Bool.or_eq_false_iff, Bool.and_eq_false_iff, decide_eq_true_eq, decide_eq_false_iff_not, beq_iff_eq, bne_iff_ne, beq_eq_false_iff_ne, bne_eq_false_iff_eq, ne_eq, Decidable.not_not, List.cons.injEq, and_true, Bool.not_eq_true', Bool.not_eq_false', Int.not_lt, Int.not_le] at h) <;> (try (exfalso; omega)))
     )
 | (refine S_id ?_; first
 | refine S_nil ?_
 | refine S_run rfl rfl obQ obQ ?_
     )
 | (refine G_id ?_; first
 | refine G_then ?_
 | refine G_blockX ?_
 | refine G_thenR ?_
 | refine G_thenX ?_
 | refine G_ret rfl obQ (fun w hw => ⟨?_, hw.below⟩)
     )
     )
    exact rI (by rw [hga]; omega)

set_option maxHeartbeats 400000 in
/-- genlockref01.Sixteenths -/
theorem sixteenths_c (b : Nat) (hf : Fin32 b) (hb : -2 ^ 159 ≤ B32 b ∧ B32 b ≤ 2 ^ 159) (w : World) : Calls Tryd.prog 15 #[.float .f32 b] w fun r w' => r = .returned (.int .i64 (lvl b)) ∧ Below w.heap.size w w' := by
  obtain ⟨r, hm, hr1, hr2⟩ := mul16 hf hb
  have hl := lvl_bd hb
  refine calls_of (args := [.float .f32 b]) T_ok Tryd.func15 rfl Tryd.ntmps15 (Nat.le_of_ble_eq_true rfl) rfl ?_
  repeat' (first
 | (refine C_id ?_; first
 | refine C_seq ?_
 | refine C_region rfl ?_
 | refine C_ret0 ?_
 )
 | (refine S_id ?_; first
 | refine S_pure (binX_pure rfl obQ (fun w => fl_arith (op := .mul) (k := .f32) hm _ _ _ w)) ?_
 | refine S_pure (convX_pure rfl obQ (fun w => cv_lvl hr2 hr1 hl w)) ?_
 | refine S_nil ?_
 | refine S_run rfl rfl obQ obQ ?_
 )
 | (refine G_id ?_; first
 | refine G_then ?_
 | refine G_ret rfl obQ (fun w hw => ⟨?_, hw.below⟩)
 )
 )
  rfl

-- rSample

-- rIsLarge

def gB (l : List Nat) (k : Nat) : Nat := l.getD k 0
theorem gB_at {l : List Nat} {k : Nat} (h : k < l.length) : gB l k = l[k] := by simp [gB, h]
theorem gB_idx {l : List Nat} {k : Nat} (h : k < l.length) : ∀ (j : Nat) (u : Value), ([.float .f32 (gB l k)] : List Value)[j]? = some u → (l.map (Value.float .f32))[((k : Int).toNat * 1 + j)]? = some u := by
  rw [gB_at h]
  exact idx1 h
theorem gB_mem {l : List Nat} {k : Nat} (h : k < l.length) : gB l k ∈ l := by rw [gB_at h]; exact List.getElem_mem h
theorem fl_ne_to {k : FloatKind} {a b : Nat} {r : Bool} {X : Cx} (h : (k.format.order a b != some .eq) = r) (t : TypeId) (x y : Operand) (w : World) : (do eqGuard .neq t x y (.float k a) (.float k b); binOp .neq t (.float k a) (.float k b) : Sem Value).run X.P w = .ok (.bool r) w := by
  subst h
  simp only [Sem.run_bind, eqGuard_float, Result.andThen_ok]
  simp [binOp, Op.floatCmp]
theorem eq_gB {a b : List Nat} (hl : a.length = b.length) (h : ∀ k, k < a.length → B32 (gB a k) = B32 (gB b k)) : a.map B32 = b.map B32 := by
  refine List.ext_getElem (by simpa using hl) fun k h1 h2 => ?_
  have hk : k < a.length := by simpa using h1
  have := h k hk
  rw [gB_at hk, gB_at (by omega)] at this
  simpa using this

set_option maxHeartbeats 400000 in
/-- genlockref01.SameSamples -/
theorem rSameSamples_c (A B : Option Addr) (c c2 : Nat) (a b : List Nat) (ha : a.length ≤ 1000000) (hb : b.length ≤ 1000000) (fa : ∀ x ∈ a, Fin32 x) (fb : ∀ x ∈ b, Fin32 x) (w : World) (hra : Rd w A (a.map (.float .f32))) (hrb : Rd w B (b.map (.float .f32))) : Calls Tryd.prog 20 #[.slice A a.length c, .slice B b.length c2] w fun r w' => r = .returned (.bool (decide (a.map B32 = b.map B32))) ∧ Below w.heap.size w w' := by
  refine calls_of (args := [.slice A a.length c, .slice B b.length c2]) T_ok Tryd.func20 rfl Tryd.ntmps20 (Nat.le_of_ble_eq_true rfl) rfl ?_
  repeat' (first
 | (refine C_id ?_; first
 | refine C_seq ?_
 | refine C_region rfl ?_
 | refine C_block ?_
 | refine C_skip ?_
 | refine C_ret0 ?_
 | (refine C_cond rfl obQ (fun h => ?_) (fun h => ?_) <;> (try simp only [Bool.or_eq_true, Bool.and_eq_true, Bool.or_eq_false_iff, Bool.and_eq_false_iff, decide_eq_true_eq, decide_eq_false_iff_not, beq_iff_eq, bne_iff_ne, beq_eq_false_iff_ne, bne_eq_false_iff_eq, ne_eq, Decidable.not_not, List.cons.injEq, and_true, Bool.not_eq_true', Bool.not_eq_false', Int.not_lt, Int.not_le] at h))
 )
 | (refine S_id ?_; first
 | refine S_nil ?_
 | refine S_run rfl rfl obQ obQ ?_
 )
 | (refine G_id ?_; first
 | refine G_then ?_
 | refine G_thenR ?_
 | refine G_ret rfl obQ (fun w hw => ⟨?_, hw.below⟩)
 )
 )
  · exact rB (decide_eq_false fun e => by have := congrArg List.length e; simp at this; omega).symm
  have hlen : a.length = b.length := by omega
  refine C_loopS (fun k : Nat => ⟨[(5, .s (.v (.int .i64 k))), (0, .s (.v (.slice A a.length c))), (1, .s (.v (.slice B b.length c2)))], [], []⟩) (fun k => k ≤ a.length ∧ ∀ j, j < k → B32 (gB a j) = B32 (gB b j)) (fun k => a.length - k) 0 ⟨Nat.zero_le _, fun j hj => absurd hj (Nat.not_lt_zero j)⟩ ?_ (fun k hk => ?_)
  · exact ⟨⟨_, rfl, obQ⟩, ⟨_, rfl⟩, rfl, pstQ⟩
  by_cases hlt : k < a.length
  · have hlb : k < b.length := by omega
    obtain ⟨ad, rfl⟩ := hra.some (by simp; omega)
    obtain ⟨bd, rfl⟩ := hrb.some (by simp; omega)
    have hord := order32 (fa _ (gB_mem hlt)) (fb _ (gB_mem hlb))
    have hne : (FloatKind.f32.format.order (gB a k) (gB b k) != some .eq) = decide (B32 (gB a k) ≠ B32 (gB b k)) := by
      rw [show FloatKind.f32.format = Ieee.single from rfl, hord, cmp_ne]
    repeat' (first
 | (refine C_id ?_; first
 | refine C_seq ?_
 | refine C_region rfl ?_
 | refine C_block ?_
 | refine C_skip ?_
 | refine C_ret0 ?_
 | refine C_draw (id := 6) rfl mixed (by kernel_rfl) ?_
 | (refine C_cond rfl obQ (fun h => ?_) (fun h => ?_) <;> (try simp only [Bool.or_eq_true, Bool.and_eq_true, Bool.or_eq_false_iff, Bool.and_eq_false_iff, decide_eq_true_eq, decide_eq_false_iff_not, beq_iff_eq, bne_iff_ne, beq_eq_false_iff_ne, bne_eq_false_iff_eq, ne_eq, Decidable.not_not, List.cons.injEq, and_true, Bool.not_eq_true', Bool.not_eq_false', Int.not_lt, Int.not_le] at h) <;> (try (exfalso; omega)))
     )
 | (refine S_id ?_; first
 | refine S_nil ?_
 | refine S_run rfl rfl obQ obQ ?_
     )
 | (refine D_id ?_; first
 | refine D_pure (binX_pure rfl obQ (fun w => fl_ne_to hne _ _ _ w)) ?_
 | refine D_load rfl obQ rfl [.float .f32 (gB a k)] (.past _ memQ _ _ hra.toS _ _ rfl rfl (gB_idx (l := a) hlt)) rfl (.inr ⟨rfl, rfl⟩) ?_
 | refine D_load rfl obQ rfl [.float .f32 (gB b k)] (.past _ memQ _ _ hrb.toS _ _ rfl rfl (gB_idx (l := b) hlb)) rfl (.inr ⟨rfl, rfl⟩) ?_
 | refine D_nil ?_
 | refine D_run rfl rfl obQ obQ ?_
     )
 | (refine G_id ?_; first
 | refine G_loop (k + 1) ?_ (by omega) ⟨⟨_, rfl, obQ⟩, ⟨_, rfl⟩, rfl, pstQ⟩
 | refine G_then ?_
 | refine G_block ?_
 | refine G_blockR ?_
 | refine G_thenR ?_
 | refine G_ret rfl obQ (fun w hw => ⟨?_, hw.below⟩)
     )
     )
    · refine rB (decide_eq_false fun e => ?_).symm
      have h1 : (a.map B32)[k]? = (b.map B32)[k]? := by rw [e]
      rw [gB_at hlt, gB_at hlb] at h
      simp [hlt, hlb] at h1
      simp [h1] at h
    · refine ⟨by omega, fun j hj => ?_⟩
      rcases Nat.lt_or_ge j k with h1 | h1
      · exact hk.2 j h1
      · obtain rfl : j = k := by omega
        exact h
  · obtain rfl : k = a.length := by omega
    repeat' (first
 | (refine C_id ?_; first
 | refine C_seq ?_
 | refine C_region rfl ?_
 | refine C_block ?_
 | refine C_skip ?_
 | refine C_exit ?_
 | refine C_ret0 ?_
 | (refine C_cond rfl obQ (fun h => ?_) (fun h => ?_) <;> (try simp only [Bool.or_eq_true, Bool.and_eq_true, Bool.or_eq_false_iff, Bool.and_eq_false_iff, decide_eq_true_eq, decide_eq_false_iff_not, beq_iff_eq, bne_iff_ne, beq_eq_false_iff_ne, bne_eq_false_iff_eq, ne_eq, Decidable.not_not, List.cons.injEq, and_true, Bool.not_eq_true', Bool.not_eq_false', Int.not_lt, Int.not_le] at h) <;> (try (exfalso; omega)))
     )
 | (refine S_id ?_; first
 | refine S_nil ?_
 | refine S_run rfl rfl obQ obQ ?_
     )
 | (refine G_id ?_; first
 | refine G_then ?_
 | refine G_blockX ?_
 | refine G_thenR ?_
 | refine G_thenX ?_
 | refine G_ret rfl obQ (fun w hw => ⟨?_, hw.below⟩)
     )
     )
    exact rB (decide_eq_true (eq_gB hlen hk.2)).symm

end Go.Proofs.YtedlaominconaaaDoor
