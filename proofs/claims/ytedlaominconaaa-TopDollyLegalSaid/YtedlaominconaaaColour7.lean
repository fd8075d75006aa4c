/- Matrices: checks, products, conversions: the program. -/
import Derived.Test.YtedlaominconaaaColour6
import Derived.Test.YtedlaominconaaaEngAA
namespace Go.Proofs.Ytedlaominconaaa
open Go.E Go.RowKit Go.Fl
attribute [local irreducible] G C S D Calls
set_option maxRecDepth 100000
set_option linter.unusedSimpArgs false
set_option linter.unusedVariables false

/-- A matrix: nine integers and a denominator. -/
structure Mat where
  a : Int
  b : Int
  c : Int
  d : Int
  e : Int
  f : Int
  g : Int
  h : Int
  i : Int
  n : Int
deriving DecidableEq
def enE (n : Int) : Int := wi n (-4096) 4096
abbrev rowE (a b c : Int) : Int := firstL [enE a, enE b, enE c]
/-- The first error of a matrix. -/
def matE (m : Mat) : Int := firstL [enE m.a, enE m.b, enE m.c, enE m.d, enE m.e, enE m.f, enE m.g, enE m.h, enE m.i, wi m.n 1 4096]
structure MatOk (m : Mat) : Prop where
  a : -4096 ≤ m.a ∧ m.a ≤ 4096
  b : -4096 ≤ m.b ∧ m.b ≤ 4096
  c : -4096 ≤ m.c ∧ m.c ≤ 4096
  d : -4096 ≤ m.d ∧ m.d ≤ 4096
  e : -4096 ≤ m.e ∧ m.e ≤ 4096
  f : -4096 ≤ m.f ∧ m.f ≤ 4096
  g : -4096 ≤ m.g ∧ m.g ≤ 4096
  h : -4096 ≤ m.h ∧ m.h ≤ 4096
  i : -4096 ≤ m.i ∧ m.i ≤ 4096
  n : 1 ≤ m.n ∧ m.n ≤ 4096
theorem mat_ok {m : Mat} : matE m = 0 ↔ MatOk m := by
  unfold matE
  rw [firstL_zero]
  simp only [List.mem_cons, List.mem_nil_iff, or_false, forall_eq_or_imp, forall_eq, enE, wi_eq]
  exact ⟨fun h => ⟨h.1, h.2.1, h.2.2.1, h.2.2.2.1, h.2.2.2.2.1, h.2.2.2.2.2.1, h.2.2.2.2.2.2.1, h.2.2.2.2.2.2.2.1, h.2.2.2.2.2.2.2.2.1, h.2.2.2.2.2.2.2.2.2⟩, fun h => ⟨h.a, h.b, h.c, h.d, h.e, h.f, h.g, h.h, h.i, h.n⟩⟩
theorem matE_r1 {m : Mat} (h : ¬ rowE m.a m.b m.c = 0) : matE m = rowE m.a m.b m.c := by
  unfold rowE at *
  rw [matE, show ([enE m.a, enE m.b, enE m.c, enE m.d, enE m.e, enE m.f, enE m.g, enE m.h, enE m.i, wi m.n 1 4096] : List Int) = [enE m.a, enE m.b, enE m.c] ++ [enE m.d, enE m.e, enE m.f, enE m.g, enE m.h, enE m.i, wi m.n 1 4096] from rfl, firstL_append, if_neg h]
theorem matE_r2 {m : Mat} (h1 : rowE m.a m.b m.c = 0) (h : ¬ rowE m.d m.e m.f = 0) : matE m = rowE m.d m.e m.f := by
  unfold rowE at *
  rw [matE, show ([enE m.a, enE m.b, enE m.c, enE m.d, enE m.e, enE m.f, enE m.g, enE m.h, enE m.i, wi m.n 1 4096] : List Int) = [enE m.a, enE m.b, enE m.c] ++ ([enE m.d, enE m.e, enE m.f] ++ [enE m.g, enE m.h, enE m.i, wi m.n 1 4096]) from rfl, firstL_append, if_pos h1, firstL_append, if_neg h]
theorem matE_r3 {m : Mat} (h1 : rowE m.a m.b m.c = 0) (h2 : rowE m.d m.e m.f = 0) (h : ¬ rowE m.g m.h m.i = 0) : matE m = rowE m.g m.h m.i := by
  unfold rowE at *
  rw [matE, show ([enE m.a, enE m.b, enE m.c, enE m.d, enE m.e, enE m.f, enE m.g, enE m.h, enE m.i, wi m.n 1 4096] : List Int) = [enE m.a, enE m.b, enE m.c] ++ ([enE m.d, enE m.e, enE m.f] ++ ([enE m.g, enE m.h, enE m.i] ++ [wi m.n 1 4096])) from rfl, firstL_append, if_pos h1, firstL_append, if_pos h2, firstL_append, if_neg h]
theorem matE_r4 {m : Mat} (h1 : rowE m.a m.b m.c = 0) (h2 : rowE m.d m.e m.f = 0) (h3 : rowE m.g m.h m.i = 0) : matE m = wi m.n 1 4096 := by
  unfold rowE at *
  rw [matE, show ([enE m.a, enE m.b, enE m.c, enE m.d, enE m.e, enE m.f, enE m.g, enE m.h, enE m.i, wi m.n 1 4096] : List Int) = [enE m.a, enE m.b, enE m.c] ++ ([enE m.d, enE m.e, enE m.f] ++ ([enE m.g, enE m.h, enE m.i] ++ [wi m.n 1 4096])) from rfl, firstL_append, if_pos h1, firstL_append, if_pos h2, firstL_append, if_pos h3]
  simp only [firstL]
  split
  · rename_i h; exact h.symm
  · rfl
def dotF (a b c x y z : Int) : Int := a * x + b * y + c * z
theorem mul_ab {a x A X : Int} (ha : -A ≤ a ∧ a ≤ A) (hx : -X ≤ x ∧ x ≤ X) : -(A * X) ≤ a * x ∧ a * x ≤ A * X := by
  have hA : 0 ≤ A := by omega
  have hX : 0 ≤ X := by omega
  have h1 : a.natAbs ≤ A.natAbs := by omega
  have h2 : x.natAbs ≤ X.natAbs := by omega
  have h3 : (a * x).natAbs ≤ (A * X).natAbs := by
    rw [Int.natAbs_mul, Int.natAbs_mul]
    exact Nat.mul_le_mul h1 h2
  have h4 : 0 ≤ A * X := Int.mul_nonneg hA hX
  omega
abbrev Col := Int × Int × Int
def colE (c : Col) : Int := firstL [lvE c.1, lvE c.2.1, lvE c.2.2]
def ColOk (c : Col) : Prop := (-16384 ≤ c.1 ∧ c.1 ≤ 16384) ∧ (-16384 ≤ c.2.1 ∧ c.2.1 ≤ 16384) ∧ (-16384 ≤ c.2.2 ∧ c.2.2 ≤ 16384)
theorem col_ok {c : Col} : colE c = 0 ↔ ColOk c := by
  unfold colE ColOk
  rw [firstL_zero]
  simp only [List.mem_cons, List.mem_nil_iff, or_false, forall_eq_or_imp, forall_eq, lvE, wi_eq]
/-- A colour, converted. -/
def convF (m : Mat) (c : Col) : Col := (rnd (dotF m.a m.b m.c c.1 c.2.1 c.2.2) m.n, rnd (dotF m.d m.e m.f c.1 c.2.1 c.2.2) m.n, rnd (dotF m.g m.h m.i c.1 c.2.1 c.2.2) m.n)

set_option maxHeartbeats 400000 in
/-- colour.mapped[int,genlock/api.Errno] -/
theorem mappedIE_c (q : FuncId) {g : Int → Int} (A : Option Addr) (c : Nat) (l : List (Int)) (hl : l.length ≤ 1000000) (he : entB Try.prog q = true) (w : World) (hr : Rd w A (l.map fun x => Value.int .i64 x)) (hg : ∀ x ∈ l, ∀ W, Below w.heap.size w W → Calls Try.prog q #[Value.int .i64 x] W fun e w' => e = .returned (Value.int .i64 (g x)) ∧ Below W.heap.size W w') : Calls Try.prog 106 #[.slice A l.length c, .func (.func q) #[] #[]] w fun r w' => ∃ v, r = .returned v ∧ Below w.heap.size w w' ∧ Sl w w' v l.length (l.map fun x => Value.int .i64 (g x)) := by
  refine calls_of (args := [.slice A l.length c, .func (.func q) #[] #[]]) T_ok Try.func106 rfl Try.ntmps106 (Nat.le_of_ble_eq_true rfl) rfl ?_
  repeat' (first
 | (refine C_id ?_; first
 | refine C_seq ?_
 | refine C_region rfl ?_
 | refine C_block ?_
 )
 | (refine S_id ?_; first
 | refine S_nil ?_
 | refine S_run rfl rfl obQ obQ ?_
 )
 | (refine G_id ?_; first
 | refine G_then ?_
 )
 )
  refine C_row0 5 32 1 rfl ?_
  refine C_loopS (fun i : Nat × Option Addr × Nat => ⟨[(5, .s (.r i.2.1 i.1 i.2.2 0)), (8, .s (.v (.slice A l.length c))), (9, .s (.v (.int .i64 l.length))), (10, .s (.v (.int .i64 i.1))), (1, .s (.v (.func (.func q) #[] #[])))], [], [⟨32, 1, i.1, (l.take i.1).map fun x => Value.int .i64 (g x), .slice i.2.1 i.1 i.2.2⟩]⟩) (fun i => i.1 ≤ l.length) (fun i => l.length - i.1) (0, none, 0) (Nat.zero_le _) ?_ (fun i hi => ?_)
  · exact ⟨⟨_, rfl, obQ⟩, ⟨_, rfl⟩, rfl, pstQ⟩
  obtain ⟨k, A', c'⟩ := i
  have hi' : k ≤ l.length := hi
  dsimp only
  by_cases hlt : k < l.length
  · obtain ⟨ad, rfl⟩ := hr.some (by simp; omega)
    have hmt := map_take_succ (f := fun x => Value.int .i64 (g x)) hlt
    repeat' (first
     | (refine C_id ?_; first
     | refine C_seq ?_
     | refine C_region rfl ?_
     | refine C_block ?_
     | refine C_skip ?_
     | (refine C_cond rfl obQ (fun h => ?_) (fun h => ?_) <;> (try simp only [Bool.or_eq_true, Bool.and_eq_true, Bool.or_eq_false_iff, Bool.and_eq_false_iff, decide_eq_true_eq, decide_eq_false_iff_not, beq_iff_eq, bne_iff_ne, beq_eq_false_iff_ne, bne_eq_false_iff_eq, ne_eq, Decidable.not_not, List.cons.injEq, and_true, Bool.not_eq_true', Bool.not_eq_false', Int.not_lt, Int.not_le] at h) <;> (try (exfalso; omega)))
     )
     | (refine S_id ?_; first
     | refine S_load rfl obQ rfl [Value.int .i64 l[k]] (.past _ memQ _ _ hr.toS _ _ rfl rfl (idx1 (f := fun x => Value.int .i64 x) hlt)) rfl (.inr ⟨rfl, rfl⟩) ?_
     | refine S_call rfl obQ he (fun W hW => hg l[k] (List.getElem_mem hlt) W hW.below) ?_
     | refine S_append rfl obQ rfl rfl rfl ⟨by decide, rfl⟩ rfl ⟨rfl, rfl, rfl, rfl⟩ [Value.int .i64 (g l[k])] ⟨by decide, rfl⟩ (by simp [Value.oneCell']) (fun w hw => by first | exact hw.src (i := 0) rfl rfl | exact hw.src (i := 1) rfl rfl | exact hw.src (i := 2) rfl rfl | exact hw.src (i := 3) rfl rfl | exact hw.src (i := 4) rfl rfl | exact hw.src (i := 5) rfl rfl | exact hw.src (i := 6) rfl rfl | exact hw.src (i := 7) rfl rfl | exact hw.src (i := 8) rfl rfl) (by unfold maxLen; dsimp only; omega) (fun gb cap' => ⟨_, rfl, ?_⟩)
     | refine S_nil ?_
     | refine S_run rfl rfl obQ obQ ?_
     | refine S_slice (fun b => ⟨_, _, rfl, obQ, ?_⟩)
     )
     | (refine G_id ?_; first
     | refine G_loop (k + 1, some ⟨gb, 0, none⟩, cap') (by show k + 1 ≤ _; omega) (by show l.length - (k + 1) < l.length - k; omega) ⟨⟨_, rfl, obQ⟩, ⟨_, rfl⟩, (by dsimp only; rw [hmt]), pstQ⟩
     | refine G_then ?_
     | refine G_block ?_
     )
     )
  · obtain rfl : k = l.length := by omega
    repeat' (first
     | (refine C_id ?_; first
     | refine C_seq ?_
     | refine C_region rfl ?_
     | refine C_exit ?_
     | refine C_ret0 ?_
     | (refine C_cond rfl obQ (fun h => ?_) (fun h => ?_) <;> (try simp only [Bool.or_eq_true, Bool.and_eq_true, Bool.or_eq_false_iff, Bool.and_eq_false_iff, decide_eq_true_eq, decide_eq_false_iff_not, beq_iff_eq, bne_iff_ne, beq_eq_false_iff_ne, bne_eq_false_iff_eq, ne_eq, Decidable.not_not, List.cons.injEq, and_true, Bool.not_eq_true', Bool.not_eq_false', Int.not_lt, Int.not_le] at h) <;> (try (exfalso; omega)))
     )
     | (refine S_id ?_; first
     | refine S_nil ?_
     | refine S_run rfl rfl obQ obQ ?_
     )
     | (refine G_id ?_; first
     | refine G_then ?_
     | refine G_blockX ?_
     | refine G_thenX ?_
     | refine G_ret rfl obQ (fun w2 hw => ⟨_, rfl, hw.below, HW.rowSl (i := 0) hw rfl rfl rfl (by rw [List.take_length])⟩)
     )
     )

set_option maxHeartbeats 400000 in
/-- colour.dot -/
theorem dot_c (a b c x y z : Int) (ha : -8192 ≤ a ∧ a ≤ 8192) (hb : -8192 ≤ b ∧ b ≤ 8192) (hc : -8192 ≤ c ∧ c ≤ 8192) (hx : -67108864 ≤ x ∧ x ≤ 67108864) (hy : -67108864 ≤ y ∧ y ≤ 67108864) (hz : -67108864 ≤ z ∧ z ≤ 67108864) (w : World) : Calls Try.prog 80 #[.agg #[.int .i64 a, .int .i64 b, .int .i64 c], .agg #[.int .i64 x, .int .i64 y, .int .i64 z]] w fun r w' => r = .returned (.int .i64 (dotF a b c x y z)) ∧ Below w.heap.size w w' := by
  have h1 := mul_ab ha hx
  have h2 := mul_ab hb hy
  have h3 := mul_ab hc hz
  refine calls_of (args := [.agg #[.int .i64 a, .int .i64 b, .int .i64 c], .agg #[.int .i64 x, .int .i64 y, .int .i64 z]]) T_ok Try.func80 rfl Try.ntmps80 (Nat.le_of_ble_eq_true rfl) rfl ?_
  repeat' (first
 | (refine C_id ?_; first
 | refine C_seq ?_
 | refine C_region rfl ?_
 | refine C_block ?_
 | refine C_skip ?_
 | refine C_ret0 ?_
 | (refine C_cond rfl obQ (fun h => ?_) (fun h => ?_) <;> (try simp only [Bool.or_eq_true, Bool.and_eq_true, Bool.or_eq_false_iff, Bool.and_eq_false_iff, decide_eq_true_eq, decide_eq_false_iff_not, beq_iff_eq, bne_iff_ne, beq_eq_false_iff_ne, bne_eq_false_iff_eq, ne_eq, Decidable.not_not, List.cons.injEq, and_true, Bool.not_eq_true', Bool.not_eq_false', Int.not_lt, Int.not_le] at h))
 )
 | (refine S_id ?_; first
 | refine S_nil ?_
 | refine S_run rfl rfl obQ obQ ?_
 | refine S_box (fun b => ⟨_, _, rfl, obQ, ?_⟩)
 )
 | (refine G_id ?_; first
 | refine G_then ?_
 | refine G_thenR ?_
 | refine G_ret rfl obQ (fun w hw => ⟨?_, hw.below⟩)
 )
 )
  rfl

-- checkColour

set_option maxHeartbeats 400000 in
/-- colour.checkEntry -/
theorem ccheckEntry7_c (n : Int) (w : World) : Calls Try.prog 107 #[.int .i64 n] w fun r w' => r = .returned (.int .i64 (enE n)) ∧ Below w.heap.size w w' := by
  refine calls_of (args := [.int .i64 n]) T_ok Try.func107 rfl Try.ntmps107 (Nat.le_of_ble_eq_true rfl) rfl ?_
  repeat' (first
 | (refine C_id ?_; first
 | refine C_seq ?_
 | refine C_region rfl ?_
 | refine C_ret0 ?_
 )
 | (refine S_id ?_; first
 | refine S_nil ?_
 | refine S_run rfl rfl obQ obQ ?_
 | refine S_call (f := 98) rfl obQ (by kernel_rfl) (fun w hw => cwithin_c _ _ _ w) ?_
 )
 | (refine G_id ?_; first
 | refine G_then ?_
 | refine G_ret rfl obQ (fun w hw => ⟨?_, hw.below⟩)
 )
 )
  rfl

-- checkMatrix

theorem dot_bd {m : Mat} {a b c x y z : Int} (ha : -4096 ≤ a ∧ a ≤ 4096) (hb : -4096 ≤ b ∧ b ≤ 4096) (hc : -4096 ≤ c ∧ c ≤ 4096) (hx : -67108864 ≤ x ∧ x ≤ 67108864) (hy : -67108864 ≤ y ∧ y ≤ 67108864) (hz : -67108864 ≤ z ∧ z ≤ 67108864) : -824633720832 ≤ dotF a b c x y z ∧ dotF a b c x y z ≤ 824633720832 := by
  have h1 := mul_ab ha hx
  have h2 := mul_ab hb hy
  have h3 := mul_ab hc hz
  unfold dotF
  omega

-- converted

end Go.Proofs.Ytedlaominconaaa
