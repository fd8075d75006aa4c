/- Matrices: checks, products, conversions: the program. -/
import Derived.Test.YtedlaominconaaaDoorColour6
import Derived.Test.YtedlaominconaaaDoorEng4
namespace Go.Proofs.YtedlaominconaaaDoor
open Go.E Go.RowKit Go.Fl
attribute [local irreducible] G C S D Calls
set_option maxRecDepth 100000
set_option linter.unusedSimpArgs false
set_option linter.unusedVariables false

/-- A matrix: nine integers and a denominator. -/
structure Mat where
  a : Int
  b : Int
  c : Int
  d : Int
  e : Int
  f : Int
  g : Int
  h : Int
  i : Int
  n : Int
deriving DecidableEq
def enE (n : Int) : Int := wi n (-4096) 4096
abbrev rowE (a b c : Int) : Int := firstL [enE a, enE b, enE c]
/-- The first error of a matrix. -/
def matE (m : Mat) : Int := firstL [enE m.a, enE m.b, enE m.c, enE m.d, enE m.e, enE m.f, enE m.g, enE m.h, enE m.i, wi m.n 1 4096]
structure MatOk (m : Mat) : Prop where
  a : -4096 ≤ m.a ∧ m.a ≤ 4096
  b : -4096 ≤ m.b ∧ m.b ≤ 4096
  c : -4096 ≤ m.c ∧ m.c ≤ 4096
  d : -4096 ≤ m.d ∧ m.d ≤ 4096
  e : -4096 ≤ m.e ∧ m.e ≤ 4096
  f : -4096 ≤ m.f ∧ m.f ≤ 4096
  g : -4096 ≤ m.g ∧ m.g ≤ 4096
  h : -4096 ≤ m.h ∧ m.h ≤ 4096
  i : -4096 ≤ m.i ∧ m.i ≤ 4096
  n : 1 ≤ m.n ∧ m.n ≤ 4096
theorem mat_ok {m : Mat} : matE m = 0 ↔ MatOk m := by
  unfold matE
  rw [firstL_zero]
  simp only [List.mem_cons, List.mem_nil_iff, or_false, forall_eq_or_imp, forall_eq, enE, wi_eq]
  exact ⟨fun h => ⟨h.1, h.2.1, h.2.2.1, h.2.2.2.1, h.2.2.2.2.1, h.2.2.2.2.2.1, h.2.2.2.2.2.2.1, h.2.2.2.2.2.2.2.1, h.2.2.2.2.2.2.2.2.1, h.2.2.2.2.2.2.2.2.2⟩, fun h => ⟨h.a, h.b, h.c, h.d, h.e, h.f, h.g, h.h, h.i, h.n⟩⟩
theorem matE_r1 {m : Mat} (h : ¬ rowE m.a m.b m.c = 0) : matE m = rowE m.a m.b m.c := by
  unfold rowE at *
  rw [matE, show ([enE m.a, enE m.b, enE m.c, enE m.d, enE m.e, enE m.f, enE m.g, enE m.h, enE m.i, wi m.n 1 4096] : List Int) = [enE m.a, enE m.b, enE m.c] ++ [enE m.d, enE m.e, enE m.f, enE m.g, enE m.h, enE m.i, wi m.n 1 4096] from rfl, firstL_append, if_neg h]
theorem matE_r2 {m : Mat} (h1 : rowE m.a m.b m.c = 0) (h : ¬ rowE m.d m.e m.f = 0) : matE m = rowE m.d m.e m.f := by
  unfold rowE at *
  rw [matE, show ([enE m.a, enE m.b, enE m.c, enE m.d, enE m.e, enE m.f, enE m.g, enE m.h, enE m.i, wi m.n 1 4096] : List Int) = [enE m.a, enE m.b, enE m.c] ++ ([enE m.d, enE m.e, enE m.f] ++ [enE m.g, enE m.h, enE m.i, wi m.n 1 4096]) from rfl, firstL_append, if_pos h1, firstL_append, if_neg h]
theorem matE_r3 {m : Mat} (h1 : rowE m.a m.b m.c = 0) (h2 : rowE m.d m.e m.f = 0) (h : ¬ rowE m.g m.h m.i = 0) : matE m = rowE m.g m.h m.i := by
  unfold rowE at *
  rw [matE, show ([enE m.a, enE m.b, enE m.c, enE m.d, enE m.e, enE m.f, enE m.g, enE m.h, enE m.i, wi m.n 1 4096] : List Int) = [enE m.a, enE m.b, enE m.c] ++ ([enE m.d, enE m.e, enE m.f] ++ ([enE m.g, enE m.h, enE m.i] ++ [wi m.n 1 4096])) from rfl, firstL_append, if_pos h1, firstL_append, if_pos h2, firstL_append, if_neg h]
theorem matE_r4 {m : Mat} (h1 : rowE m.a m.b m.c = 0) (h2 : rowE m.d m.e m.f = 0) (h3 : rowE m.g m.h m.i = 0) : matE m = wi m.n 1 4096 := by
  unfold rowE at *
  rw [matE, show ([enE m.a, enE m.b, enE m.c, enE m.d, enE m.e, enE m.f, enE m.g, enE m.h, enE m.i, wi m.n 1 4096] : List Int) = [enE m.a, enE m.b, enE m.c] ++ ([enE m.d, enE m.e, enE m.f] ++ ([enE m.g, enE m.h, enE m.i] ++ [wi m.n 1 4096])) from rfl, firstL_append, if_pos h1, firstL_append, if_pos h2, firstL_append, if_pos h3]
  simp only [firstL]
  split
  · rename_i h; exact h.symm
  · rfl
def dotF (a b c x y z : Int) : Int := a * x + b * y + c * z
theorem mul_ab {a x A X : Int} (ha : -A ≤ a ∧ a ≤ A) (hx : -X ≤ x ∧ x ≤ X) : -(A * X) ≤ a * x ∧ a * x ≤ A * X := by
  have hA : 0 ≤ A := by omega
  have hX : 0 ≤ X := by omega
  have h1 : a.natAbs ≤ A.natAbs := by omega
  have h2 : x.natAbs ≤ X.natAbs := by omega
  have h3 : (a * x).natAbs ≤ (A * X).natAbs := by
    rw [Int.natAbs_mul, Int.natAbs_mul]
    exact Nat.mul_le_mul h1 h2
  have h4 : 0 ≤ A * X := Int.mul_nonneg hA hX
  omega
abbrev Col := Int × Int × Int
def colE (c : Col) : Int := firstL [lvE c.1, lvE c.2.1, lvE c.2.2]
def ColOk (c : Col) : Prop := (-16384 ≤ c.1 ∧ c.1 ≤ 16384) ∧ (-16384 ≤ c.2.1 ∧ c.2.1 ≤ 16384) ∧ (-16384 ≤ c.2.2 ∧ c.2.2 ≤ 16384)
theorem col_ok {c : Col} : colE c = 0 ↔ ColOk c := by
  unfold colE ColOk
  rw [firstL_zero]
  simp only [List.mem_cons, List.mem_nil_iff, or_false, forall_eq_or_imp, forall_eq, lvE, wi_eq]
/-- A colour, converted. -/
def convF (m : Mat) (c : Col) : Col := (rnd (dotF m.a m.b m.c c.1 c.2.1 c.2.2) m.n, rnd (dotF m.d m.e m.f c.1 c.2.1 c.2.2) m.n, rnd (dotF m.g m.h m.i c.1 c.2.1 c.2.2) m.n)

set_option maxHeartbeats 400000 in
/-- colour.mapped[int,genlock/api.Errno] -/
theorem mappedIE_c (q : FuncId) {g : Int → Int} (A : Option Addr) (c : Nat) (l : List (Int)) (hl : l.length ≤ 1000000) (he : entB Tryd.prog q = true) (w : World) (hr : Rd w A (l.map fun x => Value.int .i64 x)) (hg : ∀ x ∈ l, ∀ W, Below w.heap.size w W → Calls Tryd.prog q #[Value.int .i64 x] W fun e w' => e = .returned (Value.int .i64 (g x)) ∧ Below W.heap.size W w') : Calls Tryd.prog 30 #[.slice A l.length c, .func (.func q) #[] #[]] w fun r w' => ∃ v, r = .returned v ∧ Below w.heap.size w w' ∧ Sl w w' v l.length (l.map fun x => Value.int .i64 (g x)) := by
  refine calls_of (args := [.slice A l.length c, .func (.func q) #[] #[]]) T_ok Tryd.func30 rfl Tryd.ntmps30 (Nat.le_of_ble_eq_true rfl) rfl ?_
  repeat' (first
 | (refine C_id ?_; first
 | refine C_seq ?_
 | refine C_region rfl ?_
 | refine C_block ?_
 )
 | (refine S_id ?_; first
 | refine S_nil ?_
 | refine S_run rfl rfl obQ obQ ?_
 )
 | (refine G_id ?_; first
 | refine G_then ?_
 )
 )
  refine C_row0 5 39 1 rfl ?_
  refine C_loopS (fun i : Nat × Option Addr × Nat => ⟨[(5, .s (.r i.2.1 i.1 i.2.2 0)), (8, .s (.v (.slice A l.length c))), (9, .s (.v (.int .i64 l.length))), (10, .s (.v (.int .i64 i.1))), (1, .s (.v (.func (.func q) #[] #[])))], [], [⟨39, 1, i.1, (l.take i.1).map fun x => Value.int .i64 (g x), .slice i.2.1 i.1 i.2.2⟩]⟩) (fun i => i.1 ≤ l.length) (fun i => l.length - i.1) (0, none, 0) (Nat.zero_le _) ?_ (fun i hi => ?_)
  · exact ⟨⟨_, rfl, obQ⟩, ⟨_, rfl⟩, rfl, pstQ⟩
  obtain ⟨k, A', c'⟩ := i
  have hi' : k ≤ l.length := hi
  dsimp only
  by_cases hlt : k < l.length
  · obtain ⟨ad, rfl⟩ := hr.some (by simp; omega)
    have hmt := map_take_succ (f := fun x => Value.int .i64 (g x)) hlt
    repeat' (first
 | (refine C_id ?_; first
 | refine C_seq ?_
 | refine C_region rfl ?_
 | refine C_block ?_
 | refine C_skip ?_
 | (refine C_cond rfl obQ (fun h => ?_) (fun h => ?_) <;> (try simp only [Bool.or_eq_true, Bool.and_eq_true, Bool.or_eq_false_iff, Bool.and_eq_false_iff, decide_eq_true_eq, decide_eq_false_iff_not, beq_iff_eq, bne_iff_ne, beq_eq_false_iff_ne, bne_eq_false_iff_eq, ne_eq, Decidable.not_not, List.cons.injEq, and_true, Bool.not_eq_true', Bool.not_eq_false', Int.not_lt, Int.not_le] at h) <;> (try (exfalso; omega)))
     )
 | (refine S_id ?_; first
 | refine S_load rfl obQ rfl [Value.int .i64 l[k]] (.past _ memQ _ _ hr.toS _ _ rfl rfl (idx1 (f := fun x => Value.int .i64 x) hlt)) rfl (.inr ⟨rfl, rfl⟩) ?_
 | refine S_call rfl obQ he (fun W hW => hg l[k] (List.getElem_mem hlt) W hW.below) ?_
 | refine S_append rfl obQ rfl rfl rfl ⟨by decide, rfl⟩ rfl ⟨rfl, rfl, rfl, rfl⟩ [Value.int .i64 (g l[k])] ⟨by decide, rfl⟩ (by simp [Value.oneCell']) (fun w hw => by first | exact hw.src (i := 0) rfl rfl | exact hw.src (i := 1) rfl rfl | exact hw.src (i := 2) rfl rfl | exact hw.src (i := 3) rfl rfl | exact hw.src (i := 4) rfl rfl | exact hw.src (i := 5) rfl rfl | exact hw.src (i := 6) rfl rfl | exact hw.src (i := 7) rfl rfl | exact hw.src (i := 8) rfl rfl) (by unfold maxLen; dsimp only; omega) (fun gb cap' => ⟨_, rfl, ?_⟩)
 | refine S_nil ?_
 | refine S_run rfl rfl obQ obQ ?_
 | refine S_slice (fun b => ⟨_, _, rfl, obQ, ?_⟩)
     )
 | (refine G_id ?_; first
 | refine G_loop (k + 1, some ⟨gb, 0, none⟩, cap') (by show k + 1 ≤ _; omega) (by show l.length - (k + 1) < l.length - k; omega) ⟨⟨_, rfl, obQ⟩, ⟨_, rfl⟩, (by dsimp only; rw [hmt]), pstQ⟩
 | refine G_then ?_
 | refine G_block ?_
     )
     )
  · obtain rfl : k = l.length := by omega
    repeat' (first
 | (refine C_id ?_; first
 | refine C_seq ?_
 | refine C_region rfl ?_
 | refine C_exit ?_
 | refine C_ret0 ?_
 | (refine C_cond rfl obQ (fun h => ?_) (fun h => ?_) <;> (try simp only [Bool.or_eq_true, Bool.and_eq_true, Bool.or_eq_false_iff, Bool.and_eq_false_iff, decide_eq_true_eq, decide_eq_false_iff_not, beq_iff_eq, bne_iff_ne, beq_eq_false_iff_ne, bne_eq_false_iff_eq, ne_eq, Decidable.not_not, List.cons.injEq, and_true, Bool.not_eq_true', Bool.not_eq_false', Int.not_lt, Int.not_le] at h) <;> (try (exfalso; omega)))
     )
 | (refine S_id ?_; first
 | refine S_nil ?_
 | refine S_run rfl rfl obQ obQ ?_
     )
 | (refine G_id ?_; first
 | refine G_then ?_
 | refine G_blockX ?_
 | refine G_thenX ?_
 | refine G_ret rfl obQ (fun w2 hw => ⟨_, rfl, hw.below, HW.rowSl (i := 0) hw rfl rfl rfl (by rw [List.take_length])⟩)
     )
     )

set_option maxHeartbeats 400000 in
/-- colour.dot -/
theorem dot_c (a b c x y z : Int) (ha : -8192 ≤ a ∧ a ≤ 8192) (hb : -8192 ≤ b ∧ b ≤ 8192) (hc : -8192 ≤ c ∧ c ≤ 8192) (hx : -67108864 ≤ x ∧ x ≤ 67108864) (hy : -67108864 ≤ y ∧ y ≤ 67108864) (hz : -67108864 ≤ z ∧ z ≤ 67108864) (w : World) : Calls Tryd.prog 23 #[.agg #[.int .i64 a, .int .i64 b, .int .i64 c], .agg #[.int .i64 x, .int .i64 y, .int .i64 z]] w fun r w' => r = .returned (.int .i64 (dotF a b c x y z)) ∧ Below w.heap.size w w' := by
  have h1 := mul_ab ha hx
  have h2 := mul_ab hb hy
  have h3 := mul_ab hc hz
  refine calls_of (args := [.agg #[.int .i64 a, .int .i64 b, .int .i64 c], .agg #[.int .i64 x, .int .i64 y, .int .i64 z]]) T_ok Tryd.func23 rfl Tryd.ntmps23 (Nat.le_of_ble_eq_true rfl) rfl ?_
  repeat' (first
 | (refine C_id ?_; first
 | refine C_seq ?_
 | refine C_region rfl ?_
 | refine C_block ?_
 | refine C_skip ?_
 | refine C_ret0 ?_
 | (refine C_cond rfl obQ (fun h => ?_) (fun h => ?_) <;> (try simp only [Bool.or_eq_true, Bool.and_eq_true, Bool.or_eq_false_iff, Bool.and_eq_false_iff, decide_eq_true_eq, decide_eq_false_iff_not, beq_iff_eq, bne_iff_ne, beq_eq_false_iff_ne, bne_eq_false_iff_eq, ne_eq, Decidable.not_not, List.cons.injEq, and_true, Bool.not_eq_true', Bool.not_eq_false', Int.not_lt, Int.not_le] at h))
 )
 | (refine S_id ?_; first
 | refine S_nil ?_
 | refine S_run rfl rfl obQ obQ ?_
 | refine S_box (fun b => ⟨_, _, rfl, obQ, ?_⟩)
 )
 | (refine G_id ?_; first
 | refine G_then ?_
 | refine G_thenR ?_
 | refine G_ret rfl obQ (fun w hw => ⟨?_, hw.below⟩)
 )
 )
  rfl

set_option maxHeartbeats 400000 in
/-- colour.checkColour -/
theorem checkColour_c (c : Col) (w : World) : Calls Tryd.prog 40 #[.agg #[.int .i64 c.1, .int .i64 c.2.1, .int .i64 c.2.2]] w fun r w' => r = .returned (.int .i64 (colE c)) ∧ Below w.heap.size w w' := by
  refine calls_of (args := [.agg #[.int .i64 c.1, .int .i64 c.2.1, .int .i64 c.2.2]]) T_ok Tryd.func40 rfl Tryd.ntmps40 (Nat.le_of_ble_eq_true rfl) rfl ?_
  repeat' (first
 | (refine C_id ?_; first
 | refine C_seq ?_
 | refine C_region rfl ?_
 | refine C_block ?_
 | refine C_skip ?_
 | refine C_exit ?_
 | refine C_ret0 ?_
 | refine C_condT rfl obQ ?_
 | refine C_condF rfl obQ ?_
 | (refine C_cond rfl obQ (fun h => ?_) (fun h => ?_) <;> (try simp only [Bool.or_eq_true, Bool.and_eq_true, Bool.or_eq_false_iff, Bool.and_eq_false_iff, decide_eq_true_eq, decide_eq_false_iff_not, beq_iff_eq, bne_iff_ne, beq_eq_false_iff_ne, bne_eq_false_iff_eq, ne_eq, Decidable.not_not, List.cons.injEq, and_true, Bool.not_eq_true', Bool.not_eq_false', Int.not_lt, Int.not_le] at h))
 )
 | (refine S_id ?_; first
 | refine S_pure (sliceX_pure rfl obQ (fun w => sl_arr Tryd.underlying34 (by kernel_rfl) _ w)) ?_
 | refine S_nil ?_
 | refine S_run rfl rfl obQ obQ ?_
 | refine S_box (fun b => ⟨_, _, rfl, obQ, ?_⟩)
 | refine S_call (f := 21) rfl obQ (by kernel_rfl) (fun w hw => cfirst_c _ _ [lvE c.1, lvE c.2.1, lvE c.2.2] (by simp) w (hw.rdm hSM memQ)) ?_
 | (refine S_callM (f := 30) rfl obQ (by kernel_rfl) (fun w hw => mappedIE_c 63 (g := lvE) _ 3 [c.1, c.2.1, c.2.2] (by simp) (by kernel_rfl) w (.inr ⟨_, rfl, hw.src (i := 0) rfl rfl⟩) (fun x _ W _ => ccheckLevel_c x W)) (fun w1M w2M vM hw1M hbM hRM => ?_); obtain ⟨AM, cM, rfl, hSM⟩ := hRM)
 )
 | (refine G_id ?_; first
 | refine G_then ?_
 | refine G_block ?_
 | refine G_blockX ?_
 | refine G_blockN rfl ?_
 | refine G_blockR ?_
 | refine G_thenR ?_
 | refine G_thenX ?_
 | refine G_ret rfl obQ (fun w hw => ⟨?_, hw.below⟩)
 )
 )
  rfl

set_option maxHeartbeats 400000 in
/-- colour.checkEntry -/
theorem ccheckEntry7_c (n : Int) (w : World) : Calls Tryd.prog 54 #[.int .i64 n] w fun r w' => r = .returned (.int .i64 (enE n)) ∧ Below w.heap.size w w' := by
  refine calls_of (args := [.int .i64 n]) T_ok Tryd.func54 rfl Tryd.ntmps54 (Nat.le_of_ble_eq_true rfl) rfl ?_
  repeat' (first
 | (refine C_id ?_; first
 | refine C_seq ?_
 | refine C_region rfl ?_
 | refine C_block ?_
 | refine C_skip ?_
 | refine C_exit ?_
 | refine C_ret0 ?_
 | refine C_condT rfl obQ ?_
 | refine C_condF rfl obQ ?_
 | (refine C_cond rfl obQ (fun h => ?_) (fun h => ?_) <;> (try simp only [Bool.or_eq_true, Bool.and_eq_true, Bool.or_eq_false_iff, Bool.and_eq_false_iff, decide_eq_true_eq, decide_eq_false_iff_not, beq_iff_eq, bne_iff_ne, beq_eq_false_iff_ne, bne_eq_false_iff_eq, ne_eq, Decidable.not_not, List.cons.injEq, and_true, Bool.not_eq_true', Bool.not_eq_false', Int.not_lt, Int.not_le] at h))
 )
 | (refine S_id ?_; first
 | refine S_nil ?_
 | refine S_run rfl rfl obQ obQ ?_
 | refine S_call (f := 32) rfl obQ (by kernel_rfl) (fun w hw => cwithin_c _ _ _ w) ?_
 )
 | (refine G_id ?_; first
 | refine G_then ?_
 | refine G_block ?_
 | refine G_blockX ?_
 | refine G_blockN rfl ?_
 | refine G_blockR ?_
 | refine G_thenR ?_
 | refine G_thenX ?_
 | refine G_ret rfl obQ (fun w hw => ⟨?_, hw.below⟩)
 )
 )
  rfl

set_option maxHeartbeats 400000 in
/-- colour.CheckMatrix -/
theorem checkMatrix_c (m : Mat) (w : World) : Calls Tryd.prog 22 #[.agg #[.int .i64 m.a, .int .i64 m.b, .int .i64 m.c, .int .i64 m.d, .int .i64 m.e, .int .i64 m.f, .int .i64 m.g, .int .i64 m.h, .int .i64 m.i, .int .i64 m.n]] w fun r w' => r = .returned (.int .i64 (matE m)) ∧ Below w.heap.size w w' := by
  refine calls_of (args := [.agg #[.int .i64 m.a, .int .i64 m.b, .int .i64 m.c, .int .i64 m.d, .int .i64 m.e, .int .i64 m.f, .int .i64 m.g, .int .i64 m.h, .int .i64 m.i, .int .i64 m.n]]) T_ok Tryd.func22 rfl Tryd.ntmps22 (Nat.le_of_ble_eq_true rfl) rfl ?_
  repeat' (first
 | (refine C_id ?_; first
 | refine C_rounds 3 ?_
 | refine C_seq ?_
 | refine C_region rfl ?_
 | refine C_block ?_
 | refine C_skip ?_
 | refine C_exit ?_
 | refine C_ret0 ?_
 | refine C_condT rfl obQ ?_
 | refine C_condF rfl obQ ?_
 | (refine C_cond rfl obQ (fun h => ?_) (fun h => ?_) <;> (try simp only [Bool.or_eq_true, Bool.and_eq_true, Bool.or_eq_false_iff, Bool.and_eq_false_iff, decide_eq_true_eq, decide_eq_false_iff_not, beq_iff_eq, bne_iff_ne, beq_eq_false_iff_ne, bne_eq_false_iff_eq, ne_eq, Decidable.not_not, List.cons.injEq, and_true, Bool.not_eq_true', Bool.not_eq_false', Int.not_lt, Int.not_le] at h))
 )
 | (refine S_id ?_; first
 | refine S_pure (sliceX_pure rfl obQ (fun w => sl_arr Tryd.underlying34 (by kernel_rfl) _ w)) ?_
 | (refine S_callM (f := 30) rfl obQ (by kernel_rfl) (fun w hw => mappedIE_c 54 (g := enE) _ 3 [m.a, m.b, m.c] (by simp) (by kernel_rfl) w (.inr ⟨_, rfl, hw.src (i := 1) rfl rfl⟩) (fun x _ W _ => ccheckEntry7_c x W)) (fun w1M w2M vM hw1M hbM hRM => ?_); obtain ⟨AM, cM, rfl, hSM⟩ := hRM)
 | (refine S_callM (f := 30) rfl obQ (by kernel_rfl) (fun w hw => mappedIE_c 54 (g := enE) _ 3 [m.d, m.e, m.f] (by simp) (by kernel_rfl) w (.inr ⟨_, rfl, hw.src (i := 1) rfl rfl⟩) (fun x _ W _ => ccheckEntry7_c x W)) (fun w1M w2M vM hw1M hbM hRM => ?_); obtain ⟨AM, cM, rfl, hSM⟩ := hRM)
 | (refine S_callM (f := 30) rfl obQ (by kernel_rfl) (fun w hw => mappedIE_c 54 (g := enE) _ 3 [m.g, m.h, m.i] (by simp) (by kernel_rfl) w (.inr ⟨_, rfl, hw.src (i := 1) rfl rfl⟩) (fun x _ W _ => ccheckEntry7_c x W)) (fun w1M w2M vM hw1M hbM hRM => ?_); obtain ⟨AM, cM, rfl, hSM⟩ := hRM)
 | refine S_nil ?_
 | refine S_run rfl rfl obQ obQ ?_
 | refine S_box (fun b => ⟨_, _, rfl, obQ, ?_⟩)
 | refine S_call (f := 21) rfl obQ (by kernel_rfl) (fun w hw => cfirst_c _ _ [enE m.a, enE m.b, enE m.c] (by simp) w (hw.rdm hSM memQ)) ?_
 | refine S_call (f := 21) rfl obQ (by kernel_rfl) (fun w hw => cfirst_c _ _ [enE m.d, enE m.e, enE m.f] (by simp) w (hw.rdm hSM memQ)) ?_
 | refine S_call (f := 21) rfl obQ (by kernel_rfl) (fun w hw => cfirst_c _ _ [enE m.g, enE m.h, enE m.i] (by simp) w (hw.rdm hSM memQ)) ?_
 | refine S_call (f := 32) rfl obQ (by kernel_rfl) (fun w hw => cwithin_c _ _ _ w) ?_
 )
 | (refine G_id ?_; first
 | refine G_rounds (C_trim [1, 2, 7, 8] 1 rfl rfl ?_)
 | refine G_then ?_
 | refine G_block ?_
 | refine G_blockX ?_
 | refine G_blockN rfl ?_
 | refine G_blockR ?_
 | refine G_thenR ?_
 | refine G_thenX ?_
 | refine G_ret rfl obQ (fun w hw => ⟨?_, hw.below⟩)
 )
 )
  · exact rI (matE_r1 h).symm
  · exact rI (matE_r2 (by assumption) h).symm
  · exact rI (matE_r3 (by assumption) (by assumption) h).symm
  · exact rI (matE_r4 (by assumption) (by assumption) h).symm

theorem dot_bd {m : Mat} {a b c x y z : Int} (ha : -4096 ≤ a ∧ a ≤ 4096) (hb : -4096 ≤ b ∧ b ≤ 4096) (hc : -4096 ≤ c ∧ c ≤ 4096) (hx : -67108864 ≤ x ∧ x ≤ 67108864) (hy : -67108864 ≤ y ∧ y ≤ 67108864) (hz : -67108864 ≤ z ∧ z ≤ 67108864) : -824633720832 ≤ dotF a b c x y z ∧ dotF a b c x y z ≤ 824633720832 := by
  have h1 := mul_ab ha hx
  have h2 := mul_ab hb hy
  have h3 := mul_ab hc hz
  unfold dotF
  omega

set_option maxHeartbeats 400000 in
/-- (genlock/colour.Matrix).converted -/
theorem converted_c (m : Mat) (c : Col) (hm : MatOk m) (hc : ColOk c) (w : World) : Calls Tryd.prog 41 #[.agg #[.int .i64 m.a, .int .i64 m.b, .int .i64 m.c, .int .i64 m.d, .int .i64 m.e, .int .i64 m.f, .int .i64 m.g, .int .i64 m.h, .int .i64 m.i, .int .i64 m.n], .agg #[.int .i64 c.1, .int .i64 c.2.1, .int .i64 c.2.2]] w fun r w' => r = .returned (.agg #[.int .i64 (convF m c).1, .int .i64 (convF m c).2.1, .int .i64 (convF m c).2.2]) ∧ Below w.heap.size w w' := by
  obtain ⟨hc1, hc2, hc3⟩ := hc
  have hn := hm.n
  have hd0 := dot_bd (m := m) hm.a hm.b hm.c (x := c.1) (y := c.2.1) (z := c.2.2) (by omega) (by omega) (by omega)
  have hd1 := dot_bd (m := m) hm.d hm.e hm.f (x := c.1) (y := c.2.1) (z := c.2.2) (by omega) (by omega) (by omega)
  have hd2 := dot_bd (m := m) hm.g hm.h hm.i (x := c.1) (y := c.2.1) (z := c.2.2) (by omega) (by omega) (by omega)
  refine calls_of (args := [.agg #[.int .i64 m.a, .int .i64 m.b, .int .i64 m.c, .int .i64 m.d, .int .i64 m.e, .int .i64 m.f, .int .i64 m.g, .int .i64 m.h, .int .i64 m.i, .int .i64 m.n], .agg #[.int .i64 c.1, .int .i64 c.2.1, .int .i64 c.2.2]]) T_ok Tryd.func41 rfl Tryd.ntmps41 (Nat.le_of_ble_eq_true rfl) rfl ?_
  repeat' (first
 | (refine C_id ?_; first
 | refine C_rounds 3 ?_
 | refine C_seq ?_
 | refine C_region rfl ?_
 | refine C_block ?_
 | refine C_skip ?_
 | refine C_exit ?_
 | refine C_ret0 ?_
 | refine C_drawT (id := 5) 8 rfl mixed (by kernel_rfl) rfl rfl ?_
 | refine C_condT rfl obQ ?_
 | refine C_condF rfl obQ ?_
 | (refine C_cond rfl obQ (fun h => ?_) (fun h => ?_) <;> (try simp only [Bool.or_eq_true, Bool.and_eq_true, Bool.or_eq_false_iff, Bool.and_eq_false_iff, decide_eq_true_eq, decide_eq_false_iff_not, beq_iff_eq, bne_iff_ne, beq_eq_false_iff_ne, bne_eq_false_iff_eq, ne_eq, Decidable.not_not, List.cons.injEq, and_true, Bool.not_eq_true', Bool.not_eq_false', Int.not_lt, Int.not_le] at h))
 )
 | (refine S_id ?_; first
 | refine S_nil ?_
 | refine S_run rfl rfl obQ obQ ?_
 | refine S_box (fun b => ⟨_, _, rfl, obQ, ?_⟩)
 | refine S_call (f := 23) rfl obQ (by kernel_rfl) (fun w hw => dot_c _ _ _ _ _ _ (by have := hm.a; omega) (by have := hm.b; omega) (by have := hm.c; omega) (by omega) (by omega) (by omega) w) ?_
 | refine S_call (f := 23) rfl obQ (by kernel_rfl) (fun w hw => dot_c _ _ _ _ _ _ (by have := hm.d; omega) (by have := hm.e; omega) (by have := hm.f; omega) (by omega) (by omega) (by omega) w) ?_
 | refine S_call (f := 23) rfl obQ (by kernel_rfl) (fun w hw => dot_c _ _ _ _ _ _ (by have := hm.g; omega) (by have := hm.h; omega) (by have := hm.i; omega) (by omega) (by omega) (by omega) w) ?_
 | refine S_call (f := 36) rfl obQ (by kernel_rfl) (fun w hw => rounded_c _ _ (by omega) (by omega) w) ?_
 )
 | (refine D_id ?_; first
 | refine D_nil ?_
 | refine D_tail ?_
 | refine D_run rfl rfl obQ obQ ?_
 | refine D_call (f := 23) rfl obQ (by kernel_rfl) (fun w hw => dot_c _ _ _ _ _ _ (by have := hm.a; omega) (by have := hm.b; omega) (by have := hm.c; omega) (by omega) (by omega) (by omega) w) ?_
 | refine D_call (f := 23) rfl obQ (by kernel_rfl) (fun w hw => dot_c _ _ _ _ _ _ (by have := hm.d; omega) (by have := hm.e; omega) (by have := hm.f; omega) (by omega) (by omega) (by omega) w) ?_
 | refine D_call (f := 23) rfl obQ (by kernel_rfl) (fun w hw => dot_c _ _ _ _ _ _ (by have := hm.g; omega) (by have := hm.h; omega) (by have := hm.i; omega) (by omega) (by omega) (by omega) w) ?_
 | refine D_call (f := 36) rfl obQ (by kernel_rfl) (fun w hw => rounded_c _ _ (by omega) (by omega) w) ?_
 )
 | (refine G_id ?_; first
 | refine G_rounds (C_trim [2, 3, 4, 5, 9, 10] 4 rfl rfl ?_)
 | refine G_then ?_
 | refine G_block ?_
 | refine G_blockX ?_
 | refine G_blockN rfl ?_
 | refine G_blockR ?_
 | refine G_thenR ?_
 | refine G_thenX ?_
 | refine G_ret rfl obQ (fun w hw => ⟨?_, hw.below⟩)
 )
 )
  rfl

end Go.Proofs.YtedlaominconaaaDoor
