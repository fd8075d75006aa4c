/- Contracts of the small functions of package timing. -/
import Derived.Test.YtmfophoejjcnlaaDoorTab
namespace Go.Proofs.YtmfophoejjcnlaaDoor
open Go.E Go.RowKit
attribute [local irreducible] G C S D Calls
set_option maxRecDepth 100000
set_option linter.unusedSimpArgs false
set_option linter.unusedVariables false

structure Fmt where
  S : Int
  L : Int
  F : Int
  B : Int
  Y : Int
  V : Int
  C : Int

set_option maxHeartbeats 400000 in
/-- timing.when -/
theorem when_c (b : Bool) (e : Int) (w : World) : Calls Tryd.prog 28 #[.bool b, .int .i64 e] w fun r w' => r = .returned (.int .i64 (if b then e else 0)) ∧ Below w.heap.size w w' := by
  refine calls_of (args := [.bool b, .int .i64 e]) T_ok Tryd.func28 rfl Tryd.ntmps28 (Nat.le_of_ble_eq_true rfl) rfl ?_
  repeat' (first
    | (refine C_id ?_; first
        | refine C_seq ?_
        | refine C_region rfl ?_
        | refine C_block ?_
        | refine C_skip ?_
        | refine C_exit ?_
        | refine C_ret0 ?_
        | refine C_condT rfl (by (repeat' (first | exact trivial | apply And.intro | rfl | omega | intro _ | (simp only [decide_eq_true_eq, decide_eq_false_iff_not, beq_iff_eq, Int.not_lt, Int.not_le] at *; omega))); first | done | fail) ?_
        | refine C_condF rfl (by (repeat' (first | exact trivial | apply And.intro | rfl | omega | intro _ | (simp only [decide_eq_true_eq, decide_eq_false_iff_not, beq_iff_eq, Int.not_lt, Int.not_le] at *; omega))); first | done | fail) ?_
        | (refine C_cond rfl (by (repeat' (first | exact trivial | apply And.intro | rfl | omega | intro _ | (simp only [decide_eq_true_eq, decide_eq_false_iff_not, beq_iff_eq, Int.not_lt, Int.not_le] at *; omega))); first | done | fail) (fun h => ?_) (fun h => ?_) <;> (try simp only [Bool.or_eq_true, Bool.and_eq_true, Bool.or_eq_false_iff, Bool.and_eq_false_iff, decide_eq_true_eq, decide_eq_false_iff_not, beq_iff_eq, bne_iff_ne, beq_eq_false_iff_ne, bne_eq_false_iff_eq, ne_eq, Decidable.not_not, List.cons.injEq, and_true, Bool.not_eq_true', Bool.not_eq_false', Int.not_lt, Int.not_le] at h))
      )
    | (refine S_id ?_; first
        | refine S_nil ?_
        | refine S_run rfl rfl (by (repeat' (first | exact trivial | apply And.intro | rfl | omega | intro _ | (simp only [decide_eq_true_eq, decide_eq_false_iff_not, beq_iff_eq, Int.not_lt, Int.not_le] at *; omega))); first | done | fail) (by (repeat' (first | exact trivial | apply And.intro | rfl | omega | intro _ | (simp only [decide_eq_true_eq, decide_eq_false_iff_not, beq_iff_eq, Int.not_lt, Int.not_le] at *; omega))); first | done | fail) ?_
        | refine S_box (fun b => ⟨_, _, rfl, (by (repeat' (first | exact trivial | apply And.intro | rfl | omega | intro _ | (simp only [decide_eq_true_eq, decide_eq_false_iff_not, beq_iff_eq, Int.not_lt, Int.not_le] at *; omega))); first | done | fail), ?_⟩)
        | refine S_slice (fun b => ⟨_, _, rfl, (by (repeat' (first | exact trivial | apply And.intro | rfl | omega | intro _ | (simp only [decide_eq_true_eq, decide_eq_false_iff_not, beq_iff_eq, Int.not_lt, Int.not_le] at *; omega))); first | done | fail), ?_⟩)
      )
    | (refine G_id ?_; first
        | refine G_then ?_
        | refine G_block ?_
        | refine G_blockX ?_
        | refine G_blockN rfl ?_
        | refine G_blockR ?_
        | refine G_thenR ?_
        | refine G_thenX ?_
        | refine G_ret rfl (by (repeat' (first | exact trivial | apply And.intro | rfl | omega | intro _ | (simp only [decide_eq_true_eq, decide_eq_false_iff_not, beq_iff_eq, Int.not_lt, Int.not_le] at *; omega))); first | done | fail) (fun w hw => ⟨?_, hw.below⟩)
      )
    )
  all_goals simp [h]

set_option maxHeartbeats 400000 in
/-- timing.within -/
theorem within_c (n l m : Int) (w : World) : Calls Tryd.prog 18 #[.int .i64 n, .int .i64 l, .int .i64 m] w fun r w' => r = .returned (.int .i64 (if n < l ∨ m < n then 3 else 0)) ∧ Below w.heap.size w w' := by
  refine calls_of (args := [.int .i64 n, .int .i64 l, .int .i64 m]) T_ok Tryd.func18 rfl Tryd.ntmps18 (Nat.le_of_ble_eq_true rfl) rfl ?_
  repeat' (first
    | (refine C_id ?_; first
        | refine C_seq ?_
        | refine C_region rfl ?_
        | refine C_block ?_
        | refine C_skip ?_
        | refine C_exit ?_
        | refine C_ret0 ?_
        | refine C_condT rfl (by (repeat' (first | exact trivial | apply And.intro | rfl | omega | intro _ | (simp only [decide_eq_true_eq, decide_eq_false_iff_not, beq_iff_eq, Int.not_lt, Int.not_le] at *; omega))); first | done | fail) ?_
        | refine C_condF rfl (by (repeat' (first | exact trivial | apply And.intro | rfl | omega | intro _ | (simp only [decide_eq_true_eq, decide_eq_false_iff_not, beq_iff_eq, Int.not_lt, Int.not_le] at *; omega))); first | done | fail) ?_
        | (refine C_cond rfl (by (repeat' (first | exact trivial | apply And.intro | rfl | omega | intro _ | (simp only [decide_eq_true_eq, decide_eq_false_iff_not, beq_iff_eq, Int.not_lt, Int.not_le] at *; omega))); first | done | fail) (fun h => ?_) (fun h => ?_) <;> (try simp only [Bool.or_eq_true, Bool.and_eq_true, Bool.or_eq_false_iff, Bool.and_eq_false_iff, decide_eq_true_eq, decide_eq_false_iff_not, beq_iff_eq, bne_iff_ne, beq_eq_false_iff_ne, bne_eq_false_iff_eq, ne_eq, Decidable.not_not, List.cons.injEq, and_true, Bool.not_eq_true', Bool.not_eq_false', Int.not_lt, Int.not_le] at h))
      )
    | (refine S_id ?_; first
        | refine S_nil ?_
        | refine S_run rfl rfl (by (repeat' (first | exact trivial | apply And.intro | rfl | omega | intro _ | (simp only [decide_eq_true_eq, decide_eq_false_iff_not, beq_iff_eq, Int.not_lt, Int.not_le] at *; omega))); first | done | fail) (by (repeat' (first | exact trivial | apply And.intro | rfl | omega | intro _ | (simp only [decide_eq_true_eq, decide_eq_false_iff_not, beq_iff_eq, Int.not_lt, Int.not_le] at *; omega))); first | done | fail) ?_
        | refine S_box (fun b => ⟨_, _, rfl, (by (repeat' (first | exact trivial | apply And.intro | rfl | omega | intro _ | (simp only [decide_eq_true_eq, decide_eq_false_iff_not, beq_iff_eq, Int.not_lt, Int.not_le] at *; omega))); first | done | fail), ?_⟩)
        | refine S_slice (fun b => ⟨_, _, rfl, (by (repeat' (first | exact trivial | apply And.intro | rfl | omega | intro _ | (simp only [decide_eq_true_eq, decide_eq_false_iff_not, beq_iff_eq, Int.not_lt, Int.not_le] at *; omega))); first | done | fail), ?_⟩)
        | refine S_call rfl (by (repeat' (first | exact trivial | apply And.intro | rfl | omega | intro _ | (simp only [decide_eq_true_eq, decide_eq_false_iff_not, beq_iff_eq, Int.not_lt, Int.not_le] at *; omega))); first | done | fail) (by kernel_rfl) (fun w hw => when_c _ _ _) ?_
      )
    | (refine G_id ?_; first
        | refine G_then ?_
        | refine G_block ?_
        | refine G_blockX ?_
        | refine G_blockN rfl ?_
        | refine G_blockR ?_
        | refine G_thenR ?_
        | refine G_thenX ?_
        | refine G_ret rfl (by (repeat' (first | exact trivial | apply And.intro | rfl | omega | intro _ | (simp only [decide_eq_true_eq, decide_eq_false_iff_not, beq_iff_eq, Int.not_lt, Int.not_le] at *; omega))); first | done | fail) (fun w hw => ⟨?_, hw.below⟩)
      )
    )
  simp

set_option maxHeartbeats 400000 in
/-- (genlock/timing.Format).frame -/
theorem frame_c (f : Fmt) (h0 : 0 ≤ f.S ∧ f.S ≤ 2000) (h1 : 0 ≤ f.L ∧ f.L ≤ 2000) (w : World) : Calls Tryd.prog 20 #[.agg #[.int .i64 f.S, .int .i64 f.L, .int .i64 f.F, .int .i64 f.B, .int .i64 f.Y, .int .i64 f.V, .int .i64 f.C]] w fun r w' => r = .returned (.int .i64 (f.S * f.L)) ∧ Below w.heap.size w w' := by
  have hm : 0 ≤ f.S * f.L := Int.mul_nonneg h0.1 h1.1
  have hm2 : f.S * f.L ≤ 2000 * 2000 := Int.mul_le_mul h0.2 h1.2 h1.1 (by omega)
  refine calls_of (args := [.agg #[.int .i64 f.S, .int .i64 f.L, .int .i64 f.F, .int .i64 f.B, .int .i64 f.Y, .int .i64 f.V, .int .i64 f.C]]) T_ok Tryd.func20 rfl Tryd.ntmps20 (Nat.le_of_ble_eq_true rfl) rfl ?_
  repeat' (first
    | (refine C_id ?_; first
        | refine C_seq ?_
        | refine C_region rfl ?_
        | refine C_block ?_
        | refine C_skip ?_
        | refine C_exit ?_
        | refine C_ret0 ?_
        | refine C_condT rfl (by (repeat' (first | exact trivial | apply And.intro | rfl | omega | intro _ | (simp only [decide_eq_true_eq, decide_eq_false_iff_not, beq_iff_eq, Int.not_lt, Int.not_le] at *; omega))); first | done | fail) ?_
        | refine C_condF rfl (by (repeat' (first | exact trivial | apply And.intro | rfl | omega | intro _ | (simp only [decide_eq_true_eq, decide_eq_false_iff_not, beq_iff_eq, Int.not_lt, Int.not_le] at *; omega))); first | done | fail) ?_
        | (refine C_cond rfl (by (repeat' (first | exact trivial | apply And.intro | rfl | omega | intro _ | (simp only [decide_eq_true_eq, decide_eq_false_iff_not, beq_iff_eq, Int.not_lt, Int.not_le] at *; omega))); first | done | fail) (fun h => ?_) (fun h => ?_) <;> (try simp only [Bool.or_eq_true, Bool.and_eq_true, Bool.or_eq_false_iff, Bool.and_eq_false_iff, decide_eq_true_eq, decide_eq_false_iff_not, beq_iff_eq, bne_iff_ne, beq_eq_false_iff_ne, bne_eq_false_iff_eq, ne_eq, Decidable.not_not, List.cons.injEq, and_true, Bool.not_eq_true', Bool.not_eq_false', Int.not_lt, Int.not_le] at h))
      )
    | (refine S_id ?_; first
        | refine S_nil ?_
        | refine S_run rfl rfl (by (repeat' (first | exact trivial | apply And.intro | rfl | omega | intro _ | (simp only [decide_eq_true_eq, decide_eq_false_iff_not, beq_iff_eq, Int.not_lt, Int.not_le] at *; omega))); first | done | fail) (by (repeat' (first | exact trivial | apply And.intro | rfl | omega | intro _ | (simp only [decide_eq_true_eq, decide_eq_false_iff_not, beq_iff_eq, Int.not_lt, Int.not_le] at *; omega))); first | done | fail) ?_
        | refine S_box (fun b => ⟨_, _, rfl, (by (repeat' (first | exact trivial | apply And.intro | rfl | omega | intro _ | (simp only [decide_eq_true_eq, decide_eq_false_iff_not, beq_iff_eq, Int.not_lt, Int.not_le] at *; omega))); first | done | fail), ?_⟩)
        | refine S_slice (fun b => ⟨_, _, rfl, (by (repeat' (first | exact trivial | apply And.intro | rfl | omega | intro _ | (simp only [decide_eq_true_eq, decide_eq_false_iff_not, beq_iff_eq, Int.not_lt, Int.not_le] at *; omega))); first | done | fail), ?_⟩)
      )
    | (refine G_id ?_; first
        | refine G_then ?_
        | refine G_block ?_
        | refine G_blockX ?_
        | refine G_blockN rfl ?_
        | refine G_blockR ?_
        | refine G_thenR ?_
        | refine G_thenX ?_
        | refine G_ret rfl (by (repeat' (first | exact trivial | apply And.intro | rfl | omega | intro _ | (simp only [decide_eq_true_eq, decide_eq_false_iff_not, beq_iff_eq, Int.not_lt, Int.not_le] at *; omega))); first | done | fail) (fun w hw => ⟨?_, hw.below⟩)
      )
    )
  rfl

/-- The table of package timing, as it was laid. -/
def Ex (w : World) : Prop := Rd w (some ⟨0, 0, none⟩) [.int .i64 1, .int .i64 0]
def exA (i : Int) : Int := if i = 0 then 1 else 0
/-- The lines of a field. -/
def linesF (f : Fmt) (i : Int) : Int := if f.F = 1 then f.L else (f.L + exA i) / 2
theorem linesF_bd (f : Fmt) (i : Int) (h : 0 ≤ f.L ∧ f.L ≤ 2000) : 0 ≤ linesF f i ∧ linesF f i ≤ 2000 := by
  unfold linesF exA
  split <;> (try split) <;> omega

set_option maxHeartbeats 400000 in
/-- (genlock/timing.Format).lines -/
theorem lines_c (f : Fmt) (i : Int) (h1 : 0 ≤ f.L ∧ f.L ≤ 2000) (hi : i = 0 ∨ i = 1) (w : World) (hE : Ex w) : Calls Tryd.prog 21 #[.agg #[.int .i64 f.S, .int .i64 f.L, .int .i64 f.F, .int .i64 f.B, .int .i64 f.Y, .int .i64 f.V, .int .i64 f.C], .int .i64 i] w fun r w' => r = .returned (.int .i64 (linesF f i)) ∧ Below w.heap.size w w' := by
  have hx : 0 ≤ exA i ∧ exA i ≤ 1 := by unfold exA; split <;> omega
  refine calls_of (args := [.agg #[.int .i64 f.S, .int .i64 f.L, .int .i64 f.F, .int .i64 f.B, .int .i64 f.Y, .int .i64 f.V, .int .i64 f.C], .int .i64 i]) T_ok Tryd.func21 rfl Tryd.ntmps21 (Nat.le_of_ble_eq_true rfl) rfl ?_
  repeat' (first
    | (refine C_id ?_; first
        | refine C_seq ?_
        | refine C_region rfl ?_
        | refine C_block ?_
        | refine C_skip ?_
        | refine C_exit ?_
        | refine C_ret0 ?_
        | refine C_draw (id := 3) rfl mixed (by kernel_rfl) ?_
        | refine C_condT rfl (by (repeat' (first | exact trivial | apply And.intro | rfl | omega | intro _ | (simp only [decide_eq_true_eq, decide_eq_false_iff_not, beq_iff_eq, Int.not_lt, Int.not_le] at *; omega))); first | done | fail) ?_
        | refine C_condF rfl (by (repeat' (first | exact trivial | apply And.intro | rfl | omega | intro _ | (simp only [decide_eq_true_eq, decide_eq_false_iff_not, beq_iff_eq, Int.not_lt, Int.not_le] at *; omega))); first | done | fail) ?_
        | (refine C_cond rfl (by (repeat' (first | exact trivial | apply And.intro | rfl | omega | intro _ | (simp only [decide_eq_true_eq, decide_eq_false_iff_not, beq_iff_eq, Int.not_lt, Int.not_le] at *; omega))); first | done | fail) (fun h => ?_) (fun h => ?_) <;> (try simp only [Bool.or_eq_true, Bool.and_eq_true, Bool.or_eq_false_iff, Bool.and_eq_false_iff, decide_eq_true_eq, decide_eq_false_iff_not, beq_iff_eq, bne_iff_ne, beq_eq_false_iff_ne, bne_eq_false_iff_eq, ne_eq, Decidable.not_not, List.cons.injEq, and_true, Bool.not_eq_true', Bool.not_eq_false', Int.not_lt, Int.not_le] at h))
      )
    | (refine S_id ?_; first
        | refine S_nil ?_
        | refine S_run rfl rfl (by (repeat' (first | exact trivial | apply And.intro | rfl | omega | intro _ | (simp only [decide_eq_true_eq, decide_eq_false_iff_not, beq_iff_eq, Int.not_lt, Int.not_le] at *; omega))); first | done | fail) (by (repeat' (first | exact trivial | apply And.intro | rfl | omega | intro _ | (simp only [decide_eq_true_eq, decide_eq_false_iff_not, beq_iff_eq, Int.not_lt, Int.not_le] at *; omega))); first | done | fail) ?_
        | refine S_box (fun b => ⟨_, _, rfl, (by (repeat' (first | exact trivial | apply And.intro | rfl | omega | intro _ | (simp only [decide_eq_true_eq, decide_eq_false_iff_not, beq_iff_eq, Int.not_lt, Int.not_le] at *; omega))); first | done | fail), ?_⟩)
        | refine S_slice (fun b => ⟨_, _, rfl, (by (repeat' (first | exact trivial | apply And.intro | rfl | omega | intro _ | (simp only [decide_eq_true_eq, decide_eq_false_iff_not, beq_iff_eq, Int.not_lt, Int.not_le] at *; omega))); first | done | fail), ?_⟩)
      )
    | (refine D_id ?_; first
        | refine D_load rfl (by (repeat' (first | exact trivial | apply And.intro | rfl | omega | intro _ | (simp only [decide_eq_true_eq, decide_eq_false_iff_not, beq_iff_eq, Int.not_lt, Int.not_le] at *; omega))); first | done | fail) rfl [.int .i64 (exA i)] (.past _ (by repeat (first | exact List.Mem.head _ | apply List.Mem.tail)) _ _ hE.toS _ _ rfl rfl (by intro j u hu; rcases hi with rfl | rfl <;> (cases j with | zero => simpa [exA] using hu | succ j => simp at hu))) rfl (.inr ⟨rfl, rfl⟩) ?_
        | refine D_nil ?_
        | refine D_tail ?_
        | refine D_run rfl rfl (by (repeat' (first | exact trivial | apply And.intro | rfl | omega | intro _ | (simp only [decide_eq_true_eq, decide_eq_false_iff_not, beq_iff_eq, Int.not_lt, Int.not_le] at *; omega))); first | done | fail) (by (repeat' (first | exact trivial | apply And.intro | rfl | omega | intro _ | (simp only [decide_eq_true_eq, decide_eq_false_iff_not, beq_iff_eq, Int.not_lt, Int.not_le] at *; omega))); first | done | fail) ?_
      )
    | (refine G_id ?_; first
        | refine G_then ?_
        | refine G_block ?_
        | refine G_blockX ?_
        | refine G_blockN rfl ?_
        | refine G_blockR ?_
        | refine G_thenR ?_
        | refine G_thenX ?_
        | refine G_ret rfl (by (repeat' (first | exact trivial | apply And.intro | rfl | omega | intro _ | (simp only [decide_eq_true_eq, decide_eq_false_iff_not, beq_iff_eq, Int.not_lt, Int.not_le] at *; omega))); first | done | fail) (fun w hw => ⟨?_, hw.below⟩)
      )
    )
  all_goals simp [linesF, h]

structure Pos where
  R : Int
  F : Int
  L : Int
  S : Int
/-- The position of a tick. -/
def atF (f : Fmt) (t : Int) : Pos :=
  let line := t % (f.S * f.L) / f.S
  if linesF f 0 ≤ line then ⟨t / (f.S * f.L), 1, line - linesF f 0, t % f.S⟩ else ⟨t / (f.S * f.L), 0, line, t % f.S⟩
def posV (p : Pos) : Value := .agg #[.int .i64 p.R, .int .i64 p.F, .int .i64 p.L, .int .i64 p.S]
theorem frame_bd (f : Fmt) (h0 : 1 ≤ f.S ∧ f.S ≤ 2000) (h1 : 1 ≤ f.L ∧ f.L ≤ 2000) : 1 ≤ f.S * f.L ∧ f.S * f.L ≤ 4000000 := by
  have h2 : 1 * 1 ≤ f.S * f.L := Int.mul_le_mul h0.1 h1.1 (by omega) (by omega)
  have h3 : f.S * f.L ≤ 2000 * 2000 := Int.mul_le_mul h0.2 h1.2 (by omega) (by omega)
  omega

-- at

end Go.Proofs.YtmfophoejjcnlaaDoor
