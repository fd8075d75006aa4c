/- The fixed example of the mixer in phase. -/
import Derived.Test.YtmfophoejjcnlaaDoorTiming25
namespace Go.Proofs.YtmfophoejjcnlaaDoor
open Go.E Go.RowKit
attribute [local irreducible] G C S D Calls
set_option maxRecDepth 100000
set_option linter.unusedSimpArgs false
set_option linter.unusedVariables false

def dN : List ByteArray := [⟨#[114, 101, 102]⟩, ⟨#[99, 97, 109]⟩, ⟨#[109, 105, 120]⟩]
def dE : List Edg := [⟨0, 1, 0, 3⟩, ⟨1, 2, 1, 2⟩, ⟨0, 2, 3, 3⟩]
theorem dPlan : planR dN dE = ([0, 1, 3], 0) := by kernel_rfl
theorem dWin : windowR dN dE 1 = (1, 2, 0) := by kernel_rfl
theorem dN_size : ∀ s ∈ dN, s.size ≤ maxLen := by
  intro s hs
  simp only [dN, List.mem_cons, List.mem_nil_iff, or_false] at hs
  rcases hs with rfl | rfl | rfl <;> (unfold maxLen; decide)
theorem dPlan_c (A A2 : Option Addr) (c c2 : Nat) (w : World) (hr : Rd w A (dN.map .string)) (hr2 : Rd w A2 (dE.flatMap edC)) : Calls Tryd.prog 14 #[.agg #[.slice A 3 c, .slice A2 3 c2]] w fun r w' => ∃ v, r = .returned v ∧ Below w.heap.size w w' ∧ Sl2 w w' v 3 [.int .i64 0, .int .i64 1, .int .i64 3] (.int .i64 0) := by
  have h := plan_c A A2 c c2 dN dE (by decide) (by decide) dN_size w hr hr2
  rw [dPlan] at h
  exact h
theorem dWin_c (A A2 : Option Addr) (c c2 : Nat) (w : World) (hr : Rd w A (dN.map .string)) (hr2 : Rd w A2 (dE.flatMap edC)) : Calls Tryd.prog 15 #[.agg #[.slice A 3 c, .slice A2 3 c2], .int .i64 1] w fun r w' => r = .returned (.tuple #[.agg #[.int .i64 1, .int .i64 2], .int .i64 0]) ∧ Below w.heap.size w w' := by
  have h := window_c A A2 c c2 dN dE 1 (by decide) (by decide) dN_size w hr hr2
  rw [dWin] at h
  exact h

set_option maxHeartbeats 1000000 in
/-- genlocktop.dollyPhase -/
theorem dollyPhase_c  (w : World) : Calls Tryd.prog 6 #[] w fun r w' => r = .returned (.bool true) ∧ Below w.heap.size w w' := by
  refine calls_of (args := []) T_ok Tryd.func6 rfl Tryd.ntmps6 (Nat.le_of_ble_eq_true rfl) rfl ?_
  repeat' (first
    | (refine C_id ?_; first
        | refine C_seq ?_
        | refine C_region rfl ?_
        | refine C_block ?_
        | refine C_skip ?_
        | refine C_exit ?_
        | refine C_ret0 ?_
        | refine C_condT rfl (by (repeat' (first | exact trivial | apply And.intro | rfl | omega | intro _ | (simp only [decide_eq_true_eq, decide_eq_false_iff_not, beq_iff_eq, Int.not_lt, Int.not_le] at *; omega))); first | done | fail) ?_
        | refine C_condF rfl (by (repeat' (first | exact trivial | apply And.intro | rfl | omega | intro _ | (simp only [decide_eq_true_eq, decide_eq_false_iff_not, beq_iff_eq, Int.not_lt, Int.not_le] at *; omega))); first | done | fail) ?_
        | (refine C_cond rfl (by (repeat' (first | exact trivial | apply And.intro | rfl | omega | intro _ | (simp only [decide_eq_true_eq, decide_eq_false_iff_not, beq_iff_eq, Int.not_lt, Int.not_le] at *; omega))); first | done | fail) (fun h => ?_) (fun h => ?_) <;> (try simp only [Bool.or_eq_true, Bool.and_eq_true, Bool.or_eq_false_iff, Bool.and_eq_false_iff, decide_eq_true_eq, decide_eq_false_iff_not, beq_iff_eq, bne_iff_ne, beq_eq_false_iff_ne, bne_eq_false_iff_eq, ne_eq, Decidable.not_not, List.cons.injEq, and_true, Bool.not_eq_true', Bool.not_eq_false', Int.not_lt, Int.not_le] at h))
      )
    | (refine S_id ?_; first
        | (refine S_callM rfl (by (repeat' (first | exact trivial | apply And.intro | rfl | omega | intro _ | (simp only [decide_eq_true_eq, decide_eq_false_iff_not, beq_iff_eq, Int.not_lt, Int.not_le] at *; omega))); first | done | fail) (by kernel_rfl) (fun w hw => dPlan_c _ _ _ _ w (.inr ⟨_, rfl, (hw.src (i := 0) rfl rfl)⟩) (.inr ⟨_, rfl, (hw.src (i := 1) rfl rfl)⟩)) (fun w1P w2P vP hw1P hbP hRP => ?_); obtain ⟨AP, cP, rfl, hSP⟩ := hRP; obtain ⟨adP, rfl⟩ := hSP.rd.some (by simp))
        | refine S_binG rfl rfl (fun hg => (by (repeat' (first | exact trivial | apply And.intro | rfl | omega | intro _ | (simp only [decide_eq_true_eq, decide_eq_false_iff_not, beq_iff_eq, Int.not_lt, Int.not_le] at *; omega))); first | done | fail)) (fun hg w => eq_flat (k := .i64) (n := 2) (xs := [1, 2]) (ys := [1, 2]) (by kernel_rfl) rfl rfl _ _ w) ?_
        | refine S_loadG rfl rfl (fun hg => (by (repeat' (first | exact trivial | apply And.intro | rfl | omega | intro _ | (simp only [decide_eq_true_eq, decide_eq_false_iff_not, beq_iff_eq, Int.not_lt, Int.not_le] at *; omega))); first | done | fail)) rfl [.int .i64 0] (fun hg => .past _ (by repeat (first | exact List.Mem.head _ | apply List.Mem.tail)) _ _ hSP 0 _ rfl rfl (by intro j u hu; cases j with | zero => simpa using hu | succ j => simp at hu)) rfl (.inr ⟨rfl, rfl⟩) ?_
        | refine S_loadG rfl rfl (fun hg => (by (repeat' (first | exact trivial | apply And.intro | rfl | omega | intro _ | (simp only [decide_eq_true_eq, decide_eq_false_iff_not, beq_iff_eq, Int.not_lt, Int.not_le] at *; omega))); first | done | fail)) rfl [.int .i64 1] (fun hg => .past _ (by repeat (first | exact List.Mem.head _ | apply List.Mem.tail)) _ _ hSP 1 _ rfl rfl (by intro j u hu; cases j with | zero => simpa using hu | succ j => simp at hu)) rfl (.inr ⟨rfl, rfl⟩) ?_
        | refine S_loadG rfl rfl (fun hg => (by (repeat' (first | exact trivial | apply And.intro | rfl | omega | intro _ | (simp only [decide_eq_true_eq, decide_eq_false_iff_not, beq_iff_eq, Int.not_lt, Int.not_le] at *; omega))); first | done | fail)) rfl [.int .i64 3] (fun hg => .past _ (by repeat (first | exact List.Mem.head _ | apply List.Mem.tail)) _ _ hSP 2 _ rfl rfl (by intro j u hu; cases j with | zero => simpa using hu | succ j => simp at hu)) rfl (.inr ⟨rfl, rfl⟩) ?_
        | refine S_nil ?_
        | refine S_run rfl rfl (by (repeat' (first | exact trivial | apply And.intro | rfl | omega | intro _ | (simp only [decide_eq_true_eq, decide_eq_false_iff_not, beq_iff_eq, Int.not_lt, Int.not_le] at *; omega))); first | done | fail) (by (repeat' (first | exact trivial | apply And.intro | rfl | omega | intro _ | (simp only [decide_eq_true_eq, decide_eq_false_iff_not, beq_iff_eq, Int.not_lt, Int.not_le] at *; omega))); first | done | fail) ?_
        | refine S_box (fun b => ⟨_, _, rfl, (by (repeat' (first | exact trivial | apply And.intro | rfl | omega | intro _ | (simp only [decide_eq_true_eq, decide_eq_false_iff_not, beq_iff_eq, Int.not_lt, Int.not_le] at *; omega))); first | done | fail), ?_⟩)
        | refine S_slice (fun b => ⟨_, _, rfl, (by (repeat' (first | exact trivial | apply And.intro | rfl | omega | intro _ | (simp only [decide_eq_true_eq, decide_eq_false_iff_not, beq_iff_eq, Int.not_lt, Int.not_le] at *; omega))); first | done | fail), ?_⟩)
        | refine S_call rfl (by (repeat' (first | exact trivial | apply And.intro | rfl | omega | intro _ | (simp only [decide_eq_true_eq, decide_eq_false_iff_not, beq_iff_eq, Int.not_lt, Int.not_le] at *; omega))); first | done | fail) (by kernel_rfl) (fun w hw => dWin_c _ _ _ _ w (.inr ⟨_, rfl, (hw.src (i := 0) rfl rfl)⟩) (.inr ⟨_, rfl, (hw.src (i := 1) rfl rfl)⟩)) ?_
      )
    | (refine G_id ?_; first
        | refine G_then ?_
        | refine G_block ?_
        | refine G_blockX ?_
        | refine G_blockN rfl ?_
        | refine G_blockR ?_
        | refine G_thenR ?_
        | refine G_thenX ?_
        | refine G_ret rfl (by (repeat' (first | exact trivial | apply And.intro | rfl | omega | intro _ | (simp only [decide_eq_true_eq, decide_eq_false_iff_not, beq_iff_eq, Int.not_lt, Int.not_le] at *; omega))); first | done | fail) (fun w hw => ⟨?_, hw.below⟩)
      )
    )
  rfl

end Go.Proofs.YtmfophoejjcnlaaDoor
