/- The examples of the chapter on timing: the format, the net, the loop; what the program answers to them. -/
import Derived.Test.YtmfophoejjcnlaaGreatDoorTiming29
namespace Go.Proofs.YtmfophoejjcnlaaGreatDoor
open Go.E Go.RowKit
attribute [local irreducible] G C S D Calls
set_option maxRecDepth 100000
set_option linter.unusedSimpArgs false
set_option linter.unusedVariables false

def sF : Fmt := ⟨10, 5, 2, 3, 1, 1, 4⟩
def sN : List ByteArray := [⟨#[114, 101, 102]⟩, ⟨#[99, 97, 109]⟩, ⟨#[116, 97, 112, 101]⟩, ⟨#[109, 105, 120]⟩]
def sE (most : Int) : List Edg := [⟨0, 1, 0, most⟩, ⟨1, 3, 50, 60⟩, ⟨0, 2, 20, 20⟩, ⟨2, 3, 80, 90⟩]
def sA : List Arc := [⟨2, false, 0⟩, ⟨3, false, 0⟩, ⟨1, true, 0⟩, ⟨0, true, 0⟩]
theorem sN_size : ∀ s ∈ sN, s.size ≤ maxLen := by
  intro s hs
  simp only [sN, List.mem_cons, List.mem_nil_iff, or_false] at hs
  rcases hs with rfl | rfl | rfl | rfl <;> (unfold maxLen; decide)
theorem sPlan : planR sN (sE 100) = ([0, 40, 20, 100], 0) := by kernel_rfl
theorem sPlan30 : planR sN (sE 30) = ([], 18) := by kernel_rfl
theorem sSet : settingsR sN (sE 100) [0, 40, 20, 100] = ([40, 60, 20, 80], 0) := by kernel_rfl
theorem sWin3 : windowR sN (sE 100) 3 = (100, 110, 0) := by kernel_rfl
theorem sWin1 : windowR sN (sE 100) 1 = (40, 60, 0) := by kernel_rfl
theorem sLoop : loopE sN (sE 30) sA = 0 := by kernel_rfl
theorem sNet : netF sN (sE 100) = 0 := by kernel_rfl
/-- A net, all of it new. -/
def Nt (w w' : World) (v : Value) (n m : Nat) (xs ys : List Value) : Prop := ∃ A A2 c c2, v = .agg #[.slice A n c, .slice A2 m c2] ∧ RdS (fun b => w.heap.size ≤ b ∧ b < w'.heap.size) w' A xs ∧ RdS (fun b => w.heap.size ≤ b ∧ b < w'.heap.size) w' A2 ys
theorem Nt.mk2 {w w' : World} {v v1 v2 : Value} {n m : Nat} {xs ys : List Value} (h1 : Sl w w' v1 n xs) (h2 : Sl w w' v2 m ys) (hv : v = .agg #[v1, v2]) : Nt w w' v n m xs ys := by
  obtain ⟨A, c, rfl, r1⟩ := h1
  obtain ⟨A2, c2, rfl, r2⟩ := h2
  exact ⟨A, A2, c, c2, hv, r1, r2⟩

set_option maxHeartbeats 400000 in
/-- genlocklaw04.small -/
theorem small_c  (w : World) : Calls Tryz.prog 92 #[] w fun r w' => r = .returned (.agg #[.int .i64 sF.S, .int .i64 sF.L, .int .i64 sF.F, .int .i64 sF.B, .int .i64 sF.Y, .int .i64 sF.V, .int .i64 sF.C]) ∧ Below w.heap.size w w' := by
  refine calls_of (args := []) T_ok Tryz.func92 rfl Tryz.ntmps92 (Nat.le_of_ble_eq_true rfl) rfl ?_
  repeat' (first
 | (refine C_id ?_; first
 | refine C_seq ?_
 | refine C_region rfl ?_
 | refine C_block ?_
 | refine C_skip ?_
 | refine C_ret0 ?_
 | (refine C_cond rfl obQ (fun h => ?_) (fun h => ?_) <;> (try simp only [Bool.or_eq_true, Bool.and_eq_true, Bool.or_eq_false_iff, Bool.and_eq_false_iff, decide_eq_true_eq, decide_eq_false_iff_not, beq_iff_eq, bne_iff_ne, beq_eq_false_iff_ne, bne_eq_false_iff_eq, ne_eq, Decidable.not_not, List.cons.injEq, and_true, Bool.not_eq_true', Bool.not_eq_false', Int.not_lt, Int.not_le] at h))
 )
 | (refine S_id ?_; first
 | refine S_nil ?_
 | refine S_run rfl rfl obQ obQ ?_
 | refine S_box (fun b => ⟨_, _, rfl, obQ, ?_⟩)
 )
 | (refine G_id ?_; first
 | refine G_then ?_
 | refine G_thenR ?_
 | refine G_ret rfl obQ (fun w hw => ⟨?_, hw.below⟩)
 )
 )
  rfl

set_option maxHeartbeats 400000 in
/-- genlocklaw04.studio -/
theorem studio_c (most : Int) (w : World) : Calls Tryz.prog 93 #[.int .i64 most] w fun r w' => ∃ v, r = .returned v ∧ Below w.heap.size w w' ∧ Nt w w' v 4 4 (sN.map .string) ((sE most).flatMap edC) := by
  refine calls_of (args := [.int .i64 most]) T_ok Tryz.func93 rfl Tryz.ntmps93 (Nat.le_of_ble_eq_true rfl) rfl ?_
  repeat' (first
 | (refine C_id ?_; first
 | refine C_seq ?_
 | refine C_region rfl ?_
 | refine C_ret0 ?_
 )
 | (refine S_id ?_; first
 | refine S_nil ?_
 | refine S_run rfl rfl obQ obQ ?_
 | refine S_box (fun b => ⟨_, _, rfl, obQ, ?_⟩)
 | refine S_slice (fun b => ⟨_, _, rfl, obQ, ?_⟩)
 )
 | (refine G_id ?_; first
 | refine G_then ?_
 | refine G_ret rfl obQ (fun w2 hw => ⟨_, rfl, hw.below, Nt.mk2 (HW.slBox hw (i := 1) rfl rfl rfl) (HW.slBox hw (i := 2) rfl rfl rfl) rfl⟩)
 )
 )

set_option maxHeartbeats 400000 in
/-- genlocklaw04.round -/
theorem round_c  (w : World) : Calls Tryz.prog 94 #[] w fun r w' => ∃ v, r = .returned v ∧ Below w.heap.size w w' ∧ Sl w w' v 4 (sA.flatMap arC) := by
  refine calls_of (args := []) T_ok Tryz.func94 rfl Tryz.ntmps94 (Nat.le_of_ble_eq_true rfl) rfl ?_
  repeat' (first
 | (refine C_id ?_; first
 | refine C_seq ?_
 | refine C_region rfl ?_
 | refine C_ret0 ?_
 )
 | (refine S_id ?_; first
 | refine S_nil ?_
 | refine S_run rfl rfl obQ obQ ?_
 | refine S_slice (fun b => ⟨_, _, rfl, obQ, ?_⟩)
 )
 | (refine G_id ?_; first
 | refine G_then ?_
 | refine G_ret rfl obQ (fun w2 hw => ⟨_, rfl, hw.below, HW.slBox hw (i := 0) rfl rfl rfl⟩)
 )
 )

end Go.Proofs.YtmfophoejjcnlaaGreatDoor
