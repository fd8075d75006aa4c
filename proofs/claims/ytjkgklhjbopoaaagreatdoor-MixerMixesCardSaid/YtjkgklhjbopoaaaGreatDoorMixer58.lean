/- What the laws of keys and pictures call: contracts as they are used. -/
import Derived.Test.YtjkgklhjbopoaaaGreatDoorPartJ
import Derived.Test.YtjkgklhjbopoaaaGreatDoorMixer15
import Derived.Test.YtjkgklhjbopoaaaGreatDoorMixer38
namespace Go.Proofs.YtjkgklhjbopoaaaGreatDoor
open Go.E Go.RowKit Go.Fl
attribute [local irreducible] G C S D Calls
set_option maxRecDepth 100000
set_option linter.unusedSimpArgs false
set_option linter.unusedVariables false
set_option maxHeartbeats 8000000
theorem xShortKey_c (A : Option Addr) (c : Nat) (l : List Int) (w : World) : Calls Tryz.prog 53 #[.slice A l.length c] w fun r w' => r = .returned (.bool (decide ((l.length : Int) ≤ 64) || ((l.length : Int) == 4097))) ∧ Below w.heap.size w w' := by
  refine calls_of T_ok Tryz.func53 rfl Tryz.ntmps53 (Nat.le_of_ble_eq_true rfl) rfl ?_
  repeat' (first
 | (refine C_id ?_; first
 | refine C_seq ?_
 | refine C_region rfl ?_
 | refine C_block ?_
 | refine C_skip ?_
 | refine C_ret0 ?_
 | (refine C_cond rfl obQ (fun h => ?_) (fun h => ?_) <;> (try simp only [cdS] at h))
 )
 | refine S_nil ?_
 | refine S_run rfl rfl obQ obQ ?_
 | refine G_then ?_
 | refine G_thenR ?_
 | refine G_ret rfl obQ (fun w hw => ⟨?_, hw.below⟩)
 )
  rfl
def skB (n : Nat) : Bool := decide ((n : Int) ≤ 64) || ((n : Int) == 4097)
theorem skB_le {n : Nat} (h : skB n = true) : n ≤ 4097 := by
  unfold skB at h
  simp only [Bool.or_eq_true, decide_eq_true_eq, beq_iff_eq] at h
  omega
section
variable {p q : Pic} {A B D : Option Addr} {c c2 c3 : Nat} {w : World} {l k k2 : List Int} {e cl ga u t : Int} {b : Bool} {y : Pic}
theorem sk_as (h : skB k.length = b) : Calls Tryz.prog 53 #[.slice B k.length c2] w fun r w' => r = .returned (.bool b) ∧ Below w.heap.size w w' := by
  subst h
  exact xShortKey_c B c2 k w
theorem xckd_as (h : kdE p k = e) (hl : k.length ≤ 1000000) (hr2 : Rd w B (k.map (.int .i64))) : Calls Tryz.prog 61 #[.agg #[.string p.nm, .int .i64 p.w, .int .i64 p.h, .slice A p.s.length c], .slice B k.length c2] w fun r w' => r = .returned (.int .i64 e) ∧ Below w.heap.size w w' := by
  subst h
  exact xCheckKeyed_c p A c B c2 k hl w hr2
theorem xcp_as (h : picE p = e) (hs : p.s.length ≤ 1000000) (hn : p.nm.size ≤ maxLen) (hr : Rd w A (p.s.map (.float .f32))) : Calls Tryz.prog 60 #[.agg #[.string p.nm, .int .i64 p.w, .int .i64 p.h, .slice A p.s.length c]] w fun r w' => r = .returned (.int .i64 e) ∧ Below w.heap.size w w' := by
  subst h
  exact rCheckPicture_c p A c hs hn w hr
end
end Go.Proofs.YtjkgklhjbopoaaaGreatDoor
