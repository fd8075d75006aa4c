/- Floats of 64 bits, samples, names, pictures, shading: the reference. -/
import Derived.Test.YtdbffbcobghbeaaGreatDoorColour14
import Derived.Test.YtdbffbcobghbeaaGreatDoorEng4
import Derived.Test.YtdbffbcobghbeaaGreatDoorEng3
import Derived.Test.YtdbffbcobghbeaaGreatDoorColour17
import Derived.Test.YtdbffbcobghbeaaGreatDoorColour24
namespace Go.Proofs.YtdbffbcobghbeaaGreatDoor
open Go.E Go.RowKit Go.Fl
attribute [local irreducible] G C S D Calls
set_option maxRecDepth 100000
set_option linter.unusedSimpArgs false
set_option linter.unusedVariables false

open Ieee
end Go.Proofs.YtdbffbcobghbeaaGreatDoor
namespace Go.Proofs.YtdbffbcobghbeaaGreatDoor
open Go.E Go.RowKit Go.Fl
attribute [local irreducible] G C S D DY DS V VT Yl QV QT Calls
set_option maxRecDepth 100000
set_option linter.unusedSimpArgs false
set_option linter.unusedVariables false

def digB (c : Nat) : Bool := decide (48 ≤ (c : Int)) && decide ((c : Int) ≤ 57)
theorem idxB {X : Cx} {Ps : Past} {σ : St} {o : Oper} {t : TypeId} {s : ByteArray} {k : IntKind} {i : Int} {d : Nat} {ob : List Prop} (h : idxX X.N o σ = some (t, s, k, i, d, ob)) (hob : AllP ob) {ti : TI} (hl : Go.E.look X.T t = some ti) (hk : ti.k = .str) {j : Nat} (hj : i = (j : Int)) (hlt0 : j < s.size) : Pure X Ps σ o (.v (.int .u8 (byteAt s j))) d := by
  have e : byteAt s j = (s[j]'hlt0).toNat := by simp [byteAt, hlt0]
  rw [e]
  exact idxX_pure h hob hl hk hj hlt0

set_option maxHeartbeats 400000 in
/-- genlockref01.isDigit -/
theorem rDigit_c (c : Nat) (w : World) : Calls Tryz.prog 213 #[.int .u8 c] w fun r w' => r = .returned (.bool (digB c)) ∧ Below w.heap.size w w' := by
  refine calls_of (args := [.int .u8 c]) T_ok Tryz.func213 rfl Tryz.ntmps213 (Nat.le_of_ble_eq_true rfl) rfl ?_
  repeat' (first
 | (refine C_id ?_; first
 | refine C_seq ?_
 | refine C_region rfl ?_
 | refine C_block ?_
 | refine C_skip ?_
 | refine C_ret0 ?_
 | (refine C_cond rfl obQ (fun h => ?_) (fun h => ?_) <;> (try simp only [Bool.or_eq_true, Bool.and_eq_true, Bool.or_eq_false_iff, Bool.and_eq_false_iff, decide_eq_true_eq, decide_eq_false_iff_not, beq_iff_eq, bne_iff_ne, beq_eq_false_iff_ne, bne_eq_false_iff_eq, ne_eq, Decidable.not_not, List.cons.injEq, and_true, Bool.not_eq_true', Bool.not_eq_false', Int.not_lt, Int.not_le] at h))
 )
 | (refine S_id ?_; first
 | refine S_nil ?_
 | refine S_run rfl rfl obQ obQ ?_
 )
 | (refine G_id ?_; first
 | refine G_then ?_
 | refine G_thenR ?_
 | refine G_ret rfl obQ (fun w hw => ⟨?_, hw.below⟩)
 )
 )
  rfl

theorem rDigK_c {c : Nat} {b : Bool} (h : digB c = b) (w : World) : Calls Tryz.prog 213 #[.int .u8 c] w fun r w' => r = .returned (.bool b) ∧ Below w.heap.size w w' := by
  subst h
  exact rDigit_c c w

end Go.Proofs.YtdbffbcobghbeaaGreatDoor
namespace Go.Proofs.YtdbffbcobghbeaaGreatDoor
open Go.E Go.RowKit Go.Fl
attribute [local irreducible] G C S D Calls
set_option maxRecDepth 100000
set_option linter.unusedSimpArgs false
set_option linter.unusedVariables false

def PicA (w w' : World) (v : Value) (q : Pic) : Prop := ∃ A c, v = .agg #[.string q.nm, .int .i64 q.w, .int .i64 q.h, .slice A q.s.length c] ∧ RdS (fun b => w.heap.size ≤ b ∧ b < w'.heap.size) w' A (q.s.map (.float .f32))
theorem PicA.of {w w' : World} {s : List Nat} {v : Value} {n : Nat} (h : Sl w w' v n (s.map (.float .f32))) (hn : n = s.length) {nm : ByteArray} {a b : Int} {u : Value} (hu : u = .agg #[.string nm, .int .i64 a, .int .i64 b, v]) : PicA w w' u ⟨nm, a, b, s⟩ := by
  obtain ⟨A, c, rfl, hr⟩ := h
  subst hn
  exact ⟨A, c, hu, hr⟩
theorem PicA.zero (w w' : World) : PicA w w' (.agg #[.string ByteArray.empty, .int .i64 0, .int .i64 0, .slice none 0 0]) zP := ⟨none, 0, rfl, .inl rfl⟩
end Go.Proofs.YtdbffbcobghbeaaGreatDoor
namespace Go.Proofs.YtdbffbcobghbeaaGreatDoor
open Go.E Go.RowKit Go.Fl
attribute [local irreducible] G C S D Calls
set_option maxRecDepth 100000
set_option linter.unusedSimpArgs false
set_option linter.unusedVariables false

end Go.Proofs.YtdbffbcobghbeaaGreatDoor
