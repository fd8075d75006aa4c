/- Mixer: levels of trees: contract of the reference. -/
import Derived.Test.YtjkgklhjbopoaaaGreatDoorPartK
import Derived.Test.YtjkgklhjbopoaaaGreatDoorMixer39
namespace Go.Proofs.YtjkgklhjbopoaaaGreatDoor
open Go.E Go.RowKit Go.Fl
attribute [local irreducible] G C S D Calls
set_option maxRecDepth 100000
set_option linter.all false
set_option maxHeartbeats 8000000
theorem bg4 {s : List Nat} {k : Nat} {z : Int} (e : z = k) (h : k < s.length) : ∀ (j : Nat) (u : Value), ([.float .f32 (gB s k)] : List Value)[j]? = some u → (s.map (.float .f32))[(z.toNat * 1 + j)]? = some u := by
  subst e
  exact ad6 h
theorem ay9 (p : Pic) (A : Option Addr) (c x y W k : Nat) (hW : p.w = W) (hk : k = y * W + x) (hlt : k < p.s.length) (hs : p.s.length ≤ 1000000) (w : World) (hr : Rd w A (p.s.map (.float .f32))) : Calls Tryz.prog 164 #[.agg #[.string p.nm, .int .i64 p.w, .int .i64 p.h, .slice A p.s.length c], .int .i64 x, .int .i64 y] w fun r w' => r = .returned (.float .f32 (gB p.s k)) ∧ Below w.heap.size w w' := by
  refine i7 n9 Tryz.func164 rfl Tryz.ntmps164 (Nat.le_of_ble_eq_true rfl) rfl ?_
  have hm : (y : Int) * p.w = ((y * W : Nat) : Int) := by rw [hW, Int.natCast_mul]
  obtain ⟨ad, rfl⟩ := hr.some (by simp; omega)
  repeat' (first
|refine e8 ?_
|refine a6 rfl ?_
|refine i6 ?_
|(refine k6 ?_; first
|refine n4 rfl obQ rfl [.float .f32 (gB p.s k)] (.past _ memQ _ _ hr.toS _ _ rfl rfl (bg4 (k := k) (by omega) hlt)) rfl (.inr ⟨rfl, rfl⟩) ?_
|refine e7 ?_
|refine e9 rfl rfl obQ obQ ?_
|refine k7 (fun b => ⟨_, _, rfl, obQ, ?_⟩))
|refine a7 ?_
|refine j4 rfl obQ (fun w hw => ⟨?_, hw.below⟩))
  rfl
end Go.Proofs.YtjkgklhjbopoaaaGreatDoor
