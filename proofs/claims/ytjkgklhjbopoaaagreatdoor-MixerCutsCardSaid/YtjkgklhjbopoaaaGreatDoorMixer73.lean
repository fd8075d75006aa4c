/- Mixer: trees are cut and joined: contracts of the reference. -/
import Derived.Test.YtjkgklhjbopoaaaGreatDoorMixer72
namespace Go.Proofs.YtjkgklhjbopoaaaGreatDoor
open Go.E Go.RowKit Go.Fl
attribute [local irreducible] G C S D Calls
set_option maxRecDepth 100000
set_option linter.all false
set_option maxHeartbeats 8000000
def CutR (w w' : World) (v : Value) (x y : List Nod) : Prop := ∃ A c B d, v = .tuple #[.slice A x.length c, .slice B y.length d] ∧ RdS (fun b => w.heap.size ≤ b ∧ b < w'.heap.size) w' A (x.flatMap ndC) ∧ RdS (fun b => w.heap.size ≤ b ∧ b < w'.heap.size) w' B (y.flatMap ndC)
theorem CutR.of {w w' : World} {x y : List Nod} {u v q : Value} (hu : Sl w w' u x.length (x.flatMap ndC)) (hv : Sl w w' v y.length (y.flatMap ndC)) (hq : q = .tuple #[u, v]) : CutR w w' q x y := by
  obtain ⟨A, c, rfl, h1⟩ := hu
  obtain ⟨B, d, rfl, h2⟩ := hv
  exact ⟨A, c, B, d, hq, h1, h2⟩
theorem src_any {s : List Nod} {m : Int} (hs : TrOk s) (hm : 0 ≤ m ∧ m ≤ 7) : (scI s).any (eqB m) = s.any (nqB (opN m)) := by
  rw [any_eqB, Bool.eq_iff_iff, decide_eq_true_eq, List.any_eq_true]
  constructor
  · intro h
    unfold scI scL at h
    obtain ⟨k, hk, rfl⟩ := List.mem_map.1 h
    obtain ⟨x, hx, h1, h2⟩ := hasS_iff.1 (List.mem_filter.1 hk).2
    refine ⟨x, hx, ?_⟩
    obtain ⟨j, hj, rfl⟩ := List.getElem_of_mem hx
    obtain ⟨q, hq⟩ := hs.s j hj
    rw [gN_at hj] at hq
    have e : q = .src := by
      have := hq.kd
      rw [h1] at this
      cases q <;> first | rfl | (revert this; decide)
    subst e
    have := src_op hq
    rw [h2] at this
    unfold nqB
    exact decide_eq_true this.symm
  · rintro ⟨x, hx, h⟩
    have e : opN m = x := of_decide_eq_true h
    subst e
    unfold scI scL
    refine List.mem_map.2 ⟨m.toNat, List.mem_filter.2 ⟨List.mem_range.2 (by omega), hasS_iff.2 ⟨_, hx, rfl, ?_⟩⟩, by omega⟩
    show m = ((m.toNat : Nat) : Int)
    omega
end Go.Proofs.YtjkgklhjbopoaaaGreatDoor
