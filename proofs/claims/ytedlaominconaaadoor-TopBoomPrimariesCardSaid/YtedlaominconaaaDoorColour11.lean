/- The colours of a cube, as an iterator; the lost ones: the program. -/
import Derived.Test.YtedlaominconaaaDoorColour10
import Derived.Test.YtedlaominconaaaDoorEng4
namespace Go.Proofs.YtedlaominconaaaDoor
open Go.E Go.RowKit Go.Fl
attribute [local irreducible] G C S D Calls
set_option maxRecDepth 100000
set_option linter.unusedSimpArgs false
set_option linter.unusedVariables false

theorem HW.bxAt {B : Nat} {w0 w : World} {Ps : Past} {σ : St} (hw : HW B w0 Ps σ w) {i : Nat} {x : Bx} (h : nth σ.bx i = some x) {cs : List Value} (hc : x.cs.map PV.c = cs) : (B ≤ x.b ∧ x.b < w.heap.size) ∧ w.heap[x.b]? = some (.cells cs.toArray x.ty (0, 0)) := by
  have hm := nth_mem h
  refine ⟨⟨(hw.box x hm).1, hw.lt hm⟩, ?_⟩
  rw [← hc]
  exact (hw.box x hm).2
theorem heap_cells {W : World} {b : Nat} {cs : List Value} {t : TypeId} (h : W.heap[b]? = some (.cells cs.toArray t (0, 0))) : ∀ (j : Nat) (u : Value), cs[j]? = some u → W.cell? ((⟨b, 0, none⟩ : Addr).add j) = some u := by
  intro j u hu
  have : (⟨b, 0, none⟩ : Addr).add j = ⟨b, j, none⟩ := by rw [Addr.add_mid]; simp
  rw [this]
  simp [World.cell?, h, hu]
theorem heap_cell1 {W : World} {b : Nat} {cs : List Value} {t : TypeId} (h : W.heap[b]? = some (.cells cs.toArray t (0, 0))) {o : Nat} {v : Value} (hv : cs[o]? = some v) : ∀ (j : Nat) (u : Value), ([v] : List Value)[j]? = some u → W.cell? (((⟨b, 0, none⟩ : Addr).add o).add j) = some u := by
  intro j u hu
  cases j with
  | succ j => simp at hu
  | zero =>
    simp only [List.getElem?_cons_zero, Option.some.injEq] at hu
    subst hu
    rw [add_of_add]
    exact heap_cells h o v hv
theorem heap_lt {W : World} {b : Nat} {o : Obj} (h : W.heap[b]? = some o) : b < W.heap.size := (Array.getElem?_eq_some_iff.1 h).1
-- CuM
-- CuR
-- CuM.kps
structure OCol where
  c : Col
  ok : ColOk c
instance colOk_dec (c : Col) : Decidable (ColOk c) := by unfold ColOk; exact inferInstance
structure CuOk (lo hi : Int) : Prop where
  low : -16384 ≤ lo
  high : hi ≤ 16384
  n : 1 ≤ hi - lo + 1 ∧ hi - lo + 1 ≤ 6
-- colours

-- colours_seq

end Go.Proofs.YtedlaominconaaaDoor
