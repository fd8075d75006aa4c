/- The colours of a cube, as an iterator; the lost ones: the program. -/
import Derived.Test.YtedlaominconaaaColour10
import Derived.Test.YtedlaominconaaaEngAG
namespace Go.Proofs.Ytedlaominconaaa
open Go.E Go.RowKit Go.Fl
attribute [local irreducible] G C S D Calls
set_option maxRecDepth 100000
set_option linter.unusedSimpArgs false
set_option linter.unusedVariables false

theorem HW.bxAt {B : Nat} {w0 w : World} {Ps : Past} {σ : St} (hw : HW B w0 Ps σ w) {i : Nat} {x : Bx} (h : nth σ.bx i = some x) {cs : List Value} (hc : x.cs.map PV.c = cs) : (B ≤ x.b ∧ x.b < w.heap.size) ∧ w.heap[x.b]? = some (.cells cs.toArray x.ty (0, 0)) := by
  have hm := nth_mem h
  refine ⟨⟨(hw.box x hm).1, hw.lt hm⟩, ?_⟩
  rw [← hc]
  exact (hw.box x hm).2
theorem heap_cells {W : World} {b : Nat} {cs : List Value} {t : TypeId} (h : W.heap[b]? = some (.cells cs.toArray t (0, 0))) : ∀ (j : Nat) (u : Value), cs[j]? = some u → W.cell? ((⟨b, 0, none⟩ : Addr).add j) = some u := by
  intro j u hu
  have : (⟨b, 0, none⟩ : Addr).add j = ⟨b, j, none⟩ := by rw [Addr.add_mid]; simp
  rw [this]
  simp [World.cell?, h, hu]
theorem heap_cell1 {W : World} {b : Nat} {cs : List Value} {t : TypeId} (h : W.heap[b]? = some (.cells cs.toArray t (0, 0))) {o : Nat} {v : Value} (hv : cs[o]? = some v) : ∀ (j : Nat) (u : Value), ([v] : List Value)[j]? = some u → W.cell? (((⟨b, 0, none⟩ : Addr).add o).add j) = some u := by
  intro j u hu
  cases j with
  | succ j => simp at hu
  | zero =>
    simp only [List.getElem?_cons_zero, Option.some.injEq] at hu
    subst hu
    rw [add_of_add]
    exact heap_cells h o v hv
theorem heap_lt {W : World} {b : Nat} {o : Obj} (h : W.heap[b]? = some o) : b < W.heap.size := (Array.getElem?_eq_some_iff.1 h).1
-- CuM
-- CuR
-- CuM.kps
/-- A colour of the cube, by its number. -/
def colA (lo hi : Int) (k : Nat) : Col := (lo + (k : Int) / (hi - lo + 1) / (hi - lo + 1), lo + (k : Int) / (hi - lo + 1) % (hi - lo + 1), lo + (k : Int) % (hi - lo + 1))
def cubeN (lo hi : Int) : Nat := ((hi - lo + 1) * (hi - lo + 1) * (hi - lo + 1)).toNat
def cubeL (lo hi : Int) : List Col := (List.range (cubeN lo hi)).map (colA lo hi)
structure OCol where
  c : Col
  ok : ColOk c
instance colOk_dec (c : Col) : Decidable (ColOk c) := by unfold ColOk; exact inferInstance
def toC (c : Col) : OCol := if h : ColOk c then ⟨c, h⟩ else ⟨(0, 0, 0), by decide⟩
theorem toC_c {c : Col} (h : ColOk c) : (toC c).c = c := by unfold toC; rw [dif_pos h]
def encC (x : OCol) : Array Value := #[triV x.c]
structure CuOk (lo hi : Int) : Prop where
  low : -16384 ≤ lo
  high : hi ≤ 16384
  n : 1 ≤ hi - lo + 1 ∧ hi - lo + 1 ≤ 6
theorem cube_bd {lo hi : Int} (h : CuOk lo hi) : (1 ≤ (hi - lo + 1) * (hi - lo + 1) ∧ (hi - lo + 1) * (hi - lo + 1) ≤ 36) ∧ (1 ≤ (hi - lo + 1) * (hi - lo + 1) * (hi - lo + 1) ∧ (hi - lo + 1) * (hi - lo + 1) * (hi - lo + 1) ≤ 216) := by
  obtain ⟨h1, h2⟩ := h.n
  generalize hi - lo + 1 = n at *
  have : n = 1 ∨ n = 2 ∨ n = 3 ∨ n = 4 ∨ n = 5 ∨ n = 6 := by omega
  rcases this with rfl | rfl | rfl | rfl | rfl | rfl <;> decide
theorem colA_ok {lo hi : Int} (h : CuOk lo hi) {k : Nat} (hk : k < cubeN lo hi) : ColOk (colA lo hi k) ∧ (0 ≤ (k : Int) / (hi - lo + 1) ∧ (k : Int) / (hi - lo + 1) ≤ 216) ∧ (0 ≤ (k : Int) / (hi - lo + 1) / (hi - lo + 1) ∧ (k : Int) / (hi - lo + 1) / (hi - lo + 1) ≤ 5) ∧ (0 ≤ (k : Int) / (hi - lo + 1) % (hi - lo + 1) ∧ (k : Int) / (hi - lo + 1) % (hi - lo + 1) ≤ 5) ∧ (0 ≤ (k : Int) % (hi - lo + 1) ∧ (k : Int) % (hi - lo + 1) ≤ 5) := by
  have hb := cube_bd h
  obtain ⟨h1, h2⟩ := h.n
  have hlo := h.low
  have hhi := h.high
  unfold cubeN at hk
  have hk' : (k : Int) < (hi - lo + 1) * (hi - lo + 1) * (hi - lo + 1) := by omega
  have g1 := Int.ediv_lt_of_lt_mul (show 0 < hi - lo + 1 by omega) hk'
  have g2 := Int.ediv_lt_of_lt_mul (show 0 < hi - lo + 1 by omega) g1
  have g3 := Int.ediv_nonneg (show 0 ≤ (k : Int) by omega) (show 0 ≤ hi - lo + 1 by omega)
  have g4 := Int.ediv_nonneg g3 (show 0 ≤ hi - lo + 1 by omega)
  have g5 := Int.emod_nonneg ((k : Int) / (hi - lo + 1)) (show hi - lo + 1 ≠ 0 by omega)
  have g6 := Int.emod_lt_of_pos ((k : Int) / (hi - lo + 1)) (show 0 < hi - lo + 1 by omega)
  have g7 := Int.emod_nonneg (k : Int) (show hi - lo + 1 ≠ 0 by omega)
  have g8 := Int.emod_lt_of_pos (k : Int) (show 0 < hi - lo + 1 by omega)
  refine ⟨?_, by omega, by omega, by omega, by omega⟩
  unfold ColOk colA
  dsimp only
  refine ⟨?_, ?_, ?_⟩ <;> omega

-- colours

theorem cube_take {lo hi : Int} {k : Nat} (hk : k < cubeN lo hi) : ((cubeL lo hi).take (k + 1)).map toC = ((cubeL lo hi).take k).map toC ++ [toC (colA lo hi k)] := by
  have hl : k < (cubeL lo hi).length := by simpa [cubeL] using hk
  rw [List.take_succ_eq_append_getElem hl, List.map_append]
  simp [cubeL]
-- colours_seq

end Go.Proofs.Ytedlaominconaaa
