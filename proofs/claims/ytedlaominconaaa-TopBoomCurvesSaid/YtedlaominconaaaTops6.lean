/- Composite signals: the cycles of a signal, as an iterator. -/
import Derived.Test.YtedlaominconaaaTops5
import Derived.Test.YtedlaominconaaaEng4
import Derived.Test.YtedlaominconaaaEng3
namespace Go.Proofs.Ytedlaominconaaa
open Go.E Go.RowKit Go.Fl
attribute [local irreducible] G C S D Calls
set_option maxRecDepth 100000
set_option linter.unusedSimpArgs false
set_option linter.unusedVariables false

/-- What the iterator over the cycles has caught. -/
structure CyM (W : World) (b : Nat) (l : List Int) (ad : Addr) (n c : Nat) : Prop where
  m : W.heap[b]? = some (.cells ([.slice (some ad) n c] : List Value).toArray 27 (0, 0))
  r : Rd W (some ad) (l.map (.int .i64))
theorem CyM.kps {S : Nat → Prop} {W W' : World} {b : Nat} {l : List Int} {ad : Addr} {n c : Nat} (h : CyM W b l ad n c) (hk : KpS S W W') (s : S b) (sx : S ad.block) : CyM W' b l ad n c :=
  ⟨(hk.2 b s (heap_lt h.m)).trans h.m, Rd_kps h.r hk sx⟩
abbrev bdC (a b c d : Int) : Prop := (-100000 ≤ a ∧ a ≤ 100000) ∧ (-100000 ≤ b ∧ b ≤ 100000) ∧ (-100000 ≤ c ∧ c ≤ 100000) ∧ (-100000 ≤ d ∧ d ≤ 100000)
/-- A cycle, with its number. -/
structure Cy where
  i : Nat
  a : Int
  b : Int
  c : Int
  d : Int
  ok : bdC a b c d
end Go.Proofs.Ytedlaominconaaa
