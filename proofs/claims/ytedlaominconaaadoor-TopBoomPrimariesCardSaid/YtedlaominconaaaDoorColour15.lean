/- Shading: the program. -/
import Derived.Test.YtedlaominconaaaDoorColour14
import Derived.Test.YtedlaominconaaaDoorColour10
namespace Go.Proofs.YtedlaominconaaaDoor
open Go.E Go.RowKit Go.Fl
attribute [local irreducible] G C S D Calls
set_option maxRecDepth 100000
set_option linter.unusedSimpArgs false
set_option linter.unusedVariables false

-- gain1

def gI (l : List Int) (k : Nat) : Int := l.getD k 0
theorem gI_at {l : List Int} {k : Nat} (h : k < l.length) : gI l k = l[k] := by simp [gI, h]
theorem gI_mem {l : List Int} {k : Nat} (h : k < l.length) : gI l k ∈ l := by rw [gI_at h]; exact List.getElem_mem h
/-- A picture that a call has made, and an error. -/
def PicR (w w' : World) (v : Value) (q : Pic) (e : Int) : Prop := ∃ A c, v = .tuple #[.agg #[.string q.nm, .int .i64 q.w, .int .i64 q.h, .slice A q.s.length c], .int .i64 e] ∧ RdS (fun b => w.heap.size ≤ b ∧ b < w'.heap.size) w' A (q.s.map (.float .f32))
def zP : Pic := ⟨ByteArray.empty, 0, 0, []⟩
theorem PicR.zero (w w' : World) (e : Int) : PicR w w' (.tuple #[.agg #[.string ByteArray.empty, .int .i64 0, .int .i64 0, .slice none 0 0], .int .i64 e]) zP e := ⟨none, 0, rfl, .inl rfl⟩
theorem PicR.of {w w' : World} {s : List Nat} {v : Value} {n : Nat} (h : Sl w w' v n (s.map (.float .f32))) (hn : n = s.length) {nm : ByteArray} {a b e : Int} {u : Value} (hu : u = .tuple #[.agg #[.string nm, .int .i64 a, .int .i64 b, v], .int .i64 e]) : PicR w w' u ⟨nm, a, b, s⟩ e := by
  obtain ⟨A, c, rfl, hr⟩ := h
  subst hn
  exact ⟨A, c, hu, hr⟩
-- checkGains

-- Shaded

end Go.Proofs.YtedlaominconaaaDoor
