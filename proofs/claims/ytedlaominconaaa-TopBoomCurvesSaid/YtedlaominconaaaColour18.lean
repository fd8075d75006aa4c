/- The places of three pictures, as an iterator; luma: the program. -/
import Derived.Test.YtedlaominconaaaColour17
namespace Go.Proofs.Ytedlaominconaaa
open Go.E Go.RowKit Go.Fl
attribute [local irreducible] G C S D Calls
set_option maxRecDepth 100000
set_option linter.unusedSimpArgs false
set_option linter.unusedVariables false

/-- What the iterator over the places has caught. -/
structure PlM (W : World) (b : Nat) (x y z : Pic) (ax ay az : Addr) (cx cy cz : Nat) : Prop where
  m : W.heap[b]? = some (.cells ([.string x.nm, .int .i64 x.w, .int .i64 x.h, .slice (some ax) x.s.length cx, .string y.nm, .int .i64 y.w, .int .i64 y.h, .slice (some ay) y.s.length cy, .string z.nm, .int .i64 z.w, .int .i64 z.h, .slice (some az) z.s.length cz] : List Value).toArray 46 (0, 0))
  rx : Rd W (some ax) (x.s.map (.float .f32))
  ry : Rd W (some ay) (y.s.map (.float .f32))
  rz : Rd W (some az) (z.s.map (.float .f32))
theorem Rd_kps {S : Nat → Prop} {W W' : World} {ad : Addr} {xs : List Value} (h : Rd W (some ad) xs) (hk : KpS S W W') (hS : S ad.block) : Rd W' (some ad) xs := by
  rcases h with h | ⟨ad', h1, h2⟩
  · exact .inl h
  · cases h1
    refine .inr ⟨_, rfl, fun j u hu => ?_⟩
    have h3 := h2 j u hu
    have hlt := cell_lt h3
    rw [block_of_add] at hlt
    have hb := hk.2 ad.block hS hlt
    rw [← h3]
    exact World.cell?_of_block (by rw [block_of_add]; exact hb)
theorem PlM.kps {S : Nat → Prop} {W W' : World} {b : Nat} {x y z : Pic} {ax ay az : Addr} {cx cy cz : Nat} (h : PlM W b x y z ax ay az cx cy cz) (hk : KpS S W W') (s : S b) (sx : S ax.block) (sy : S ay.block) (sz : S az.block) : PlM W' b x y z ax ay az cx cy cz :=
  ⟨(hk.2 b s (heap_lt h.m)).trans h.m, Rd_kps h.rx hk sx, Rd_kps h.ry hk sy, Rd_kps h.rz hk sz⟩
structure OPl where
  i : Nat
  c : Col
  ok : ColOk c
end Go.Proofs.Ytedlaominconaaa
