/- Own pictures as rows: what a law changes in place. -/
import Derived.Test.YtjkgklhjbopoaaaGreatDoorMixer97
import Derived.Test.YtjkgklhjbopoaaaGreatDoorMixer60
namespace Go.Proofs.YtjkgklhjbopoaaaGreatDoor
open Go.E Go.RowKit Go.Fl
attribute [local irreducible] G C S D Calls
set_option maxRecDepth 100000
set_option linter.all false
set_option maxHeartbeats 8000000
def PRow (v : Value) (rs : List Rw) (p : Pic) : Prop := ∃ g c, v = .agg #[.string p.nm, .int .i64 p.w, .int .i64 p.h, .slice (some ⟨g, 0, none⟩) p.s.length c] ∧ rs = [⟨62, 1, p.s.length, p.s.map (.float .f32), .slice (some ⟨g, 0, none⟩) p.s.length c⟩]
theorem HW.picRow {w0 w : World} {Ps : Past} {σ : St} (hw : HW w0.heap.size w0 Ps σ w) {i : Nat} {r : Rw} (h : nth σ.rw i = some r) {p : Pic} (h0 : 0 < p.s.length) (he : r.e = 62 ∧ r.size = 1) (hn : r.n = p.s.length) (hx : r.xs = p.s.map (.float .f32)) {u : Value} (hu : u = .agg #[.string p.nm, .int .i64 p.w, .int .i64 p.h, r.val]) :
    ∃ v rs, Ending.returned u = .returned v ∧ Below w0.heap.size w0 w ∧ (∀ r ∈ rs, w.ownsRow w0.heap.size r.e r.size r.val r.n r.xs) ∧ rs.Pairwise (fun r s => ∀ g, r.val.ownBlock = some g → s.val.ownBlock ≠ some g) ∧ PRow v rs p := by
  obtain ⟨h1, _⟩ := hw.row r (F7 h)
  obtain ⟨e1, e2⟩ := he
  have h2 := h1.2
  rw [e1, e2, hn, hx] at h1
  rcases h2 with ⟨h2, h3⟩ | ⟨g, cap', cur, h2, _⟩
  · omega
  · rw [hn] at h2
    rw [h2] at h1
    refine ⟨u, [_], rfl, hw.below, fun r hr => ?_, by simp, g, cap', by rw [hu, h2], rfl⟩
    simp only [List.mem_cons, List.mem_nil_iff, or_false] at hr
    subst hr
    exact h1
def upX (s : List Nat) (f : Nat → Nat) (k : Nat) : List Nat := (List.range s.length).map fun j => if j < k then f j else gB s j
theorem aE3 (s : List Nat) (f : Nat → Nat) (k : Nat) : (upX s f k).length = s.length := by simp [upX]
theorem by3 (s : List Nat) (f : Nat → Nat) : upX s f 0 = s := by
  apply List.ext_getElem
  · simp [upX]
  · intro i h1 h2
    simp [upX, Y3 h2]
theorem bg5 (s : List Nat) (f : Nat → Nat) : upX s f s.length = (List.range s.length).map f := by
  unfold upX
  exact List.map_congr_left fun n hn => if_pos (List.mem_range.1 hn)
theorem aX2 {s : List Nat} {f : Nat → Nat} {k : Nat} (h : k < s.length) : (upX s f k).set k (f k) = upX s f (k + 1) := by
  apply List.ext_getElem?
  intro i
  rw [List.getElem?_set]
  by_cases hi : k = i
  · subst hi
    simp [upX, h]
  · rw [if_neg hi]
    by_cases h2 : i < s.length
    · simp only [upX, List.getElem?_map, List.getElem?_range h2, Option.map_some]
      by_cases h3 : i < k
      · rw [if_pos h3, if_pos (by omega)]
      · rw [if_neg h3, if_neg (by omega)]
    · simp [upX, h2]
theorem aZ7 {s : List Nat} {f : Nat → Nat} {k : Nat} {z : Int} (e : z = k) (h : k < s.length) : (upX s f (k + 1)).map (Value.float .f32) = ((upX s f k).map (Value.float .f32)).take (z.toNat * 1) ++ ([Value.float .f32 (f k)] ++ ((upX s f k).map (Value.float .f32)).drop (z.toNat * 1 + 1)) := by
  subst e
  have hk : k < ((upX s f k).map (Value.float .f32)).length := by rw [List.length_map, aE3]; exact h
  rw [← aX2 h, List.map_set, List.set_eq_take_append_cons_drop, if_pos hk, Int.toNat_natCast, Nat.mul_one]
  rfl
section
variable {nm : ByteArray} {W H : Int} {s : List Nat} {n c : Nat} {A : Option Addr} {w : World}
theorem aZ4 {l : List Int} (h : ∀ n ∈ l, -16384 ≤ n ∧ n ≤ 16384) : lvs ⟨nm, W, H, l.map smp⟩ = l := by
  unfold lvs
  rw [List.map_map]
  conv => rhs; rw [← List.map_id l]
  refine List.map_congr_left fun n hn => ?_
  exact aH7 (by have := h n hn; omega)
end
end Go.Proofs.YtjkgklhjbopoaaaGreatDoor
