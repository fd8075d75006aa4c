/- Parts and fields of a picture: the program. -/
import Derived.Test.YtedlaominconaaaDoorTops23
namespace Go.Proofs.YtedlaominconaaaDoor
open Go.E Go.RowKit Go.Fl
attribute [local irreducible] G C S D Calls
set_option maxRecDepth 100000
set_option linter.unusedSimpArgs false
set_option linter.unusedVariables false

def partF (s : List Nat) (a Wd : Nat) : List Nat := (List.range Wd).map fun j => gB s (a + j)
theorem partF_len (s : List Nat) (a Wd : Nat) : (partF s a Wd).length = Wd := by simp [partF]
theorem part_eq {s : List Nat} {a Wd : Nat} (h : a + Wd ≤ s.length) : (s.drop a).take Wd = partF s a Wd := by
  apply List.ext_getElem
  · simp [partF]; omega
  · intro i h1 h2
    have hi : i < Wd := by rw [partF_len] at h2; exact h2
    simp only [partF, List.getElem_take, List.getElem_drop, List.getElem_map, List.getElem_range]
    rw [gB_at (by omega)]
/-- A picture of parts of rows. -/
def rowsP (nm : ByteArray) (s : List Nat) (Wd m : Nat) (a : Nat → Nat) : Pic := ⟨nm, Wd, m, (List.range m).flatMap fun i => partF s (a i) Wd⟩
theorem rd_map {w : World} {A : Option Addr} {s : List Nat} {n m : Nat} (h : Rd w A (((s.map (Value.float .f32)).drop n).take m)) (hb : n + m ≤ s.length) : Rd w A ((partF s n m).map (Value.float .f32)) := by
  rw [← part_eq hb, List.map_take, List.map_drop]
  exact h
theorem pmade_as {nm : ByteArray} {w0 h0 : Int} {A0 : Option Addr} {n0 c0 : Nat} {aR : Addr} {cR m Wd : Nat} {s : List Nat} {a rm : Nat → Nat} {adr : Nat → Addr} (hW : 0 < Wd) (hm : 0 < m) (h64 : Wd ≤ 64 ∧ m ≤ 64) (w : World) (hr : Rd w (some aR) ((List.range m).map fun i => Value.slice (some (adr i)) Wd (rm i))) (hx : ∀ i, i < m → Rd w (some (adr i)) ((partF s (a i) Wd).map (Value.float .f32))) :
    Calls Tryd.prog 46 #[.agg #[.string nm, .int .i64 w0, .int .i64 h0, .slice A0 n0 c0], .slice (some aR) m cR] w fun r w' => ∃ v, r = .returned v ∧ Below w.heap.size w w' ∧ PicC w w' v (rowsP nm s Wd m a) := by
  have hk : ∀ k, k < m → gS ((List.range m).map fun i => ((adr i, Wd, rm i) : Sr)) k = (adr k, Wd, rm k) := fun k hk => by
    rw [gS_at (by simpa using hk)]
    simp
  refine pmade_c nm w0 h0 A0 n0 c0 aR cR m Wd ((List.range m).map fun i => ((adr i, Wd, rm i) : Sr)) (fun i => partF s (a i) Wd) (by simp) (by simpa using hm) hW (fun k h => by rw [hk k (by simpa using h)]) (fun i => partF_len _ _ _) h64 w ?_ (fun k h => ?_)
  · rw [List.map_map]
    exact hr
  · have h := (show k < m by simpa using h)
    rw [hk k h]
    exact hx k h
-- mappedSS_as
-- pspan

theorem rdP_some {S : Nat → Prop} {W : World} {A : Option Addr} {xs : List Value} (h : RdS S W A xs) (h0 : 0 < xs.length) : ∃ a, A = some a := by
  rcases h with h | ⟨ad, h, _⟩
  · rw [h] at h0; simp at h0
  · exact ⟨ad, h⟩
theorem checkPZ (p : Pic) (A : Option Addr) (c : Nat) (hs : p.s.length ≤ 1000000) (hp : PicOk p) (w : World) (hr : Rd w A (p.s.map (.float .f32))) : Calls Tryd.prog 44 #[.agg #[.string p.nm, .int .i64 p.w, .int .i64 p.h, .slice A p.s.length c]] w fun r w' => r = .returned (.int .i64 0) ∧ Below w.heap.size w w' := by
  have := checkPicture_c p A c hs w hr
  rwa [pic_ok.2 hp] at this
theorem pfirst_z (A : Option Addr) (c : Nat) (n : Nat) (hn : n ≤ 1000000) (w : World) (hr : Rd w A (List.replicate n (Value.int .i64 0))) : Calls Tryd.prog 43 #[.slice A n c] w fun r w' => r = .returned (.int .i64 0) ∧ Below w.heap.size w w' := by
  have h := pfirst_c A c (List.replicate n 0) (by simpa using hn) w (by simpa using hr)
  rwa [List.length_replicate, show firstL (List.replicate n (0 : Int)) = 0 from (firstL_zero _).2 (fun x hx => (List.mem_replicate.1 hx).2)] at h

-- pcropped

end Go.Proofs.YtedlaominconaaaDoor
