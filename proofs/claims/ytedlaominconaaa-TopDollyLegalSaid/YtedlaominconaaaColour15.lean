/- Shading: the program. -/
import Derived.Test.YtedlaominconaaaColour14
import Derived.Test.YtedlaominconaaaColour10
namespace Go.Proofs.Ytedlaominconaaa
open Go.E Go.RowKit Go.Fl
attribute [local irreducible] G C S D Calls
set_option maxRecDepth 100000
set_option linter.unusedSimpArgs false
set_option linter.unusedVariables false

-- gain1

def gnE (l : List Int) (n : Int) : Int := if (l.length : Int) = n then firstL (l.map fun g => wi g 0 512) else 2
theorem gnE_ok {l : List Int} {n : Int} (h : gnE l n = 0) : (l.length : Int) = n ∧ ∀ g ∈ l, 0 ≤ g ∧ g ≤ 512 := by
  unfold gnE at h
  split at h
  · rename_i h1
    rw [firstL_zero] at h
    exact ⟨h1, fun g hg => (wi_eq _ _ _).1 (h _ (List.mem_map.2 ⟨g, hg, rfl⟩))⟩
  · cases h
theorem gnE_1 {l : List Int} {n : Int} (h : (l.length : Int) = n) : gnE l n = firstL (l.map fun g => wi g 0 512) := if_pos h
theorem gnE_2 {l : List Int} {n : Int} (h : ¬ (l.length : Int) = n) : gnE l n = 2 := if_neg h
def gI (l : List Int) (k : Nat) : Int := l.getD k 0
theorem gI_at {l : List Int} {k : Nat} (h : k < l.length) : gI l k = l[k] := by simp [gI, h]
theorem gI_mem {l : List Int} {k : Nat} (h : k < l.length) : gI l k ∈ l := by rw [gI_at h]; exact List.getElem_mem h
theorem gI_idxZ {l : List Int} {k : Nat} {z : Int} (e : z = k) (h : k < l.length) : ∀ (j : Nat) (u : Value), ([.int .i64 (gI l k)] : List Value)[j]? = some u → (l.map (Value.int .i64))[(z.toNat * 1 + j)]? = some u := by
  subst e
  rw [gI_at h]
  exact idx1 h
/-- A picture that a call has made, and an error. -/
def PicR (w w' : World) (v : Value) (q : Pic) (e : Int) : Prop := ∃ A c, v = .tuple #[.agg #[.string q.nm, .int .i64 q.w, .int .i64 q.h, .slice A q.s.length c], .int .i64 e] ∧ RdS (fun b => w.heap.size ≤ b ∧ b < w'.heap.size) w' A (q.s.map (.float .f32))
def zP : Pic := ⟨ByteArray.empty, 0, 0, []⟩
theorem PicR.zero (w w' : World) (e : Int) : PicR w w' (.tuple #[.agg #[.string ByteArray.empty, .int .i64 0, .int .i64 0, .slice none 0 0], .int .i64 e]) zP e := ⟨none, 0, rfl, .inl rfl⟩
theorem PicR.of {w w' : World} {s : List Nat} {v : Value} {n : Nat} (h : Sl w w' v n (s.map (.float .f32))) (hn : n = s.length) {nm : ByteArray} {a b e : Int} {u : Value} (hu : u = .tuple #[.agg #[.string nm, .int .i64 a, .int .i64 b, v], .int .i64 e]) : PicR w w' u ⟨nm, a, b, s⟩ e := by
  obtain ⟨A, c, rfl, hr⟩ := h
  subst hn
  exact ⟨A, c, hu, hr⟩
/-- The integer of a shaded sample. -/
def shN (p : Pic) (cs rs : List Int) (k : Nat) : Int := rnd (lvl (gB p.s k) * gI cs ((k : Int) % p.w).toNat * gI rs ((k : Int) / p.w).toNat) 65536
def shE (p : Pic) (cs rs : List Int) : Int := firstL [gnE cs p.w, gnE rs p.h]
def shOk (p : Pic) (cs rs : List Int) : Bool := (List.range p.s.length).all fun k => decide (lvE (shN p cs rs k) = 0)
def shP (p : Pic) (cs rs : List Int) : Pic := ⟨p.nm, p.w, p.h, (List.range p.s.length).map fun k => smp (shN p cs rs k)⟩
/-- The shaded picture, and the error. -/
def shR (p : Pic) (cs rs : List Int) : Pic × Int := if picE p = 0 then (if shE p cs rs = 0 then (if shOk p cs rs = true then (shP p cs rs, 0) else (zP, 4)) else (zP, shE p cs rs)) else (zP, picE p)
theorem shE_ok {p : Pic} {cs rs : List Int} (h : shE p cs rs = 0) : gnE cs p.w = 0 ∧ gnE rs p.h = 0 := by
  unfold shE at h
  rw [firstL_zero] at h
  simpa using h
theorem shR_1 {p : Pic} {cs rs : List Int} (h : ¬ picE p = 0) : shR p cs rs = (zP, picE p) := if_neg h
theorem shR_2 {p : Pic} {cs rs : List Int} (h : picE p = 0) (h2 : ¬ shE p cs rs = 0) : shR p cs rs = (zP, shE p cs rs) := by rw [shR, if_pos h, if_neg h2]
theorem shR_3 {p : Pic} {cs rs : List Int} (h : picE p = 0) (h2 : shE p cs rs = 0) {k : Nat} (hk : k < p.s.length) (h3 : ¬ lvE (shN p cs rs k) = 0) : shR p cs rs = (zP, 4) := by
  have : shOk p cs rs = false := by
    unfold shOk
    rw [List.all_eq_false]
    exact ⟨k, List.mem_range.2 hk, by simp [h3]⟩
  rw [shR, if_pos h, if_pos h2, this, if_neg (by simp)]
theorem shR_4 {p : Pic} {cs rs : List Int} (h : picE p = 0) (h2 : shE p cs rs = 0) (h3 : ∀ k, k < p.s.length → lvE (shN p cs rs k) = 0) : shR p cs rs = (shP p cs rs, 0) := by
  have : shOk p cs rs = true := by
    unfold shOk
    rw [List.all_eq_true]
    exact fun k hk => by simp [h3 k (List.mem_range.1 hk)]
  rw [shR, if_pos h, if_pos h2, this, if_pos rfl]
theorem lvE_ok {n : Int} (h : lvE n = 0) : -16384 ≤ n ∧ n ≤ 16384 := (wi_eq _ _ _).1 h
theorem range_map_succ {α : Type} (f : Nat → α) (k : Nat) : (List.range (k + 1)).map f = (List.range k).map f ++ [f k] := by rw [List.range_succ, List.map_append]; rfl
theorem sh_bd {p : Pic} {cs rs : List Int} (hp : PicOk p) (hc : gnE cs p.w = 0) (hr : gnE rs p.h = 0) {k : Nat} (hk : k < p.s.length) :
    (0 ≤ (k : Int) % p.w ∧ (k : Int) % p.w < cs.length) ∧ (0 ≤ (k : Int) / p.w ∧ (k : Int) / p.w < rs.length) ∧
    (-8388608 ≤ lvl (gB p.s k) * gI cs ((k : Int) % p.w).toNat ∧ lvl (gB p.s k) * gI cs ((k : Int) % p.w).toNat ≤ 8388608) ∧
    (-4294967296 ≤ lvl (gB p.s k) * gI cs ((k : Int) % p.w).toNat * gI rs ((k : Int) / p.w).toNat ∧ lvl (gB p.s k) * gI cs ((k : Int) % p.w).toNat * gI rs ((k : Int) / p.w).toNat ≤ 4294967296) := by
  obtain ⟨c1, c2⟩ := gnE_ok hc
  obtain ⟨r1, r2⟩ := gnE_ok hr
  have hw := hp.w
  have hn := hp.n
  have g1 := Int.emod_nonneg (k : Int) (show p.w ≠ 0 by omega)
  have g2 := Int.emod_lt_of_pos (k : Int) (show 0 < p.w by omega)
  have g3 := Int.ediv_nonneg (show 0 ≤ (k : Int) by omega) (show 0 ≤ p.w by omega)
  have g4 : (k : Int) / p.w < p.h := Int.ediv_lt_of_lt_mul (by omega) (by rw [Int.mul_comm]; omega)
  have hl := (hp.s _ (gB_mem hk)).lv
  have hc1 := c2 _ (gI_mem (l := cs) (k := ((k : Int) % p.w).toNat) (by omega))
  have hr1 := r2 _ (gI_mem (l := rs) (k := ((k : Int) / p.w).toNat) (by omega))
  have m1 := mul_ab (A := 16384) (X := 512) hl (show -512 ≤ gI cs ((k : Int) % p.w).toNat ∧ gI cs ((k : Int) % p.w).toNat ≤ 512 by omega)
  have m2 := mul_ab (A := 8388608) (X := 512) (a := lvl (gB p.s k) * gI cs ((k : Int) % p.w).toNat) (by omega) (show -512 ≤ gI rs ((k : Int) / p.w).toNat ∧ gI rs ((k : Int) / p.w).toNat ≤ 512 by omega)
  exact ⟨⟨g1, by omega⟩, ⟨g3, by omega⟩, by omega, by omega⟩

-- checkGains

-- Shaded

end Go.Proofs.Ytedlaominconaaa
