/- The band of a line of colours gives back the colours. -/
import Derived.Test.YtedlaominconaaaTops13
namespace Go.Proofs.Ytedlaominconaaa
open Go.E Go.RowKit Go.Fl
attribute [local irreducible] G C S D Calls
set_option maxRecDepth 100000
set_option linter.unusedSimpArgs false
set_option linter.unusedVariables false

theorem gI_map {f : Nat → Int} {n k : Nat} (h : k < n) : gI ((List.range n).map f) k = f k := by
  rw [gI_at (by simpa using h)]
  simp
theorem gI_flat4 {α : Type} (f : α → List Int) (hf : ∀ x, (f x).length = 4) : ∀ (l : List α) (k j : Nat) (h : k < l.length) (_ : j < 4), gI (l.flatMap f) (4 * k + j) = gI (f l[k]) j
  | [], k, j, h, _ => by simp at h
  | a :: r, 0, j, _, hj => by
    have := hf a
    unfold gI
    rw [List.flatMap_cons, List.getD_eq_getElem?_getD, List.getD_eq_getElem?_getD, List.getElem?_append_left (by omega)]
    simp
  | a :: r, k + 1, j, h, hj => by
    have e := hf a
    have ih := gI_flat4 f hf r k j (by simpa using h) hj
    unfold gI at ih ⊢
    rw [List.flatMap_cons, List.getD_eq_getElem?_getD, List.getElem?_append_right (by omega), ← List.getD_eq_getElem?_getD, e, show 4 * (k + 1) + j - 4 = 4 * k + j by omega, ih]
    rfl
theorem gI_u {cs : List Col} {k : Nat} (h : k < cs.length) : gI (uL cs) k = (gC cs k).2.1 := by rw [gI_at (by simpa [uL] using h), gC_at h]; simp [uL]
theorem gI_v {cs : List Col} {k : Nat} (h : k < cs.length) : gI (vL cs) k = (gC cs k).2.2 := by rw [gI_at (by simpa [vL] using h), gC_at h]; simp [vL]
theorem gI_lm {cs : List Col} {k j : Nat} (h : k < cs.length) (hj : j < 4) : gI (lmL cs) (4 * k + j) = (gC cs k).1 := by
  have e := gI_flat4 (fun c : Col => [c.1, c.1, c.1, c.1]) (fun _ => rfl) cs k j h hj
  rw [gC_at h]
  refine Eq.trans e ?_
  match j, hj with
  | 0, _ => rfl
  | 1, _ => rfl
  | 2, _ => rfl
  | 3, _ => rfl
theorem gI_car {s : Int} {us vs : List Int} {n k j : Nat} (h : k < n) (hj : j < 4) : gI (carL s us vs n) (4 * k + j) = gI (carE s us vs k) j := by
  have e := gI_flat4 (carE s us vs) (fun _ => rfl) (List.range n) k j (by simpa using h) hj
  rw [List.getElem_range] at e
  exact e
/-- The four levels of a colour. -/
def lv (s : Int) (c : Col) : List Int := [c.1 + s * c.2.1, c.1 + s * c.2.2, c.1 + (0 - s) * c.2.1, c.1 + (0 - s) * c.2.2]
theorem lnI_at {s : Int} {cs : List Col} {k j : Nat} (h : k < cs.length) (hj : j < 4) : gI (lnI s cs) (4 * k + j) = gI (lv s (gC cs k)) j := by
  unfold lnI enI
  rw [gI_map (by rw [lmL_len]; omega), gI_lm h hj, gI_car (by simpa [uL] using h) hj]
  unfold carE
  rw [gI_u h, gI_v h]
  match j, hj with
  | 0, _ => rfl
  | 1, _ => rfl
  | 2, _ => rfl
  | 3, _ => rfl
theorem rnd_two {s u : Int} (hs : s = 1 ∨ s = -1) (y : Int) : rnd (s * ((y + s * u) - (y + (0 - s) * u))) 2 = u := by
  unfold rnd
  rcases hs with rfl | rfl <;> omega
theorem toY_ln {s : Int} (hs : s = 1 ∨ s = -1) {cs : List Col} (hc : CsOk cs) {k : Nat} (h : k < cs.length) :
    (toY (lnI s cs) k).a = (gC cs k).1 + s * (gC cs k).2.1 ∧ (toY (lnI s cs) k).b = (gC cs k).1 + s * (gC cs k).2.2 ∧ (toY (lnI s cs) k).c = (gC cs k).1 + (0 - s) * (gC cs k).2.1 ∧ (toY (lnI s cs) k).d = (gC cs k).1 + (0 - s) * (gC cs k).2.2 := by
  have hb : ∀ i, i < 4 * cs.length → -100000 ≤ gI (lnI s cs) i ∧ gI (lnI s cs) i ≤ 100000 := fun i hi => by
    have := lnI_bd hs hc _ (gI_mem (l := lnI s cs) (k := i) (by rw [lnI_len]; exact hi))
    omega
  unfold toY
  rw [dif_pos ⟨hb _ (by omega), hb _ (by omega), hb _ (by omega), hb _ (by omega)⟩]
  exact ⟨lnI_at (j := 0) h (by omega), lnI_at (j := 1) h (by omega), lnI_at (j := 2) h (by omega), lnI_at (j := 3) h (by omega)⟩
theorem band_u {s : Int} (hs : s = 1 ∨ s = -1) {cs : List Col} (hc : CsOk cs) : (cyL (lnI s cs) cs.length).map (dU s 2) = uL cs := by
  refine List.ext_getElem (by simp [cyL, uL]) (fun k h1 h2 => ?_)
  have hk : k < cs.length := by simpa [uL] using h2
  obtain ⟨ha, _, hc', _⟩ := toY_ln hs hc hk
  simp only [cyL, uL, List.getElem_map, List.getElem_range, dU]
  rw [ha, hc', rnd_two hs, gC_at hk]
theorem band_v {s : Int} (hs : s = 1 ∨ s = -1) {cs : List Col} (hc : CsOk cs) : (cyL (lnI s cs) cs.length).map (dV s 2) = vL cs := by
  refine List.ext_getElem (by simp [cyL, vL]) (fun k h1 h2 => ?_)
  have hk : k < cs.length := by simpa [vL] using h2
  obtain ⟨_, hb, _, hd⟩ := toY_ln hs hc hk
  simp only [cyL, vL, List.getElem_map, List.getElem_range, dV]
  rw [hb, hd, rnd_two hs, gC_at hk]
theorem band_l {s : Int} {cs : List Col} : lmI s (lnI s cs) (uL cs) (vL cs) = lmL cs := by
  refine List.ext_getElem (by rw [lmI_len, lnI_len, lmL_len]) (fun k h1 h2 => ?_)
  have e : gI (lnI s cs) k = gI (lmL cs) k + gI (carL s (uL cs) (vL cs) (uL cs).length) k := by
    unfold lnI enI
    rw [gI_map h2]
  simp only [lmI, List.getElem_map, List.getElem_range]
  rw [e, gI_at h2]
  omega
/-- Band on the levels of a line: the colours. -/
theorem dBand_as {ad : Addr} {c n m : Nat} {cs : List Col} {s z : Int} (hn : cs.length = n) (hm : 4 * n = m) (h0 : 0 < n) (h6 : n ≤ 64) (hcap : m ≤ c) (hc : CsOk cs) (hs : sgL z = s) (hz : z = 0 ∨ z = 1) (w : World) (hr : Rd w (some ad) (flV (lnI s cs))) :
    Calls Try.prog 11 #[.slice (some ad) m c, .int .i64 z] w fun r w' => ∃ v, r = .returned v ∧ Below w.heap.size w w' ∧ SlTE w w' v m n (flV (lmL cs)) (flV (uL cs)) (flV (vL cs)) (.int .i64 0) := by
  subst hn hm
  have hs' := sgL_12 hs hz
  have hw : ∀ x ∈ lnI s cs, -16384 ≤ x ∧ x ≤ 16384 := fun x hx => by have := lnI_bd hs' hc x hx; omega
  have h := dBand_c ad c cs.length (lnI s cs) (uL cs) (vL cs) (lnI_len s cs) h0 h6 hcap hw z s hs hz (band_u hs' hc) (band_v hs' hc) (wide hc.u) (wide hc.v) (by rw [band_l]; exact wide hc.y) w hr
  rw [band_l] at h
  exact h

end Go.Proofs.Ytedlaominconaaa
