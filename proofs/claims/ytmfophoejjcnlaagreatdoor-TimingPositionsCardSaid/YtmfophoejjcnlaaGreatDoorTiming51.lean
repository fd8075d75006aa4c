/- Plain laws of positions: the rows of a frame, vertical intervals. -/
import Derived.Test.YtmfophoejjcnlaaGreatDoorTiming50
namespace Go.Proofs.YtmfophoejjcnlaaGreatDoor
open Go.E Go.RowKit
attribute [local irreducible] G C S D Calls
set_option maxRecDepth 100000
set_option linter.unusedSimpArgs false
set_option linter.unusedVariables false

theorem at_of {f : Fmt} (hv : Valid f) {R u : Int} (hu : 0 ≤ u ∧ u < f.S * f.L) : atF f (R * (f.S * f.L) + u) = if linesF f 0 ≤ u / f.S then ⟨R, 1, u / f.S - linesF f 0, u % f.S⟩ else ⟨R, 0, u / f.S, u % f.S⟩ := by
  have hS := hv.S
  have hfr := frame_bd f ⟨by omega, hS.2⟩ ⟨by have := hv.L; omega, hv.L.2⟩
  have e : R * (f.S * f.L) + u = u + f.S * f.L * R := by rw [Int.mul_comm R]; omega
  have e' : R * (f.S * f.L) + u = u + f.S * (f.L * R) := by rw [e, Int.mul_assoc]
  have d1 : (R * (f.S * f.L) + u) / (f.S * f.L) = R := by rw [e, Int.add_mul_ediv_left _ _ (by omega), Int.ediv_eq_zero_of_lt hu.1 hu.2]; omega
  have d2 : (R * (f.S * f.L) + u) % (f.S * f.L) = u := by rw [e, Int.add_mul_emod_self_left, Int.emod_eq_of_lt hu.1 hu.2]
  have d3 : (R * (f.S * f.L) + u) % f.S = u % f.S := by rw [e', Int.add_mul_emod_self_left]
  unfold atF
  dsimp only
  rw [d1, d2, d3]
def invR (f : Fmt) (r : Int) : Int := if f.F = 1 then r else if r % 2 = 0 then r / 2 else linesF f 0 + r / 2
def fldK (f : Fmt) (k : Int) : Int := if linesF f 0 ≤ k then 1 else 0
def linK (f : Fmt) (k : Int) : Int := if linesF f 0 ≤ k then k - linesF f 0 else k
theorem linesF_1 {f : Fmt} (h : f.F = 1) (i : Int) : linesF f i = f.L := by simp [linesF, h]
theorem linesF_2 {f : Fmt} (h : f.F = 2) : linesF f 0 = (f.L + 1) / 2 := by simp [linesF, h, exA]
theorem at_line {f : Fmt} (hv : Valid f) {R k : Int} (hk : 0 ≤ k ∧ k < f.L) : atF f (R * f.S * f.L + k * f.S) = ⟨R, fldK f k, linK f k, 0⟩ := by
  have hS := hv.S
  have h0 := Int.mul_nonneg hk.1 (show 0 ≤ f.S by omega)
  have h1 : k * f.S < f.S * f.L := by
    have := Int.mul_le_mul_of_nonneg_right (show k ≤ f.L - 1 by omega) (show 0 ≤ f.S by omega)
    rw [Int.sub_mul, Int.one_mul, Int.mul_comm f.L] at this
    omega
  have e1 : k * f.S / f.S = k := Int.mul_ediv_cancel _ (by omega)
  have e2 : k * f.S % f.S = 0 := Int.mul_emod_left k f.S
  rw [Int.mul_assoc, at_of hv ⟨h0, h1⟩, e1, e2]
  unfold fldK linK
  split <;> rfl
theorem row_inv {f : Fmt} (hv : Valid f) {k : Int} (hk : 0 ≤ k ∧ k < f.L) : (0 ≤ linK f k * f.F + fldK f k ∧ linK f k * f.F + fldK f k < f.L) ∧ ∀ r, 0 ≤ r → r < f.L → (invR f r = k ↔ r = linK f k * f.F + fldK f k) := by
  have hF := hv.F
  rcases (show f.F = 1 ∨ f.F = 2 by omega) with h | h
  · have e := linesF_1 h 0
    unfold invR fldK linK
    rw [h, e]
    refine ⟨?_, fun r h0 h1 => ?_⟩
    · split <;> omega
    · rw [if_pos rfl]
      split <;> omega
  · have e := linesF_2 h
    unfold invR fldK linK
    rw [h, e]
    refine ⟨?_, fun r h0 h1 => ?_⟩
    · split <;> omega
    · rw [if_neg (by omega)]
      split <;> split <;> omega
theorem inv_all {f : Fmt} (hv : Valid f) {r : Int} (h : 0 ≤ r ∧ r < f.L) : 0 ≤ invR f r ∧ invR f r < f.L := by
  have hF := hv.F
  unfold invR
  rcases (show f.F = 1 ∨ f.F = 2 by omega) with h1 | h1
  · rw [if_pos h1]; exact h
  · rw [if_neg (by omega), linesF_2 h1]
    split <;> omega
/-- How often each row has been written after k lines. -/
def wrL (f : Fmt) (k : Int) : List Value := (List.range f.L.toNat).map fun r : Nat => .int .i64 (if invR f r < k then 1 else 0)
theorem wrL_len (f : Fmt) (k : Int) : (wrL f k).length = f.L.toNat := by simp [wrL]
theorem wrL_get (f : Fmt) (k : Int) {j : Nat} (h : j < f.L.toNat) : (wrL f k)[j]? = some (.int .i64 (if invR f j < k then 1 else 0)) := by simp [wrL, h]
theorem wrL_zero {f : Fmt} (hv : Valid f) : (List.replicate f.L.toNat [Value.int .i64 0]).flatten = wrL f 0 := by
  have e : ∀ n : Nat, (List.replicate n [Value.int .i64 0]).flatten = List.replicate n (Value.int .i64 0) := fun n => by
    induction n with
    | zero => rfl
    | succ n ih => rw [List.replicate_succ, List.flatten_cons, ih]; rfl
  rw [e]
  apply List.ext_getElem?
  intro j
  by_cases hj : j < f.L.toNat
  · have := inv_all hv (r := (j : Int)) ⟨by omega, by omega⟩
    rw [wrL_get f 0 hj, if_neg (by omega)]
    simp [hj]
  · rw [List.getElem?_eq_none (by simpa using Nat.le_of_not_lt hj), List.getElem?_eq_none (by rw [wrL_len]; omega)]
theorem wrL_at {f : Fmt} (hv : Valid f) {k : Int} (hk : 0 ≤ k ∧ k < f.L) {m : Nat} (hm : (m : Int) = linK f k * f.F + fldK f k) : (wrL f k)[m]? = some (.int .i64 0) := by
  have h := row_inv hv hk
  have hi := (h.2 m (by omega) (by omega)).2 hm
  rw [wrL_get f k (by omega), hi, if_neg (by omega)]
theorem wrL_put {f : Fmt} (hv : Valid f) {k : Int} (hk : 0 ≤ k ∧ k < f.L) {m : Nat} (hm : (m : Int) = linK f k * f.F + fldK f k) : wrL f (k + 1) = (wrL f k).take m ++ ([Value.int .i64 1] ++ (wrL f k).drop (m + 1)) := by
  have h := row_inv hv hk
  have hml : m < (wrL f k).length := by rw [wrL_len]; omega
  have e : (wrL f k).take m ++ ([Value.int .i64 1] ++ (wrL f k).drop (m + 1)) = (wrL f k).set m (.int .i64 1) := by
    rw [List.set_eq_take_append_cons_drop, if_pos hml]
    rfl
  rw [e]
  apply List.ext_getElem?
  intro j
  by_cases hj : j < f.L.toNat
  · have hi := h.2 j (by omega) (by omega)
    rw [wrL_get f _ hj]
    by_cases hmj : m = j
    · subst hmj
      rw [List.getElem?_set_self hml, hi.2 hm, if_pos (by omega)]
    · rw [List.getElem?_set_ne hmj, wrL_get f _ hj]
      have : invR f j ≠ k := fun e => by have := hi.1 e; omega
      congr 2
      by_cases h1 : invR f j < k
      · rw [if_pos h1, if_pos (by omega)]
      · rw [if_neg h1, if_neg (by omega)]
  · rw [List.getElem?_eq_none (by rw [wrL_len]; omega), List.getElem?_eq_none (by rw [List.length_set, wrL_len]; omega)]
theorem wrL_full {f : Fmt} (hv : Valid f) {j : Nat} (h : j < f.L.toNat) : (wrL f f.L)[j]? = some (.int .i64 1) := by
  have := inv_all hv (r := (j : Int)) ⟨by omega, by omega⟩
  rw [wrL_get f _ h, if_pos (by omega)]
theorem lines_mul {f : Fmt} (hv : Valid f) : (f.F = 1 → linesF f 0 * f.S = f.S * f.L) ∧ (f.F = 2 → linesF f 0 * f.S + linesF f 1 * f.S = f.S * f.L) := by
  refine ⟨fun h => by rw [linesF_1 h, Int.mul_comm], fun h => ?_⟩
  rw [← Int.add_mul, linesF_sum h, Int.mul_comm]
theorem vb_eq (f : Fmt) (t : Int) : vb1 f t = vb0 f t + linesF f 0 * f.S ∧ vb2 f t = vb0 f t + linesF f 0 * f.S + linesF f 1 * f.S ∧ vb0 f t = t / (f.S * f.L) * (f.S * f.L) := ⟨rfl, rfl, rfl⟩
theorem vertT_bd {f : Fmt} (hv : Valid f) {t : Int} (ht : 0 ≤ t ∧ t ≤ 10000000) : t ≤ vertT f t ∧ vertT f t ≤ vb0 f t + f.S * f.L ∧ vb0 f t ≤ t := by
  have hF := hv.F
  obtain ⟨h0, h1, h2, h3, h4, h5⟩ := vert_facts hv ht
  obtain ⟨e1, e2, _⟩ := vb_eq f t
  obtain ⟨m1, m2⟩ := lines_mul hv
  rcases (show f.F = 1 ∨ f.F = 2 by omega) with h | h
  · have := h4 h
    have := m1 h
    unfold vertT
    split
    · omega
    · first
      | omega
      | (split <;> omega)
  · have := h5 h
    have := m2 h
    unfold vertT
    split
    · omega
    · first
      | omega
      | (split <;> omega)
/-- A vertical interval begins where a field does. -/
theorem vert_field {f : Fmt} (hv : Valid f) {t : Int} (ht : 0 ≤ t ∧ t ≤ 10000000) : ∃ R fd, (fd = 0 ∨ (fd = 1 ∧ f.F = 2)) ∧ vertT f t = R * (f.S * f.L) + fd * (linesF f 0 * f.S) := by
  have hF := hv.F
  obtain ⟨h0, h1, h2, h3, h4, h5⟩ := vert_facts hv ht
  obtain ⟨e1, e2, e0⟩ := vb_eq f t
  obtain ⟨m1, m2⟩ := lines_mul hv
  have es : (t / (f.S * f.L) + 1) * (f.S * f.L) = t / (f.S * f.L) * (f.S * f.L) + f.S * f.L := by rw [Int.add_mul, Int.one_mul]
  by_cases g0 : t ≤ vb0 f t
  · exact ⟨t / (f.S * f.L), 0, .inl rfl, by unfold vertT; rw [if_pos g0]; omega⟩
  · rcases (show f.F = 1 ∨ f.F = 2 by omega) with h | h
    · exact ⟨t / (f.S * f.L) + 1, 0, .inl rfl, by have := h4 h; have := m1 h; unfold vertT; rw [if_neg g0, if_pos (by omega)]; omega⟩
    · by_cases g1 : t ≤ vb1 f t
      · exact ⟨t / (f.S * f.L), 1, .inr ⟨rfl, h⟩, by unfold vertT; rw [if_neg g0, if_pos g1]; omega⟩
      · exact ⟨t / (f.S * f.L) + 1, 0, .inl rfl, by have := m2 h; unfold vertT; rw [if_neg g0, if_neg g1]; omega⟩
theorem at_vert {f : Fmt} (hv : Valid f) {t n : Int} (ht : 0 ≤ t ∧ t ≤ 10000000) (hn : vertT f t ≤ n ∧ n < vertT f t + f.V * f.S) : ∃ R fd, atF f n = ⟨R, fd, (n - vertT f t) / f.S, (n - vertT f t) % f.S⟩ ∧ (0 ≤ (n - vertT f t) / f.S ∧ (n - vertT f t) / f.S < f.V) := by
  obtain ⟨R, fd, hfd, hT⟩ := vert_field hv ht
  have hS := hv.S
  have hL := hv.L
  have hF := hv.F
  have hV := hv.V
  obtain ⟨x, hx⟩ : ∃ x, n - vertT f t = x := ⟨_, rfl⟩
  have hj0 : 0 ≤ x / f.S := Int.ediv_nonneg (by omega) (by omega)
  have hj1 : x / f.S < f.V := Int.ediv_lt_of_lt_mul (by omega) (by omega)
  have hVF := Int.ediv_le_self f.F (show 0 ≤ f.L by omega)
  rw [hx]
  refine ⟨R, fd, ?_, hj0, hj1⟩
  have hSL : ∀ u : Int, 0 ≤ u → u / f.S < f.L → u < f.S * f.L := fun u h0 h1 => by
    rw [Int.mul_comm]
    exact (Int.ediv_lt_iff_lt_mul (by omega)).1 h1
  rcases hfd with rfl | ⟨rfl, h2⟩
  · have hl0 : f.V ≤ linesF f 0 := by
      rcases (show f.F = 1 ∨ f.F = 2 by omega) with h | h
      · rw [linesF_1 h]; omega
      · rw [linesF_2 h]; have := hV.2; rw [h] at this; omega
    have e : n = R * (f.S * f.L) + x := by rw [Int.zero_mul] at hT; omega
    rw [e, at_of hv ⟨by omega, hSL x (by omega) (by omega)⟩, if_neg (by omega)]
  · have hl0 := linesF_2 h2
    have hVL : f.V ≤ f.L / 2 := by have := hV.2; rw [h2] at this; exact this
    have hll : 0 ≤ linesF f 0 * f.S := Int.mul_nonneg (by omega) (by omega)
    have e : n = R * (f.S * f.L) + (x + f.S * linesF f 0) := by rw [Int.one_mul] at hT; rw [Int.mul_comm f.S (linesF f 0)]; omega
    have d1 : (x + f.S * linesF f 0) / f.S = x / f.S + linesF f 0 := Int.add_mul_ediv_left _ _ (by omega)
    have d2 : (x + f.S * linesF f 0) % f.S = x % f.S := Int.add_mul_emod_self_left ..
    have h0 : 0 ≤ x + f.S * linesF f 0 := by rw [Int.mul_comm f.S]; omega
    rw [e, at_of hv ⟨h0, hSL _ h0 (by rw [d1]; omega)⟩, d1, d2, if_pos (by omega)]
    have : x / f.S + linesF f 0 - linesF f 0 = x / f.S := by omega
    rw [this]
theorem before_vert {f : Fmt} (hv : Valid f) {t n : Int} (ht : 0 ≤ t ∧ t ≤ 10000000) (hn : t ≤ n ∧ n < vertT f t) : ¬ ((atF f n).L = 0 ∧ (atF f n).S = 0) := by
  rintro ⟨hl, hs⟩
  have hS := hv.S
  have hL := hv.L
  have hF := hv.F
  have hfr := frame_bd f ⟨by omega, hS.2⟩ ⟨by omega, hL.2⟩
  obtain ⟨b1, b2, b3⟩ := vertT_bd hv ht
  obtain ⟨e1, e2, e0⟩ := vb_eq f t
  obtain ⟨h0, h1, h2, h3, h4, h5⟩ := vert_facts hv ht
  obtain ⟨_, hF01, _, _⟩ := atF_bd hv (t := n) (by omega)
  have hq : n / (f.S * f.L) = t / (f.S * f.L) := by
    have e : n = (n - vb0 f t) + f.S * f.L * (t / (f.S * f.L)) := by rw [Int.mul_comm (f.S * f.L), ← e0]; omega
    rw [e, Int.add_mul_ediv_left _ _ (by omega), Int.ediv_eq_zero_of_lt (by omega) (by omega)]
    omega
  have hk := tick_at hv n
  unfold tickN at hk
  rw [atF_R, hq, hl, hs, ← e0] at hk
  rcases hF01 with g | g
  · rw [g] at hk
    simp at hk
    unfold vertT at hn
    rw [if_pos (by omega)] at hn
    omega
  · rw [g] at hk
    simp at hk
    unfold vertT at hn
    split at hn
    · omega
    · split at hn <;> omega
theorem vertR_ok {f : Fmt} (hv : Valid f) (hS : f.S ≤ 40) (hL : f.L ≤ 30) {t : Int} (ht : 0 ≤ t ∧ t ≤ 9997000) : vertR f t = ((vertT f t, vertT f t + f.V * f.S), 0) ∧ (0 ≤ f.V * f.S ∧ f.V * f.S ≤ 1200) ∧ (1 ≤ f.S * f.L ∧ f.S * f.L ≤ 1200) := by
  have hS' := hv.S
  have hL' := hv.L
  have hF' := hv.F
  have hV := hv.V
  have h1 := Int.mul_le_mul hS hL (by omega) (by omega)
  have h0 := Int.mul_le_mul hS'.1 hL'.1 (by omega) (by omega)
  have hVF := Int.ediv_le_self f.F (show 0 ≤ f.L by omega)
  have h2 := Int.mul_le_mul (show f.V ≤ 30 by omega) hS (by omega) (by omega)
  have h3 := Int.mul_nonneg (show 0 ≤ f.V by omega) (show 0 ≤ f.S by omega)
  obtain ⟨b1, b2, b3⟩ := vertT_bd hv (t := t) (by omega)
  refine ⟨?_, by omega, by omega⟩
  unfold vertR
  rw [if_neg (Classical.not_not.2 ((checkT_iff f t).2 ⟨hv, by omega⟩)), if_neg (by omega)]

end Go.Proofs.YtmfophoejjcnlaaGreatDoor
