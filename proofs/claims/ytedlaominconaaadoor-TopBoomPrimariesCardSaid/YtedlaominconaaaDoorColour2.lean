/- Curves: what they are, in plain words. -/
import Derived.Test.YtedlaominconaaaDoorColour1
namespace Go.Proofs.YtedlaominconaaaDoor
open Go.E Go.RowKit Go.Fl
attribute [local irreducible] G C S D Calls
set_option maxRecDepth 100000
set_option linter.unusedSimpArgs false
set_option linter.unusedVariables false

abbrev Pt := Int × Int
def ptC (p : Pt) : List Value := [.int .i64 p.1, .int .i64 p.2]
def gP (l : List Pt) (k : Nat) : Pt := l.getD k (0, 0)
theorem gP_at {l : List Pt} {k : Nat} (h : k < l.length) : gP l k = l[k] := by simp [gP, h]
/-- Not above the point before. -/
def ordB (l : List Pt) (k : Nat) : Bool := decide ((0 : Int) < k) && (decide ((gP l k).1 ≤ (gP l (k - 1)).1) || decide ((gP l k).2 ≤ (gP l (k - 1)).2))
def ptE (l : List Pt) (k : Nat) : Int := firstL [lvE (gP l k).1, lvE (gP l k).2, wh (ordB l k) 11]
def lenE (n : Nat) : Int := firstL [wh (decide ((n : Int) < 2)) 16, wh (decide ((16 : Int) < n)) 5]
/-- The first error of a curve. -/
def curveE (l : List Pt) : Int := if lenE l.length = 0 then firstL ((List.range l.length).map (ptE l)) else lenE l.length
/-- A curve that is right. -/
structure CvOk (l : List Pt) : Prop where
  lo : 2 ≤ l.length
  hi : l.length ≤ 16
  bd : ∀ k, k < l.length → (-16384 ≤ (gP l k).1 ∧ (gP l k).1 ≤ 16384) ∧ (-16384 ≤ (gP l k).2 ∧ (gP l k).2 ≤ 16384)
  up : ∀ k, 0 < k → k < l.length → (gP l (k - 1)).1 < (gP l k).1 ∧ (gP l (k - 1)).2 < (gP l k).2
theorem lenE_zero {n : Nat} : lenE n = 0 ↔ 2 ≤ n ∧ n ≤ 16 := by
  unfold lenE
  rw [firstL_zero]
  simp only [List.mem_cons, List.mem_nil_iff, or_false, forall_eq_or_imp, forall_eq, wh_zero (show (16 : Int) ≠ 0 by omega), wh_zero (show (5 : Int) ≠ 0 by omega), decide_eq_false_iff_not]
  omega
theorem ptE_zero {l : List Pt} {k : Nat} : ptE l k = 0 ↔ ((-16384 ≤ (gP l k).1 ∧ (gP l k).1 ≤ 16384) ∧ (-16384 ≤ (gP l k).2 ∧ (gP l k).2 ≤ 16384)) ∧ (0 < k → (gP l (k - 1)).1 < (gP l k).1 ∧ (gP l (k - 1)).2 < (gP l k).2) := by
  unfold ptE
  rw [firstL_zero]
  simp only [List.mem_cons, List.mem_nil_iff, or_false, forall_eq_or_imp, forall_eq, lvE, wi_eq, wh_zero (show (11 : Int) ≠ 0 by omega), ordB, Bool.and_eq_false_iff, Bool.or_eq_false_iff, decide_eq_false_iff_not]
  omega
theorem curve_ok {l : List Pt} : curveE l = 0 ↔ CvOk l := by
  unfold curveE
  constructor
  · intro h
    split at h
    · rename_i h1
      have h2 := lenE_zero.1 h1
      rw [firstL_zero] at h
      have h3 : ∀ k, k < l.length → ptE l k = 0 := fun k hk => h _ (List.mem_map.2 ⟨k, List.mem_range.2 hk, rfl⟩)
      exact ⟨h2.1, h2.2, fun k hk => (ptE_zero.1 (h3 k hk)).1, fun k h0 hk => (ptE_zero.1 (h3 k hk)).2 h0⟩
    · contradiction
  · intro h
    rw [if_pos (lenE_zero.2 ⟨h.lo, h.hi⟩), firstL_zero]
    intro x hx
    obtain ⟨k, hk, rfl⟩ := List.mem_map.1 hx
    have hk := List.mem_range.1 hk
    exact ptE_zero.2 ⟨h.bd k hk, fun h0 => h.up k h0 hk⟩
theorem range_drop {f : Nat → Int} {n k : Nat} (h : k < n) : firstL (((List.range n).map f).drop k) = if f k = 0 then firstL (((List.range n).map f).drop (k + 1)) else f k := by
  have hl : k < ((List.range n).map f).length := by simpa using h
  rw [firstL_drop hl]
  simp
theorem range_end {f : Nat → Int} {n : Nat} : firstL (((List.range n).map f).drop n) = 0 := by
  rw [List.drop_of_length_le (by simp)]
  rfl
/-- On the way from one point to the next. -/
def segF (p q : Pt) (n : Int) : Int := p.2 + rnd ((q.2 - p.2) * (n - p.1)) (q.1 - p.1)
/-- The value of a curve at a level. -/
def valF (l : List Pt) (n : Int) : Int := if n ≤ (gP l 0).1 then (gP l 0).2 else
  match (List.range l.length).find? (fun k => decide (n ≤ (gP l k).1)) with
  | some k => segF (gP l (k - 1)) (gP l k) n
  | none => (gP l (l.length - 1)).2
theorem valF_low {l : List Pt} {n : Int} (h : n ≤ (gP l 0).1) : valF l n = (gP l 0).2 := if_pos h
theorem valF_at {l : List Pt} {n : Int} {k : Nat} (h0 : 0 < k) (hk : k < l.length) (hlt : ∀ j, j < k → (gP l j).1 < n) (h : n ≤ (gP l k).1) : valF l n = segF (gP l (k - 1)) (gP l k) n := by
  have h1 := hlt 0 h0
  unfold valF
  rw [if_neg (by omega)]
  have : (List.range l.length).find? (fun k => decide (n ≤ (gP l k).1)) = some k := by
    rw [List.find?_range_eq_some]
    refine ⟨by simpa using h, by simpa using hk, fun j hj => ?_⟩
    have := hlt j hj
    simp
    omega
  rw [this]
theorem valF_end {l : List Pt} {n : Int} (h0 : 0 < l.length) (hlt : ∀ j, j < l.length → (gP l j).1 < n) : valF l n = (gP l (l.length - 1)).2 := by
  have h1 := hlt 0 h0
  unfold valF
  rw [if_neg (by omega)]
  have : (List.range l.length).find? (fun k => decide (n ≤ (gP l k).1)) = none := by
    rw [List.find?_range_eq_none]
    intro j hj
    have := hlt j hj
    simp
    omega
  rw [this]
theorem rnd_bd {d t e : Int} (hd : 0 < d) (ht : 0 ≤ t ∧ t ≤ d) (he : 0 ≤ e) : 0 ≤ rnd (e * t) d ∧ rnd (e * t) d ≤ e := by
  unfold rnd
  have h1 := Int.mul_nonneg he ht.1
  have h2 : e * t ≤ e * d := Int.mul_le_mul_of_nonneg_left ht.2 he
  refine ⟨Int.ediv_nonneg (by omega) (by omega), ?_⟩
  refine Int.lt_add_one_iff.1 ((Int.ediv_lt_iff_lt_mul (by omega)).2 ?_)
  have e1 : (e + 1) * (2 * d) = 2 * (e * d) + 2 * d := by rw [Int.add_mul, Int.one_mul, ← Int.mul_assoc, Int.mul_comm e 2, Int.mul_assoc]
  omega
theorem segF_bd {p q : Pt} {n : Int} (h1 : p.1 ≤ n) (h2 : n ≤ q.1) (h3 : p.1 < q.1) (h4 : p.2 < q.2) : p.2 ≤ segF p q n ∧ segF p q n ≤ q.2 := by
  unfold segF
  have := rnd_bd (d := q.1 - p.1) (t := n - p.1) (e := q.2 - p.2) (by omega) (by omega) (by omega)
  omega
theorem CvOk.mono {l : List Pt} (h : CvOk l) : ∀ {i j : Nat}, i ≤ j → j < l.length → (gP l i).1 ≤ (gP l j).1 ∧ (gP l i).2 ≤ (gP l j).2 := by
  intro i j hij hj
  induction j with
  | zero => obtain rfl : i = 0 := by omega
            exact ⟨Int.le_refl _, Int.le_refl _⟩
  | succ j ih =>
    rcases Nat.eq_or_lt_of_le hij with rfl | hlt
    · exact ⟨Int.le_refl _, Int.le_refl _⟩
    · have h1 := ih (by omega) (by omega)
      have h2 := h.up (j + 1) (by omega) hj
      rw [Nat.add_sub_cancel] at h2
      omega
/-- A curve's value lies between its ends. -/
theorem val_cases {l : List Pt} (h : CvOk l) (n : Int) : (n ≤ (gP l 0).1 ∧ valF l n = (gP l 0).2) ∨ (∃ k, 0 < k ∧ k < l.length ∧ (gP l (k - 1)).1 < n ∧ n ≤ (gP l k).1 ∧ valF l n = segF (gP l (k - 1)) (gP l k) n) ∨ ((gP l (l.length - 1)).1 < n ∧ valF l n = (gP l (l.length - 1)).2) := by
  by_cases h0 : n ≤ (gP l 0).1
  · exact .inl ⟨h0, valF_low h0⟩
  · by_cases hl : (gP l (l.length - 1)).1 < n
    · refine .inr (.inr ⟨hl, valF_end (by have := h.lo; omega) fun j hj => ?_⟩)
      have := (h.mono (show j ≤ l.length - 1 by omega) (by omega)).1
      omega
    · have key : ∀ m, m < l.length → n ≤ (gP l m).1 → ∃ k, 0 < k ∧ k < l.length ∧ (∀ j, j < k → (gP l j).1 < n) ∧ n ≤ (gP l k).1 := by
        intro m
        induction m with
        | zero => intro _ hm; exact absurd hm h0
        | succ m ih =>
          intro hm1 hm2
          by_cases hm : n ≤ (gP l m).1
          · exact ih (by omega) hm
          · refine ⟨m + 1, by omega, hm1, fun j hj => ?_, hm2⟩
            have := (h.mono (show j ≤ m by omega) (by omega)).1
            omega
      obtain ⟨k, h1, h2, h3, h4⟩ := key (l.length - 1) (by have := h.lo; omega) (by omega)
      exact .inr (.inl ⟨k, h1, h2, h3 _ (by omega), h4, valF_at h1 h2 h3 h4⟩)
theorem valF_bd {l : List Pt} (h : CvOk l) (n : Int) : (gP l 0).2 ≤ valF l n ∧ valF l n ≤ (gP l (l.length - 1)).2 := by
  have hlo := h.lo
  rcases val_cases h n with ⟨_, e⟩ | ⟨k, h1, h2, h3, h4, e⟩ | ⟨_, e⟩
  · rw [e]; exact ⟨Int.le_refl _, (h.mono (Nat.zero_le _) (by omega)).2⟩
  · rw [e]
    have hu := h.up k h1 h2
    have hs := segF_bd (p := gP l (k - 1)) (q := gP l k) (n := n) (by omega) h4 hu.1 hu.2
    have g1 := (h.mono (Nat.zero_le (k - 1)) (by omega)).2
    have g2 := (h.mono (show k ≤ l.length - 1 by omega) (by omega)).2
    omega
  · rw [e]; exact ⟨(h.mono (Nat.zero_le _) (by omega)).2, Int.le_refl _⟩
theorem valF_lv {l : List Pt} (h : CvOk l) (n : Int) : -16384 ≤ valF l n ∧ valF l n ≤ 16384 := by
  have hlo := h.lo
  have h1 := valF_bd h n
  have h2 := (h.bd 0 (by omega)).2
  have h3 := (h.bd (l.length - 1) (by omega)).2
  omega
def swP (p : Pt) : Pt := (p.2, p.1)
/-- The inverse of a curve. -/
def invF (l : List Pt) : List Pt := l.map swP
theorem gP_inv {l : List Pt} {k : Nat} (h : k < l.length) : gP (invF l) k = swP (gP l k) := by
  rw [gP_at h, gP_at (by simpa [invF] using h)]
  simp [invF]
theorem CvOk.inv {l : List Pt} (h : CvOk l) : CvOk (invF l) := by
  have hl : (invF l).length = l.length := by simp [invF]
  refine ⟨by rw [hl]; exact h.lo, by rw [hl]; exact h.hi, fun k hk => ?_, fun k h0 hk => ?_⟩
  · rw [hl] at hk
    rw [gP_inv hk]
    exact ⟨(h.bd k hk).2, (h.bd k hk).1⟩
  · rw [hl] at hk
    rw [gP_inv hk, gP_inv (by omega)]
    exact ⟨(h.up k h0 hk).2, (h.up k h0 hk).1⟩
end Go.Proofs.YtedlaominconaaaDoor
