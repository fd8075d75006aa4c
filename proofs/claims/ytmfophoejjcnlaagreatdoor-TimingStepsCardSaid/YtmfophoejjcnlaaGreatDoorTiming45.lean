/- Plain laws of counters: in how many steps a counter falls into step, and how its errors fall. -/
import Derived.Test.YtmfophoejjcnlaaGreatDoorTiming10
namespace Go.Proofs.YtmfophoejjcnlaaGreatDoor
open Go.E Go.RowKit
attribute [local irreducible] G C S D Calls
set_option maxRecDepth 100000
set_option linter.unusedSimpArgs false
set_option linter.unusedVariables false

/-- The lesser way of an error to 0, or to the period. -/
def way (p x : Int) : Int := min x (p - x)
theorem way_zero {p x : Int} (hx : 0 ≤ x ∧ x < p) (h : way p x ≤ 0) : x = 0 := by unfold way at h; omega
theorem way_step {p s x : Int} (hs : 1 ≤ s) (hx : 0 < x ∧ x < p) : way p (lockStep p s x) = max 0 (way p x - s) := by
  unfold way lockStep
  split
  · omega
  · split <;> omega
theorem steps_zero {s : Int} (hs : 1 ≤ s) : (0 + s - 1) / s = 0 := Int.ediv_eq_zero_of_lt (by omega) (by omega)
theorem steps_succ {s m : Int} (hs : 1 ≤ s) (hm : 0 < m) : (m + s - 1) / s = 1 + (max 0 (m - s) + s - 1) / s := by
  rcases (show m ≤ s ∨ s < m by omega) with h | h
  · rw [Int.max_eq_left (by omega), steps_zero hs]
    have e : m + s - 1 = (m - 1) + s * 1 := by omega
    rw [e, Int.add_mul_ediv_left _ _ (by omega), Int.ediv_eq_zero_of_lt (by omega) (by omega)]
    omega
  · rw [Int.max_eq_right (by omega)]
    have e : m + s - 1 = (m - s + s - 1) + s * 1 := by omega
    rw [e, Int.add_mul_ediv_left _ _ (by omega)]
    omega
theorem lockF_spec {p s : Int} (hs : 1 ≤ s) : ∀ (n : Nat) (x : Int) (l : List Int), 0 ≤ x ∧ x < p → way p x ≤ (n : Int) * s →
    ∃ tl : List Int, lockF p s n x l = (l ++ tl, 0) ∧ (tl.length : Int) = (way p x + s - 1) / s ∧ (∀ (i : Nat) (z : Int), tl[i]? = some z → i + 1 < tl.length → way p z = way p x - ((i : Int) + 1) * s) ∧ (0 < tl.length → tl[tl.length - 1]? = some 0) ∧ ∀ z ∈ tl, 0 ≤ z ∧ z < p := by
  intro n
  induction n with
  | zero =>
    intro x l hx hw
    have h0 := way_zero hx (by simpa using hw)
    subst h0
    refine ⟨[], by rw [lockF_stop p s 0 (by omega), List.append_nil], ?_, by simp, by simp, by simp⟩
    have : way p 0 = 0 := by unfold way; omega
    rw [this, steps_zero hs]
    rfl
  | succ n ih =>
    intro x l hx hw
    by_cases h0 : 0 < x
    · have hy := lockStep_bd (p := p) (s := s) (x := x) (by omega) (by omega) hs
      have hws := way_step (p := p) hs ⟨h0, hx.2⟩
      have hwp : 0 < way p x := by unfold way; omega
      have hn : ((n + 1 : Nat) : Int) * s = (n : Int) * s + s := by rw [Int.natCast_add, Int.add_mul]; simp
      have hns : 0 ≤ (n : Int) * s := Int.mul_nonneg (by omega) (by omega)
      obtain ⟨tl, h1, h2, h3, h4, h5⟩ := ih (lockStep p s x) (l ++ [lockStep p s x]) (by omega) (by rw [hws]; omega)
      refine ⟨lockStep p s x :: tl, by rw [lockF_go p s n h0, h1]; simp, ?_, ?_, ?_, ?_⟩
      · rw [List.length_cons, Int.natCast_add, h2, hws, steps_succ hs hwp]
        omega
      · intro i z hz hi
        rw [List.length_cons] at hi
        cases i with
        | zero =>
          simp only [List.getElem?_cons_zero, Option.some.injEq] at hz
          subst hz
          have htl : 0 < tl.length := by omega
          have hpos : 0 < way p (lockStep p s x) := by
            rcases Int.lt_or_le 0 (way p (lockStep p s x)) with h | h
            · exact h
            · have h6 : way p (lockStep p s x) = 0 := by rw [hws] at h ⊢; omega
              rw [h6, steps_zero hs] at h2
              omega
          rw [hws] at hpos ⊢
          simp only [Int.ofNat_zero, Int.zero_add, Int.one_mul]
          omega
        | succ i =>
          simp only [List.getElem?_cons_succ] at hz
          have h6 := h3 i z hz (by omega)
          have hpos : 0 < way p (lockStep p s x) := by
            rcases Int.lt_or_le 0 (way p (lockStep p s x)) with h | h
            · exact h
            · have h6 : way p (lockStep p s x) = 0 := by rw [hws] at h ⊢; omega
              rw [h6, steps_zero hs] at h2
              omega
          rw [h6]
          have e : way p (lockStep p s x) = way p x - s := by rw [hws] at hpos ⊢; omega
          rw [e, show ((i + 1 : Nat) : Int) + 1 = ((i : Int) + 1) + 1 by omega, Int.add_mul ((i : Int) + 1) 1 s, Int.one_mul]
          omega
      · intro _
        rw [List.length_cons, Nat.add_sub_cancel]
        cases ht : tl.length with
        | zero =>
          have h6 : way p (lockStep p s x) ≤ 0 := by
            rcases Int.lt_or_le 0 (way p (lockStep p s x)) with h | h
            · rw [ht, steps_succ hs h] at h2
              have := Int.ediv_nonneg (show 0 ≤ max 0 (way p (lockStep p s x) - s) + s - 1 by omega) (show 0 ≤ s by omega)
              omega
            · exact h
          have := way_zero (by omega) h6
          simp [this]
        | succ k =>
          rw [List.getElem?_cons_succ]
          have := h4 (by omega)
          rw [ht, Nat.add_sub_cancel] at this
          exact this
      · intro z hz
        rcases List.mem_cons.1 hz with rfl | hz
        · omega
        · exact h5 z hz
    · have h0' : x = 0 := by omega
      subst h0'
      refine ⟨[], by rw [lockF_stop p s _ (by omega), List.append_nil], ?_, by simp, by simp, by simp⟩
      have : way p 0 = 0 := by unfold way; omega
      rw [this, steps_zero hs]
      rfl
/-- How a counter falls into step. -/
structure Locked (p x s : Int) (l : List Int) : Prop where
  len : (l.length : Int) = 1 + (way p x + s - 1) / s
  first : l[0]? = some x
  last : l[l.length - 1]? = some 0
  mid : ∀ (i : Nat) (z : Int), 1 ≤ i → i + 1 < l.length → l[i]? = some z → way p z = way p x - (i : Int) * s
  rng : ∀ z ∈ l, 0 ≤ z ∧ z < p
theorem locked {p x s : Int} (hp : p ≤ 256) (hx : 0 ≤ x ∧ x < p) (hs : 1 ≤ s ∧ s ≤ 10000000) : ∃ l, lockR p x s = (l, 0) ∧ Locked p x s l := by
  have hE : lockE p x s = 0 := by
    unfold lockE
    rw [firstL_zero]
    have e : IntKind.i64.wrap (p - 1) = p - 1 := inR_wrap (by simp only [inR]; omega)
    simp only [List.mem_cons, List.mem_nil_iff, or_false, forall_eq_or_imp, forall_eq, wi_eq, e]
    omega
  obtain ⟨tl, h1, h2, h3, h4, h5⟩ := lockF_spec (p := p) hs.1 255 x [x] hx (by unfold way; omega)
  refine ⟨[x] ++ tl, by unfold lockR; rw [if_pos hE]; exact h1, ?_, rfl, ?_, ?_, ?_⟩
  · rw [List.length_append, Int.natCast_add, h2]; simp
  · cases ht : tl.length with
    | zero =>
      have h6 : way p x ≤ 0 := by
        rcases Int.lt_or_le 0 (way p x) with h | h
        · rw [ht, steps_succ hs.1 h] at h2
          have := Int.ediv_nonneg (show 0 ≤ max 0 (way p x - s) + s - 1 by omega) (show 0 ≤ s by omega)
          omega
        · exact h
      have := way_zero hx h6
      simp [ht, this]
    | succ k =>
      have := h4 (by omega)
      rw [List.length_append, ht]
      rw [ht, Nat.add_sub_cancel] at this
      simpa [Nat.add_comm 1] using this
  · intro i z hi hl hz
    cases i with
    | zero => omega
    | succ i =>
      rw [List.length_append] at hl
      simp only [List.length_cons, List.length_nil] at hl
      have := h3 i z (by simpa using hz) (by omega)
      rw [this]
      simp
  · intro z hz
    rcases List.mem_append.1 hz with h | h
    · simp only [List.mem_singleton] at h; omega
    · exact h5 z h

end Go.Proofs.YtmfophoejjcnlaaGreatDoor
