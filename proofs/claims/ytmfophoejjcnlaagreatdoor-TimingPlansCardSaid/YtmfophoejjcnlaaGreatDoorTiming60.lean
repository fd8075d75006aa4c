/- Plain laws: walks, potentials, and how long the walks need to be. -/
import Derived.Test.YtmfophoejjcnlaaGreatDoorEng3
namespace Go.Proofs.YtmfophoejjcnlaaGreatDoor
open Go.E Go.RowKit
attribute [local irreducible] G C S D Calls
set_option maxRecDepth 100000
set_option linter.unusedSimpArgs false
set_option linter.unusedVariables false

theorem pig : ∀ (n : Nat) (g : Nat → Nat) (k : Nat), (∀ i, i ≤ k → g i < n) → n ≤ k → ∃ i j, i < j ∧ j ≤ k ∧ g i = g j
  | 0, g, k, h, _ => absurd (h 0 (Nat.zero_le _)) (Nat.not_lt_zero _)
  | n + 1, g, k, h, hk => by
    by_cases ha : ∃ a, a ≤ k ∧ g a = n
    · obtain ⟨a, hak, ha⟩ := ha
      by_cases hb : ∃ b, b ≤ k ∧ b ≠ a ∧ g b = n
      · obtain ⟨b, hbk, hba, hb⟩ := hb
        rcases Nat.lt_or_gt_of_ne hba with h1 | h1
        · exact ⟨b, a, h1, hak, by rw [ha, hb]⟩
        · exact ⟨a, b, h1, hbk, by rw [ha, hb]⟩
      · have hne : ∀ b, b ≤ k → b ≠ a → g b < n := fun b hbk hba => by
          have h1 := h b hbk
          have h2 : g b ≠ n := fun e => hb ⟨b, hbk, hba, e⟩
          omega
        obtain ⟨i, j, hij, hj, he⟩ := pig n (fun x => if x < a then g x else g (x + 1)) (k - 1) (fun x hx => by
          split
          · exact hne _ (by omega) (by omega)
          · exact hne _ (by omega) (by omega)) (by omega)
        refine ⟨if i < a then i else i + 1, if j < a then j else j + 1, ?_, ?_, ?_⟩
        · split <;> split <;> omega
        · split <;> omega
        · by_cases c1 : i < a <;> by_cases c2 : j < a <;> simp only [c1, c2, if_true, if_false] at he ⊢ <;> exact he
    · obtain ⟨i, j, h1, h2, h3⟩ := pig n g k (fun i hi => by
        have h1 := h i hi
        have h2 : g i ≠ n := fun e => ha ⟨i, hi, e⟩
        omega) (by omega)
      exact ⟨i, j, h1, h2, h3⟩

/-- A walk of k steps from f to v, the sum of whose bounds is s. -/
def Wk (R : Nat → Nat → Int → Prop) (f k v : Nat) (s : Int) : Prop := ∃ (g : Nat → Nat) (h : Nat → Int), g 0 = f ∧ g k = v ∧ h 0 = 0 ∧ h k = s ∧ ∀ i, i < k → R (g i) (g (i + 1)) (h (i + 1) - h i)
section
variable {R : Nat → Nat → Int → Prop} {f k v u nn : Nat} {s b : Int}
theorem wk_nil (R : Nat → Nat → Int → Prop) (f : Nat) : Wk R f 0 f 0 := ⟨fun _ => f, fun _ => 0, rfl, rfl, rfl, rfl, fun i h => absurd h (Nat.not_lt_zero _)⟩
theorem wk_zero (h : Wk R f 0 v s) : v = f ∧ s = 0 := by
  obtain ⟨g, h, h1, h2, h3, h4, _⟩ := h
  exact ⟨by rw [← h1, ← h2], by rw [← h3, ← h4]⟩
theorem wk_snoc (hw : Wk R f k u s) (hr : R u v b) : Wk R f (k + 1) v (s + b) := by
  obtain ⟨g, h, h1, h2, h3, h4, h5⟩ := hw
  refine ⟨fun i => if i ≤ k then g i else v, fun i => if i ≤ k then h i else s + b, by simpa using h1, (by show (if k + 1 ≤ k then g (k + 1) else v) = v; rw [if_neg (by omega)]), by simpa using h3, (by show (if k + 1 ≤ k then h (k + 1) else s + b) = s + b; rw [if_neg (by omega)]), fun i hi => ?_⟩
  by_cases hik : i < k
  · simp only [if_pos (show i ≤ k by omega), if_pos (show i + 1 ≤ k by omega)]
    exact h5 i hik
  · obtain rfl : i = k := by omega
    simp only [if_pos (Nat.le_refl i), if_neg (show ¬ i + 1 ≤ i by omega), h2, h4]
    rw [show s + b - s = b by omega]
    exact hr
theorem wk_pred (hw : Wk R f (k + 1) v s) : ∃ u b s', Wk R f k u s' ∧ R u v b ∧ s = s' + b := by
  obtain ⟨g, h, h1, h2, h3, h4, h5⟩ := hw
  refine ⟨g k, h (k + 1) - h k, h k, ⟨g, h, h1, rfl, h3, rfl, fun i hi => h5 i (by omega)⟩, ?_, by omega⟩
  have := h5 k (by omega)
  rw [h2] at this
  exact this
theorem wk_first (hw : Wk R f (k + 1) v s) : ∃ u b s', R f u b ∧ Wk R u k v s' ∧ s = b + s' := by
  obtain ⟨g, h, h1, h2, h3, h4, h5⟩ := hw
  refine ⟨g 1, h 1, s - h 1, ?_, ⟨fun i => g (i + 1), fun i => h (i + 1) - h 1, rfl, h2, (by show h 1 - h 1 = 0; omega), (by show h (k + 1) - h 1 = s - h 1; omega), fun i hi => ?_⟩, by omega⟩
  · have := h5 0 (by omega)
    rw [h1, h3] at this
    simpa using this
  · have := h5 (i + 1) (by omega)
    dsimp only
    rw [show h (i + 1 + 1) - h 1 - (h (i + 1) - h 1) = h (i + 1 + 1) - h (i + 1) by omega]
    exact this
theorem wk_cons (hr : R f u b) (hw : Wk R u k v s) : Wk R f (k + 1) v (b + s) := by
  obtain ⟨g, h, h1, h2, h3, h4, h5⟩ := hw
  refine ⟨fun i => if i = 0 then f else g (i - 1), fun i => if i = 0 then 0 else b + h (i - 1), rfl, by simpa using h2, rfl, by simp [h4], fun i hi => ?_⟩
  by_cases hi0 : i = 0
  · subst hi0
    show R f (g 0) (b + h 0 - 0)
    rw [h1, h3, show b + 0 - 0 = b by omega]
    exact hr
  · simp only [if_neg hi0, if_neg (show ¬ i + 1 = 0 by omega)]
    have := h5 (i - 1) (by omega)
    rw [show i - 1 + 1 = i by omega] at this
    rw [show i + 1 - 1 = i by omega, show b + h i - (b + h (i - 1)) = h i - h (i - 1) by omega]
    exact this
theorem wk_pot {p : Nat → Int} (hp : ∀ u v b, R u v b → p u + b ≤ p v) : ∀ {k v : Nat} {s : Int}, Wk R f k v s → p f + s ≤ p v := by
  intro k
  induction k with
  | zero => intro v s h; obtain ⟨rfl, rfl⟩ := wk_zero h; omega
  | succ k ih =>
    intro v s h
    obtain ⟨u, b, s', h1, h2, rfl⟩ := wk_pred h
    have := ih h1
    have := hp _ _ _ h2
    omega
theorem wk_lt (hR : ∀ u v b, R u v b → v < nn) (hf : f < nn) : ∀ {k v : Nat} {s : Int}, Wk R f k v s → v < nn := by
  intro k
  cases k with
  | zero => intro v s h; rw [(wk_zero h).1]; exact hf
  | succ k => intro v s h; obtain ⟨u, b, s', _, h2, _⟩ := wk_pred h; exact hR _ _ _ h2
/-- Where there is a potential, the walks need less steps than there are nodes. -/
theorem wk_short {p : Nat → Int} (hp : ∀ u v b, R u v b → p u + b ≤ p v) (hR : ∀ u v b, R u v b → v < nn) (hf : f < nn) :
    ∀ (m k : Nat), k ≤ m → ∀ {v : Nat} {s : Int}, Wk R f k v s → ∃ k' s', k' < nn ∧ s ≤ s' ∧ Wk R f k' v s' := by
  intro m
  induction m with
  | zero => intro k hk v s h; exact ⟨k, s, by omega, by omega, h⟩
  | succ m ih =>
    intro k hk v s hw
    by_cases hkn : k < nn
    · exact ⟨k, s, hkn, by omega, hw⟩
    · obtain ⟨g, h, h1, h2, h3, h4, h5⟩ := hw
      have hlt : ∀ i, i ≤ k → g i < nn := fun i hi => by
        cases i with
        | zero => rw [h1]; exact hf
        | succ i => exact hR _ _ _ (h5 i (by omega))
      obtain ⟨i, j, hij, hjk, he⟩ := pig nn g k hlt (by omega)
      have seg : ∀ d, i + d ≤ k → p (g i) + (h (i + d) - h i) ≤ p (g (i + d)) := by
        intro d
        induction d with
        | zero => intro _; rw [Nat.add_zero]; omega
        | succ d ihd =>
          intro hd
          have a1 := ihd (by omega)
          have a2 := hp _ _ _ (h5 (i + d) (by omega))
          rw [show i + (d + 1) = i + d + 1 by omega]
          omega
      have hs := seg (j - i) (by omega)
      rw [show i + (j - i) = j by omega, ← he] at hs
      refine (ih (k - (j - i)) (by omega) (v := v) (s := s - (h j - h i)) ⟨fun x => if x ≤ i then g x else g (x + (j - i)), fun x => if x ≤ i then h x else h (x + (j - i)) - (h j - h i), by simpa using h1, ?_, by simpa using h3, ?_, fun x hx => ?_⟩).imp fun k' ⟨s', h6, h7, h8⟩ => ⟨s', h6, by omega, h8⟩
      · dsimp only
        split
        · have : j = k := by omega
          rw [show k - (j - i) = i by omega, he, this, h2]
        · rw [show k - (j - i) + (j - i) = k by omega, h2]
      · dsimp only
        split
        · have : j = k := by omega
          rw [show k - (j - i) = i by omega]
          rw [this, h4]
          omega
        · rw [show k - (j - i) + (j - i) = k by omega, h4]
      · dsimp only
        by_cases hxi : x < i
        · rw [if_pos (show x ≤ i by omega), if_pos (show x + 1 ≤ i by omega), if_pos (show x ≤ i by omega), if_pos (show x + 1 ≤ i by omega)]
          exact h5 x (by omega)
        · by_cases hxe : x = i
          · subst hxe
            rw [if_pos (Nat.le_refl x), if_neg (show ¬ x + 1 ≤ x by omega), if_pos (Nat.le_refl x), if_neg (show ¬ x + 1 ≤ x by omega), he]
            have := h5 j (by omega)
            rw [show x + 1 + (j - x) = j + 1 by omega, show h (j + 1) - (h j - h x) - h x = h (j + 1) - h j by omega]
            exact this
          · rw [if_neg (show ¬ x ≤ i by omega), if_neg (show ¬ x + 1 ≤ i by omega), if_neg (show ¬ x ≤ i by omega), if_neg (show ¬ x + 1 ≤ i by omega)]
            have := h5 (x + (j - i)) (by omega)
            rw [show x + 1 + (j - i) = x + (j - i) + 1 by omega, show h (x + (j - i) + 1) - (h j - h i) - (h (x + (j - i)) - (h j - h i)) = h (x + (j - i) + 1) - h (x + (j - i)) by omega]
            exact this
end

end Go.Proofs.YtmfophoejjcnlaaGreatDoor
