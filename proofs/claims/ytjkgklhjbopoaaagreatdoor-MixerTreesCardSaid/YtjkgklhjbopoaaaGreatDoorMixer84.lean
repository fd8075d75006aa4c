/- A list of intervals, opened. -/
import Derived.Test.YtjkgklhjbopoaaaGreatDoorMixer55
namespace Go.Proofs.YtjkgklhjbopoaaaGreatDoor
set_option linter.unusedSimpArgs false
set_option linter.unusedVariables false
open Go.ChangeShapes Go.WideShapes Go.ChangeAt Go.RowKit Go.Deep Go.Joins Go.E Go.Fl
set_option maxHeartbeats 8000000
section
variable {H : Type} {enc : TypeId × Value → H} {P : Program} {w : World} {base : Nat} {spare : Nat → Bool} {held : Bool}
theorem open_ivs {r : Reach} {b0 : Nat} {ta t : TypeId} {v : Value} {d : DataW H} {pl : List MemPlace} (ha : P.underlying ta = some (.slice t)) (hC : P.cellsOf t = 2) (hc : ∀ (fuel : Nat) (l : List Value) (x : DataW H × List MemPlace), DataW.trod enc P w base spare held fuel t l = some x → ∃ a b : Int, l = [.int .i64 a, .int .i64 b]) (hv : Value.okWide P w r b0 ta v)
    (h : DataW.Trod enc P w base spare held ta v d pl) : ∃ A c, ∃ l : List (Int × Int), v = .slice A l.length c ∧ Rd w A (l.flatMap ivC) ∧ l.length ≤ c ∧ c ≤ maxLen ∧ (A = none → l.length = 0 ∧ c = 0) := by
  obtain ⟨a, n', c, rfl⟩ := okWide_slice ha hv
  obtain ⟨fuel, hf⟩ := h
  rcases open_slice ha (show DataW.trod enc P w base spare held fuel ta [.slice a n' c] = some (d, pl) from hf) with ⟨e1, _⟩ | ⟨a', len, cap, m, q, D, Pl, e1, _, h1, h2, h3, _, hx⟩
  · cases e1
    exact ⟨none, 0, [], rfl, .inl rfl, Nat.le_refl _, Nat.zero_le _, fun _ => ⟨rfl, rfl⟩⟩
  · cases e1
    have hm : n' ≤ m := by rw [h3]; split <;> omega
    rw [hC] at hx
    have each : ∀ i, i < n' → ∃ x : Int × Int, ∀ r, r < 2 → w.cell? (a'.add (i * 2 + r)) = (ivC x)[r]? := fun i hi => by
      obtain ⟨cs', g1, g2⟩ := hx i (by omega)
      obtain ⟨_, g4, g5⟩ := World.cells?_some g1
      obtain ⟨p, q, rfl⟩ := hc _ _ _ g2
      exact ⟨(p, q), fun r hr => by rw [← add_of_add, g5 r hr]; rfl⟩
    haveI : Inhabited (Int × Int) := ⟨(0, 0)⟩
    obtain ⟨E, hE⟩ := choose_lt each
    have hl : ((List.range n').map E).length = n' := by simp
    refine ⟨some a', c, (List.range n').map E, by rw [hl], .inr ⟨a', rfl, fun j u hu => ?_⟩, by rw [hl]; exact h1, h2, (fun h => by cases h)⟩
    have hfl := flat_len (f := ivC) (s := 2) ((List.range n').map E) (fun _ _ => rfl)
    rcases Nat.lt_or_ge j (n' * 2) with hj | hj
    · have hk' : j / 2 < ((List.range n').map E).length := by rw [hl]; omega
      have hat := flat_at (f := ivC) (s := 2) ((List.range n').map E) (fun _ _ => rfl) (j / 2) hk' (j % 2) (by omega)
      rw [show j / 2 * 2 + j % 2 = j by omega] at hat
      rw [hat] at hu
      have := hE (j / 2) (by rw [hl] at hk'; exact hk') (j % 2) (by omega)
      rw [show j / 2 * 2 + j % 2 = j by omega] at this
      rw [this, ← hu]
      simp
    · rw [List.getElem?_eq_none (by rw [hfl, hl]; exact hj)] at hu
      cases hu
end
end Go.Proofs.YtjkgklhjbopoaaaGreatDoor
