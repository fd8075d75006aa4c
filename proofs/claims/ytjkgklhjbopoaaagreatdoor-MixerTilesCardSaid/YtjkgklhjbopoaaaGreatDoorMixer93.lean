/- A list of pictures, opened. -/
import Derived.Test.YtjkgklhjbopoaaaGreatDoorMixer55
namespace Go.Proofs.YtjkgklhjbopoaaaGreatDoor
set_option linter.all false
open Go.ChangeShapes Go.WideShapes Go.ChangeAt Go.RowKit Go.Deep Go.Joins Go.E Go.Fl
set_option maxHeartbeats 8000000
section
variable {H : Type} {enc : TypeId × Value → H} {P : Program} {w : World} {base : Nat} {spare : Nat → Bool} {held : Bool}
theorem aJ9 {r : Reach} {b0 : Nat} {ta t e : TypeId} {f0 f1 f2 f3 : Field} {v : Value} {d : DataW H} {pl : List MemPlace} (ha : P.underlying ta = some (.slice t)) (hs : P.underlying t = some (.struct #[f0, f1, f2, f3])) (ho : f0.offset = 0 ∧ f1.offset = 1 ∧ f2.offset = 2 ∧ f3.offset = 3) (hk : P.cellsOf f0.type = 1 ∧ P.cellsOf f1.type = 1 ∧ P.cellsOf f2.type = 1 ∧ P.cellsOf f3.type = 1) (hC : P.cellsOf t = 4)
    (u0 : P.underlying f0.type = some .string) (u1 : P.underlying f1.type = some (.int .i64)) (u2 : P.underlying f2.type = some (.int .i64)) (u3 : P.underlying f3.type = some (.slice e)) (ue : P.underlying e = some (.float .f32)) (hce : P.cellsOf e = 1) (hv : Value.okWide P w r b0 ta v)
    (h : DataW.Trod enc P w base spare held ta v d pl) : ∃ A c, ∃ l : List PV', v = .slice A l.length c ∧ Rd w A (l.flatMap pvC) ∧ (∀ x ∈ l, PicIn w x.p x.A x.c) ∧ l.length ≤ c ∧ c ≤ maxLen ∧ (A = none → l.length = 0 ∧ c = 0) := by
  obtain ⟨a, n', c, rfl⟩ := okWide_slice ha hv
  obtain ⟨fuel, hf⟩ := h
  rcases open_slice ha (show DataW.trod enc P w base spare held fuel ta [.slice a n' c] = some (d, pl) from hf) with ⟨e1, _⟩ | ⟨a', len, cap, m, q, D, Pl, e1, _, h1, h2, h3, _, hx⟩
  · cases e1
    exact ⟨none, 0, [], rfl, .inl rfl, (fun x hx => by cases hx), Nat.le_refl _, Nat.zero_le _, fun _ => ⟨rfl, rfl⟩⟩
  · cases e1
    have hm : n' ≤ m := by rw [h3]; split <;> omega
    rw [hC] at hx
    have each : ∀ i, i < n' → ∃ x : PV', (∀ r, r < 4 → w.cell? (a'.add (i * 4 + r)) = (pvC x)[r]?) ∧ PicIn w x.p x.A x.c := fun i hi => by
      obtain ⟨cs', g1, g2⟩ := hx i (by omega)
      obtain ⟨_, g4, g5⟩ := World.cells?_some g1
      obtain ⟨p, A, c, rfl, hp⟩ := aI8 hs ho hk hC u0 u1 u2 u3 ue hce g2
      exact ⟨⟨p, A, c⟩, (fun r hr => by rw [← n3, g5 r hr]; rfl), hp⟩
    haveI : Inhabited PV' := ⟨⟨⟨ByteArray.empty, 0, 0, []⟩, none, 0⟩⟩
    obtain ⟨E, hE⟩ := choose_lt each
    have hl : ((List.range n').map E).length = n' := by simp
    refine ⟨some a', c, (List.range n').map E, by rw [hl], .inr ⟨a', rfl, fun j u hu => ?_⟩, (fun x hx => ?_), by rw [hl]; exact h1, h2, (fun h => by cases h)⟩
    · have hfl := C7 (f := pvC) (s := 4) ((List.range n').map E) (fun _ _ => rfl)
      rcases Nat.lt_or_ge j (n' * 4) with hj | hj
      · have hk' : j / 4 < ((List.range n').map E).length := by rw [hl]; omega
        have hat := X1 (f := pvC) (s := 4) ((List.range n').map E) (fun _ _ => rfl) (j / 4) hk' (j % 4) (by omega)
        rw [show j / 4 * 4 + j % 4 = j by omega] at hat
        rw [hat] at hu
        have := (hE (j / 4) (by rw [hl] at hk'; exact hk')).1 (j % 4) (by omega)
        rw [show j / 4 * 4 + j % 4 = j by omega] at this
        rw [this, ← hu]
        simp
      · rw [List.getElem?_eq_none (by rw [hfl, hl]; exact hj)] at hu
        cases hu
    · obtain ⟨i, hi, rfl⟩ := List.mem_map.1 hx
      exact (hE i (List.mem_range.1 hi)).2
end
end Go.Proofs.YtjkgklhjbopoaaaGreatDoor
