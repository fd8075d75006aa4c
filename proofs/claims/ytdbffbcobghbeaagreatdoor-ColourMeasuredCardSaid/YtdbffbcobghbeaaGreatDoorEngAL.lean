/- Cuts that leave rows out; loops whose pasts turn from round to round; two pasts as one. -/
import Derived.Test.YtdbffbcobghbeaaGreatDoorEngAA
namespace Go.E
set_option linter.unusedSimpArgs false
set_option linter.unusedVariables false
open Go.RowKit

section
variable {X : Cx} {Ps : Past} {σ σ' : St} {Q : Exit → Act → World → Prop} {ι : Type}
variable {sl : List (Nat × AV)} {bx : List Bx} {rw : List Rw}

/-- Rows are let go. -/
theorem HW.norow {B : Nat} {w0 w : World} (hw : HW B w0 Ps ⟨sl, bx, rw⟩ w) : HW B w0 Ps ⟨sl, bx, []⟩ w :=
  { below := hw.below, bsize := hw.bsize, nodup := hw.nodup, box := hw.box, past := hw.past, row := (fun r hr => by cases hr), apart := List.Pairwise.nil, old := hw.old }
theorem C_norow {c : Code} (k : C X Ps Q c ⟨sl, bx, []⟩) : C X Ps Q c ⟨sl, bx, rw⟩ := fun a w ha hw => k a w ⟨ha.size, ha.defers, ha.at_⟩ hw.norow
theorem G_cutN {J : ι → Past × St} (i : ι) (hs : Serves Ps ⟨sl, bx, []⟩ (J i).1 (J i).2) : G X Ps (Exit.then (CutP X J) Q) .normal ⟨sl, bx, rw⟩ :=
  fun a w ha hw => ⟨i, hs.ha ⟨ha.size, ha.defers, ha.at_⟩, hs.hw hw.norow⟩
/-- Two pasts, as one that begins now. -/
theorem HW.join {B : Nat} {w0 w W1 W2 : World} {S1 S2 : Nat → Prop} (hw : HW B w0 ((W1, S1) :: (W2, S2) :: Ps) σ w) : HW B w0 ((w, fun b => S1 b ∨ S2 b) :: Ps) σ w := by
  refine ⟨hw.below, hw.bsize, hw.nodup, hw.box, fun p hp b hb => ?_, fun r hr => ?_, hw.apart, fun p hp => ?_⟩
  · rcases List.mem_cons.1 hp with rfl | hp
    · rcases hb with hb | hb
      · obtain ⟨h1, h2⟩ := hw.past (W1, S1) (by simp) b hb
        exact ⟨⟨h1.1, rfl⟩, h2⟩
      · obtain ⟨h1, h2⟩ := hw.past (W2, S2) (by simp) b hb
        exact ⟨⟨h1.1, rfl⟩, h2⟩
    · exact hw.past p (by simp [hp]) b hb
  · obtain ⟨h1, h2⟩ := hw.row r hr
    refine ⟨h1, fun g hg => ⟨(h2 g hg).1, fun p hp => ?_⟩⟩
    rcases List.mem_cons.1 hp with rfl | hp
    · rintro (h | h)
      · exact (h2 g hg).2 (W1, S1) (by simp) h
      · exact (h2 g hg).2 (W2, S2) (by simp) h
    · exact (h2 g hg).2 p (by simp [hp])
  · rcases List.mem_cons.1 hp with rfl | hp
    · exact Nat.le_refl _
    · exact hw.old p (by simp [hp])

/-- The loop: at every round's head the state, and what lies behind, is one of the family. -/
def LoopF (X : Cx) (J : ι → Past × St) (Inv : ι → Prop) (μ : ι → Nat) (i : ι) : Act → World → Prop := fun a w => ∃ j, Inv j ∧ μ j < μ i ∧ HA X.N X.ds (J j).2 a ∧ HW X.B X.w0 (J j).1 (J j).2 w

theorem C_loopF (J : ι → Past × St) (Inv : ι → Prop) (μ : ι → Nat) (i0 : World → ι) (h0 : ∀ w, HW X.B X.w0 Ps σ w → Inv (i0 w) ∧ (∃ ob, subL σ.sl (J (i0 w)).2.sl [] = some ob ∧ AllP ob) ∧ HW X.B X.w0 (J (i0 w)).1 (J (i0 w)).2 w) {c : Code}
    (body : ∀ i, Inv i → C X (J i).1 (Exit.then (LoopF X J Inv μ i) Q) c (J i).2) : C X Ps Q (.loop c) σ := by
  intro a w ha hw
  have hd : ∀ (a : Act) (w : World), (∃ i, Inv i ∧ HA X.N X.ds (J i).2 a ∧ HW X.B X.w0 (J i).1 (J i).2 w) → ∃ n, ∃ i, Inv i ∧ HA X.N X.ds (J i).2 a ∧ HW X.B X.w0 (J i).1 (J i).2 w ∧ μ i = n ∧ ∀ j, Inv j → HA X.N X.ds (J j).2 a → HW X.B X.w0 (J j).1 (J j).2 w → n ≤ μ j := by
    rintro a w ⟨i, h1, h2, h3⟩
    have : ∀ n i, μ i = n → Inv i → HA X.N X.ds (J i).2 a → HW X.B X.w0 (J i).1 (J i).2 w → ∃ n, ∃ i, Inv i ∧ HA X.N X.ds (J i).2 a ∧ HW X.B X.w0 (J i).1 (J i).2 w ∧ μ i = n ∧ ∀ j, Inv j → HA X.N X.ds (J j).2 a → HW X.B X.w0 (J j).1 (J j).2 w → n ≤ μ j := by
      intro n
      induction n using Nat.strongRecOn with
      | _ n ih =>
        intro i hn h1 h2 h3
        by_cases hlt : ∃ j, Inv j ∧ HA X.N X.ds (J j).2 a ∧ HW X.B X.w0 (J j).1 (J j).2 w ∧ μ j < n
        · obtain ⟨j, g1, g2, g3, g4⟩ := hlt
          exact ih (μ j) g4 j rfl g1 g2 g3
        · refine ⟨n, i, h1, h2, h3, hn, fun j g1 g2 g3 => ?_⟩
          rcases Nat.lt_or_ge (μ j) n with h | h
          · exact (hlt ⟨j, g1, g2, g3, h⟩).elim
          · exact h
    exact this _ i rfl h1 h2 h3
  classical
  let M : Act → World → Nat := fun a w => if h : ∃ i, Inv i ∧ HA X.N X.ds (J i).2 a ∧ HW X.B X.w0 (J i).1 (J i).2 w then Classical.choose (hd a w h) else 0
  have hM : ∀ a w (h : ∃ i, Inv i ∧ HA X.N X.ds (J i).2 a ∧ HW X.B X.w0 (J i).1 (J i).2 w), ∃ i, Inv i ∧ HA X.N X.ds (J i).2 a ∧ HW X.B X.w0 (J i).1 (J i).2 w ∧ μ i = M a w ∧ ∀ j, Inv j → HA X.N X.ds (J j).2 a → HW X.B X.w0 (J j).1 (J j).2 w → M a w ≤ μ j := by
    intro a w h
    have : M a w = Classical.choose (hd a w h) := by simp only [M, dif_pos h]
    rw [this]
    exact Classical.choose_spec (hd a w h)
  obtain ⟨g0, ⟨ob, g1, g2⟩, g3⟩ := h0 w hw
  refine wpIn_loop (fun a w => ∃ i, Inv i ∧ HA X.N X.ds (J i).2 a ∧ HW X.B X.w0 (J i).1 (J i).2 w) M ⟨i0 w, g0, ⟨ha.size, ha.defers, (subL_some ha _ _ _ g1 g2).2⟩, g3⟩ fun a w h => ?_
  obtain ⟨i, h1, h2, h3, h4, _⟩ := hM a w h
  refine wpIn_mono (body i h1 a w h2 h3) (fun e a' w' q => ?_)
  cases e with
  | normal =>
    obtain ⟨j, g1, g2, g3, g4⟩ := q
    have hex : ∃ i, Inv i ∧ HA X.N X.ds (J i).2 a' ∧ HW X.B X.w0 (J i).1 (J i).2 w' := ⟨j, g1, g3, g4⟩
    obtain ⟨_, _, _, _, _, hmin⟩ := hM a' w' hex
    exact ⟨hex, by have := hmin j g1 g3 g4; omega⟩
  | exit id => exact q
  | goto l => exact q
  | ret => exact q
  | panic c => exact q
  | outgrown => exact q
/-- At a round's end. -/
theorem G_loopF {J : ι → Past × St} {Inv : ι → Prop} {μ : ι → Nat} {i : ι} (j : World → ι) (h : ∀ w, HW X.B X.w0 Ps σ w → Inv (j w) ∧ μ (j w) < μ i ∧ (∃ ob, subL σ.sl (J (j w)).2.sl [] = some ob ∧ AllP ob) ∧ HW X.B X.w0 (J (j w)).1 (J (j w)).2 w) :
    G X Ps (Exit.then (LoopF X J Inv μ i) Q) .normal σ := fun a w ha hw => by
  obtain ⟨g0, g4, ⟨ob, g1, g2⟩, g3⟩ := h w hw
  exact ⟨j w, g0, g4, ⟨ha.size, ha.defers, (subL_some ha _ _ _ g1 g2).2⟩, g3⟩
end
end Go.E
