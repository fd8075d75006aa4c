/- A literal of a slice becomes a row in the midst of a region; an owned row as a slice. -/
import Derived.Test.YtedlaominconaaaEngAH
namespace Go.E
set_option linter.unusedSimpArgs false
set_option linter.unusedVariables false
open Go.RowKit

section
variable {X : Cx} {T : TT} {Ps : Past} {σ σ' : St} {l0 l rest : List Oper} {Q : Exit → Act → World → Prop} {K : Act → Prop} {o : Oper}
variable {sl : List (Nat × AV)} {bx : List Bx} {rw : List Rw}
/-- As C_boxRow, before operations. -/
theorem S_boxRow (t size n : Nat) {x : Bx} {bx' : List Bx} (hbx : bx = bx' ++ [x]) (h : look sl t = some (.s (.v (.slice (some ⟨x.b, 0, none⟩) n n)))) {xs : List Value} (hx : x.cs.map PV.c = xs) (hl : xs.length = n * size) (hn : n ≤ maxLen)
    (k : S X Ps l0 Q l ⟨(t, .s (.r (some ⟨x.b, 0, none⟩) n n rw.length)) :: sl, bx', rw ++ [⟨x.ty, size, n, xs, .slice (some ⟨x.b, 0, none⟩) n n⟩]⟩) : S X Ps l0 Q l ⟨sl, bx, rw⟩ := by
  subst hbx; subst hx
  intro a w ha hw
  have hnd := hw.nodup
  simp only [List.map_append, List.map_cons, List.map_nil] at hnd
  rw [List.nodup_append] at hnd
  have hxm : x ∈ bx' ++ [x] := by simp
  obtain ⟨hB, hblk⟩ := hw.box x hxm
  have hsub : ∀ y ∈ bx', y ∈ bx' ++ [x] := fun y hy => by simp [hy]
  have hne : ∀ y ∈ bx', y.b ≠ x.b := fun y hy => hnd.2.2 y.b (List.mem_map.2 ⟨y, hy, rfl⟩) x.b (by simp)
  refine k a w ⟨ha.size, ha.defers, fun t' v hv => ?_⟩ ⟨hw.below, hw.bsize, hnd.1, fun y hy => hw.box y (hsub y hy), fun p hp b hb => ⟨(hw.past p hp b hb).1, fun y hy => (hw.past p hp b hb).2 y (hsub y hy)⟩, fun r hr => ?_, ?_, hw.old⟩
  · simp only [look] at hv
    cases hb : Nat.beq t t' with
    | true =>
      have := Nat.eq_of_beq_eq_true hb
      subst this
      rw [hb] at hv
      simp only [cond_true, Option.some.injEq] at hv
      subst hv
      exact ha.at_ t (.s (.v (.slice (some ⟨x.b, 0, none⟩) n n))) h
    | false =>
      rw [hb] at hv
      exact ha.at_ t' v hv
  · simp only [List.mem_append, List.mem_singleton] at hr
    rcases hr with hr | rfl
    · obtain ⟨h1, h2⟩ := hw.row r hr
      exact ⟨h1, fun g hg => ⟨fun y hy => (h2 g hg).1 y (hsub y hy), (h2 g hg).2⟩⟩
    · refine ⟨⟨hl, .inr ⟨x.b, n, (x.cs.map PV.c).toArray, rfl, hB, hblk, Nat.le_refl _, hn, by simpa using hl, ?_⟩⟩, fun g hg => ?_⟩
      · rw [List.take_of_length_le (by rw [hl]; exact Nat.le_refl _)]
      · have hg' : x.b = g := by simpa [Value.ownBlock] using hg
        subst hg'
        exact ⟨hne, fun p hp hpb => (hw.past p hp x.b hpb).2 x hxm rfl⟩
  · rw [List.pairwise_append]
    refine ⟨hw.apart, by simp, fun r hr s hs g hg => ?_⟩
    simp only [List.mem_singleton] at hs
    subst hs
    intro h2
    have h2' : x.b = g := by simpa [Value.ownBlock] using h2
    exact ((hw.row r hr).2 g hg).1 x hxm h2'
end
/-- A row that a call has made, of at least one element, as what is behind its slice. -/
theorem own_slice {w0 w : World} {e n : Nat} {v : Value} {xs : List Value} (h : w.ownsRow w0.heap.size e 1 v n xs) (h0 : 0 < n) : ∃ ad c, v = .slice (some ad) n c ∧ RdS (fun b => w0.heap.size ≤ b ∧ b < w.heap.size) w (some ad) xs := by
  rcases h.2 with ⟨_, h2⟩ | ⟨g, cap, cur, h2, h3, hg, _⟩
  · omega
  · subst h2
    exact ⟨⟨g, 0, none⟩, cap, rfl, .inr ⟨_, rfl, ⟨h3, (Array.getElem?_eq_some_iff.1 hg).1⟩, h.cells (g := g) rfl⟩⟩
theorem rd_at {w : World} {ad : Addr} {xs : List Value} (h : Rd w (some ad) xs) : ∀ j u, xs[j]? = some u → w.cell? (ad.add j) = some u := by
  intro j u hu
  rcases h with h | ⟨ad', e, h2⟩
  · subst h; cases hu
  · cases e
    exact h2 j u hu
end Go.E
