/- What the law of the trees calls: contracts as they are used. -/
import Derived.Test.YtjkgklhjbopoaaaGreatDoorPartJ
import Derived.Test.YtjkgklhjbopoaaaGreatDoorMixer72
import Derived.Test.YtjkgklhjbopoaaaGreatDoorMixer76
namespace Go.Proofs.YtjkgklhjbopoaaaGreatDoor
open Go.E Go.RowKit Go.Fl
attribute [local irreducible] G C S D Calls
set_option maxRecDepth 100000
set_option linter.unusedSimpArgs false
set_option linter.unusedVariables false
set_option maxHeartbeats 8000000
section
variable {A B : Option Addr} {c c2 : Nat} {w : World} {t x y : List Nod} {l v' : List (Int × Int)} {k : List Int} {e : Int} {b : Bool}
theorem one_ivs (l : List (Int × Int)) : ∀ u ∈ l.flatMap ivC, u.oneCell' = true := by
  intro u hu
  obtain ⟨x, _, hx⟩ := List.mem_flatMap.1 hu
  simp only [ivC, List.mem_cons, List.mem_nil_iff, or_false] at hx
  rcases hx with rfl | rfl <;> rfl
theorem rgR_eq (h : trE t = 0) : rgR t l = if rrE t l = 0 then (rgN t (gR l) t.length, 0) else ([], rrE t l) := by
  unfold rgR rgE1 rrE
  by_cases h8 : (8 : Int) < l.length
  · simp [firstL, h, wh, h8]
  · by_cases h2 : firstL (l.map ivE) = 0
    · by_cases h3 : (scI t).any (gtB l.length) = true
      · simp [firstL, h, wh, h8, h2, h3]
      · have h3 : (scI t).any (gtB l.length) = false := by simpa using h3
        simp [firstL, h, wh, h8, h2, h3]
    · simp [firstL, h, wh, h8, h2]
theorem rgR_no (h : ¬ trE t = 0) : rgR t l = ([], trE t) := by
  unfold rgR rgE1
  simp [firstL, h]
theorem rrE_ok (h : rrE t l = 0) : l.length ≤ 8 ∧ (scI t).any (gtB l.length) = false := by
  unfold rrE at h
  by_cases h8 : (8 : Int) < l.length
  · rw [if_pos h8] at h; omega
  · rw [if_neg h8] at h
    by_cases h2 : firstL (l.map ivE) = 0
    · rw [if_pos h2] at h
      refine ⟨by omega, ?_⟩
      cases h3 : (scI t).any (gtB l.length)
      · rfl
      · rw [h3, if_pos rfl] at h; omega
    · rw [if_neg h2] at h
      exact absurd h h2
theorem same_as {n k : Nat} (hk : t.length = k) (hn : t.length = n) (hl : t.length ≤ 1000000) (hr : Rd w A (t.flatMap ndC)) (hr2 : Rd w B (t.flatMap ndC)) : Calls Tryz.prog 36 #[.slice A k c, .slice B n c2] w fun r w' => r = .returned (.bool true) ∧ Below w.heap.size w w' := by
  subst hk hn
  have := xSame_c A c t hl B c2 t hl w hr hr2
  rw [decide_eq_true rfl] at this
  exact this
theorem xshort_as (h : shT t = b) (hl : t.length ≤ maxLen) (hr : Rd w A (t.flatMap ndC)) : Calls Tryz.prog 27 #[.slice A t.length c] w fun r w' => r = .returned (.bool b) ∧ Below w.heap.size w w' := by
  subst h
  exact xShort_c A c t hl w hr
theorem xtree_as (h : trE t = e) (hl : t.length ≤ 1000000) (hr : Rd w A (t.flatMap ndC)) : Calls Tryz.prog 32 #[.slice A t.length c] w fun r w' => r = .returned (.int .i64 e) ∧ Below w.heap.size w w' := by
  subst h
  exact xCheckTree_c A c t hl w hr
theorem tree_as (h : trE t = e) (hl : t.length ≤ 1000000) (hr : Rd w A (t.flatMap ndC)) (hsh : Sh w) : Calls Tryz.prog 50 #[.slice A t.length c] w fun r w' => r = .returned (.int .i64 e) ∧ Below w.heap.size w w' := by
  subst h
  exact mCheckTree_c A c t hl w hr hsh
theorem xcr_as (h : rrE t l = e) (hl : t.length ≤ 1000000) (hl2 : l.length ≤ 1000000) (hr : Rd w A (t.flatMap ndC)) (hr2 : Rd w B (l.flatMap ivC)) : Calls Tryz.prog 48 #[.slice A t.length c, .slice B l.length c2] w fun r w' => r = .returned (.int .i64 e) ∧ Below w.heap.size w w' := by
  subst h
  exact xCheckRanges_c A c t hl B c2 l hl2 w hr hr2
theorem sources_as (h : soR t = (k, e)) (hl : t.length ≤ 1000000) (hr : Rd w A (t.flatMap ndC)) (hsh : Sh w) : Calls Tryz.prog 43 #[.slice A t.length c] w fun r w' => ∃ v, r = .returned v ∧ Below w.heap.size w w' ∧ Sl2 w w' v k.length (k.map (.int .i64)) (.int .i64 e) := by
  have := mSources_c A c t hl w hr hsh
  rw [h] at this
  exact this
theorem pruned_as (h : pruR t = (x, e)) (hl : t.length ≤ 1000000) (hr : Rd w A (t.flatMap ndC)) (hsh : Sh w) : Calls Tryz.prog 44 #[.slice A t.length c] w fun r w' => ∃ v, r = .returned v ∧ Below w.heap.size w w' ∧ Sl2 w w' v x.length (x.flatMap ndC) (.int .i64 e) := by
  have := mPruned_c A c t hl w hr hsh
  rw [h] at this
  exact this
theorem ranges_as {n : Nat} (h : rgR t l = (v', e)) (hn : l.length = n) (hl : t.length ≤ 1000000) (hl2 : l.length ≤ 1000000) (hr : Rd w A (t.flatMap ndC)) (hr2 : Rd w B (l.flatMap ivC)) (hsh : Sh w) : Calls Tryz.prog 45 #[.slice A t.length c, .slice B n c2] w fun r w' => ∃ v, r = .returned v ∧ Below w.heap.size w w' ∧ Sl2 w w' v v'.length (v'.flatMap ivC) (.int .i64 e) := by
  subst hn
  have := mRanges_c A c t hl B c2 l hl2 w hr hr2 hsh
  rw [h] at this
  exact this
theorem xsources_as (h : scI t = k) (hl : t.length ≤ 1000000) (hr : Rd w A (t.flatMap ndC)) : Calls Tryz.prog 46 #[.slice A t.length c] w fun r w' => ∃ v, r = .returned v ∧ Below w.heap.size w w' ∧ Sl w w' v k.length (k.map (.int .i64)) := by
  subst h
  exact xSources_c A c t hl w hr
theorem xprun_as (h : prF t = x) (ht : TrOk t) (hr : Rd w A (t.flatMap ndC)) : Calls Tryz.prog 47 #[.slice A t.length c] w fun r w' => ∃ v, r = .returned v ∧ Below w.heap.size w w' ∧ Sl w w' v x.length (x.flatMap ndC) := by
  subst h
  exact xPruned_c A c t ht w hr
theorem xranges_as (h : rgN t (gR l) t.length = v') (ht : TrOk t) (hE : rrE t l = 0) (hr : Rd w A (t.flatMap ndC)) (hr2 : Rd w B (l.flatMap ivC)) : Calls Tryz.prog 49 #[.slice A t.length c, .slice B l.length c2] w fun r w' => ∃ v, r = .returned v ∧ Below w.heap.size w w' ∧ Sl w w' v v'.length (v'.flatMap ivC) := by
  subst h
  exact xRanges_c A c t ht B c2 l (rrE_ok hE).1 (rrE_ok hE).2 w hr hr2
end
end Go.Proofs.YtjkgklhjbopoaaaGreatDoor
