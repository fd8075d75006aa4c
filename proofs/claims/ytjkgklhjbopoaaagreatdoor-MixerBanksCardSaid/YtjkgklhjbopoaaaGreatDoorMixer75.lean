/- What the law of the banks calls: contracts as they are used. -/
import Derived.Test.YtjkgklhjbopoaaaGreatDoorPartJ
import Derived.Test.YtjkgklhjbopoaaaGreatDoorMixer74
namespace Go.Proofs.YtjkgklhjbopoaaaGreatDoor
open Go.E Go.RowKit Go.Fl
attribute [local irreducible] G C S D Calls
set_option maxRecDepth 100000
set_option linter.unusedSimpArgs false
set_option linter.unusedVariables false
set_option maxHeartbeats 8000000
section
variable {A B : Option Addr} {c c2 : Nat} {w : World} {t s x y : List Nod} {node m e : Int} {b : Bool}
theorem pr_le (t : List Nod) : (prF t).length ≤ t.length := by
  rw [pr_len]
  exact toN_le _
theorem cuR_eq (t : List Nod) (node m : Int) : cuR t node m = if ccE t node m = 0 then (prF (t.take (node.toNat + 1)), prF (t.set node.toNat (opN m)), 0) else ([], [], ccE t node m) := by
  unfold cuR ccE
  by_cases h : cuE t node m = 0
  · rw [if_pos h, if_pos h]
    cases (scI t).any (eqB m) <;> simp [wh]
  · rw [if_neg h, if_neg h, if_neg h]
theorem ccE_ok (h : ccE t node m = 0) : TrOk t ∧ (0 ≤ node ∧ node < (t.length : Int) - 1) ∧ 0 ≤ m ∧ m ≤ 7 := by
  unfold ccE at h
  by_cases hc : cuE t node m = 0
  · exact cuE_ok hc
  · rw [if_neg hc] at h
    exact absurd h hc
theorem cuR_bd (hl : t.length ≤ 1000000) (h : cuR t node m = (x, y, e)) : x.length ≤ 1000000 ∧ y.length ≤ 1000000 := by
  rw [cuR_eq] at h
  by_cases hc : ccE t node m = 0
  · rw [if_pos hc] at h
    simp only [Prod.mk.injEq] at h
    obtain ⟨rfl, rfl, _⟩ := h
    refine ⟨Nat.le_trans (pr_le _) ?_, Nat.le_trans (pr_le _) ?_⟩
    · rw [List.length_take]; omega
    · rw [List.length_set]; exact hl
  · rw [if_neg hc] at h
    simp only [Prod.mk.injEq] at h
    obtain ⟨rfl, rfl, _⟩ := h
    exact ⟨Nat.zero_le _, Nat.zero_le _⟩
theorem joR_bd (hl : t.length ≤ 1000000) (h : joR t s m = (x, e)) : x.length ≤ 1000000 := by
  unfold joR at h
  repeat' split at h
  all_goals (simp only [Prod.mk.injEq] at h; obtain ⟨rfl, _⟩ := h)
  all_goals first | exact hl | exact Nat.zero_le _ | omega
theorem xshort_as (h : shT t = b) (hl : t.length ≤ maxLen) (hr : Rd w A (t.flatMap ndC)) : Calls Tryz.prog 27 #[.slice A t.length c] w fun r w' => r = .returned (.bool b) ∧ Below w.heap.size w w' := by
  subst h
  exact xShort_c A c t hl w hr
theorem xtree_as (h : trE t = e) (hl : t.length ≤ 1000000) (hr : Rd w A (t.flatMap ndC)) : Calls Tryz.prog 32 #[.slice A t.length c] w fun r w' => r = .returned (.int .i64 e) ∧ Below w.heap.size w w' := by
  subst h
  exact xCheckTree_c A c t hl w hr
theorem xcc2_as (h : ccE t node m = e) (hl : t.length ≤ 1000000) (hr : Rd w A (t.flatMap ndC)) : Calls Tryz.prog 31 #[.slice A t.length c, .int .i64 node, .int .i64 m] w fun r w' => r = .returned (.int .i64 e) ∧ Below w.heap.size w w' := by
  subst h
  exact xCheckCut_c A c t hl node m w hr
theorem cut_as (h : cuR t node m = (x, y, e)) (hl : t.length ≤ 1000000) (hc : t.length ≤ c) (hr : Rd w A (t.flatMap ndC)) (hsh : Sh w) : Calls Tryz.prog 28 #[.slice A t.length c, .int .i64 node, .int .i64 m] w fun r w' => ∃ v, r = .returned v ∧ Below w.heap.size w w' ∧ McR w w' v (x, y, e) := by
  have := mCut_c A c t hl hc node m w hr hsh
  rw [h] at this
  exact this
theorem joined_as (h : joR t s m = (x, e)) (hl : t.length ≤ 1000000) (hl2 : s.length ≤ 1000000) (hr : Rd w A (t.flatMap ndC)) (hr2 : Rd w B (s.flatMap ndC)) (hsh : Sh w) : Calls Tryz.prog 30 #[.slice A t.length c, .slice B s.length c2, .int .i64 m] w fun r w' => ∃ v, r = .returned v ∧ Below w.heap.size w w' ∧ Sl2 w w' v x.length (x.flatMap ndC) (.int .i64 e) := by
  have := mJoined_c A c t hl B c2 s hl2 m w hr hr2 hsh
  rw [h] at this
  exact this
theorem xcut_as (h : ccE t node m = 0) (hx : prF (t.take (node.toNat + 1)) = x) (hy : prF (t.set node.toNat (opN m)) = y) (hc : t.length ≤ c) (hr : Rd w A (t.flatMap ndC)) : Calls Tryz.prog 34 #[.slice A t.length c, .int .i64 node, .int .i64 m] w fun r w' => ∃ v, r = .returned v ∧ Below w.heap.size w w' ∧ CutR w w' v x y := by
  subst hx hy
  exact xCut_c A c t (ccE_ok h).1 hc node m (ccE_ok h).2.1 (ccE_ok h).2.2 w hr
theorem xjoined_as (h : joR t s m = (x, e)) (hE : joE t s m = 0) (hr : Rd w A (t.flatMap ndC)) (hr2 : Rd w B (s.flatMap ndC)) : Calls Tryz.prog 35 #[.slice A t.length c, .slice B s.length c2, .int .i64 m] w fun r w' => ∃ v, r = .returned v ∧ Below w.heap.size w w' ∧ Sl2 w w' v x.length (x.flatMap ndC) (.int .i64 e) := by
  have := xJoined_c A c t (joE_ok hE).1 B c2 s (joE_ok hE).2.1 m (joE_ok hE).2.2 hE w hr hr2
  rw [h] at this
  exact this
theorem same_as {n k : Nat} (hk : t.length = k) (hn : t.length = n) (hl : t.length ≤ 1000000) (hr : Rd w A (t.flatMap ndC)) (hr2 : Rd w B (t.flatMap ndC)) : Calls Tryz.prog 36 #[.slice A k c, .slice B n c2] w fun r w' => r = .returned (.bool true) ∧ Below w.heap.size w w' := by
  subst hk hn
  have := xSame_c A c t hl B c2 t hl w hr hr2
  rw [decide_eq_true rfl] at this
  exact this
end
end Go.Proofs.YtjkgklhjbopoaaaGreatDoor
