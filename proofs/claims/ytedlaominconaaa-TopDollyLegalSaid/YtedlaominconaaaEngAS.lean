/- An append of a whole slice, whose room is known. -/
import Derived.Test.YtedlaominconaaaEngY
namespace Go.E
set_option linter.unusedSimpArgs false
set_option linter.unusedVariables false
open Go.RowKit
section
variable {X : Cx} {Ps : Past} {sl : List (Nat × AV)} {bx : List Bx} {rw : List Rw} {o : Oper} {l l0 rest : List Oper} {Q : Exit → Act → World → Prop} {d : Nat}
/-- A row that is not empty has a block of its own, and room for what it holds. -/
theorem S_row1 {i : Nat} {r : Rw} {n : Nat} {A : Option Addr} {cap : Nat} (hr : nth rw i = some r) (hn : r.n = n) (h0 : 0 < n) (hv : r.val = .slice A n cap) (k : ∀ g, A = some ⟨g, 0, none⟩ → n ≤ cap → S X Ps l0 Q l ⟨sl, bx, rw⟩) : S X Ps l0 Q l ⟨sl, bx, rw⟩ := by
  intro a w ha hw
  obtain ⟨hro, _⟩ := hw.row r (nth_mem hr)
  rcases hro.2 with ⟨h1, h2⟩ | ⟨g, cp, cur, h1, _, _, h2, _⟩
  · omega
  · rw [hv] at h1
    injection h1 with h3 h4 h5
    subst h5
    exact k g h3 (by omega) a w ha hw
theorem updR_ex : ∀ (i : Nat) (l : List Rw) (y : Rw), i < l.length → updR i l y some = some (l.set i y)
  | _, [], y, h => by simp at h
  | 0, x :: l, y, h => rfl
  | i + 1, x :: l, y, h => by
    have key : ∀ (i : Nat) (l : List Rw) (f : List Rw → List Rw), i < l.length → updR i l y (fun z => some (f z)) = some (f (l.set i y)) := by
      intro i l
      induction l generalizing i with
      | nil => intro f h; simp at h
      | cons x l ih =>
        intro f h
        cases i with
        | zero => rfl
        | succ i => exact ih i (fun z => f (x :: z)) (by simpa using h)
    exact key i l (fun z => x :: z) (by simpa using h)
theorem S_appendS1 {t : TypeId} {A : Option Addr} {n cap i : Nat} {B : Option Addr} {m c d : Nat} {ob : List Prop} (h : appVS X.N o sl bx rw = some (t, A, n, cap, i, B, m, c, d, ob)) (hob : AllP ob)
    {ti te : TI} {e es : Nat} (hl : look X.T t = some ti) (hk : ti.k = .slice e es) (hle : look X.T e = some te) (hes : 0 < es ∧ te.zero.length = es)
    {r : Rw} (hr : nth rw i = some r) (hrv : r.e = e ∧ r.size = es ∧ r.n = n ∧ r.val = .slice A n cap)
    (news : List Value) (hm : news.length = m * es) (hB : B = none → m = 0 ∧ c = 0) (hone : ∀ u ∈ news, u.oneCell' = true) (hsrc : ∀ w, HW X.B X.w0 Ps ⟨sl, bx, rw⟩ w → ∀ ad, B = some ad → ∀ j u, news[j]? = some u → w.cell? (ad.add j) = some u)
    (hbound : n + m ≤ maxLen ∧ (n + m) * te.bytes ≤ 140737488355328) (n' : Nat) (hn' : n + m = n') (h0 : 0 < n')
    (k : ∀ g cap', n' ≤ cap' → ∃ rw', updR i rw ⟨e, es, n', r.xs ++ news, .slice (some ⟨g, 0, none⟩) n' cap'⟩ some = some rw' ∧ S X Ps l0 Q rest ⟨(d, .s (.r (some ⟨g, 0, none⟩) n' cap' i)) :: sl, bx, rw'⟩) :
    S X Ps l0 Q (o :: rest) ⟨sl, bx, rw⟩ := by
  subst hn'
  have hi : i < rw.length := by
    rw [nth_eq] at hr
    exact (List.getElem?_eq_some_iff.1 hr).1
  refine S_appendS h hob hl hk hle hes hr hrv news hm hB hone hsrc hbound (fun A' cap' => ⟨_, updR_ex i rw _ hi, ?_⟩)
  refine S_row1 (i := i) (r := ⟨e, es, n + m, r.xs ++ news, .slice A' (n + m) cap'⟩) (n := n + m) (A := A') (cap := cap') (by rw [nth_eq]; simp [hi]) rfl h0 rfl (fun g hA hc => ?_)
  subst hA
  obtain ⟨rw', h1, h2⟩ := k g cap' hc
  rw [updR_ex i rw _ hi] at h1
  injection h1 with h1
  subst h1
  exact h2
end
end Go.E
