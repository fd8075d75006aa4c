/- What the laws of pictures call: contracts as they are used. -/
import Derived.Test.YtjkgklhjbopoaaaGreatDoorMixer58
import Derived.Test.YtjkgklhjbopoaaaGreatDoorMixer43
import Derived.Test.YtjkgklhjbopoaaaGreatDoorEng4
namespace Go.Proofs.YtjkgklhjbopoaaaGreatDoor
open Go.E Go.RowKit Go.Fl
attribute [local irreducible] G C S D Calls
set_option maxRecDepth 100000
set_option linter.all false
set_option maxHeartbeats 8000000
def shortPs (l : List PV') : Bool := (l.all fun x => shortB x.p) && (decide ((l.length : Int) ≤ 4) || ((l.length : Int) == 9))
theorem aD0 {l : List PV'} (h : shortPs l = true) : l.length ≤ 9 ∧ ∀ x ∈ l, x.p.nm.size ≤ 40 ∧ x.p.s.length ≤ 160 := by
  simp only [shortPs, Bool.and_eq_true, List.all_eq_true, Bool.or_eq_true, decide_eq_true_eq, beq_iff_eq] at h
  exact ⟨by omega, fun x hx => aJ0 (h.1 x hx)⟩
theorem aC7 {l : List PV'} {k : Nat} (hk : k < l.length) (h : shortB (gQ l k).p = false) : shortPs l = false := by
  have : (l.all fun x => shortB x.p) = false := by
    rw [List.all_eq_false]
    exact ⟨gQ l k, B3 hk, by simp [h]⟩
  unfold shortPs
  rw [this, Bool.false_and]
theorem aw7 {l : List PV'} (h : ∀ k, k < l.length → shortB (gQ l k).p = true) : shortPs l = (decide ((l.length : Int) ≤ 4) || ((l.length : Int) == 9)) := by
  have : (l.all fun x => shortB x.p) = true := by
    rw [List.all_eq_true]
    intro x hx
    obtain ⟨k, hk, rfl⟩ := List.getElem_of_mem hx
    have := h k hk
    rwa [T0 hk] at this
  unfold shortPs
  rw [this, Bool.true_and]
theorem ae3 (A : Option Addr) (c : Nat) (l : List PV') (hl : l.length ≤ maxLen) (v : Bool) (hv : shortPs l = v) (w : World) (hr : Rd w A (l.flatMap pvC)) : Calls Tryz.prog 52 #[.slice A l.length c] w fun r w' => r = .returned (.bool v) ∧ Below w.heap.size w w' := by
  refine i7 n9 Tryz.func52 rfl Tryz.ntmps52 (Nat.le_of_ble_eq_true rfl) rfl ?_
  subst hv
  unfold maxLen at hl
  repeat' (first
|(refine j7 ?_; first
|refine e8 ?_
|refine a6 rfl ?_
|refine j1 ?_
|refine j3 ?_
|refine i6 ?_
|(refine j0 rfl obQ ?_ ?_ <;> intro h <;> (try simp only [cdS] at h)))
|refine e7 ?_
|refine e9 rfl rfl obQ obQ ?_
|refine a7 ?_
|refine j6 ?_
|refine j4 rfl obQ (fun w hw => ⟨?_, hw.below⟩))
  refine p7 (fun k : Nat => ⟨[(3, .s (.v (.int .i64 k))), (0, .s (.v (.slice A l.length c)))], [], []⟩) (fun k => k ≤ l.length ∧ ∀ j, j < k → shortB (gQ l j).p = true) (fun k => l.length - k) 0 ⟨Nat.zero_le _, fun j hj => absurd hj (Nat.not_lt_zero j)⟩ ?_ (fun k hk => ?_)
  · exact svQ
  by_cases hlt : k < l.length
  · obtain ⟨ad, rfl⟩ := hr.some (by rw [M5]; omega)
    cases hsb : shortB (gQ l k).p
    · rw [aC7 hlt hsb]
      repeat' (first
|(refine j7 ?_; first
|refine e8 ?_
|refine a6 rfl ?_
|refine j1 ?_
|refine j3 ?_
|refine i6 ?_
|refine o5 rfl obQ ?_
|(refine j0 rfl obQ ?_ ?_ <;> intro h <;> (try simp only [cdS] at h) <;> (try (exfalso; omega)) <;> (try exact cdF h) <;> (try (exfalso; first | omega | (simp at h; done)))))
|(refine k6 ?_; first
|refine n4 rfl obQ rfl [.string (gQ l k).p.nm, .int .i64 (gQ l k).p.w, .int .i64 (gQ l k).p.h, .slice (gQ l k).A (gQ l k).p.s.length (gQ l k).c] (.past (w, fun b => b < w.heap.size) memQ _ _ hr.toS _ _ rfl rfl (O1 hlt)) rfl (.inl ⟨rfl, rfl⟩) ?_
|refine e7 ?_
|refine e9 rfl rfl obQ obQ ?_
|refine a8 (f := 86) rfl obQ (by kernel_rfl) (fun w hw => N8 (gQ l k).p _ _ _ hsb w) ?_)
|(refine o8 ?_; first
|refine a7 ?_
|refine r8 ?_
|refine j6 ?_
|refine j4 rfl obQ (fun w hw => ⟨?_, hw.below⟩)))
      all_goals rfl
    · repeat' (first
|(refine j7 ?_; first
|refine e8 ?_
|refine a6 rfl ?_
|refine j1 ?_
|refine j3 ?_
|refine n7 rfl obQ ?_
|(refine j0 rfl obQ ?_ ?_ <;> intro h <;> (try simp only [cdS] at h) <;> (try (exfalso; omega)) <;> (try exact cdF h) <;> (try (exfalso; first | omega | (simp at h; done)))))
|(refine k6 ?_; first
|refine n4 rfl obQ rfl [.string (gQ l k).p.nm, .int .i64 (gQ l k).p.w, .int .i64 (gQ l k).p.h, .slice (gQ l k).A (gQ l k).p.s.length (gQ l k).c] (.past (w, fun b => b < w.heap.size) memQ _ _ hr.toS _ _ rfl rfl (O1 hlt)) rfl (.inl ⟨rfl, rfl⟩) ?_
|refine e7 ?_
|refine e9 rfl rfl obQ obQ ?_
|refine a8 (f := 86) rfl obQ (by kernel_rfl) (fun w hw => N8 (gQ l k).p _ _ _ hsb w) ?_)
|refine o6 (k + 1) ⟨by omega, fun j hj => by by_cases e : j = k; subst e; exact hsb; exact hk.2 j (by omega)⟩ (by omega) svQ
|refine a7 ?_
|refine n5 ?_)
  · rw [aw7 (fun j hj => hk.2 j (by omega))]
    obtain rfl : k = l.length := by omega
    repeat' (first
|(refine j7 ?_; first
|refine e8 ?_
|refine a6 rfl ?_
|refine o0 ?_
|refine i6 ?_
|(refine j0 rfl obQ ?_ ?_ <;> intro h <;> (try simp only [cdS] at h) <;> (try (exfalso; omega)) <;> (try exact cdF h) <;> (try (exfalso; omega))))
|refine e7 ?_
|refine e9 rfl rfl obQ obQ ?_
|(refine o8 ?_; first
|refine a7 ?_
|refine n2 ?_
|refine n6 ?_
|refine j4 rfl obQ (fun w hw => ⟨?_, hw.below⟩)))
    all_goals rfl
section
variable {p q : Pic} {A B D : Option Addr} {c c2 c3 : Nat} {w : World} {l k k2 : List Int} {e cl ga cu cv u t : Int} {b : Bool} {y : Pic}
theorem bq8 (l : List Int) : (wiP p l).s.length = l.length := by simp [wiP]
end
section
variable {p q : Pic} {A B D : Option Addr} {c c2 c3 : Nat} {w : World} {l k k2 : List Int} {e cl ga cu cv u t : Int} {b : Bool} {y : Pic}
end
end Go.Proofs.YtjkgklhjbopoaaaGreatDoor
