/- Mixer: whole trees, short trees, where a tree may be cut: contracts of the reference. -/
import Derived.Test.YtjkgklhjbopoaaaGreatDoorPartK
namespace Go.Proofs.YtjkgklhjbopoaaaGreatDoor
open Go.E Go.RowKit Go.Fl
attribute [local irreducible] G C S D Calls
set_option maxRecDepth 100000
set_option linter.all false
set_option maxHeartbeats 8000000
theorem aZ2 {t s : List Nod} (h : t.length = s.length) (hi : ∀ j, j < t.length → gN t j = gN s j) : t = s := by
  refine List.ext_getElem h fun j h1 h2 => ?_
  have := hi j h1
  rwa [E6 h1, E6 h2] at this
def shNd (x : Nod) : Bool := decide (x.kd.size ≤ 40) && decide (x.w.sh.size ≤ 40)
def shT (t : List Nod) : Bool := t.all shNd && (decide ((t.length : Int) ≤ 7) || ((t.length : Int) == 17))
theorem ax5 {x : Nod} : shNd x = true ↔ x.kd.size ≤ 40 ∧ x.w.sh.size ≤ 40 := by
  unfold shNd
  rw [Bool.and_eq_true, decide_eq_true_eq, decide_eq_true_eq]
theorem aP4 {t : List Nod} {k : Nat} (h : k < t.length) (hk : ¬ ((gN t k).kd.size ≤ 40 ∧ (gN t k).w.sh.size ≤ 40)) : shT t = false := by
  have : t.all shNd = false := by
    cases e : t.all shNd
    · rfl
    · rw [List.all_eq_true] at e
      have := ax5.1 (e t[k] (List.getElem_mem h))
      rw [E6 h] at hk
      exact absurd this hk
  unfold shT
  rw [this, Bool.false_and]
theorem ba5 {t : List Nod} (h : ∀ j, j < t.length → (gN t j).kd.size ≤ 40 ∧ (gN t j).w.sh.size ≤ 40) : shT t = (decide ((t.length : Int) ≤ 7) || ((t.length : Int) == 17)) := by
  have : t.all shNd = true := by
    rw [List.all_eq_true]
    intro x hx
    obtain ⟨j, hj, rfl⟩ := List.getElem_of_mem hx
    have := h j hj
    rw [E6 hj] at this
    exact ax5.2 this
  unfold shT
  rw [this, Bool.true_and]
theorem bq2 {t : List Nod} (h : shT t = true) : t.length ≤ 17 := by
  unfold shT at h
  simp only [Bool.and_eq_true, Bool.or_eq_true, decide_eq_true_eq, beq_iff_eq] at h
  omega
theorem be1 (A : Option Addr) (c : Nat) (t : List Nod) (hl : t.length ≤ 1000000) (B : Option Addr) (c2 : Nat) (s : List Nod) (hl2 : s.length ≤ 1000000) (w : World) (hr : Rd w A (t.flatMap ndC)) (hr2 : Rd w B (s.flatMap ndC)) : Calls Tryz.prog 36 #[.slice A t.length c, .slice B s.length c2] w fun r w' => r = .returned (.bool (decide (t = s))) ∧ Below w.heap.size w w' := by
  refine i7 n9 Tryz.func36 rfl Tryz.ntmps36 (Nat.le_of_ble_eq_true rfl) rfl ?_
  by_cases hne : t.length = s.length
  · repeat' (first
|(refine j7 ?_; first
|refine e8 ?_
|refine a6 rfl ?_
|refine j1 ?_
|refine j3 ?_
|refine o0 ?_
|refine i6 ?_
|(refine j0 rfl obQ ?_ ?_ <;> intro h <;> (try simp only [cdS] at h) <;> (try (exfalso; omega)) <;> (try exact cdF h) <;> (try contradiction) <;> (try (exfalso; omega))))
|refine e7 ?_
|refine e9 rfl rfl obQ obQ ?_
|(refine o8 ?_; first
|refine a7 ?_
|refine n2 ?_
|refine j6 ?_
|refine n6 ?_
|refine j4 rfl obQ (fun w hw => ⟨?_, hw.below⟩)))
    refine p7 (fun k : Nat => ⟨[(5, .s (.v (.int .i64 k))), (0, .s (.v (.slice A t.length c))), (1, .s (.v (.slice B s.length c2)))], [], []⟩) (fun k => k ≤ t.length ∧ ∀ j, j < k → gN t j = gN s j) (fun k => t.length - k) 0 ⟨Nat.zero_le _, fun j hj => absurd hj (Nat.not_lt_zero _)⟩ ?_ (fun k hk => ?_)
    · exact svQ
    by_cases hlt : k < t.length
    · obtain ⟨ad, rfl⟩ := hr.some (by rw [C6]; omega)
      obtain ⟨ad2, rfl⟩ := hr2.some (by rw [C6]; omega)
      by_cases he : gN t k = gN s k
      · repeat' (first
|(refine j7 ?_; first
|refine e8 ?_
|refine a6 rfl ?_
|refine j1 ?_
|refine j3 ?_
|refine n8 (id := 6) 8 [(0, true), (1, true), (2, true), (3, true), (4, true), (5, true), (6, true), (7, true)] rfl mixed (by kernel_rfl) rfl ?_
|refine n7 rfl obQ ?_
|(refine j0 rfl obQ ?_ ?_ <;> intro h <;> (try simp only [cdS] at h) <;> (try (exfalso; omega)) <;> (try exact cdF h) <;> (try contradiction) <;> (try (exfalso; omega))))
|refine j8 (k9 rfl obQ (fun w => ah2 (x := gN t k) (y := gN s k) (b := false) (decide_eq_false (fun e => e he)) _ _ w)) ?_
|refine e7 ?_
|refine e9 rfl rfl obQ obQ ?_
|(refine N2 ?_; first
|refine r5 ?_
|refine V_q rfl (q3 rfl obQ rfl [.string (gN t k).kd, .int .i64 (gN t k).a, .int .i64 (gN t k).b, .int .i64 (gN t k).c, .int .i64 (gN t k).n, .int .i64 (gN t k).cl, .int .i64 (gN t k).ga, .string (gN t k).w.sh, .int .i64 (gN t k).w.a, .int .i64 (gN t k).w.b, .int .i64 (gN t k).w.at_, .int .i64 (gN t k).w.soft] (.past (w, fun b => b < w.heap.size) memQ _ _ hr.toS _ _ rfl rfl (C5 (t := t) (k := k) rfl hlt)) rfl (.inl ⟨rfl, rfl⟩)) ?_
|refine V_q rfl (q3 rfl obQ rfl [.string (gN s k).kd, .int .i64 (gN s k).a, .int .i64 (gN s k).b, .int .i64 (gN s k).c, .int .i64 (gN s k).n, .int .i64 (gN s k).cl, .int .i64 (gN s k).ga, .string (gN s k).w.sh, .int .i64 (gN s k).w.a, .int .i64 (gN s k).w.b, .int .i64 (gN s k).w.at_, .int .i64 (gN s k).w.soft] (.past (w, fun b => b < w.heap.size) memQ _ _ hr2.toS _ _ rfl rfl (C5 (t := s) (k := k) rfl (by omega))) rfl (.inl ⟨rfl, rfl⟩)) ?_
|refine V_q rfl (k8 rfl obQ) ?_)
|refine o6 (k + 1) ⟨by omega, fun j hj => by by_cases e : j = k; subst e; exact he; exact hk.2 j (by omega)⟩ (by omega) svQ
|refine a7 ?_
|refine n5 ?_)
      · rw [decide_eq_false (fun e => he (by rw [e]) : ¬ t = s)]
        repeat' (first
|(refine j7 ?_; first
|refine e8 ?_
|refine a6 rfl ?_
|refine j1 ?_
|refine j3 ?_
|refine i6 ?_
|refine n8 (id := 6) 8 [(0, true), (1, true), (2, true), (3, true), (4, true), (5, true), (6, true), (7, true)] rfl mixed (by kernel_rfl) rfl ?_
|refine o5 rfl obQ ?_
|(refine j0 rfl obQ ?_ ?_ <;> intro h <;> (try simp only [cdS] at h) <;> (try (exfalso; omega)) <;> (try exact cdF h) <;> (try contradiction) <;> (try (exfalso; omega))))
|refine j8 (k9 rfl obQ (fun w => ah2 (x := gN t k) (y := gN s k) (b := true) (decide_eq_true he) _ _ w)) ?_
|refine e7 ?_
|refine e9 rfl rfl obQ obQ ?_
|(refine N2 ?_; first
|refine r5 ?_
|refine V_q rfl (q3 rfl obQ rfl [.string (gN t k).kd, .int .i64 (gN t k).a, .int .i64 (gN t k).b, .int .i64 (gN t k).c, .int .i64 (gN t k).n, .int .i64 (gN t k).cl, .int .i64 (gN t k).ga, .string (gN t k).w.sh, .int .i64 (gN t k).w.a, .int .i64 (gN t k).w.b, .int .i64 (gN t k).w.at_, .int .i64 (gN t k).w.soft] (.past (w, fun b => b < w.heap.size) memQ _ _ hr.toS _ _ rfl rfl (C5 (t := t) (k := k) rfl hlt)) rfl (.inl ⟨rfl, rfl⟩)) ?_
|refine V_q rfl (q3 rfl obQ rfl [.string (gN s k).kd, .int .i64 (gN s k).a, .int .i64 (gN s k).b, .int .i64 (gN s k).c, .int .i64 (gN s k).n, .int .i64 (gN s k).cl, .int .i64 (gN s k).ga, .string (gN s k).w.sh, .int .i64 (gN s k).w.a, .int .i64 (gN s k).w.b, .int .i64 (gN s k).w.at_, .int .i64 (gN s k).w.soft] (.past (w, fun b => b < w.heap.size) memQ _ _ hr2.toS _ _ rfl rfl (C5 (t := s) (k := k) rfl (by omega))) rfl (.inl ⟨rfl, rfl⟩)) ?_
|refine V_q rfl (k8 rfl obQ) ?_)
|(refine o8 ?_; first
|refine a7 ?_
|refine r8 ?_
|refine j6 ?_
|refine j4 rfl obQ (fun w hw => ⟨?_, hw.below⟩)))
        all_goals rfl
    · rw [decide_eq_true (aZ2 hne (fun j hj => hk.2 j (by omega)))]
      repeat' (first
|(refine j7 ?_; first
|refine e8 ?_
|refine a6 rfl ?_
|refine j1 ?_
|refine j3 ?_
|refine o0 ?_
|refine i6 ?_
|(refine j0 rfl obQ ?_ ?_ <;> intro h <;> (try simp only [cdS] at h) <;> (try (exfalso; omega)) <;> (try exact cdF h) <;> (try contradiction) <;> (try (exfalso; omega))))
|refine e7 ?_
|refine e9 rfl rfl obQ obQ ?_
|(refine o8 ?_; first
|refine a7 ?_
|refine n2 ?_
|refine j6 ?_
|refine n6 ?_
|refine j4 rfl obQ (fun w hw => ⟨?_, hw.below⟩)))
      all_goals rfl
  · rw [decide_eq_false (fun e => hne (by rw [e]) : ¬ t = s)]
    repeat' (first
|(refine j7 ?_; first
|refine e8 ?_
|refine a6 rfl ?_
|refine j1 ?_
|refine j3 ?_
|refine o0 ?_
|refine i6 ?_
|(refine j0 rfl obQ ?_ ?_ <;> intro h <;> (try simp only [cdS] at h) <;> (try (exfalso; omega)) <;> (try exact cdF h) <;> (try contradiction) <;> (try (exfalso; omega))))
|refine e7 ?_
|refine e9 rfl rfl obQ obQ ?_
|(refine o8 ?_; first
|refine a7 ?_
|refine n2 ?_
|refine j6 ?_
|refine n6 ?_
|refine j4 rfl obQ (fun w hw => ⟨?_, hw.below⟩)))
    all_goals rfl
theorem aQ4 (A : Option Addr) (c : Nat) (t : List Nod) (hl : t.length ≤ maxLen) (w : World) (hr : Rd w A (t.flatMap ndC)) : Calls Tryz.prog 27 #[.slice A t.length c] w fun r w' => r = .returned (.bool (shT t)) ∧ Below w.heap.size w w' := by
  refine i7 n9 Tryz.func27 rfl Tryz.ntmps27 (Nat.le_of_ble_eq_true rfl) rfl ?_
  unfold maxLen at hl
  repeat' (first
|(refine j7 ?_; first
|refine e8 ?_
|refine a6 rfl ?_
|refine j1 ?_
|refine j3 ?_
|refine i6 ?_
|(refine j0 rfl obQ ?_ ?_ <;> intro h <;> (try simp only [cdS] at h)))
|refine e7 ?_
|refine e9 rfl rfl obQ obQ ?_
|refine a7 ?_
|refine j6 ?_
|refine j4 rfl obQ (fun w hw => ⟨?_, hw.below⟩))
  refine p7 (fun k : Nat => ⟨[(3, .s (.v (.int .i64 k))), (0, .s (.v (.slice A t.length c)))], [], []⟩) (fun k => k ≤ t.length ∧ ∀ j, j < k → (gN t j).kd.size ≤ 40 ∧ (gN t j).w.sh.size ≤ 40) (fun k => t.length - k) 0 ⟨Nat.zero_le _, fun j hj => absurd hj (Nat.not_lt_zero _)⟩ ?_ (fun k hk => ?_)
  · exact svQ
  by_cases hlt : k < t.length
  · obtain ⟨ad, rfl⟩ := hr.some (by rw [C6]; omega)
    by_cases h1 : (gN t k).kd.size ≤ 40
    · by_cases h2 : (gN t k).w.sh.size ≤ 40
      · repeat' (first
|(refine j7 ?_; first
|refine e8 ?_
|refine a6 rfl ?_
|refine j1 ?_
|refine j3 ?_
|refine o5 rfl obQ ?_
|refine n7 rfl obQ ?_)
|(refine k6 ?_; first
|((with_reducible (first | refine r3 ?_ ?_ | refine q6 ?_ ?_ | refine q9 ?_ ?_ | refine q8 ?_ ?_ | refine q7 ?_ ?_)); · (first | rfl | omega | exact decide_eq_false (by omega)))
|((with_reducible refine A7 ?_ ?_ ?_); (· rfl); (· first | rfl | (first | rfl | omega | exact decide_eq_false (by omega))))
|((with_reducible (first | refine y3 ?_ ?_ | refine x7 ?_ ?_ | refine x9 ?_ ?_ | refine y4 ?_ ?_ | refine x8 ?_ ?_)); · (first | rfl | assumption | omega | exact decide_eq_true (by omega)))
|refine w8 rfl rfl rfl rfl ?_
|refine n4 rfl obQ rfl [.string (gN t k).kd] (.past (w, fun b => b < w.heap.size) memQ _ _ hr.toS (((k : Nat) : Int).toNat * 12 + 0) _ rfl (by first | exact (n3 _ _ _).trans (n3 _ _ _) | exact n3 _ _ _ | rfl) (V2 (t := t) (k := k) rfl hlt 0 rfl)) rfl (.inr ⟨rfl, rfl⟩) ?_
|refine n4 rfl obQ rfl [.string (gN t k).w.sh] (.past (w, fun b => b < w.heap.size) memQ _ _ hr.toS (((k : Nat) : Int).toNat * 12 + 7) _ rfl (by first | exact (n3 _ _ _).trans (n3 _ _ _) | exact n3 _ _ _ | rfl) (V2 (t := t) (k := k) rfl hlt 7 rfl)) rfl (.inr ⟨rfl, rfl⟩) ?_
|refine e7 ?_
|refine q4 rfl rfl obQ obQ ?_)
|refine o6 (k + 1) ⟨by omega, fun j hj => by by_cases e : j = k; subst e; exact ⟨h1, h2⟩; exact hk.2 j (by omega)⟩ (by omega) svQ
|refine a7 ?_
|refine n5 ?_)
      · rw [aP4 hlt (fun e => h2 e.2)]
        repeat' (first
|(refine j7 ?_; first
|refine e8 ?_
|refine a6 rfl ?_
|refine j1 ?_
|refine j3 ?_
|refine o0 ?_
|refine i6 ?_
|refine o5 rfl obQ ?_
|refine n7 rfl obQ ?_
|(refine j0 rfl obQ ?_ ?_ <;> intro h <;> (try simp only [cdS] at h) <;> (try (exfalso; omega)) <;> (try exact cdF h) <;> (try contradiction) <;> (try (exfalso; omega))))
|(refine k6 ?_; first
|((with_reducible (first | refine r3 ?_ ?_ | refine q6 ?_ ?_ | refine q9 ?_ ?_ | refine q8 ?_ ?_ | refine q7 ?_ ?_)); · (first | rfl | omega | exact decide_eq_false (by omega)))
|((with_reducible (first | refine y3 ?_ ?_ | refine x7 ?_ ?_ | refine x9 ?_ ?_ | refine y4 ?_ ?_ | refine x8 ?_ ?_)); · (first | rfl | assumption | omega | exact decide_eq_true (by omega)))
|refine w8 rfl rfl rfl rfl ?_
|refine B4 (.v (.bool false)) rfl rfl rfl rfl rfl ?_
|refine n4 rfl obQ rfl [.string (gN t k).kd] (.past (w, fun b => b < w.heap.size) memQ _ _ hr.toS (((k : Nat) : Int).toNat * 12 + 0) _ rfl (by first | exact (n3 _ _ _).trans (n3 _ _ _) | exact n3 _ _ _ | rfl) (V2 (t := t) (k := k) rfl hlt 0 rfl)) rfl (.inr ⟨rfl, rfl⟩) ?_
|refine n4 rfl obQ rfl [.string (gN t k).w.sh] (.past (w, fun b => b < w.heap.size) memQ _ _ hr.toS (((k : Nat) : Int).toNat * 12 + 7) _ rfl (by first | exact (n3 _ _ _).trans (n3 _ _ _) | exact n3 _ _ _ | rfl) (V2 (t := t) (k := k) rfl hlt 7 rfl)) rfl (.inr ⟨rfl, rfl⟩) ?_
|refine e7 ?_
|refine q4 rfl rfl obQ obQ ?_)
|(refine o8 ?_; first
|refine a7 ?_
|refine n2 ?_
|refine r8 ?_
|refine j6 ?_
|refine n6 ?_
|refine j4 rfl obQ (fun w hw => ⟨?_, hw.below⟩)))
        all_goals rfl
    · rw [aP4 hlt (fun e => h1 e.1)]
      repeat' (first
|(refine j7 ?_; first
|refine e8 ?_
|refine a6 rfl ?_
|refine j1 ?_
|refine j3 ?_
|refine o0 ?_
|refine i6 ?_
|refine o5 rfl obQ ?_
|refine n7 rfl obQ ?_
|(refine j0 rfl obQ ?_ ?_ <;> intro h <;> (try simp only [cdS] at h) <;> (try (exfalso; omega)) <;> (try exact cdF h) <;> (try contradiction) <;> (try (exfalso; omega))))
|(refine k6 ?_; first
|((with_reducible (first | refine r3 ?_ ?_ | refine q6 ?_ ?_ | refine q9 ?_ ?_ | refine q8 ?_ ?_ | refine q7 ?_ ?_)); · (first | rfl | omega | exact decide_eq_false (by omega)))
|((with_reducible (first | refine y3 ?_ ?_ | refine x7 ?_ ?_ | refine x9 ?_ ?_ | refine y4 ?_ ?_ | refine x8 ?_ ?_)); · (first | rfl | assumption | omega | exact decide_eq_true (by omega)))
|refine w8 rfl rfl rfl rfl ?_
|refine B4 (.v (.bool false)) rfl rfl rfl rfl rfl ?_
|refine n4 rfl obQ rfl [.string (gN t k).kd] (.past (w, fun b => b < w.heap.size) memQ _ _ hr.toS (((k : Nat) : Int).toNat * 12 + 0) _ rfl (by first | exact (n3 _ _ _).trans (n3 _ _ _) | exact n3 _ _ _ | rfl) (V2 (t := t) (k := k) rfl hlt 0 rfl)) rfl (.inr ⟨rfl, rfl⟩) ?_
|refine n4 rfl obQ rfl [.string (gN t k).w.sh] (.past (w, fun b => b < w.heap.size) memQ _ _ hr.toS (((k : Nat) : Int).toNat * 12 + 7) _ rfl (by first | exact (n3 _ _ _).trans (n3 _ _ _) | exact n3 _ _ _ | rfl) (V2 (t := t) (k := k) rfl hlt 7 rfl)) rfl (.inr ⟨rfl, rfl⟩) ?_
|refine e7 ?_
|refine q4 rfl rfl obQ obQ ?_)
|(refine o8 ?_; first
|refine a7 ?_
|refine n2 ?_
|refine r8 ?_
|refine j6 ?_
|refine n6 ?_
|refine j4 rfl obQ (fun w hw => ⟨?_, hw.below⟩)))
      all_goals rfl
  · rw [ba5 (fun j hj => hk.2 j (by omega))]
    by_cases h7 : (t.length : Int) ≤ 7
    · rw [decide_eq_true h7, Bool.true_or]
      repeat' (first
|(refine j7 ?_; first
|refine e8 ?_
|refine a6 rfl ?_
|refine j1 ?_
|refine j3 ?_
|refine o0 ?_
|refine i6 ?_
|refine o5 rfl obQ ?_
|refine n7 rfl obQ ?_
|(refine j0 rfl obQ ?_ ?_ <;> intro h <;> (try simp only [cdS] at h) <;> (try (exfalso; omega)) <;> (try exact cdF h) <;> (try contradiction) <;> (try (exfalso; omega))))
|(refine k6 ?_; first
|((with_reducible (first | refine r3 ?_ ?_ | refine q6 ?_ ?_ | refine q9 ?_ ?_ | refine q8 ?_ ?_ | refine q7 ?_ ?_)); · (first | rfl | omega | exact decide_eq_false (by omega)))
|((with_reducible (first | refine y3 ?_ ?_ | refine x7 ?_ ?_ | refine x9 ?_ ?_ | refine y4 ?_ ?_ | refine x8 ?_ ?_)); · (first | rfl | assumption | omega | exact decide_eq_true (by omega)))
|refine w8 rfl rfl rfl rfl ?_
|refine B4 (.v (.bool false)) rfl rfl rfl rfl rfl ?_
|refine n4 rfl obQ rfl [.string (gN t k).kd] (.past (w, fun b => b < w.heap.size) memQ _ _ hr.toS (((k : Nat) : Int).toNat * 12 + 0) _ rfl (by first | exact (n3 _ _ _).trans (n3 _ _ _) | exact n3 _ _ _ | rfl) (V2 (t := t) (k := k) rfl hlt 0 rfl)) rfl (.inr ⟨rfl, rfl⟩) ?_
|refine n4 rfl obQ rfl [.string (gN t k).w.sh] (.past (w, fun b => b < w.heap.size) memQ _ _ hr.toS (((k : Nat) : Int).toNat * 12 + 7) _ rfl (by first | exact (n3 _ _ _).trans (n3 _ _ _) | exact n3 _ _ _ | rfl) (V2 (t := t) (k := k) rfl hlt 7 rfl)) rfl (.inr ⟨rfl, rfl⟩) ?_
|refine e7 ?_
|refine q4 rfl rfl obQ obQ ?_)
|(refine o8 ?_; first
|refine a7 ?_
|refine n2 ?_
|refine r8 ?_
|refine j6 ?_
|refine n6 ?_
|refine j4 rfl obQ (fun w hw => ⟨?_, hw.below⟩)))
      all_goals rfl
    · rw [decide_eq_false h7, Bool.false_or]
      repeat' (first
|(refine j7 ?_; first
|refine e8 ?_
|refine a6 rfl ?_
|refine j1 ?_
|refine j3 ?_
|refine o0 ?_
|refine i6 ?_
|refine o5 rfl obQ ?_
|refine n7 rfl obQ ?_
|(refine j0 rfl obQ ?_ ?_ <;> intro h <;> (try simp only [cdS] at h) <;> (try (exfalso; omega)) <;> (try exact cdF h) <;> (try contradiction) <;> (try (exfalso; omega))))
|(refine k6 ?_; first
|((with_reducible (first | refine r3 ?_ ?_ | refine q6 ?_ ?_ | refine q9 ?_ ?_ | refine q8 ?_ ?_ | refine q7 ?_ ?_)); · (first | rfl | omega | exact decide_eq_false (by omega)))
|((with_reducible (first | refine y3 ?_ ?_ | refine x7 ?_ ?_ | refine x9 ?_ ?_ | refine y4 ?_ ?_ | refine x8 ?_ ?_)); · (first | rfl | assumption | omega | exact decide_eq_true (by omega)))
|refine w8 rfl rfl rfl rfl ?_
|refine B4 (.v (.bool false)) rfl rfl rfl rfl rfl ?_
|refine n4 rfl obQ rfl [.string (gN t k).kd] (.past (w, fun b => b < w.heap.size) memQ _ _ hr.toS (((k : Nat) : Int).toNat * 12 + 0) _ rfl (by first | exact (n3 _ _ _).trans (n3 _ _ _) | exact n3 _ _ _ | rfl) (V2 (t := t) (k := k) rfl hlt 0 rfl)) rfl (.inr ⟨rfl, rfl⟩) ?_
|refine n4 rfl obQ rfl [.string (gN t k).w.sh] (.past (w, fun b => b < w.heap.size) memQ _ _ hr.toS (((k : Nat) : Int).toNat * 12 + 7) _ rfl (by first | exact (n3 _ _ _).trans (n3 _ _ _) | exact n3 _ _ _ | rfl) (V2 (t := t) (k := k) rfl hlt 7 rfl)) rfl (.inr ⟨rfl, rfl⟩) ?_
|refine e7 ?_
|refine q4 rfl rfl obQ obQ ?_)
|(refine o8 ?_; first
|refine a7 ?_
|refine n2 ?_
|refine r8 ?_
|refine j6 ?_
|refine n6 ?_
|refine j4 rfl obQ (fun w hw => ⟨?_, hw.below⟩)))
      all_goals rfl
end Go.Proofs.YtjkgklhjbopoaaaGreatDoor
