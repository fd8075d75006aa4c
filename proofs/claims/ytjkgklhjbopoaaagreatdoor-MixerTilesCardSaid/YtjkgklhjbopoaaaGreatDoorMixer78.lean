/- Mixer: tiles and whole pictures, pictures for a tree: contracts of the reference. -/
import Derived.Test.YtjkgklhjbopoaaaGreatDoorMixer76
import Derived.Test.YtjkgklhjbopoaaaGreatDoorMixer77
import Derived.Test.YtjkgklhjbopoaaaGreatDoorMixer42
namespace Go.Proofs.YtjkgklhjbopoaaaGreatDoor
open Go.E Go.RowKit Go.Fl
attribute [local irreducible] G C S D Calls
set_option maxRecDepth 100000
set_option linter.all false
set_option maxHeartbeats 8000000
section
variable {t : List Nod} {l : List PV'} {W x0 y0 w j i : Nat}
end
theorem be2 {l : List PV'} {k : Nat} (hk : k < l.length) : firstL ((l.map fun x => picE x.p).drop k) = if picE (gQ l k).p = 0 then firstL ((l.map fun x => picE x.p).drop (k + 1)) else picE (gQ l k).p := by
  rw [List.drop_eq_getElem_cons (by simpa using hk), T0 hk]
  simp [firstL]
theorem ar5 {l : List PV'} {k : Nat} (hk : k < l.length) (h : szQ l (gQ l k) = true) : l.any (szQ l) = true := by
  rw [List.any_eq_true]
  exact ⟨_, B3 hk, h⟩
theorem ba9 {l : List PV'} (h : ∀ j, j < l.length → szQ l (gQ l j) = false) : l.any (szQ l) = false := by
  rw [List.any_eq_false]
  intro x hx
  obtain ⟨j, hj, rfl⟩ := List.getElem_of_mem hx
  have := h j hj
  rw [T0 hj] at this
  simp [this]
theorem first3 {a b c : Int} (h : ¬ a = 0) : firstL [a, b, c] = a := by simp [firstL, h]
theorem first3b {a b c : Int} (h : a = 0) (h2 : ¬ b = 0) : firstL [a, b, c] = b := by simp [firstL, h, h2]
theorem first3c {a b c : Int} (h : a = 0) (h2 : b = 0) : firstL [a, b, c] = c := by
  by_cases hc : c = 0 <;> simp [firstL, h, h2, hc]
theorem aa5 (A : Option Addr) (c : Nat) (t : List Nod) (hl : t.length ≤ 1000000) (B : Option Addr) (c2 : Nat) (l : List PV') (hl2 : l.length ≤ 1000000) (hsz : ∀ x ∈ l, x.p.s.length ≤ 1000000) (hnz : ∀ x ∈ l, x.p.nm.size ≤ maxLen) (w : World) (hr : Rd w A (t.flatMap ndC)) (hr2 : Rd w B (l.flatMap pvC)) (hrp : ∀ x ∈ l, Rd w x.A (x.p.s.map (.float .f32))) : Calls Tryz.prog 68 #[.slice A t.length c, .slice B l.length c2] w fun r w' => r = .returned (.int .i64 (pcE t l)) ∧ Below w.heap.size w w' := by
  refine i7 n9 Tryz.func68 rfl Tryz.ntmps68 (Nat.le_of_ble_eq_true rfl) rfl ?_
  by_cases h1 : pcnE l.length = 0
  · have hn := aX4 h1
    have h0 : 0 < l.length := hn.1
    obtain ⟨ad2, rfl⟩ := hr2.some (by rw [M5]; omega)
    have h1' : firstL [wh ((l.length : Int) == 0) 12, wh (decide ((8 : Int) < l.length)) 5] = 0 := h1
    rw [bj8 h1]
    repeat' (first
|(refine j7 ?_; first
|refine e8 ?_
|refine a6 rfl ?_
|refine j1 ?_
|refine j3 ?_
|refine i6 ?_
|(refine j0 rfl obQ ?_ ?_ <;> intro h <;> (try simp only [cdS] at h) <;> (try (exfalso; omega)) <;> (try exact cdF h) <;> (try contradiction) <;> (try (exfalso; omega))))
|(refine k6 ?_; first
|refine e7 ?_
|refine e9 rfl rfl obQ obQ ?_
|refine j9 (fun b => ⟨_, _, rfl, obQ, ?_⟩)
|refine a8 (f := 81) rfl obQ (by kernel_rfl) (fun w hw => F3 _ _ w) ?_
|refine a8 (f := 113) rfl obQ (by kernel_rfl) (fun w hw => H9 _ _ [wh ((l.length : Int) == 0) 12, wh (decide ((8 : Int) < l.length)) 5] (by simp) w (.inr ⟨_, rfl, hw.src (i := 0) rfl rfl⟩)) ?_)
|refine a7 ?_
|refine j6 ?_
|refine j4 rfl obQ (fun w hw => ⟨?_, hw.below⟩))
    refine p7 (fun k : Nat => ⟨[(6, .s (.v (.int .i64 k))), (0, .s (.v (.slice A t.length c))), (1, .s (.v (.slice (some ad2) l.length c2)))], [], []⟩) (fun k => k ≤ l.length ∧ firstL (l.map fun x => picE x.p) = firstL ((l.map fun x => picE x.p).drop k)) (fun k => l.length - k) 0 ⟨Nat.zero_le _, rfl⟩ ?_ (fun k hk => ?_)
    · exact svQ
    by_cases hlt : k < l.length
    · have hfd := be2 hlt
      by_cases he : picE (gQ l k).p = 0
      · repeat' (first
|(refine j7 ?_; first
|refine e8 ?_
|refine a6 rfl ?_
|refine j1 ?_
|refine j3 ?_
|(refine j0 rfl obQ ?_ ?_ <;> intro h <;> (try simp only [cdS] at h) <;> (try (exfalso; omega)) <;> (try exact cdF h) <;> (try contradiction) <;> (try (exfalso; omega))))
|(refine k6 ?_; first
|refine n4 rfl obQ rfl [.string (gQ l k).p.nm, .int .i64 (gQ l k).p.w, .int .i64 (gQ l k).p.h, .slice (gQ l k).A (gQ l k).p.s.length (gQ l k).c] (.past (w, fun b => b < w.heap.size) memQ _ _ hr2.toS _ _ rfl rfl (O1 hlt)) rfl (.inl ⟨rfl, rfl⟩) ?_
|refine e7 ?_
|refine e9 rfl rfl obQ obQ ?_
|refine a8 (f := 60) rfl obQ (by kernel_rfl) (fun w hw => I4 (gQ l k).p (gQ l k).A (gQ l k).c (hsz _ (B3 hlt)) (hnz _ (B3 hlt)) w (hw.rdm (hrp _ (B3 hlt)).toS memQ)) ?_)
|refine o6 (k + 1) ⟨by omega, by rw [hk.2, hfd, if_pos he]⟩ (by omega) svQ
|refine a7 ?_
|refine n5 ?_)
      · have e1 : firstL (l.map fun x => picE x.p) = picE (gQ l k).p := by rw [hk.2, hfd, if_neg he]
        rw [first3 (by rw [e1]; exact he), e1]
        repeat' (first
|(refine j7 ?_; first
|refine e8 ?_
|refine a6 rfl ?_
|refine j1 ?_
|refine j3 ?_
|refine i6 ?_
|(refine j0 rfl obQ ?_ ?_ <;> intro h <;> (try simp only [cdS] at h) <;> (try (exfalso; omega)) <;> (try exact cdF h) <;> (try contradiction) <;> (try (exfalso; omega))))
|(refine k6 ?_; first
|refine n4 rfl obQ rfl [.string (gQ l k).p.nm, .int .i64 (gQ l k).p.w, .int .i64 (gQ l k).p.h, .slice (gQ l k).A (gQ l k).p.s.length (gQ l k).c] (.past (w, fun b => b < w.heap.size) memQ _ _ hr2.toS _ _ rfl rfl (O1 hlt)) rfl (.inl ⟨rfl, rfl⟩) ?_
|refine e7 ?_
|refine e9 rfl rfl obQ obQ ?_
|refine a8 (f := 60) rfl obQ (by kernel_rfl) (fun w hw => I4 (gQ l k).p (gQ l k).A (gQ l k).c (hsz _ (B3 hlt)) (hnz _ (B3 hlt)) w (hw.rdm (hrp _ (B3 hlt)).toS memQ)) ?_)
|(refine o8 ?_; first
|refine a7 ?_
|refine r8 ?_
|refine j6 ?_
|refine j4 rfl obQ (fun w hw => ⟨?_, hw.below⟩)))
        all_goals rfl
    · obtain rfl : k = l.length := by omega
      have e1 : firstL (l.map fun x => picE x.p) = 0 := by rw [hk.2, List.drop_of_length_le (by simp)]; rfl
      repeat' (first
|(refine j7 ?_; first
|refine e8 ?_
|refine a6 rfl ?_
|refine j1 ?_
|refine o0 ?_
|refine i6 ?_
|(refine j0 rfl obQ ?_ ?_ <;> intro h <;> (try simp only [cdS] at h) <;> (try (exfalso; omega)) <;> (try exact cdF h) <;> (try contradiction) <;> (try (exfalso; omega))))
|refine e7 ?_
|refine e9 rfl rfl obQ obQ ?_
|(refine o8 ?_; first
|refine a7 ?_
|refine n2 ?_
|refine n6 ?_
|refine j4 rfl obQ (fun w hw => ⟨?_, hw.below⟩)))
      refine p7 (fun k : Nat => ⟨[(8, .s (.v (.int .i64 k))), (0, .s (.v (.slice A t.length c))), (1, .s (.v (.slice (some ad2) l.length c2)))], [], []⟩) (fun k => k ≤ l.length ∧ ∀ j, j < k → szQ l (gQ l j) = false) (fun k => l.length - k) 0 ⟨Nat.zero_le _, fun j hj => absurd hj (Nat.not_lt_zero _)⟩ ?_ (fun k hk => ?_)
      · exact svQ
      by_cases hlt : k < l.length
      · by_cases hw1 : (gQ l k).p.w = (gQ l 0).p.w
        · by_cases hw2 : (gQ l k).p.h = (gQ l 0).p.h
          · have hsq : szQ l (gQ l k) = false := by unfold szQ; simp [hw1, hw2]
            repeat' (first
|(refine j7 ?_; first
|refine e8 ?_
|refine a6 rfl ?_
|refine j1 ?_
|refine j3 ?_
|refine E4 (id := 13) 20 (.q 0 (.q 1 (.q 2 (.q 3 (.q 4 (.q 5 (.q 6 (.q 7 (.q 8 (.n 9 (.n 10 (.q 11 (.q 12 (.q 13 (.q 14 (.q 16 (.q 17 (.q 18 (.two 15 19 (.n 19 .nil) (.n 15 .nil)))))))))))))))))))) rfl mixed (by kernel_rfl) rfl ?_
|refine o5 rfl obQ ?_
|refine n7 rfl obQ ?_)
|(refine k6 ?_; first
|((with_reducible (first | refine r3 ?_ ?_ | refine q6 ?_ ?_ | refine q9 ?_ ?_ | refine q8 ?_ ?_ | refine q7 ?_ ?_)); · (first | rfl | omega | exact decide_eq_false (by omega) | (rw [bne_eq_false_iff_eq]; omega)))
|((with_reducible refine A7 ?_ ?_ ?_); (· rfl); (· first | rfl | (first | rfl | omega | exact decide_eq_false (by omega) | (rw [bne_eq_false_iff_eq]; omega))))
|((with_reducible (first | refine y3 ?_ ?_ | refine x7 ?_ ?_ | refine x9 ?_ ?_ | refine y4 ?_ ?_ | refine x8 ?_ ?_)); · (first | rfl | assumption | omega | exact decide_eq_true (by omega) | exact bne_iff_ne.2 (by omega)))
|refine w8 rfl rfl rfl rfl ?_
|refine B8 54 rfl (by first | rfl | assumption) ?_
|refine B8 55 rfl (by first | rfl | assumption) ?_
|refine B8 56 rfl (by first | rfl | assumption) ?_
|refine B8 57 rfl (by first | rfl | assumption) ?_
|refine B8 59 rfl (by first | rfl | assumption) ?_
|refine B8 60 rfl (by first | rfl | assumption) ?_
|refine B8 61 rfl (by first | rfl | assumption) ?_
|refine n4 rfl obQ rfl [.int .i64 (gQ l k).p.h] (.past (w, fun b => b < w.heap.size) memQ _ _ hr2.toS (((k : Nat) : Int).toNat * 4 + 2) _ rfl (by first | exact n3 _ _ _ | rfl) (J3 (l := l) (k := k) rfl hlt 2 rfl)) rfl (.inr ⟨rfl, rfl⟩) ?_
|refine n4 rfl obQ rfl [.int .i64 (gQ l 0).p.h] (.past (w, fun b => b < w.heap.size) memQ _ _ hr2.toS (Int.toNat 0 * 4 + 2) _ rfl (by first | exact n3 _ _ _ | rfl) (J3 (l := l) (k := 0) rfl h0 2 rfl)) rfl (.inr ⟨rfl, rfl⟩) ?_
|refine E7 rfl obQ ?_
|refine e7 ?_)
|(refine A9 ?_; first
|refine w5 ?_
|refine B5 rfl (q3 rfl obQ rfl [.int .i64 (gQ l k).p.w] (.past (w, fun b => b < w.heap.size) memQ _ _ hr2.toS (((k : Nat) : Int).toNat * 4 + 1) _ rfl (by first | exact n3 _ _ _ | rfl) (J3 (l := l) (k := k) rfl hlt 1 rfl)) rfl (.inr ⟨rfl, rfl⟩)) ?_
|refine B5 rfl (q3 rfl obQ rfl [.int .i64 (gQ l 0).p.w] (.past (w, fun b => b < w.heap.size) memQ _ _ hr2.toS (Int.toNat 0 * 4 + 1) _ rfl (by first | exact n3 _ _ _ | rfl) (J3 (l := l) (k := 0) rfl h0 1 rfl)) rfl (.inr ⟨rfl, rfl⟩)) ?_
|refine B5 rfl (k8 rfl obQ) ?_
|refine D9 rfl ?_
|refine w4 rfl rfl ?_ ?_)
|(refine o8 ?_; first
|refine A8 ⟨_, rfl⟩ ⟨_, rfl⟩ pstQ rfl ?_
|refine o6 (k + 1) ⟨by omega, fun j hj => by by_cases e : j = k; subst e; exact hsq; exact hk.2 j (by omega)⟩ (by omega) svQ
|refine a7 ?_
|refine n5 ?_))
          · have hsq : szQ l (gQ l k) = true := by unfold szQ; simp [hw1, hw2]
            rw [first3b e1 (by rw [ar5 hlt hsq]; decide), ar5 hlt hsq]
            repeat' (first
|(refine j7 ?_; first
|refine e8 ?_
|refine a6 rfl ?_
|refine j1 ?_
|refine j3 ?_
|refine i6 ?_
|refine E4 (id := 13) 20 (.q 0 (.q 1 (.q 2 (.q 3 (.q 4 (.q 5 (.q 6 (.q 7 (.q 8 (.n 9 (.n 10 (.q 11 (.q 12 (.q 13 (.q 14 (.q 16 (.q 17 (.q 18 (.two 15 19 (.n 19 .nil) (.n 15 .nil)))))))))))))))))))) rfl mixed (by kernel_rfl) rfl ?_
|refine o5 rfl obQ ?_)
|(refine k6 ?_; first
|((with_reducible (first | refine r3 ?_ ?_ | refine q6 ?_ ?_ | refine q9 ?_ ?_ | refine q8 ?_ ?_ | refine q7 ?_ ?_)); · (first | rfl | omega | exact decide_eq_false (by omega) | (rw [bne_eq_false_iff_eq]; omega)))
|((with_reducible (first | refine y3 ?_ ?_ | refine x7 ?_ ?_ | refine x9 ?_ ?_ | refine y4 ?_ ?_ | refine x8 ?_ ?_)); · (first | rfl | assumption | omega | exact decide_eq_true (by omega) | exact bne_iff_ne.2 (by omega)))
|refine w8 rfl rfl rfl rfl ?_
|refine B8 54 rfl (by first | rfl | assumption) ?_
|refine B8 55 rfl (by first | rfl | assumption) ?_
|refine B8 56 rfl (by first | rfl | assumption) ?_
|refine B8 57 rfl (by first | rfl | assumption) ?_
|refine B8 59 rfl (by first | rfl | assumption) ?_
|refine B8 60 rfl (by first | rfl | assumption) ?_
|refine B8 61 rfl (by first | rfl | assumption) ?_
|refine n4 rfl obQ rfl [.int .i64 (gQ l k).p.h] (.past (w, fun b => b < w.heap.size) memQ _ _ hr2.toS (((k : Nat) : Int).toNat * 4 + 2) _ rfl (by first | exact n3 _ _ _ | rfl) (J3 (l := l) (k := k) rfl hlt 2 rfl)) rfl (.inr ⟨rfl, rfl⟩) ?_
|refine n4 rfl obQ rfl [.int .i64 (gQ l 0).p.h] (.past (w, fun b => b < w.heap.size) memQ _ _ hr2.toS (Int.toNat 0 * 4 + 2) _ rfl (by first | exact n3 _ _ _ | rfl) (J3 (l := l) (k := 0) rfl h0 2 rfl)) rfl (.inr ⟨rfl, rfl⟩) ?_
|refine E7 rfl obQ ?_
|refine B4 (.v (.bool false)) rfl rfl rfl rfl rfl ?_
|refine e7 ?_)
|(refine A9 ?_; first
|refine w5 ?_
|refine B5 rfl (q3 rfl obQ rfl [.int .i64 (gQ l k).p.w] (.past (w, fun b => b < w.heap.size) memQ _ _ hr2.toS (((k : Nat) : Int).toNat * 4 + 1) _ rfl (by first | exact n3 _ _ _ | rfl) (J3 (l := l) (k := k) rfl hlt 1 rfl)) rfl (.inr ⟨rfl, rfl⟩)) ?_
|refine B5 rfl (q3 rfl obQ rfl [.int .i64 (gQ l 0).p.w] (.past (w, fun b => b < w.heap.size) memQ _ _ hr2.toS (Int.toNat 0 * 4 + 1) _ rfl (by first | exact n3 _ _ _ | rfl) (J3 (l := l) (k := 0) rfl h0 1 rfl)) rfl (.inr ⟨rfl, rfl⟩)) ?_
|refine B5 rfl (k8 rfl obQ) ?_
|refine D9 rfl ?_
|refine w4 rfl rfl ?_ ?_)
|(refine o8 ?_; first
|refine A8 ⟨_, rfl⟩ ⟨_, rfl⟩ pstQ rfl ?_
|refine a7 ?_
|refine r8 ?_
|refine j6 ?_
|refine j4 rfl obQ (fun w hw => ⟨?_, hw.below⟩)))
            all_goals rfl
        · have hsq : szQ l (gQ l k) = true := by unfold szQ; simp [hw1]
          rw [first3b e1 (by rw [ar5 hlt hsq]; decide), ar5 hlt hsq]
          repeat' (first
|(refine j7 ?_; first
|refine e8 ?_
|refine a6 rfl ?_
|refine j1 ?_
|refine j3 ?_
|refine i6 ?_
|refine E4 (id := 13) 20 (.q 0 (.q 1 (.q 2 (.q 3 (.q 4 (.q 5 (.q 6 (.q 7 (.q 8 (.n 9 (.n 10 (.q 11 (.q 12 (.q 13 (.q 14 (.q 16 (.q 17 (.q 18 (.two 15 19 (.n 19 .nil) (.n 15 .nil)))))))))))))))))))) rfl mixed (by kernel_rfl) rfl ?_
|refine o5 rfl obQ ?_)
|(refine k6 ?_; first
|((with_reducible (first | refine r3 ?_ ?_ | refine q6 ?_ ?_ | refine q9 ?_ ?_ | refine q8 ?_ ?_ | refine q7 ?_ ?_)); · (first | rfl | omega | exact decide_eq_false (by omega) | (rw [bne_eq_false_iff_eq]; omega)))
|((with_reducible (first | refine y3 ?_ ?_ | refine x7 ?_ ?_ | refine x9 ?_ ?_ | refine y4 ?_ ?_ | refine x8 ?_ ?_)); · (first | rfl | assumption | omega | exact decide_eq_true (by omega) | exact bne_iff_ne.2 (by omega)))
|refine w8 rfl rfl rfl rfl ?_
|refine B8 54 rfl (by first | rfl | assumption) ?_
|refine B8 55 rfl (by first | rfl | assumption) ?_
|refine B8 56 rfl (by first | rfl | assumption) ?_
|refine B8 57 rfl (by first | rfl | assumption) ?_
|refine B8 59 rfl (by first | rfl | assumption) ?_
|refine B8 60 rfl (by first | rfl | assumption) ?_
|refine B8 61 rfl (by first | rfl | assumption) ?_
|refine n4 rfl obQ rfl [.int .i64 (gQ l k).p.h] (.past (w, fun b => b < w.heap.size) memQ _ _ hr2.toS (((k : Nat) : Int).toNat * 4 + 2) _ rfl (by first | exact n3 _ _ _ | rfl) (J3 (l := l) (k := k) rfl hlt 2 rfl)) rfl (.inr ⟨rfl, rfl⟩) ?_
|refine n4 rfl obQ rfl [.int .i64 (gQ l 0).p.h] (.past (w, fun b => b < w.heap.size) memQ _ _ hr2.toS (Int.toNat 0 * 4 + 2) _ rfl (by first | exact n3 _ _ _ | rfl) (J3 (l := l) (k := 0) rfl h0 2 rfl)) rfl (.inr ⟨rfl, rfl⟩) ?_
|refine E7 rfl obQ ?_
|refine B4 (.v (.bool false)) rfl rfl rfl rfl rfl ?_
|refine e7 ?_)
|(refine A9 ?_; first
|refine w5 ?_
|refine B5 rfl (q3 rfl obQ rfl [.int .i64 (gQ l k).p.w] (.past (w, fun b => b < w.heap.size) memQ _ _ hr2.toS (((k : Nat) : Int).toNat * 4 + 1) _ rfl (by first | exact n3 _ _ _ | rfl) (J3 (l := l) (k := k) rfl hlt 1 rfl)) rfl (.inr ⟨rfl, rfl⟩)) ?_
|refine B5 rfl (q3 rfl obQ rfl [.int .i64 (gQ l 0).p.w] (.past (w, fun b => b < w.heap.size) memQ _ _ hr2.toS (Int.toNat 0 * 4 + 1) _ rfl (by first | exact n3 _ _ _ | rfl) (J3 (l := l) (k := 0) rfl h0 1 rfl)) rfl (.inr ⟨rfl, rfl⟩)) ?_
|refine B5 rfl (k8 rfl obQ) ?_
|refine D9 rfl ?_
|refine w4 rfl rfl ?_ ?_)
|(refine o8 ?_; first
|refine A8 ⟨_, rfl⟩ ⟨_, rfl⟩ pstQ rfl ?_
|refine a7 ?_
|refine r8 ?_
|refine j6 ?_
|refine j4 rfl obQ (fun w hw => ⟨?_, hw.below⟩)))
          all_goals rfl
      · obtain rfl : k = l.length := by omega
        have e2 := ba9 hk.2
        rw [first3c e1 (by rw [e2]; rfl)]
        repeat' (first
|(refine j7 ?_; first
|refine e8 ?_
|refine a6 rfl ?_
|refine j1 ?_
|refine o0 ?_
|refine i6 ?_
|(refine j0 rfl obQ ?_ ?_ <;> intro h <;> (try simp only [cdS] at h) <;> (try (exfalso; omega)) <;> (try exact cdF h) <;> (try contradiction) <;> (try (exfalso; omega))))
|refine e7 ?_
|refine e9 rfl rfl obQ obQ ?_
|(refine o8 ?_; first
|refine a7 ?_
|refine n2 ?_
|refine n6 ?_
|refine j4 rfl obQ (fun w hw => ⟨?_, hw.below⟩)))
        refine p7 (fun k : Nat => ⟨[(9, .s (.v (.int .i64 k))), (0, .s (.v (.slice A t.length c))), (1, .s (.v (.slice (some ad2) l.length c2)))], [], []⟩) (fun k => l.length ≤ k ∧ k ≤ 8 ∧ ∀ j : Nat, l.length ≤ j → j < k → (scI t).any (eqB j) = false) (fun k => 8 - k) l.length ⟨Nat.le_refl _, by omega, fun j h1 h2 => by omega⟩ ?_ (fun k hk => ?_)
        · exact svQ
        by_cases hlt : k < 8
        · cases hh : (scI t).any (eqB (k : Int))
          · repeat' (first
|(refine j7 ?_; first
|refine e8 ?_
|refine a6 rfl ?_
|refine j1 ?_
|refine j3 ?_
|refine n7 rfl obQ ?_
|(refine j0 rfl obQ ?_ ?_ <;> intro h <;> (try simp only [cdS] at h) <;> (try (exfalso; omega)) <;> (try exact cdF h) <;> (try contradiction) <;> (try (exfalso; omega))))
|(refine k6 ?_; first
|(refine j5 (f := 46) rfl obQ (by kernel_rfl) (fun w hw => af9 _ c t hl w (hw.rdm hr.toS memQ)) (fun w1S w2S vS hw1S hbS hRS => ?_); obtain ⟨AS, cS, rfl, hSS⟩ := hRS)
|refine e7 ?_
|refine e9 rfl rfl obQ obQ ?_
|refine a8 (f := 74) rfl obQ (by kernel_rfl) (fun w hw => ah1 hh rfl (V1 t) w (hw.rdm hSS memQ)) ?_)
|refine o6 (k + 1) ⟨by omega, by omega, fun j h1 h2 => by by_cases e : j = k; subst e; exact hh; exact hk.2.2 j h1 (by omega)⟩ (by omega) svQ
|refine a7 ?_
|refine n5 ?_)
          · rw [bm3 hk.1 hh]
            repeat' (first
|(refine j7 ?_; first
|refine e8 ?_
|refine a6 rfl ?_
|refine j1 ?_
|refine j3 ?_
|refine i6 ?_
|refine o5 rfl obQ ?_
|(refine j0 rfl obQ ?_ ?_ <;> intro h <;> (try simp only [cdS] at h) <;> (try (exfalso; omega)) <;> (try exact cdF h) <;> (try contradiction) <;> (try (exfalso; omega))))
|(refine k6 ?_; first
|(refine j5 (f := 46) rfl obQ (by kernel_rfl) (fun w hw => af9 _ c t hl w (hw.rdm hr.toS memQ)) (fun w1S w2S vS hw1S hbS hRS => ?_); obtain ⟨AS, cS, rfl, hSS⟩ := hRS)
|refine e7 ?_
|refine e9 rfl rfl obQ obQ ?_
|refine a8 (f := 74) rfl obQ (by kernel_rfl) (fun w hw => ah1 hh rfl (V1 t) w (hw.rdm hSS memQ)) ?_)
|(refine o8 ?_; first
|refine a7 ?_
|refine r8 ?_
|refine j6 ?_
|refine j4 rfl obQ (fun w hw => ⟨?_, hw.below⟩)))
            all_goals rfl
        · rw [bu0 (fun j h1 h2 => hk.2.2 j h1 (by omega))]
          repeat' (first
|(refine j7 ?_; first
|refine e8 ?_
|refine a6 rfl ?_
|refine j1 ?_
|refine o0 ?_
|refine i6 ?_
|(refine j0 rfl obQ ?_ ?_ <;> intro h <;> (try simp only [cdS] at h) <;> (try (exfalso; omega)) <;> (try exact cdF h) <;> (try contradiction) <;> (try (exfalso; omega))))
|refine e7 ?_
|refine e9 rfl rfl obQ obQ ?_
|(refine o8 ?_; first
|refine a7 ?_
|refine n2 ?_
|refine n6 ?_
|refine j4 rfl obQ (fun w hw => ⟨?_, hw.below⟩)))
          all_goals rfl
  · rw [bi5 h1]
    have h1' : ¬ firstL [wh ((l.length : Int) == 0) 12, wh (decide ((8 : Int) < l.length)) 5] = 0 := h1
    repeat' (first
|(refine j7 ?_; first
|refine e8 ?_
|refine a6 rfl ?_
|refine j1 ?_
|refine j3 ?_
|refine i6 ?_
|(refine j0 rfl obQ ?_ ?_ <;> intro h <;> (try simp only [cdS] at h) <;> (try (exfalso; omega)) <;> (try exact cdF h) <;> (try contradiction) <;> (try (exfalso; omega))))
|(refine k6 ?_; first
|refine e7 ?_
|refine e9 rfl rfl obQ obQ ?_
|refine j9 (fun b => ⟨_, _, rfl, obQ, ?_⟩)
|refine a8 (f := 81) rfl obQ (by kernel_rfl) (fun w hw => F3 _ _ w) ?_
|refine a8 (f := 113) rfl obQ (by kernel_rfl) (fun w hw => H9 _ _ [wh ((l.length : Int) == 0) 12, wh (decide ((8 : Int) < l.length)) 5] (by simp) w (.inr ⟨_, rfl, hw.src (i := 0) rfl rfl⟩)) ?_)
|refine a7 ?_
|refine j6 ?_
|refine j4 rfl obQ (fun w hw => ⟨?_, hw.below⟩))
    all_goals rfl
end Go.Proofs.YtjkgklhjbopoaaaGreatDoor
