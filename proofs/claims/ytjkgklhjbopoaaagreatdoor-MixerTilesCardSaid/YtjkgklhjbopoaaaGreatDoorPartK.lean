/- Mixer: inputs of nodes: contracts of the reference. -/
import Derived.Test.YtjkgklhjbopoaaaGreatDoorMixer41
import Derived.Test.YtjkgklhjbopoaaaGreatDoorEng4
namespace Go.Proofs.YtjkgklhjbopoaaaGreatDoor
open Go.E Go.RowKit Go.Fl
attribute [local irreducible] G C S D Calls
set_option maxRecDepth 100000
set_option linter.all false
set_option maxHeartbeats 8000000
def inX (x : Nod) : List Int := if x.kd = bSrc ∨ x.kd = bMat then [] else if x.kd = bMix ∨ x.kd = bWip then [x.a, x.b] else [x.a, x.b, x.c]
def isX (x : Nod) : Bool := if x.kd = bSrc ∨ x.kd = bMat then true else if x.kd = bMix ∨ x.kd = bWip then true else decide (x.kd = bKey)
theorem aR7 {x : Nod} (h : x.kd = bSrc ∨ x.kd = bMat) : inX x = [] ∧ isX x = true := ⟨if_pos h, if_pos h⟩
theorem aY8 {x : Nod} (h1 : ¬ (x.kd = bSrc ∨ x.kd = bMat)) (h : x.kd = bMix ∨ x.kd = bWip) : inX x = [x.a, x.b] ∧ isX x = true := ⟨by unfold inX; rw [if_neg h1, if_pos h], by unfold isX; rw [if_neg h1, if_pos h]⟩
theorem aQ2 {x : Nod} (h1 : ¬ (x.kd = bSrc ∨ x.kd = bMat)) (h : ¬ (x.kd = bMix ∨ x.kd = bWip)) : inX x = [x.a, x.b, x.c] ∧ isX x = (x.kd.toList == bKey.toList) := ⟨by unfold inX; rw [if_neg h1, if_neg h], by
  unfold isX
  rw [if_neg h1, if_neg h]
  by_cases h2 : x.kd = bKey
  · rw [al0 h2]; exact decide_eq_true h2
  · rw [V8 h2]; exact decide_eq_false h2⟩
theorem aP1 {a b c : ByteArray} (h : a.toList = b.toList ∨ a.toList = c.toList) : a = b ∨ a = c := h.imp toL toL
theorem an5 {a b c : ByteArray} (h : a.toList ≠ b.toList ∧ a.toList ≠ c.toList) : ¬ (a = b ∨ a = c) := fun e => e.elim (fun e => h.1 (by rw [e])) (fun e => h.2 (by rw [e]))
theorem aM1 (x : Nod) (w : World) : Calls Tryz.prog 176 #[.agg #[.string x.kd, .int .i64 x.a, .int .i64 x.b, .int .i64 x.c, .int .i64 x.n, .int .i64 x.cl, .int .i64 x.ga, .string x.w.sh, .int .i64 x.w.a, .int .i64 x.w.b, .int .i64 x.w.at_, .int .i64 x.w.soft]] w fun r w' => ∃ v, r = .returned v ∧ Below w.heap.size w w' ∧ Sl2 w w' v (inX x).length ((inX x).map (.int .i64)) (.bool (isX x)) := by
  refine i7 n9 Tryz.func176 rfl Tryz.ntmps176 (Nat.le_of_ble_eq_true rfl) rfl ?_
  repeat' (first
|(refine j7 ?_; first
|refine e8 ?_
|refine a6 rfl ?_
|refine j3 ?_
|refine i6 ?_
|refine n8 (id := 5) 11 [(0, true), (1, true), (2, true), (3, true), (4, true), (5, true), (7, true), (8, true), (9, true), (6, false), (10, true)] rfl mixed (by kernel_rfl) rfl ?_
|(refine j0 rfl obQ ?_ ?_ <;> intro h <;> (try simp only [cdS] at h)))
|(refine k6 ?_; first
|refine e7 ?_
|refine e9 rfl rfl obQ obQ ?_
|refine k7 (fun bb => ⟨_, _, rfl, obQ, ?_⟩)
|refine j9 (fun b => ⟨_, _, rfl, obQ, ?_⟩))
|refine r5 ?_
|refine V_q rfl (k8 rfl obQ) ?_
|refine V_n rfl ?_
|(refine o8 ?_; first
|refine G_V ⟨⟨_, rfl, trivial⟩, ⟨_, rfl⟩, rfl, pstQ⟩ rfl ?_
|refine a7 ?_
|refine j6 ?_
|refine j4 rfl obQ (fun w2 hw => ⟨_, rfl, hw.below, ?_⟩)))
  · have e := aR7 (x := x) (aP1 h)
    rw [e.1, e.2]
    exact Sl.two (v := .slice none 0 0) (Sl.nil_ _ _) rfl
  · rename_i h1
    have e := aY8 (x := x) (an5 h1) (aP1 h)
    rw [e.1, e.2]
    exact ⟨_, _, rfl, .inr ⟨_, rfl, ⟨(HW.bxAt hw (i := 1) rfl rfl).1.1, (HW.bxAt hw (i := 1) rfl rfl).1.2⟩, hw.src (i := 1) rfl rfl⟩⟩
  · rename_i h1
    have e := aQ2 (x := x) (an5 h1) (an5 h)
    rw [e.1, e.2]
    exact ⟨_, _, rfl, .inr ⟨_, rfl, ⟨(HW.bxAt hw (i := 1) rfl rfl).1.1, (HW.bxAt hw (i := 1) rfl rfl).1.2⟩, hw.src (i := 1) rfl rfl⟩⟩
def bKd : Kd → ByteArray
  | .src => bSrc
  | .mat => bMat
  | .mix => bMix
  | .wip => bWip
  | .key => bKey
theorem J1 {s : ByteArray} {k : Kd} (h : kdOf s = some k) : s = bKd k := by
  unfold kdOf at h
  split at h
  · injection h with h; subst h; assumption
  split at h
  · injection h with h; subst h; assumption
  split at h
  · injection h with h; subst h; assumption
  split at h
  · injection h with h; subst h; assumption
  split at h
  · injection h with h; subst h; assumption
  · cases h
theorem aU3 (k : Kd) : kdOf (bKd k) = some k := by cases k <;> decide +kernel
theorem y7 {s : ByteArray} {k : Kd} (h : kdOf s = some k) (q : Kd) (hq : k ≠ q) : ¬ s = bKd q := fun e => by
  rw [e, aU3] at h
  injection h with h
  exact hq h.symm
theorem H7 {s : ByteArray} (h : kdOf s = none) (q : Kd) : ¬ s = bKd q := fun e => by
  rw [e, aU3] at h
  cases h
theorem aS5 {x : Nod} {k : Kd} (h : kdOf x.kd = some k) : inX x = insF k x ∧ isX x = true := by
  have e := J1 h
  cases k with
  | src => exact aR7 (.inl e)
  | mat => exact aR7 (.inr e)
  | mix => exact aY8 (fun o => o.elim (y7 h .src (by decide)) (y7 h .mat (by decide))) (.inl e)
  | wip => exact aY8 (fun o => o.elim (y7 h .src (by decide)) (y7 h .mat (by decide))) (.inr e)
  | key =>
    have h3 := aQ2 (x := x) (fun o => o.elim (y7 h .src (by decide)) (y7 h .mat (by decide))) (fun o => o.elim (y7 h .mix (by decide)) (y7 h .wip (by decide)))
    exact ⟨h3.1, by rw [h3.2]; exact al0 e⟩
theorem aV6 {x : Nod} (h : kdOf x.kd = none) : inX x = [x.a, x.b, x.c] ∧ isX x = false := by
  have h3 := aQ2 (x := x) (fun o => o.elim (H7 h .src) (H7 h .mat)) (fun o => o.elim (H7 h .mix) (H7 h .wip))
  exact ⟨h3.1, by rw [h3.2]; exact V8 (H7 h .key)⟩
def usX (x : Nod) : Nod := match kdOf x.kd with
  | some k => usF k x
  | none => ⟨x.kd, x.a, x.b, 0, 0, 0, 0, zW⟩
theorem aS7 {x : Nod} {k : Kd} (h : kdOf x.kd = some k) : usX x = usF k x := by unfold usX; rw [h]
theorem bo2 {x : Nod} (h : kdOf x.kd = none) : usX x = ⟨x.kd, x.a, x.b, 0, 0, 0, 0, zW⟩ := by unfold usX; rw [h]
theorem E2 {x : Nod} {l : List Int} {b : Bool} {n : Nat} (h1 : inX x = l) (h2 : isX x = b) (hn : l.length = n) (w : World) : Calls Tryz.prog 176 #[.agg #[.string x.kd, .int .i64 x.a, .int .i64 x.b, .int .i64 x.c, .int .i64 x.n, .int .i64 x.cl, .int .i64 x.ga, .string x.w.sh, .int .i64 x.w.a, .int .i64 x.w.b, .int .i64 x.w.at_, .int .i64 x.w.soft]] w fun r w' => ∃ v, r = .returned v ∧ Below w.heap.size w w' ∧ Sl2 w w' v n (l.map (.int .i64)) (.bool b) := by
  subst h1 h2 hn
  exact aM1 x w
theorem aa3 {A : Option Addr} {n : Nat} {l : List Int} {e : Int} (he : firstL l = e) (h6 : l.length ≤ 1000000) (hl : l.length = n) (c : Nat) (w : World) (hr : Rd w A (l.map (.int .i64))) : Calls Tryz.prog 113 #[.slice A n c] w fun r w' => r = .returned (.int .i64 e) ∧ Below w.heap.size w w' := by
  subst hl he
  exact H9 A c l h6 w hr
theorem aQ3 : deepL Tryz.prog 170 ndK = true := by kernel_rfl
theorem ah2 {x y : Nod} {b : Bool} (h : decide (x ≠ y) = b) (u v : Operand) (w : World) : (do eqGuard .neq 170 u v (.agg (ndC x).toArray) (.agg (ndC y).toArray); binOp .neq 170 (.agg (ndC x).toArray) (.agg (ndC y).toArray) : Sem Value).run Tryz.prog w = .ok (.bool b) w := by
  have := bi4 aQ3 (aj5 x) (aj5 y) u v w
  have e : (ndL x != ndL y) = b := by
    rw [← h, Bool.eq_iff_iff, bne_iff_ne, decide_eq_true_eq, Ne, am5]
  rw [e] at this
  exact this
theorem aS0 {l : List Int} {z : Int} {k : Nat} (hk : k < l.length) (h : ¬ (0 ≤ gI l k ∧ gI l k < z)) : inB l z = false := by
  cases e : inB l z
  · rfl
  · exact absurd (ac7.1 e _ (O3 hk)) h
theorem be9 {l : List Int} {z : Int} (h : ∀ k, k < l.length → 0 ≤ gI l k ∧ gI l k < z) : inB l z = true := ac7.2 fun i hi => by
  obtain ⟨k, hk, rfl⟩ := List.getElem_of_mem hi
  rw [← F5 hk]
  exact h k hk
theorem bt8 {x : Nod} {z : Int} {k : Kd} (h : kdOf x.kd = some k) (h1 : ¬ usF k x = x) : ndE x z = 1 := by unfold ndE; rw [h]; exact if_neg h1
theorem bi3 {x : Nod} {z : Int} {k : Kd} (h : kdOf x.kd = some k) (h1 : usF k x = x) (h2 : inB (insF k x) z = false) : ndE x z = 10 := by
  unfold ndE
  rw [h]
  dsimp only
  rw [if_pos h1, if_neg (by rw [h2]; simp)]
theorem bv5 {x : Nod} {z : Int} {k : Kd} (h : kdOf x.kd = some k) (h1 : usF k x = x) (h2 : inB (insF k x) z = true) : ndE x z = kiE k x := by
  unfold ndE
  rw [h]
  dsimp only
  rw [if_pos h1, if_pos h2]
theorem ap7 (x : Nod) (w : World) : Calls Tryz.prog 189 #[.agg #[.string x.kd, .int .i64 x.a, .int .i64 x.b, .int .i64 x.c, .int .i64 x.n, .int .i64 x.cl, .int .i64 x.ga, .string x.w.sh, .int .i64 x.w.a, .int .i64 x.w.b, .int .i64 x.w.at_, .int .i64 x.w.soft]] w fun r w' => r = .returned (.agg #[.string (usX x).kd, .int .i64 (usX x).a, .int .i64 (usX x).b, .int .i64 (usX x).c, .int .i64 (usX x).n, .int .i64 (usX x).cl, .int .i64 (usX x).ga, .string (usX x).w.sh, .int .i64 (usX x).w.a, .int .i64 (usX x).w.b, .int .i64 (usX x).w.at_, .int .i64 (usX x).w.soft]) ∧ Below w.heap.size w w' := by
  refine i7 n9 Tryz.func189 rfl Tryz.ntmps189 (Nat.le_of_ble_eq_true rfl) rfl ?_
  cases hk : kdOf x.kd with
  | none =>
    have nsrc := H7 hk .src
    have nmat := H7 hk .mat
    have nmix := H7 hk .mix
    have nwip := H7 hk .wip
    have nkey := H7 hk .key
    have hin := aV6 hk
    rw [bo2 hk]
    repeat' (first
|(refine j7 ?_; first
|refine e8 ?_
|refine a6 rfl ?_
|refine j3 ?_
|refine i6 ?_
|refine A6 (id := 4) 6 (.q 0 (.q 2 (.two 1 3 (.q 4 (.two 3 5 (.n 5 .nil) (.n 3 .nil))) (.n 1 (.q 4 (.n 5 .nil)))))) rfl mixed (by kernel_rfl) rfl ?_
|refine o5 rfl obQ ?_
|(refine j0 rfl obQ ?_ ?_ <;> intro h <;> (try simp only [cdS] at h) <;> (try (exfalso; omega)) <;> (try exact cdF h) <;> (try contradiction) <;> (try (exfalso; first | exact nsrc (toL h) | exact nmat (toL h) | exact nmix (toL h) | exact nwip (toL h) | exact nkey (toL h) | exact h.elim (fun h => h.elim (fun h => nsrc (toL h)) (fun h => nmat (toL h))) (fun h => nmix (toL h))))))
|(refine k6 ?_; first
|(refine j5 (f := 176) rfl obQ (by kernel_rfl) (fun w hw => E2 hin.1 hin.2 rfl w) (fun w1N w2N vN hw1N hbN hRN => ?_); obtain ⟨AN, cN, rfl, hSN⟩ := hRN)
|refine e7 ?_
|refine e9 rfl rfl obQ obQ ?_
|refine k7 (fun bb => ⟨_, _, rfl, obQ, ?_⟩))
|(refine A9 ?_; first
|refine w5 ?_
|refine B5 rfl (k8 rfl obQ) ?_
|refine D9 rfl ?_
|refine w4 rfl rfl ?_ ?_)
|refine A8 ⟨_, rfl⟩ ⟨_, rfl⟩ pstQ rfl ?_
|refine a7 ?_
|refine j4 rfl obQ (fun w hw => ⟨?_, hw.below⟩))
    all_goals rfl
  | some k =>
    have hin := aS5 hk
    rw [aS7 hk]
    cases k with
  | src =>
        have nmat := y7 hk .mat (by decide)
        have nmix := y7 hk .mix (by decide)
        have nwip := y7 hk .wip (by decide)
        have nkey := y7 hk .key (by decide)
        have ysrc := J1 hk
        repeat' (first
|(refine j7 ?_; first
|refine e8 ?_
|refine a6 rfl ?_
|refine j3 ?_
|refine i6 ?_
|refine n7 rfl obQ ?_
|(refine j0 rfl obQ ?_ ?_ <;> intro h <;> (try simp only [cdS] at h) <;> (try (exfalso; omega)) <;> (try exact cdF h) <;> (try contradiction) <;> (try (exfalso; first | exact nmat (toL h) | exact nmix (toL h) | exact nwip (toL h) | exact nkey (toL h) | exact h (congrArg ByteArray.toList ysrc) | exact h.1.1 (congrArg ByteArray.toList ysrc) | exact h.1.2 (congrArg ByteArray.toList ysrc) | exact h.2 (congrArg ByteArray.toList ysrc)))))
|(refine k6 ?_; first
|(refine j5 (f := 176) rfl obQ (by kernel_rfl) (fun w hw => E2 hin.1 hin.2 rfl w) (fun w1N w2N vN hw1N hbN hRN => ?_); obtain ⟨AN, cN, rfl, hSN⟩ := hRN)
|refine e7 ?_
|refine e9 rfl rfl obQ obQ ?_
|refine k7 (fun bb => ⟨_, _, rfl, obQ, ?_⟩))
|refine a7 ?_
|refine j4 rfl obQ (fun w hw => ⟨?_, hw.below⟩))
        all_goals rfl
      | mat =>
        have nsrc := y7 hk .src (by decide)
        have nmix := y7 hk .mix (by decide)
        have nwip := y7 hk .wip (by decide)
        have nkey := y7 hk .key (by decide)
        have ymat := J1 hk
        repeat' (first
|(refine j7 ?_; first
|refine e8 ?_
|refine a6 rfl ?_
|refine j3 ?_
|refine i6 ?_
|refine n7 rfl obQ ?_
|(refine j0 rfl obQ ?_ ?_ <;> intro h <;> (try simp only [cdS] at h) <;> (try (exfalso; omega)) <;> (try exact cdF h) <;> (try contradiction) <;> (try (exfalso; first | exact nsrc (toL h) | exact nmix (toL h) | exact nwip (toL h) | exact nkey (toL h) | exact h (congrArg ByteArray.toList ymat) | exact h.1.1 (congrArg ByteArray.toList ymat) | exact h.1.2 (congrArg ByteArray.toList ymat) | exact h.2 (congrArg ByteArray.toList ymat)))))
|(refine k6 ?_; first
|(refine j5 (f := 176) rfl obQ (by kernel_rfl) (fun w hw => E2 hin.1 hin.2 rfl w) (fun w1N w2N vN hw1N hbN hRN => ?_); obtain ⟨AN, cN, rfl, hSN⟩ := hRN)
|refine e7 ?_
|refine e9 rfl rfl obQ obQ ?_
|refine k7 (fun bb => ⟨_, _, rfl, obQ, ?_⟩))
|refine a7 ?_
|refine j4 rfl obQ (fun w hw => ⟨?_, hw.below⟩))
        all_goals rfl
      | mix =>
        have nsrc := y7 hk .src (by decide)
        have nmat := y7 hk .mat (by decide)
        have nwip := y7 hk .wip (by decide)
        have nkey := y7 hk .key (by decide)
        have ymix := J1 hk
        repeat' (first
|(refine j7 ?_; first
|refine e8 ?_
|refine a6 rfl ?_
|refine j3 ?_
|refine i6 ?_
|refine A6 (id := 4) 6 (.q 0 (.q 2 (.two 1 3 (.q 4 (.two 3 5 (.n 5 .nil) (.n 3 .nil))) (.n 1 (.q 4 (.n 5 .nil)))))) rfl mixed (by kernel_rfl) rfl ?_
|refine o5 rfl obQ ?_
|(refine j0 rfl obQ ?_ ?_ <;> intro h <;> (try simp only [cdS] at h) <;> (try (exfalso; omega)) <;> (try exact cdF h) <;> (try contradiction) <;> (try (exfalso; first | exact nsrc (toL h) | exact nmat (toL h) | exact nwip (toL h) | exact nkey (toL h) | exact h (congrArg ByteArray.toList ymix) | exact h.1.1 (congrArg ByteArray.toList ymix) | exact h.1.2 (congrArg ByteArray.toList ymix) | exact h.2 (congrArg ByteArray.toList ymix)))))
|(refine k6 ?_; first
|(refine j5 (f := 176) rfl obQ (by kernel_rfl) (fun w hw => E2 hin.1 hin.2 rfl w) (fun w1N w2N vN hw1N hbN hRN => ?_); obtain ⟨AN, cN, rfl, hSN⟩ := hRN)
|refine e7 ?_
|refine e9 rfl rfl obQ obQ ?_
|refine k7 (fun bb => ⟨_, _, rfl, obQ, ?_⟩))
|(refine A9 ?_; first
|refine w5 ?_
|refine B5 rfl (k8 rfl obQ) ?_
|refine D9 rfl ?_
|refine w4 rfl rfl ?_ ?_)
|refine A8 ⟨_, rfl⟩ ⟨_, rfl⟩ pstQ rfl ?_
|refine a7 ?_
|refine j4 rfl obQ (fun w hw => ⟨?_, hw.below⟩))
        all_goals rfl
      | wip =>
        have nsrc := y7 hk .src (by decide)
        have nmat := y7 hk .mat (by decide)
        have nmix := y7 hk .mix (by decide)
        have nkey := y7 hk .key (by decide)
        have ywip := J1 hk
        repeat' (first
|(refine j7 ?_; first
|refine e8 ?_
|refine a6 rfl ?_
|refine j3 ?_
|refine i6 ?_
|refine A6 (id := 4) 6 (.q 0 (.q 2 (.two 1 3 (.q 4 (.two 3 5 (.n 5 .nil) (.n 3 .nil))) (.n 1 (.q 4 (.n 5 .nil)))))) rfl mixed (by kernel_rfl) rfl ?_
|refine o5 rfl obQ ?_
|(refine j0 rfl obQ ?_ ?_ <;> intro h <;> (try simp only [cdS] at h) <;> (try (exfalso; omega)) <;> (try exact cdF h) <;> (try contradiction) <;> (try (exfalso; first | exact nsrc (toL h) | exact nmat (toL h) | exact nmix (toL h) | exact nkey (toL h) | exact h (congrArg ByteArray.toList ywip) | exact h.1.1 (congrArg ByteArray.toList ywip) | exact h.1.2 (congrArg ByteArray.toList ywip) | exact h.2 (congrArg ByteArray.toList ywip) | exact h.elim (fun h => h.elim (fun h => nsrc (toL h)) (fun h => nmat (toL h))) (fun h => nmix (toL h))))))
|(refine k6 ?_; first
|(refine j5 (f := 176) rfl obQ (by kernel_rfl) (fun w hw => E2 hin.1 hin.2 rfl w) (fun w1N w2N vN hw1N hbN hRN => ?_); obtain ⟨AN, cN, rfl, hSN⟩ := hRN)
|refine e7 ?_
|refine e9 rfl rfl obQ obQ ?_
|refine k7 (fun bb => ⟨_, _, rfl, obQ, ?_⟩))
|(refine A9 ?_; first
|refine w5 ?_
|refine B5 rfl (k8 rfl obQ) ?_
|refine D9 rfl ?_
|refine w4 rfl rfl ?_ ?_)
|refine A8 ⟨_, rfl⟩ ⟨_, rfl⟩ pstQ rfl ?_
|refine a7 ?_
|refine j4 rfl obQ (fun w hw => ⟨?_, hw.below⟩))
        all_goals rfl
      | key =>
        have nsrc := y7 hk .src (by decide)
        have nmat := y7 hk .mat (by decide)
        have nmix := y7 hk .mix (by decide)
        have nwip := y7 hk .wip (by decide)
        have ykey := J1 hk
        repeat' (first
|(refine j7 ?_; first
|refine e8 ?_
|refine a6 rfl ?_
|refine j3 ?_
|refine i6 ?_
|refine A6 (id := 4) 6 (.q 0 (.q 2 (.two 1 3 (.q 4 (.two 3 5 (.n 5 .nil) (.n 3 .nil))) (.n 1 (.q 4 (.n 5 .nil)))))) rfl mixed (by kernel_rfl) rfl ?_
|refine A6 (id := 6) 6 (.q 0 (.q 2 (.two 1 3 (.q 4 (.two 3 5 (.n 5 .nil) (.n 3 .nil))) (.n 1 (.q 4 (.n 5 .nil)))))) rfl mixed (by kernel_rfl) rfl ?_
|refine o5 rfl obQ ?_
|(refine j0 rfl obQ ?_ ?_ <;> intro h <;> (try simp only [cdS] at h) <;> (try (exfalso; omega)) <;> (try exact cdF h) <;> (try contradiction) <;> (try (exfalso; first | exact nsrc (toL h) | exact nmat (toL h) | exact nmix (toL h) | exact nwip (toL h) | exact h (congrArg ByteArray.toList ykey) | exact h.1.1 (congrArg ByteArray.toList ykey) | exact h.1.2 (congrArg ByteArray.toList ykey) | exact h.2 (congrArg ByteArray.toList ykey) | exact h.elim (fun h => h.elim (fun h => nsrc (toL h)) (fun h => nmat (toL h))) (fun h => nmix (toL h))))))
|(refine k6 ?_; first
|(refine j5 (f := 176) rfl obQ (by kernel_rfl) (fun w hw => E2 hin.1 hin.2 rfl w) (fun w1N w2N vN hw1N hbN hRN => ?_); obtain ⟨AN, cN, rfl, hSN⟩ := hRN)
|refine e7 ?_
|refine e9 rfl rfl obQ obQ ?_
|refine k7 (fun bb => ⟨_, _, rfl, obQ, ?_⟩))
|(refine A9 ?_; first
|refine w5 ?_
|refine B5 rfl (k8 rfl obQ) ?_
|refine D9 rfl ?_
|refine w4 rfl rfl ?_ ?_)
|refine A8 ⟨_, rfl⟩ ⟨_, rfl⟩ pstQ rfl ?_
|refine a7 ?_
|refine j4 rfl obQ (fun w hw => ⟨?_, hw.below⟩))
        all_goals rfl
theorem aL8 {S : Nat → Prop} {W : World} {A : Option Addr} {xs : List Value} (h : RdS S W A xs) (h0 : 0 < xs.length) : ∃ a, A = some a := by
  rcases h with h1 | ⟨a, e, _⟩
  · rw [h1] at h0; simp at h0
  · exact ⟨a, e⟩
theorem ao3 (x : Nod) (z : Int) (w : World) : Calls Tryz.prog 124 #[.agg #[.string x.kd, .int .i64 x.a, .int .i64 x.b, .int .i64 x.c, .int .i64 x.n, .int .i64 x.cl, .int .i64 x.ga, .string x.w.sh, .int .i64 x.w.a, .int .i64 x.w.b, .int .i64 x.w.at_, .int .i64 x.w.soft], .int .i64 z] w fun r w' => r = .returned (.int .i64 (ndE x z)) ∧ Below w.heap.size w w' := by
  refine i7 n9 Tryz.func124 rfl Tryz.ntmps124 (Nat.le_of_ble_eq_true rfl) rfl ?_
  cases hk : kdOf x.kd with
  | none =>
    have hin := aV6 hk
    rw [bk4 hk]
    repeat' (first
|(refine j7 ?_; first
|refine e8 ?_
|refine a6 rfl ?_
|refine i6 ?_
|refine n8 (id := 2) 6 [(0, true), (1, true), (3, true), (5, true), (2, false), (4, false)] rfl mixed (by kernel_rfl) rfl ?_
|refine o5 rfl obQ ?_)
|(refine k6 ?_; first
|(refine j5 (f := 176) rfl obQ (by kernel_rfl) (fun w hw => E2 hin.1 hin.2 rfl w) (fun w1N w2N vN hw1N hbN hRN => ?_); obtain ⟨AN, cN, rfl, hSN⟩ := hRN)
|refine j8 (k9 rfl obQ (fun w => ah2 (x := usX x) (y := x) (b := (decide (usX x ≠ x))) rfl _ _ w)) ?_
|refine e7 ?_
|refine q4 rfl rfl obQ obQ ?_
|refine k7 (fun b2 => ⟨_, _, rfl, obQ, ?_⟩)
|refine j9 (fun b => ⟨_, _, rfl, obQ, ?_⟩)
|refine a8 (f := 81) rfl obQ (by kernel_rfl) (fun w hw => F3 _ _ w) ?_
|refine a8 (f := 189) rfl obQ (by kernel_rfl) (fun w hw => ap7 x w) ?_
|refine a8 (f := 113) rfl obQ (by kernel_rfl) (fun w hw => aa3 (l := [wh (!false) 13, wh (decide (usX x ≠ x)) 1]) rfl (by simp) rfl _ w (.inr ⟨_, rfl, hw.src (i := 1) rfl rfl⟩)) ?_)
|refine r5 ?_
|refine V_q rfl (k8 rfl obQ) ?_
|refine V_n rfl ?_
|(refine o8 ?_; first
|refine G_V ⟨⟨_, rfl, trivial⟩, ⟨_, rfl⟩, rfl, pstQ⟩ rfl ?_
|refine a7 ?_
|refine j6 ?_
|refine j4 rfl obQ (fun w hw => ⟨?_, hw.below⟩)))
    all_goals rfl
  | some kk =>
    have hin := aS5 hk
    have huX := aS7 hk
    by_cases hu : usF kk x = x
    · have hub : decide (usX x ≠ x) = false := by rw [huX, hu]; simp
      repeat' (first
|(refine j7 ?_; first
|refine e8 ?_
|refine a6 rfl ?_
|refine j1 ?_
|refine j3 ?_
|refine n8 (id := 2) 6 [(0, true), (1, true), (3, true), (5, true), (2, false), (4, false)] rfl mixed (by kernel_rfl) rfl ?_
|refine n7 rfl obQ ?_)
|(refine k6 ?_; first
|(refine j5 (f := 176) rfl obQ (by kernel_rfl) (fun w hw => E2 hin.1 hin.2 rfl w) (fun w1N w2N vN hw1N hbN hRN => ?_); obtain ⟨AN, cN, rfl, hSN⟩ := hRN)
|refine j8 (k9 rfl obQ (fun w => ah2 (x := usX x) (y := x) (b := false) hub _ _ w)) ?_
|refine e7 ?_
|refine q4 rfl rfl obQ obQ ?_
|refine k7 (fun b2 => ⟨_, _, rfl, obQ, ?_⟩)
|refine j9 (fun b => ⟨_, _, rfl, obQ, ?_⟩)
|refine a8 (f := 81) rfl obQ (by kernel_rfl) (fun w hw => F3 _ _ w) ?_
|refine a8 (f := 189) rfl obQ (by kernel_rfl) (fun w hw => ap7 x w) ?_
|refine a8 (f := 113) rfl obQ (by kernel_rfl) (fun w hw => aa3 (l := [wh (!true) 13, wh false 1]) rfl (by simp) rfl _ w (.inr ⟨_, rfl, hw.src (i := 1) rfl rfl⟩)) ?_)
|refine r5 ?_
|refine V_q rfl (k8 rfl obQ) ?_
|refine V_n rfl ?_
|refine G_V ⟨⟨_, rfl, trivial⟩, ⟨_, rfl⟩, rfl, pstQ⟩ rfl ?_
|refine a7 ?_)
      obtain ⟨b2, rfl⟩ : ∃ q, q = b2 := ⟨b2, rfl⟩
      refine p7 (fun k : Nat => ⟨[(8, .s (.v (.int .i64 k))), (5, .s (.v (.slice AN (insF kk x).length cN))), (2, .s (.p b2 0 0)), (1, .s (.v (.int .i64 z)))], [⟨b2, 170, [.v (.string x.kd), .v (.int .i64 x.a), .v (.int .i64 x.b), .v (.int .i64 x.c), .v (.int .i64 x.n), .v (.int .i64 x.cl), .v (.int .i64 x.ga), .v (.string x.w.sh), .v (.int .i64 x.w.a), .v (.int .i64 x.w.b), .v (.int .i64 x.w.at_), .v (.int .i64 x.w.soft)]⟩], []⟩) (fun k => k ≤ (insF kk x).length ∧ ∀ j, j < k → 0 ≤ gI (insF kk x) j ∧ gI (insF kk x) j < z) (fun k => (insF kk x).length - k) 0 ⟨Nat.zero_le _, fun j hj => absurd hj (Nat.not_lt_zero _)⟩ ?_ (fun k hk0 => ?_)
      · exact svQ
      obtain ⟨hkl, hi⟩ := hk0
      dsimp only
      have hl3 : (insF kk x).length ≤ 3 := by cases kk <;> simp [insF]
      by_cases hlt : k < (insF kk x).length
      · obtain ⟨adN, rfl⟩ := aL8 hSN (by rw [List.length_map]; omega)
        by_cases h1 : gI (insF kk x) k < 0
        · rw [bi3 hk hu (aS0 hlt (by omega))]
          repeat' (first
|(refine j7 ?_; first
|refine e8 ?_
|refine a6 rfl ?_
|refine j1 ?_
|refine j3 ?_
|refine i6 ?_
|refine o5 rfl obQ ?_)
|(refine k6 ?_; first
|((with_reducible (first | refine r3 ?_ ?_ | refine q6 ?_ ?_ | refine q9 ?_ ?_ | refine q8 ?_ ?_ | refine q7 ?_ ?_)); · (first | rfl | omega | exact decide_eq_false (by omega)))
|((with_reducible (first | refine y3 ?_ ?_ | refine x7 ?_ ?_ | refine x9 ?_ ?_ | refine y4 ?_ ?_ | refine x8 ?_ ?_)); · (first | rfl | assumption | omega | exact decide_eq_true (by omega)))
|refine w8 rfl rfl rfl rfl ?_
|refine B4 (.v (.bool false)) rfl rfl rfl rfl rfl ?_
|refine n4 rfl obQ rfl [.int .i64 (gI (insF kk x) k)] (.past (w2N, fun b => w1N.heap.size ≤ b ∧ b < w2N.heap.size) memQ _ _ hSN _ adN rfl rfl (y5 (k := k) rfl hlt)) rfl (.inr ⟨rfl, rfl⟩) ?_
|refine E7 rfl obQ ?_
|refine e7 ?_)
|(refine o8 ?_; first
|refine a7 ?_
|refine r8 ?_
|refine j6 ?_
|refine j4 rfl obQ (fun w hw => ⟨?_, hw.below⟩)))
          all_goals rfl
        · by_cases h2 : z ≤ gI (insF kk x) k
          · rw [bi3 hk hu (aS0 hlt (by omega))]
            repeat' (first
|(refine j7 ?_; first
|refine e8 ?_
|refine a6 rfl ?_
|refine j1 ?_
|refine j3 ?_
|refine i6 ?_
|refine o5 rfl obQ ?_)
|(refine k6 ?_; first
|((with_reducible (first | refine r3 ?_ ?_ | refine q6 ?_ ?_ | refine q9 ?_ ?_ | refine q8 ?_ ?_ | refine q7 ?_ ?_)); · (first | rfl | omega | exact decide_eq_false (by omega)))
|((with_reducible (first | refine y3 ?_ ?_ | refine x7 ?_ ?_ | refine x9 ?_ ?_ | refine y4 ?_ ?_ | refine x8 ?_ ?_)); · (first | rfl | assumption | omega | exact decide_eq_true (by omega)))
|refine w8 rfl rfl rfl rfl ?_
|refine B4 (.v (.bool false)) rfl rfl rfl rfl rfl ?_
|refine n4 rfl obQ rfl [.int .i64 (gI (insF kk x) k)] (.past (w2N, fun b => w1N.heap.size ≤ b ∧ b < w2N.heap.size) memQ _ _ hSN _ adN rfl rfl (y5 (k := k) rfl hlt)) rfl (.inr ⟨rfl, rfl⟩) ?_
|refine E7 rfl obQ ?_
|refine e7 ?_)
|(refine o8 ?_; first
|refine a7 ?_
|refine r8 ?_
|refine j6 ?_
|refine j4 rfl obQ (fun w hw => ⟨?_, hw.below⟩)))
            all_goals rfl
          · repeat' (first
|(refine j7 ?_; first
|refine e8 ?_
|refine a6 rfl ?_
|refine j1 ?_
|refine j3 ?_
|refine o5 rfl obQ ?_
|refine n7 rfl obQ ?_)
|(refine k6 ?_; first
|((with_reducible (first | refine r3 ?_ ?_ | refine q6 ?_ ?_ | refine q9 ?_ ?_ | refine q8 ?_ ?_ | refine q7 ?_ ?_)); · (first | rfl | omega | exact decide_eq_false (by omega)))
|((with_reducible refine A7 ?_ ?_ ?_); (· rfl); (· first | rfl | (first | rfl | omega | exact decide_eq_false (by omega))))
|((with_reducible (first | refine y3 ?_ ?_ | refine x7 ?_ ?_ | refine x9 ?_ ?_ | refine y4 ?_ ?_ | refine x8 ?_ ?_)); · (first | rfl | assumption | omega | exact decide_eq_true (by omega)))
|refine w8 rfl rfl rfl rfl ?_
|refine n4 rfl obQ rfl [.int .i64 (gI (insF kk x) k)] (.past (w2N, fun b => w1N.heap.size ≤ b ∧ b < w2N.heap.size) memQ _ _ hSN _ adN rfl rfl (y5 (k := k) rfl hlt)) rfl (.inr ⟨rfl, rfl⟩) ?_
|refine E7 rfl obQ ?_
|refine e7 ?_)
|refine o6 (k + 1) ⟨by omega, fun j hj => by by_cases e : j = k; subst e; omega; exact hi j (by omega)⟩ (by omega) svQ
|refine a7 ?_
|refine n5 ?_)
      · have hin2 := be9 (fun j hj => hi j (by omega))
        rw [bv5 hk hu hin2]
        cases kk with
  | src =>
            have nmat := y7 hk .mat (by decide)
            have nmix := y7 hk .mix (by decide)
            have nwip := y7 hk .wip (by decide)
            have nkey := y7 hk .key (by decide)
            have ysrc := J1 hk
            repeat' (first
|(refine j7 ?_; first
|refine e8 ?_
|refine a6 rfl ?_
|refine o0 ?_
|refine i6 ?_
|refine n7 rfl obQ ?_
|(refine j0 rfl obQ ?_ ?_ <;> intro h <;> (try simp only [cdS] at h) <;> (try (exfalso; omega)) <;> (try exact cdF h) <;> (try contradiction) <;> (try (exfalso; first | exact nmat (toL h) | exact nmix (toL h) | exact nwip (toL h) | exact nkey (toL h) | exact h (congrArg ByteArray.toList ysrc) | exact h.1.1 (congrArg ByteArray.toList ysrc) | exact h.1.2 (congrArg ByteArray.toList ysrc) | exact h.2 (congrArg ByteArray.toList ysrc))) <;> (try (exfalso; omega))))
|refine e7 ?_
|refine e9 rfl rfl obQ obQ ?_
|refine a8 (f := 33) rfl obQ (by kernel_rfl) (fun w hw => af1 x.n w) ?_
|(refine o8 ?_; first
|refine a7 ?_
|refine n2 ?_
|refine j6 ?_
|refine n6 ?_
|refine j4 rfl obQ (fun w hw => ⟨?_, hw.below⟩)))
            all_goals rfl
          | mat =>
            have nsrc := y7 hk .src (by decide)
            have nmix := y7 hk .mix (by decide)
            have nwip := y7 hk .wip (by decide)
            have nkey := y7 hk .key (by decide)
            have ymat := J1 hk
            repeat' (first
|(refine j7 ?_; first
|refine e8 ?_
|refine a6 rfl ?_
|refine j3 ?_
|refine o0 ?_
|refine i6 ?_
|refine n7 rfl obQ ?_
|(refine j0 rfl obQ ?_ ?_ <;> intro h <;> (try simp only [cdS] at h) <;> (try (exfalso; omega)) <;> (try exact cdF h) <;> (try contradiction) <;> (try (exfalso; first | exact nsrc (toL h) | exact nmix (toL h) | exact nwip (toL h) | exact nkey (toL h) | exact h (congrArg ByteArray.toList ymat) | exact h.1.1 (congrArg ByteArray.toList ymat) | exact h.1.2 (congrArg ByteArray.toList ymat) | exact h.2 (congrArg ByteArray.toList ymat))) <;> (try (exfalso; omega))))
|refine e7 ?_
|refine e9 rfl rfl obQ obQ ?_
|refine a8 (f := 141) rfl obQ (by kernel_rfl) (fun w hw => R8 x.n w) ?_
|(refine o8 ?_; first
|refine a7 ?_
|refine n2 ?_
|refine j6 ?_
|refine n6 ?_
|refine j4 rfl obQ (fun w hw => ⟨?_, hw.below⟩)))
            all_goals rfl
          | mix =>
            have nsrc := y7 hk .src (by decide)
            have nmat := y7 hk .mat (by decide)
            have nwip := y7 hk .wip (by decide)
            have nkey := y7 hk .key (by decide)
            have ymix := J1 hk
            repeat' (first
|(refine j7 ?_; first
|refine e8 ?_
|refine a6 rfl ?_
|refine j3 ?_
|refine o0 ?_
|refine i6 ?_
|(refine j0 rfl obQ ?_ ?_ <;> intro h <;> (try simp only [cdS] at h) <;> (try (exfalso; omega)) <;> (try exact cdF h) <;> (try contradiction) <;> (try (exfalso; first | exact nsrc (toL h) | exact nmat (toL h) | exact nwip (toL h) | exact nkey (toL h) | exact h (congrArg ByteArray.toList ymix) | exact h.1.1 (congrArg ByteArray.toList ymix) | exact h.1.2 (congrArg ByteArray.toList ymix) | exact h.2 (congrArg ByteArray.toList ymix))) <;> (try (exfalso; omega))))
|refine e7 ?_
|refine e9 rfl rfl obQ obQ ?_
|refine a8 (f := 114) rfl obQ (by kernel_rfl) (fun w hw => J8 _ _ _ w) ?_
|(refine o8 ?_; first
|refine a7 ?_
|refine n2 ?_
|refine j6 ?_
|refine n6 ?_
|refine j4 rfl obQ (fun w hw => ⟨?_, hw.below⟩)))
            all_goals rfl
          | wip =>
            have nsrc := y7 hk .src (by decide)
            have nmat := y7 hk .mat (by decide)
            have nmix := y7 hk .mix (by decide)
            have nkey := y7 hk .key (by decide)
            have ywip := J1 hk
            repeat' (first
|(refine j7 ?_; first
|refine e8 ?_
|refine a6 rfl ?_
|refine j3 ?_
|refine o0 ?_
|refine i6 ?_
|(refine j0 rfl obQ ?_ ?_ <;> intro h <;> (try simp only [cdS] at h) <;> (try (exfalso; omega)) <;> (try exact cdF h) <;> (try contradiction) <;> (try (exfalso; first | exact nsrc (toL h) | exact nmat (toL h) | exact nmix (toL h) | exact nkey (toL h) | exact h (congrArg ByteArray.toList ywip) | exact h.1.1 (congrArg ByteArray.toList ywip) | exact h.1.2 (congrArg ByteArray.toList ywip) | exact h.2 (congrArg ByteArray.toList ywip) | exact h.elim (fun h => h.elim (fun h => nsrc (toL h)) (fun h => nmat (toL h))) (fun h => nmix (toL h)))) <;> (try (exfalso; omega))))
|refine e7 ?_
|refine e9 rfl rfl obQ obQ ?_
|refine a8 (f := 21) rfl obQ (by kernel_rfl) (fun w hw => ao1 x.w w) ?_
|(refine o8 ?_; first
|refine a7 ?_
|refine n2 ?_
|refine j6 ?_
|refine n6 ?_
|refine j4 rfl obQ (fun w hw => ⟨?_, hw.below⟩)))
            all_goals rfl
          | key =>
            have nsrc := y7 hk .src (by decide)
            have nmat := y7 hk .mat (by decide)
            have nmix := y7 hk .mix (by decide)
            have nwip := y7 hk .wip (by decide)
            have ykey := J1 hk
            repeat' (first
|(refine j7 ?_; first
|refine e8 ?_
|refine a6 rfl ?_
|refine j3 ?_
|refine o0 ?_
|refine i6 ?_
|(refine j0 rfl obQ ?_ ?_ <;> intro h <;> (try simp only [cdS] at h) <;> (try (exfalso; omega)) <;> (try exact cdF h) <;> (try contradiction) <;> (try (exfalso; first | exact nsrc (toL h) | exact nmat (toL h) | exact nmix (toL h) | exact nwip (toL h) | exact h (congrArg ByteArray.toList ykey) | exact h.1.1 (congrArg ByteArray.toList ykey) | exact h.1.2 (congrArg ByteArray.toList ykey) | exact h.2 (congrArg ByteArray.toList ykey) | exact h.elim (fun h => h.elim (fun h => nsrc (toL h)) (fun h => nmat (toL h))) (fun h => nmix (toL h)))) <;> (try (exfalso; omega))))
|refine e7 ?_
|refine e9 rfl rfl obQ obQ ?_
|refine a8 (f := 59) rfl obQ (by kernel_rfl) (fun w hw => ai2 x.cl x.ga w) ?_
|(refine o8 ?_; first
|refine a7 ?_
|refine n2 ?_
|refine n6 ?_
|refine j4 rfl obQ (fun w hw => ⟨?_, hw.below⟩)))
            all_goals rfl
    · have hub : decide (usX x ≠ x) = true := by rw [huX]; exact decide_eq_true hu
      rw [bt8 hk hu]
      repeat' (first
|(refine j7 ?_; first
|refine e8 ?_
|refine a6 rfl ?_
|refine i6 ?_
|refine n8 (id := 2) 6 [(0, true), (1, true), (3, true), (5, true), (2, false), (4, false)] rfl mixed (by kernel_rfl) rfl ?_
|refine o5 rfl obQ ?_)
|(refine k6 ?_; first
|(refine j5 (f := 176) rfl obQ (by kernel_rfl) (fun w hw => E2 hin.1 hin.2 rfl w) (fun w1N w2N vN hw1N hbN hRN => ?_); obtain ⟨AN, cN, rfl, hSN⟩ := hRN)
|refine j8 (k9 rfl obQ (fun w => ah2 (x := usX x) (y := x) (b := true) hub _ _ w)) ?_
|refine e7 ?_
|refine q4 rfl rfl obQ obQ ?_
|refine k7 (fun b2 => ⟨_, _, rfl, obQ, ?_⟩)
|refine j9 (fun b => ⟨_, _, rfl, obQ, ?_⟩)
|refine a8 (f := 81) rfl obQ (by kernel_rfl) (fun w hw => F3 _ _ w) ?_
|refine a8 (f := 189) rfl obQ (by kernel_rfl) (fun w hw => ap7 x w) ?_
|refine a8 (f := 113) rfl obQ (by kernel_rfl) (fun w hw => aa3 (l := [wh (!true) 13, wh true 1]) rfl (by simp) rfl _ w (.inr ⟨_, rfl, hw.src (i := 1) rfl rfl⟩)) ?_)
|refine r5 ?_
|refine V_q rfl (k8 rfl obQ) ?_
|refine V_n rfl ?_
|(refine o8 ?_; first
|refine G_V ⟨⟨_, rfl, trivial⟩, ⟨_, rfl⟩, rfl, pstQ⟩ rfl ?_
|refine a7 ?_
|refine j6 ?_
|refine j4 rfl obQ (fun w hw => ⟨?_, hw.below⟩)))
      all_goals rfl
theorem ar9 (A : Option Addr) (c : Nat) (t : List Nod) (hl : t.length ≤ 1000000) (w : World) (hr : Rd w A (t.flatMap ndC)) : Calls Tryz.prog 32 #[.slice A t.length c] w fun r w' => r = .returned (.int .i64 (trE t)) ∧ Below w.heap.size w w' := by
  refine i7 n9 Tryz.func32 rfl Tryz.ntmps32 (Nat.le_of_ble_eq_true rfl) rfl ?_
  by_cases h1 : trnE t.length = 0
  · rw [bl0 h1]
    repeat' (first
|(refine j7 ?_; first
|refine e8 ?_
|refine a6 rfl ?_
|refine j1 ?_
|refine j3 ?_
|refine i6 ?_
|(refine j0 rfl obQ ?_ ?_ <;> intro h <;> (try simp only [cdS] at h) <;> (try (exfalso; omega)) <;> (try exact cdF h) <;> (try contradiction)))
|(refine k6 ?_; first
|refine e7 ?_
|refine e9 rfl rfl obQ obQ ?_
|refine j9 (fun b => ⟨_, _, rfl, obQ, ?_⟩)
|refine a8 (f := 81) rfl obQ (by kernel_rfl) (fun w hw => F3 _ _ w) ?_
|refine a8 (f := 113) rfl obQ (by kernel_rfl) (fun w hw => H9 _ _ [wh ((t.length : Int) == 0) 12, wh (decide ((16 : Int) < t.length)) 5] (by simp) w (.inr ⟨_, rfl, hw.src (i := 0) rfl rfl⟩)) ?_)
|refine a7 ?_
|refine j6 ?_
|refine j4 rfl obQ (fun w hw => ⟨?_, hw.below⟩))
    refine p7 (fun k : Nat => ⟨[(4, .s (.v (.int .i64 k))), (0, .s (.v (.slice A t.length c)))], [], []⟩) (fun k => k ≤ t.length ∧ firstL ((List.range t.length).map fun i => ndE (gN t i) i) = firstL (((List.range t.length).map fun i => ndE (gN t i) i).drop k)) (fun k => t.length - k) 0 ⟨Nat.zero_le _, rfl⟩ ?_ (fun k hk => ?_)
    · exact svQ
    by_cases hlt : k < t.length
    · obtain ⟨ad, rfl⟩ := hr.some (by rw [C6]; omega)
      have hfd := af7 (f := fun i : Nat => ndE (gN t i) (i : Int)) hlt
      repeat' (first
|(refine j7 ?_; first
|refine e8 ?_
|refine a6 rfl ?_
|refine j1 ?_
|refine j3 ?_
|refine i6 ?_
|(refine j0 rfl obQ ?_ ?_ <;> intro h <;> (try simp only [cdS] at h) <;> (try (exfalso; omega)) <;> (try exact cdF h) <;> (try (exfalso; omega))))
|(refine k6 ?_; first
|refine n4 rfl obQ rfl [.string (gN t k).kd, .int .i64 (gN t k).a, .int .i64 (gN t k).b, .int .i64 (gN t k).c, .int .i64 (gN t k).n, .int .i64 (gN t k).cl, .int .i64 (gN t k).ga, .string (gN t k).w.sh, .int .i64 (gN t k).w.a, .int .i64 (gN t k).w.b, .int .i64 (gN t k).w.at_, .int .i64 (gN t k).w.soft] (.past (w, fun b => b < w.heap.size) memQ _ _ hr.toS _ _ rfl rfl (C5 (t := t) (k := k) rfl hlt)) rfl (.inl ⟨rfl, rfl⟩) ?_
|refine e7 ?_
|refine e9 rfl rfl obQ obQ ?_
|refine a8 (f := 124) rfl obQ (by kernel_rfl) (fun w hw => ao3 (gN t k) k w) ?_)
|(refine o8 ?_; first
|refine o6 (k + 1) ?_ (by omega) svQ
|refine a7 ?_
|refine n5 ?_
|refine r8 ?_
|refine j6 ?_
|refine j4 rfl obQ (fun w hw => ⟨?_, hw.below⟩)))
      · exact rI (by have h' : ¬ (fun i : Nat => ndE (gN t i) (i : Int)) k = 0 := h; rw [hk.2, hfd, if_neg h'])
      · exact ⟨by omega, by have h' : (fun i : Nat => ndE (gN t i) (i : Int)) k = 0 := h; rw [hk.2, hfd, if_pos h']⟩
    · obtain rfl : k = t.length := by omega
      repeat' (first
|(refine j7 ?_; first
|refine e8 ?_
|refine a6 rfl ?_
|refine j1 ?_
|refine j3 ?_
|refine o0 ?_
|refine i6 ?_
|(refine j0 rfl obQ ?_ ?_ <;> intro h <;> (try simp only [cdS] at h) <;> (try (exfalso; omega)) <;> (try exact cdF h) <;> (try (exfalso; omega))))
|refine e7 ?_
|refine e9 rfl rfl obQ obQ ?_
|(refine o8 ?_; first
|refine a7 ?_
|refine n2 ?_
|refine n6 ?_
|refine j4 rfl obQ (fun w hw => ⟨?_, hw.below⟩)))
      exact rI (by rw [hk.2, ak2])
  · rw [bi2 h1]
    repeat' (first
|(refine j7 ?_; first
|refine e8 ?_
|refine a6 rfl ?_
|refine j1 ?_
|refine j3 ?_
|refine i6 ?_
|(refine j0 rfl obQ ?_ ?_ <;> intro h <;> (try simp only [cdS] at h) <;> (try (exfalso; omega)) <;> (try exact cdF h) <;> (try contradiction)))
|(refine k6 ?_; first
|refine e7 ?_
|refine e9 rfl rfl obQ obQ ?_
|refine j9 (fun b => ⟨_, _, rfl, obQ, ?_⟩)
|refine a8 (f := 81) rfl obQ (by kernel_rfl) (fun w hw => F3 _ _ w) ?_
|refine a8 (f := 113) rfl obQ (by kernel_rfl) (fun w hw => H9 _ _ [wh ((t.length : Int) == 0) 12, wh (decide ((16 : Int) < t.length)) 5] (by simp) w (.inr ⟨_, rfl, hw.src (i := 0) rfl rfl⟩)) ?_)
|refine a7 ?_
|refine j6 ?_
|refine j4 rfl obQ (fun w hw => ⟨?_, hw.below⟩))
    all_goals rfl
theorem ad1 {l : List Int} {z : Int} : l.any (eqB z) = decide (z ∈ l) := by
  rw [Bool.eq_iff_iff, List.any_eq_true, decide_eq_true_eq]
  unfold eqB
  constructor
  · rintro ⟨x, hx, h⟩
    rw [of_decide_eq_true h]
    exact hx
  · intro h
    exact ⟨z, h, decide_eq_true rfl⟩
theorem bc0 {l : List Int} {z : Int} {k : Nat} (hk : k < l.length) (h : gI l k = z) : l.any (eqB z) = true := by
  rw [ad1, ← h]
  exact decide_eq_true (O3 hk)
theorem bo1 {l : List Int} {z : Int} (h : ∀ k, k < l.length → ¬ gI l k = z) : l.any (eqB z) = false := by
  rw [ad1]
  refine decide_eq_false fun hz => ?_
  obtain ⟨k, hk, e⟩ := List.getElem_of_mem hz
  exact h k hk (by rw [F5 hk, e])
theorem aL9 (A : Option Addr) (c : Nat) (l : List Int) (hl : l.length ≤ 1000000) (z : Int) (w : World) (hr : Rd w A (l.map (.int .i64))) : Calls Tryz.prog 74 #[.slice A l.length c, .int .i64 z] w fun r w' => r = .returned (.bool (l.any (eqB z))) ∧ Below w.heap.size w w' := by
  refine i7 n9 Tryz.func74 rfl Tryz.ntmps74 (Nat.le_of_ble_eq_true rfl) rfl ?_
  repeat' (first
|(refine j7 ?_; first
|refine e8 ?_
|refine a6 rfl ?_
|refine j1 ?_
|refine j3 ?_
|refine i6 ?_
|(refine j0 rfl obQ ?_ ?_ <;> intro h <;> (try simp only [cdS] at h)))
|refine e7 ?_
|refine e9 rfl rfl obQ obQ ?_
|refine a7 ?_
|refine j6 ?_
|refine j4 rfl obQ (fun w hw => ⟨?_, hw.below⟩))
  refine p7 (fun k : Nat => ⟨[(5, .s (.v (.int .i64 k))), (0, .s (.v (.slice A l.length c))), (1, .s (.v (.int .i64 z)))], [], []⟩) (fun k => k ≤ l.length ∧ ∀ j, j < k → ¬ gI l j = z) (fun k => l.length - k) 0 ⟨Nat.zero_le _, fun j hj => absurd hj (Nat.not_lt_zero _)⟩ ?_ (fun k hk => ?_)
  · exact svQ
  by_cases hlt : k < l.length
  · obtain ⟨ad, rfl⟩ := hr.some (by simp; omega)
    by_cases hz : gI l k = z
    · rw [bc0 hlt hz]
      repeat' (first
|(refine j7 ?_; first
|refine e8 ?_
|refine a6 rfl ?_
|refine j1 ?_
|refine j3 ?_
|refine i6 ?_
|(refine j0 rfl obQ ?_ ?_ <;> intro h <;> (try simp only [cdS] at h) <;> (try (exfalso; omega)) <;> (try exact cdF h) <;> (try contradiction) <;> (try (exfalso; omega))))
|refine n4 rfl obQ rfl [.int .i64 (gI l k)] (.past (w, fun b => b < w.heap.size) memQ _ _ hr.toS _ _ rfl rfl (y5 (k := k) rfl hlt)) rfl (.inr ⟨rfl, rfl⟩) ?_
|refine e7 ?_
|refine e9 rfl rfl obQ obQ ?_
|(refine o8 ?_; first
|refine a7 ?_
|refine r8 ?_
|refine j6 ?_
|refine j4 rfl obQ (fun w hw => ⟨?_, hw.below⟩)))
      all_goals rfl
    · repeat' (first
|(refine j7 ?_; first
|refine e8 ?_
|refine a6 rfl ?_
|refine j1 ?_
|refine j3 ?_
|(refine j0 rfl obQ ?_ ?_ <;> intro h <;> (try simp only [cdS] at h) <;> (try (exfalso; omega)) <;> (try exact cdF h) <;> (try contradiction) <;> (try (exfalso; omega))))
|refine n4 rfl obQ rfl [.int .i64 (gI l k)] (.past (w, fun b => b < w.heap.size) memQ _ _ hr.toS _ _ rfl rfl (y5 (k := k) rfl hlt)) rfl (.inr ⟨rfl, rfl⟩) ?_
|refine e7 ?_
|refine e9 rfl rfl obQ obQ ?_
|refine o6 (k + 1) ⟨by omega, fun j hj => by by_cases e : j = k; subst e; exact hz; exact hk.2 j (by omega)⟩ (by omega) svQ
|refine a7 ?_
|refine n5 ?_)
  · rw [bo1 (fun j hj => hk.2 j (by omega))]
    repeat' (first
|(refine j7 ?_; first
|refine e8 ?_
|refine a6 rfl ?_
|refine o0 ?_
|refine i6 ?_
|(refine j0 rfl obQ ?_ ?_ <;> intro h <;> (try simp only [cdS] at h) <;> (try (exfalso; omega)) <;> (try exact cdF h) <;> (try (exfalso; omega))))
|refine e7 ?_
|refine e9 rfl rfl obQ obQ ?_
|(refine o8 ?_; first
|refine a7 ?_
|refine n2 ?_
|refine n6 ?_
|refine j4 rfl obQ (fun w hw => ⟨?_, hw.below⟩)))
    all_goals rfl
theorem ah1 {A : Option Addr} {c n : Nat} {l : List Int} {z : Int} {b : Bool} (h : l.any (eqB z) = b) (hn : l.length = n) (hl : n ≤ 1000000) (w : World) (hr : Rd w A (l.map (.int .i64))) : Calls Tryz.prog 74 #[.slice A n c, .int .i64 z] w fun r w' => r = .returned (.bool b) ∧ Below w.heap.size w w' := by
  subst h hn
  exact aL9 A c l hl z w hr
theorem V2 {t : List Nod} {k : Nat} {z : Int} (e : z = k) (h : k < t.length) (o : Nat) {v : Value} (hv : (ndC (gN t k))[o]? = some v) : ∀ (j : Nat) (u : Value), ([v] : List Value)[j]? = some u → (t.flatMap ndC)[(z.toNat * 12 + o) + j]? = some u := by
  subst e
  rw [E6 h] at hv
  exact idxF (f := ndC) (fun _ => rfl) h o hv
def scT (t : List Nod) (k : Nat) : List Int := ((List.range k).filter fun (j : Nat) => hasS t (j : Int)).map fun (j : Nat) => (j : Int)
theorem bz6 {t : List Nod} {k : Nat} (h : hasS t k = true) : scT t (k + 1) = scT t k ++ [(k : Int)] := by
  unfold scT
  rw [List.range_succ, List.filter_append, List.map_append]
  simp [h]
theorem bv6 {t : List Nod} {k : Nat} (h : hasS t k = false) : scT t (k + 1) = scT t k := by
  unfold scT
  rw [List.range_succ, List.filter_append, List.map_append]
  simp [h]
theorem br6 (t : List Nod) (k : Nat) : (scT t k).length ≤ k := by
  unfold scT
  rw [List.length_map]
  have := List.length_filter_le (fun j : Nat => hasS t (j : Int)) (List.range k)
  simp at this ⊢
  omega
theorem bn1 {t : List Nod} {i : Nat} {k : Int} (h : i < t.length) : hasS (t.take (i + 1)) k = (hasS (t.take i) k || (decide ((gN t i).kd = bSrc) && decide ((gN t i).n = k))) := by
  unfold hasS
  rw [List.take_succ_eq_append_getElem h, List.any_append, ← E6 h]
  simp
theorem af9 (A : Option Addr) (c : Nat) (t : List Nod) (hl : t.length ≤ 1000000) (w : World) (hr : Rd w A (t.flatMap ndC)) : Calls Tryz.prog 46 #[.slice A t.length c] w fun r w' => ∃ v, r = .returned v ∧ Below w.heap.size w w' ∧ Sl w w' v (scI t).length ((scI t).map (.int .i64)) := by
  refine i7 n9 Tryz.func46 rfl Tryz.ntmps46 (Nat.le_of_ble_eq_true rfl) rfl ?_
  repeat' (first
|refine e8 ?_
|refine a6 rfl ?_
|refine j1 ?_
|refine e7 ?_
|refine e9 rfl rfl obQ obQ ?_
|refine a7 ?_)
  refine C9 3 3 1 rfl ?_
  refine p7 (fun i : Nat × Option Addr × Nat => ⟨[(4, .s (.v (.int .i64 i.1))), (3, .s (.r i.2.1 (scT t i.1).length i.2.2 0)), (0, .s (.v (.slice A t.length c)))], [], [⟨3, 1, (scT t i.1).length, (scT t i.1).map (.int .i64), .slice i.2.1 (scT t i.1).length i.2.2⟩]⟩) (fun i => i.1 ≤ 8) (fun i => 8 - i.1) (0, none, 0) (Nat.zero_le _) ?_ (fun i hi => ?_)
  · exact svQ
  obtain ⟨k, A2, c2⟩ := i
  have hk : k ≤ 8 := hi
  have hle := br6 t k
  dsimp only
  by_cases hlt : k < 8
  · repeat' (first
|(refine j7 ?_; first
|refine e8 ?_
|refine a6 rfl ?_
|refine j1 ?_
|refine j3 ?_
|refine o0 ?_
|refine i6 ?_
|(refine j0 rfl obQ ?_ ?_ <;> intro h <;> (try simp only [cdS] at h) <;> (try (exfalso; omega)) <;> (try exact cdF h) <;> (try (exfalso; omega))))
|refine e7 ?_
|refine e9 rfl rfl obQ obQ ?_
|(refine o8 ?_; first
|refine a7 ?_
|refine n2 ?_
|refine n6 ?_
|refine j4 rfl obQ (fun w hw => ⟨?_, hw.below⟩)))
    refine p7 (fun i : Nat => ⟨[(6, .s (.v (.int .i64 i))), (5, .s (.v (.bool (hasS (t.take i) k)))), (4, .s (.v (.int .i64 k))), (3, .s (.r A2 (scT t k).length c2 0)), (0, .s (.v (.slice A t.length c)))], [], [⟨3, 1, (scT t k).length, (scT t k).map (.int .i64), .slice A2 (scT t k).length c2⟩]⟩) (fun i => i ≤ t.length) (fun i => t.length - i) 0 (Nat.zero_le _) ?_ (fun i hi => ?_)
    · exact svQ
    have hi1 : i ≤ t.length := hi
    dsimp only
    by_cases hlt : i < t.length
    · obtain ⟨ad, rfl⟩ := hr.some (by rw [C6]; omega)
      have hss := bn1 (k := k) hlt
      cases hb : hasS (t.take i) k
      · rw [hb, Bool.false_or] at hss
        by_cases hs : (gN t i).kd = bSrc
        · rw [decide_eq_true hs, Bool.true_and] at hss
          by_cases hn : (gN t i).n = k
          · rw [decide_eq_true hn] at hss
            repeat' (first
|(refine j7 ?_; first
|refine e8 ?_
|refine a6 rfl ?_
|refine j1 ?_
|refine j3 ?_
|(refine j0 rfl obQ ?_ ?_ <;> intro h <;> (try simp only [cdS] at h) <;> (try (exfalso; omega)) <;> (try exact cdF h) <;> (try contradiction) <;> (try (exfalso; omega))))
|(refine k6 ?_; first
|((with_reducible (first | refine y3 ?_ ?_ | refine x7 ?_ ?_ | refine x9 ?_ ?_ | refine y4 ?_ ?_ | refine x8 ?_ ?_)); · (first | rfl | exact al0 hs | exact beq_iff_eq.2 hn))
|refine w8 rfl rfl rfl rfl ?_
|refine az4 rfl rfl obQ ?_
|((with_reducible refine aH1 ?_ ?_); · (first | assumption | (apply Eq.symm; assumption)))
|refine n4 rfl obQ rfl [.string (gN t i).kd] (.past (w, fun b => b < w.heap.size) memQ _ _ hr.toS (((i : Nat) : Int).toNat * 12 + 0) _ rfl (n3 _ _ _) (V2 (t := t) (k := i) rfl hlt 0 rfl)) rfl (.inr ⟨rfl, rfl⟩) ?_
|refine n4 rfl obQ rfl [.int .i64 (gN t i).n] (.past (w, fun b => b < w.heap.size) memQ _ _ hr.toS (((i : Nat) : Int).toNat * 12 + 4) _ rfl (n3 _ _ _) (V2 (t := t) (k := i) rfl hlt 4 rfl)) rfl (.inr ⟨rfl, rfl⟩) ?_
|refine e7 ?_
|refine q4 rfl rfl obQ obQ ?_)
|refine o6 (i + 1) (show i + 1 ≤ t.length by omega) (by show t.length - (i + 1) < t.length - i; omega) (by (try dsimp only); rw [hss]; exact svQ)
|refine a7 ?_
|refine n5 ?_)
          · rw [decide_eq_false hn] at hss
            repeat' (first
|(refine j7 ?_; first
|refine e8 ?_
|refine a6 rfl ?_
|refine j1 ?_
|refine j3 ?_
|(refine j0 rfl obQ ?_ ?_ <;> intro h <;> (try simp only [cdS] at h) <;> (try (exfalso; omega)) <;> (try exact cdF h) <;> (try contradiction) <;> (try (exfalso; omega))))
|(refine k6 ?_; first
|((with_reducible (first | refine r3 ?_ ?_ | refine q6 ?_ ?_ | refine q9 ?_ ?_ | refine q8 ?_ ?_ | refine q7 ?_ ?_)); · (first | rfl | exact beq_eq_false_iff_ne.2 hn))
|((with_reducible refine A7 ?_ ?_ ?_); (· rfl); (· first | rfl | (first | rfl | exact beq_eq_false_iff_ne.2 hn)))
|refine w8 rfl rfl rfl rfl ?_
|refine az4 rfl rfl obQ ?_
|((with_reducible refine aH1 ?_ ?_); · (first | assumption | (apply Eq.symm; assumption)))
|refine n4 rfl obQ rfl [.string (gN t i).kd] (.past (w, fun b => b < w.heap.size) memQ _ _ hr.toS (((i : Nat) : Int).toNat * 12 + 0) _ rfl (n3 _ _ _) (V2 (t := t) (k := i) rfl hlt 0 rfl)) rfl (.inr ⟨rfl, rfl⟩) ?_
|refine n4 rfl obQ rfl [.int .i64 (gN t i).n] (.past (w, fun b => b < w.heap.size) memQ _ _ hr.toS (((i : Nat) : Int).toNat * 12 + 4) _ rfl (n3 _ _ _) (V2 (t := t) (k := i) rfl hlt 4 rfl)) rfl (.inr ⟨rfl, rfl⟩) ?_
|refine e7 ?_
|refine q4 rfl rfl obQ obQ ?_)
|refine o6 (i + 1) (show i + 1 ≤ t.length by omega) (by show t.length - (i + 1) < t.length - i; omega) (by (try dsimp only); rw [hss]; exact svQ)
|refine a7 ?_
|refine n5 ?_)
        · rw [decide_eq_false hs, Bool.false_and] at hss
          repeat' (first
|(refine j7 ?_; first
|refine e8 ?_
|refine a6 rfl ?_
|refine j1 ?_
|refine j3 ?_
|(refine j0 rfl obQ ?_ ?_ <;> intro h <;> (try simp only [cdS] at h) <;> (try (exfalso; omega)) <;> (try exact cdF h) <;> (try contradiction) <;> (try (exfalso; omega))))
|(refine k6 ?_; first
|((with_reducible refine A7 ?_ ?_ ?_); (· rfl); (· first | rfl | (first | rfl | exact V8 hs)))
|refine w8 rfl rfl rfl rfl ?_
|refine az4 rfl rfl obQ ?_
|((with_reducible refine bf4 ?_ ?_); · (first | assumption | (apply Ne.symm; assumption)))
|refine B4 (.v (.bool false)) rfl rfl rfl rfl rfl ?_
|refine n4 rfl obQ rfl [.string (gN t i).kd] (.past (w, fun b => b < w.heap.size) memQ _ _ hr.toS (((i : Nat) : Int).toNat * 12 + 0) _ rfl (n3 _ _ _) (V2 (t := t) (k := i) rfl hlt 0 rfl)) rfl (.inr ⟨rfl, rfl⟩) ?_
|refine e7 ?_
|refine q4 rfl rfl obQ obQ ?_)
|refine o6 (i + 1) (show i + 1 ≤ t.length by omega) (by show t.length - (i + 1) < t.length - i; omega) (by (try dsimp only); rw [hss]; exact svQ)
|refine a7 ?_
|refine n5 ?_)
      · rw [hb, Bool.true_or] at hss
        repeat' (first
|(refine j7 ?_; first
|refine e8 ?_
|refine a6 rfl ?_
|refine j1 ?_
|refine j3 ?_
|(refine j0 rfl obQ ?_ ?_ <;> intro h <;> (try simp only [cdS] at h) <;> (try (exfalso; omega)) <;> (try exact cdF h) <;> (try contradiction) <;> (try (exfalso; omega))))
|refine B4 (.v (.bool false)) rfl rfl rfl rfl rfl ?_
|refine e7 ?_
|refine q4 rfl rfl obQ obQ ?_
|refine o6 (i + 1) (show i + 1 ≤ t.length by omega) (by show t.length - (i + 1) < t.length - i; omega) (by (try dsimp only); rw [hss]; exact svQ)
|refine a7 ?_
|refine n5 ?_)
    · obtain rfl : i = t.length := by omega
      rw [List.take_length]
      cases hb : hasS t k
      · have hst := bv6 hb
        repeat' (first
|(refine j7 ?_; first
|refine e8 ?_
|refine a6 rfl ?_
|refine j3 ?_
|refine o0 ?_
|refine n7 rfl obQ ?_
|(refine j0 rfl obQ ?_ ?_ <;> intro h <;> (try simp only [cdS] at h) <;> (try (exfalso; omega)) <;> (try exact cdF h) <;> (try contradiction) <;> (try (exfalso; omega))))
|refine e7 ?_
|refine e9 rfl rfl obQ obQ ?_
|(refine o8 ?_; first
|refine o6 (k + 1, A2, c2) (show k + 1 ≤ 8 by omega) (by show 8 - (k + 1) < 8 - k; omega) (by dsimp only; rw [hst]; exact svQ)
|refine a7 ?_
|refine n5 ?_
|refine n2 ?_
|refine n6 ?_))
      · have hst := bz6 hb
        repeat' (first
|(refine j7 ?_; first
|refine e8 ?_
|refine a6 rfl ?_
|refine o0 ?_
|refine o5 rfl obQ ?_
|(refine j0 rfl obQ ?_ ?_ <;> intro h <;> (try simp only [cdS] at h) <;> (try (exfalso; omega)) <;> (try exact cdF h) <;> (try contradiction) <;> (try (exfalso; omega))))
|(refine k6 ?_; first
|refine w9 rfl obQ rfl rfl rfl ⟨by decide, rfl⟩ rfl ⟨rfl, rfl, rfl, rfl⟩ [.int .i64 (k : Int)] ⟨by decide, rfl⟩ (by simp [Value.oneCell']) (fun w hw => by first | exact hw.src (i := 0) rfl rfl | exact hw.src (i := 1) rfl rfl | exact hw.src (i := 2) rfl rfl | exact hw.src (i := 3) rfl rfl | exact hw.src (i := 4) rfl rfl | exact hw.src (i := 5) rfl rfl | exact hw.src (i := 6) rfl rfl | exact hw.src (i := 7) rfl rfl | exact hw.src (i := 8) rfl rfl) (by unfold maxLen; dsimp only; omega) (fun gb cap' => ⟨_, rfl, ?_⟩)
|refine e7 ?_
|refine e9 rfl rfl obQ obQ ?_
|refine j9 (fun b => ⟨_, _, rfl, obQ, ?_⟩))
|(refine o8 ?_; first
|refine o6 (k + 1, some ⟨gb, 0, none⟩, cap') (show k + 1 ≤ 8 by omega) (by show 8 - (k + 1) < 8 - k; omega) (by dsimp only; rw [hst, List.map_append, List.length_append]; exact svQ)
|refine a7 ?_
|refine n5 ?_
|refine n2 ?_
|refine n6 ?_))
  · obtain rfl : k = 8 := by omega
    repeat' (first
|(refine j7 ?_; first
|refine e8 ?_
|refine a6 rfl ?_
|refine o0 ?_
|refine i6 ?_
|refine n7 rfl obQ ?_
|(refine j0 rfl obQ ?_ ?_ <;> intro h <;> (try simp only [cdS] at h) <;> (try (exfalso; omega)) <;> (try exact cdF h) <;> (try (exfalso; omega))))
|refine e7 ?_
|refine e9 rfl rfl obQ obQ ?_
|(refine o8 ?_; first
|refine a7 ?_
|refine n2 ?_
|refine n6 ?_
|refine j4 rfl obQ (fun w2 hw => ⟨_, rfl, hw.below, HW.rowSl (i := 0) hw rfl rfl rfl rfl⟩)))
end Go.Proofs.YtjkgklhjbopoaaaGreatDoor
