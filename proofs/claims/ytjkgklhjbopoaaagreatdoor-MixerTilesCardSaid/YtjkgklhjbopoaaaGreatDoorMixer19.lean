/- Mixer: nodes are checked: contracts of the program (base). -/
import Derived.Test.YtjkgklhjbopoaaaGreatDoorMixer18
namespace Go.Proofs.YtjkgklhjbopoaaaGreatDoor
open Go.E Go.RowKit Go.Fl
attribute [local irreducible] G C S D Calls
set_option maxRecDepth 100000
set_option linter.all false
set_option maxHeartbeats 8000000
theorem G0 {P : Program} {t : TypeId} (h : deepI P t 3 = true) {a b c d e f : Int} {r : Bool} (hr : ([a, b, c] != [d, e, f]) = r) (x y : Operand) (w : World) : (do eqGuard .neq t x y (.agg #[.int .i64 a, .int .i64 b, .int .i64 c]) (.agg #[.int .i64 d, .int .i64 e, .int .i64 f]); binOp .neq t (.agg #[.int .i64 a, .int .i64 b, .int .i64 c]) (.agg #[.int .i64 d, .int .i64 e, .int .i64 f]) : Sem Value).run P w = .ok (.bool r) w := by
  subst hr
  exact aE2 (k := .i64) (n := 3) (xs := [a, b, c]) (ys := [d, e, f]) h rfl rfl x y w
def zrB : Kd → Nod → Bool
  | .src, x => [x.a, x.b, x.c] != [0, 0, 0]
  | .mat, x => [x.a, x.b, x.c] != [0, 0, 0]
  | .mix, x => [0, 0, x.c] != [0, 0, 0]
  | .wip, x => [0, 0, x.c] != [0, 0, 0]
  | .key, _ => ([0, 0, 0] : List Int) != [0, 0, 0]
def onF : Kd → Nod → Nod
  | .src, x => ⟨x.kd, x.a, x.b, x.c, x.n, 0, 0, zW⟩
  | .mat, x => ⟨x.kd, x.a, x.b, x.c, x.n, 0, 0, zW⟩
  | .mix, x => ⟨x.kd, x.a, x.b, x.c, x.n, 0, 0, zW⟩
  | .wip, x => ⟨x.kd, x.a, x.b, x.c, 0, 0, 0, x.w⟩
  | .key, x => ⟨x.kd, x.a, x.b, x.c, 0, x.cl, x.ga, zW⟩
theorem aB2 {k : Kd} {x : Nod} : usF k x = x ↔ zrB k x = false ∧ onF k x = x := by
  obtain ⟨kd, a, b, c, n, cl, ga, w⟩ := x
  cases k with
  | src => simp only [usF, zrB, onF, Nod.mk.injEq, true_and, bne_eq_false_iff_eq, List.cons.injEq, and_true]; grind
  | mat => simp only [usF, zrB, onF, Nod.mk.injEq, true_and, bne_eq_false_iff_eq, List.cons.injEq, and_true]; grind
  | mix => simp only [usF, zrB, onF, Nod.mk.injEq, true_and, bne_eq_false_iff_eq, List.cons.injEq, and_true]; grind
  | wip => simp only [usF, zrB, onF, Nod.mk.injEq, true_and, bne_eq_false_iff_eq, List.cons.injEq, and_true]; grind
  | key => simp [usF, zrB, onF]
theorem bk4 {x : Nod} {z : Int} (h : kdOf x.kd = none) : ndE x z = 13 := by unfold ndE; rw [h]
theorem aP6 {x : Nod} {z : Int} {k : Kd} (h : kdOf x.kd = some k) (h1 : zrB k x = true) : ndE x z = 1 := by
  unfold ndE
  rw [h]
  dsimp only
  rw [if_neg]
  intro e
  have := (aB2.1 e).1
  rw [h1] at this
  cases this
theorem aX5 {x : Nod} {z : Int} {k : Kd} (h : kdOf x.kd = some k) (h1 : ¬ onF k x = x) : ndE x z = 1 := by
  unfold ndE
  rw [h]
  dsimp only
  rw [if_neg]
  exact fun e => h1 (aB2.1 e).2
def unB (z : Int) (i : Int) : Bool := decide (i < 0) || decide (z ≤ i)
theorem aR4 {z : Int} : ∀ (l : List Int), l.any (unB z) = !inB l z
  | [] => rfl
  | i :: l => by
    have ih := aR4 (z := z) l
    unfold inB at ih ⊢
    rw [List.any_cons, List.all_cons, ih, Bool.not_and]
    congr 1
    unfold unB
    rw [Bool.eq_iff_iff]
    simp only [Bool.or_eq_true, decide_eq_true_eq, Bool.not_eq_true', Bool.and_eq_false_iff, decide_eq_false_iff_not]
    omega
theorem aZ3 {x : Nod} {z : Int} {k : Kd} (h : kdOf x.kd = some k) (h1 : zrB k x = false) (h2 : onF k x = x) : ndE x z = firstL [wh ((insF k x).any (unB z)) 10, kiE k x] := by
  unfold ndE
  rw [h]
  dsimp only
  rw [if_pos (aB2.2 ⟨h1, h2⟩), aR4]
  cases hi : inB (insF k x) z
  · rw [if_neg (by simp)]
    rfl
  · rw [if_pos rfl]
    simp only [firstL, wh]
    by_cases he : kiE k x = 0 <;> simp [he]
theorem Z6 (b : Nat) (z i : Int) (w : World) (hM : w.heap[b]? = some (.cells ([.int .i64 z] : List Value).toArray 3 (0, 0))) : Calls Tryz.prog 201 #[.int .i64 i, .pointer (some ⟨b, 0, none⟩)] w fun r w' => r = .returned (.bool (unB z i)) ∧ Below w.heap.size w w' := by
  refine i7 n9 Tryz.func201 rfl Tryz.ntmps201 (Nat.le_of_ble_eq_true rfl) rfl ?_
  unfold unB
  by_cases h1 : i < 0
  · rw [decide_eq_true h1]
    repeat' (first
|refine e8 ?_
|refine a6 rfl ?_
|refine i6 ?_
|(refine k6 ?_; first
|((with_reducible (first | refine r3 ?_ ?_ | refine q6 ?_ ?_ | refine q9 ?_ ?_ | refine q8 ?_ ?_ | refine q7 ?_ ?_)); · (first | rfl | omega | exact decide_eq_false (by omega)))
|((with_reducible (first | refine y3 ?_ ?_ | refine x7 ?_ ?_ | refine x9 ?_ ?_ | refine y4 ?_ ?_ | refine x8 ?_ ?_)); · (first | rfl | assumption | omega | exact decide_eq_true (by omega)))
|refine w8 rfl rfl rfl rfl ?_
|refine E7 rfl obQ ?_
|refine n4 rfl obQ rfl [.int .i64 z] (.cell (_, fun b => b < _) memQ (z8 hM) (w7 hM (o := 0) rfl)) rfl (.inr ⟨rfl, rfl⟩) ?_
|refine B4 (.v (.bool false)) rfl rfl rfl rfl rfl ?_
|refine e7 ?_)
|refine a7 ?_
|refine j4 rfl obQ (fun w hw => ⟨?_, hw.below⟩))
    all_goals rfl
  · rw [decide_eq_false h1]
    repeat' (first
|refine e8 ?_
|refine a6 rfl ?_
|refine i6 ?_
|(refine k6 ?_; first
|((with_reducible (first | refine r3 ?_ ?_ | refine q6 ?_ ?_ | refine q9 ?_ ?_ | refine q8 ?_ ?_ | refine q7 ?_ ?_)); · (first | rfl | omega | exact decide_eq_false (by omega)))
|((with_reducible (first | refine y3 ?_ ?_ | refine x7 ?_ ?_ | refine x9 ?_ ?_ | refine y4 ?_ ?_ | refine x8 ?_ ?_)); · (first | rfl | assumption | omega | exact decide_eq_true (by omega)))
|refine w8 rfl rfl rfl rfl ?_
|refine E7 rfl obQ ?_
|refine n4 rfl obQ rfl [.int .i64 z] (.cell (_, fun b => b < _) memQ (z8 hM) (w7 hM (o := 0) rfl)) rfl (.inr ⟨rfl, rfl⟩) ?_
|refine B4 (.v (.bool false)) rfl rfl rfl rfl rfl ?_
|refine e7 ?_)
|refine a7 ?_
|refine j4 rfl obQ (fun w hw => ⟨?_, hw.below⟩))
    all_goals first | rfl | (simp only [Bool.false_or]; rfl)
theorem G4 {A : Option Addr} {c n : Nat} {l : List Int} (q : FuncId) (c0 : Value) {p : Int → Bool} (hn : l.length = n) (hl : n ≤ 1000000) (he : entB Tryz.prog q = true) (w : World) (hr : Rd w A (l.map fun x => Value.int .i64 x)) (hg : ∀ x ∈ l, ∀ W, Below w.heap.size w W → Calls Tryz.prog q #[.int .i64 x, c0] W fun e w' => e = .returned (.bool (p x)) ∧ Below W.heap.size W w') :
    Calls Tryz.prog 134 #[.slice A n c, .func (.func q) #[] #[c0]] w fun r w' => r = .returned (.bool (l.any p)) ∧ Below w.heap.size w w' := by
  subst hn
  exact aX6 q c0 A c l hl he w hr hg
theorem ar7 (x : Nod) (z : Int) (hk : kdOf x.kd = none) (w : World) (hsh : Sh w) : Calls Tryz.prog 142 #[.agg #[.string x.kd, .int .i64 x.a, .int .i64 x.b, .int .i64 x.c, .int .i64 x.n, .int .i64 x.cl, .int .i64 x.ga, .string x.w.sh, .int .i64 x.w.a, .int .i64 x.w.b, .int .i64 x.w.at_, .int .i64 x.w.soft], .int .i64 z] w fun r w' => r = .returned (.int .i64 (ndE x z)) ∧ Below w.heap.size w w' := by
  refine i7 n9 Tryz.func142 rfl Tryz.ntmps142 (Nat.le_of_ble_eq_true rfl) rfl ?_
  rw [bk4 hk]
  repeat' (first
|refine e8 ?_
|refine a6 rfl ?_
|refine e7 ?_
|refine e9 rfl rfl obQ obQ ?_
|refine k7 (fun bb => ⟨_, _, rfl, obQ, ?_⟩)
|refine a7 ?_)
  rename_i b2
  obtain ⟨b3, rfl⟩ : ∃ z, z = bb := ⟨bb, rfl⟩
  refine C8 (fun b5 : Nat => ([(w, fun b => b < w.heap.size)], ⟨[(2, .s (.p b2 0 0)), (3, .s (.p b3 1 0)), (5, .s (.p b5 2 0)), (6, .s (.v (.bool false)))], [⟨b2, 161, [.v (.string x.kd), .v (.int .i64 x.a), .v (.int .i64 x.b), .v (.int .i64 x.c), .v (.int .i64 x.n), .v (.int .i64 x.cl), .v (.int .i64 x.ga), .v (.string x.w.sh), .v (.int .i64 x.w.a), .v (.int .i64 x.w.b), .v (.int .i64 x.w.at_), .v (.int .i64 x.w.soft)]⟩, ⟨b3, 3, [.v (.int .i64 z)]⟩, ⟨b5, 237, [.v (.int .i64 0), .v .nilFunc, .v .nilFunc, .v .nilFunc, .v .nilFunc, .v .nilFunc]⟩], []⟩)) ?_ (fun b5 => ?_)
  · repeat' (first
|refine F1 (id := 1) 9 (.q 1 (.q 2 (.two 0 7 (.two 3 7 (.q 4 (.q 5 (.q 6 (.n 7 (.n 8 .nil))))) (.n 3 (.q 4 (.q 5 (.q 6 (.n 8 .nil)))))) (.n 0 (.n 3 (.q 4 (.q 5 (.q 6 (.n 8 .nil))))))))) rfl mixed (by kernel_rfl) rfl ?_
|(refine k6 ?_; first
|(refine j5 (f := 188) rfl obQ (by kernel_rfl) (fun w hw => z1 w) (fun w1K w2K vK hw1K hbK hRK => ?_); obtain ⟨kK, rfl, hkK, hMK⟩ := hRK)
|refine j8 (K6 (W := w2K) (S := fun b => w1K.heap.size ≤ b ∧ b < w2K.heap.size) (es := kdM) (z := zK) (r := zK) (c := false) rfl obQ Tryz.underlying238 Tryz.underlying9 z7 memQ ⟨hkK, y9 hMK⟩ hMK (.inr ⟨bw0 hk, rfl, rfl⟩)) ?_
|refine e7 ?_
|refine e9 rfl rfl obQ obQ ?_
|refine k7 (fun bc => ⟨_, _, rfl, obQ, ?_⟩))
|(refine A9 ?_; first
|refine w5 ?_
|refine B5 rfl (k8 rfl obQ) ?_
|refine D9 rfl ?_
|refine w4 rfl rfl ?_ ?_)
|refine A8 ⟨_, rfl⟩ ⟨_, rfl⟩ pstQ rfl ?_
|refine D4 bc svQ)
  repeat' (first
|(refine j7 ?_; first
|refine e8 ?_
|refine a6 rfl ?_
|refine i6 ?_
|refine o5 rfl obQ ?_)
|refine e7 ?_
|refine e9 rfl rfl obQ obQ ?_
|refine a7 ?_
|refine j6 ?_
|refine j4 rfl obQ (fun w hw => ⟨?_, hw.below⟩))
  all_goals rfl
end Go.Proofs.YtjkgklhjbopoaaaGreatDoor
