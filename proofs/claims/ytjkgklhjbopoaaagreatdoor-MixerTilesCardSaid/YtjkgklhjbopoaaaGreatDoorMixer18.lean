/- Mixer: nodes and trees are checked: contracts of the program. -/
import Derived.Test.YtjkgklhjbopoaaaGreatDoorMixer17
import Derived.Test.YtjkgklhjbopoaaaGreatDoorEng4
namespace Go.Proofs.YtjkgklhjbopoaaaGreatDoor
open Go.E Go.RowKit Go.Fl
attribute [local irreducible] G C S D Calls
set_option maxRecDepth 100000
set_option linter.all false
set_option maxHeartbeats 8000000
theorem aU9 (q : FuncId) (cap : Value) {to : Int → Int} (he : entB Tryz.prog q = true) (x : Nod) (k : Kd) (hk : kdOf x.kd = some k) (w : World) (hg : ∀ z ∈ insF k x, ∀ W, Below w.heap.size w W → Calls Tryz.prog q #[.int .i64 z, cap] W fun e w' => e = .returned (.int .i64 (to z)) ∧ Below W.heap.size W w') : Calls Tryz.prog 122 #[.agg #[.string x.kd, .int .i64 x.a, .int .i64 x.b, .int .i64 x.c, .int .i64 x.n, .int .i64 x.cl, .int .i64 x.ga, .string x.w.sh, .int .i64 x.w.a, .int .i64 x.w.b, .int .i64 x.w.at_, .int .i64 x.w.soft], .func (.func q) #[] #[cap]] w fun r w' => r = .returned (.agg (ndC (mvN x to)).toArray) ∧ Below w.heap.size w w' := by
  refine i7 n9 Tryz.func122 rfl Tryz.ntmps122 (Nat.le_of_ble_eq_true rfl) rfl ?_
  cases k with
  | src =>
    have e1 : mvN x to = x := by unfold mvN; rw [hk]
    rw [e1]
    repeat' (first
|refine e8 ?_
|refine a6 rfl ?_
|refine e7 ?_
|refine k7 (fun bb => ⟨_, _, rfl, obQ, ?_⟩)
|refine a7 ?_)
    rename_i b2
    obtain ⟨b4, rfl⟩ : ∃ z, z = bb := ⟨bb, rfl⟩
    refine C8 (fun b10 : Nat => ([(w, fun b => b < w.heap.size)], ⟨[(1, .s (.v (.func (.func q) #[] #[cap]))), (2, .s (.p b2 0 0)), (4, .s (.p b4 1 0)), (16, .s (.v (.slice (some ⟨b10, 0, none⟩) 0 3))), (17, .s (.v (.int .i64 0))), (18, .s (.v (.int .i64 0)))], [⟨b2, 161, [.v (.string x.kd), .v (.int .i64 x.a), .v (.int .i64 x.b), .v (.int .i64 x.c), .v (.int .i64 x.n), .v (.int .i64 x.cl), .v (.int .i64 x.ga), .v (.string x.w.sh), .v (.int .i64 x.w.a), .v (.int .i64 x.w.b), .v (.int .i64 x.w.at_), .v (.int .i64 x.w.soft)]⟩, ⟨b4, 161, [.v (.string ByteArray.empty), .v (.int .i64 0), .v (.int .i64 0), .v (.int .i64 0), .v (.int .i64 0), .v (.int .i64 0), .v (.int .i64 0), .v (.string ByteArray.empty), .v (.int .i64 0), .v (.int .i64 0), .v (.int .i64 0), .v (.int .i64 0)]⟩, ⟨b10, 230, [.p b2 0 1, .p b2 0 2, .p b2 0 3]⟩], []⟩)) ?_ (fun b10 => ?_)
    · repeat' (first
|refine J7 (id := 1) (.q 0 (.q 1 (.q 2 (.q 5 (.q 6 (.q 11 (.two 3 4 (.n 4 (.n 7 (.q 8 (.q 9 (.q 10 .nil))))) (.two 3 7 (.n 7 (.q 8 (.q 9 (.q 10 .nil)))) (.q 8 (.n 3 (.q 9 (.q 10 .nil)))))))))))) rfl mixed (by kernel_rfl) ?_
|(refine k6 ?_; first
|(refine j5 (f := 188) rfl obQ (by kernel_rfl) (fun w hw => z1 w) (fun w1K w2K vK hw1K hbK hRK => ?_); obtain ⟨kK, rfl, hkK, hMK⟩ := hRK)
|refine j8 (y6 (W := w2K) (S := fun b => w1K.heap.size ≤ b ∧ b < w2K.heap.size) (es := kdM) (z := zK) (r := .agg #[.int .i64 0, Value.func (.func 233) #[] #[], Value.func (.func 236) #[] #[], .nilFunc, Value.func (.func 234) #[] #[], Value.func (.func 235) #[] #[]]) rfl obQ Tryz.underlying238 Tryz.underlying9 z7 memQ ⟨hkK, y9 hMK⟩ hMK (.inl (A4 hk))) ?_
|refine e7 ?_
|refine j9 (fun b => ⟨_, _, rfl, obQ, ?_⟩))
|(refine A9 ?_; first
|refine w5 ?_
|refine B5 rfl (V9 (r4 rfl obQ (fun w => Z7 rfl rfl _ 3 3 _ _ 0 rfl (by decide) w))) ?_
|refine B5 rfl (k8 rfl obQ) ?_
|refine D9 rfl ?_
|refine w4 rfl rfl ?_ ?_)
|refine A8 ⟨_, rfl⟩ ⟨_, rfl⟩ pstQ rfl ?_
|refine D4 b svQ)
    repeat' (first
|(refine j7 ?_; first
|refine K7 3 ?_
|refine e8 ?_
|refine a6 rfl ?_
|refine j1 ?_
|refine j3 ?_
|refine o0 ?_
|refine i6 ?_
|refine o5 rfl obQ ?_
|refine n7 rfl obQ ?_)
|(refine k6 ?_; first
|refine X7 rfl obQ rfl rfl rfl 2 rfl _ rfl rfl ?_
|refine a8 rfl obQ he (fun W hW => hg _ (by simp [insF]) W hW.below) ?_
|refine e7 ?_
|refine e9 rfl rfl obQ obQ ?_)
|(refine o8 ?_; first
|refine K0 (N4 [1, 2, 4, 16, 17, 18] 3 rfl rfl ?_)
|refine a7 ?_
|refine n5 ?_
|refine n2 ?_
|refine n6 ?_
|refine j4 rfl obQ (fun w hw => ⟨?_, hw.below⟩)))
    all_goals rfl
  | mat =>
    have e1 : mvN x to = x := by unfold mvN; rw [hk]
    rw [e1]
    repeat' (first
|refine e8 ?_
|refine a6 rfl ?_
|refine e7 ?_
|refine k7 (fun bb => ⟨_, _, rfl, obQ, ?_⟩)
|refine a7 ?_)
    rename_i b2
    obtain ⟨b4, rfl⟩ : ∃ z, z = bb := ⟨bb, rfl⟩
    refine C8 (fun b10 : Nat => ([(w, fun b => b < w.heap.size)], ⟨[(1, .s (.v (.func (.func q) #[] #[cap]))), (2, .s (.p b2 0 0)), (4, .s (.p b4 1 0)), (16, .s (.v (.slice (some ⟨b10, 0, none⟩) 0 3))), (17, .s (.v (.int .i64 0))), (18, .s (.v (.int .i64 0)))], [⟨b2, 161, [.v (.string x.kd), .v (.int .i64 x.a), .v (.int .i64 x.b), .v (.int .i64 x.c), .v (.int .i64 x.n), .v (.int .i64 x.cl), .v (.int .i64 x.ga), .v (.string x.w.sh), .v (.int .i64 x.w.a), .v (.int .i64 x.w.b), .v (.int .i64 x.w.at_), .v (.int .i64 x.w.soft)]⟩, ⟨b4, 161, [.v (.string ByteArray.empty), .v (.int .i64 0), .v (.int .i64 0), .v (.int .i64 0), .v (.int .i64 0), .v (.int .i64 0), .v (.int .i64 0), .v (.string ByteArray.empty), .v (.int .i64 0), .v (.int .i64 0), .v (.int .i64 0), .v (.int .i64 0)]⟩, ⟨b10, 230, [.p b2 0 1, .p b2 0 2, .p b2 0 3]⟩], []⟩)) ?_ (fun b10 => ?_)
    · repeat' (first
|refine J7 (id := 1) (.q 0 (.q 1 (.q 2 (.q 5 (.q 6 (.q 11 (.two 3 4 (.n 4 (.n 7 (.q 8 (.q 9 (.q 10 .nil))))) (.two 3 7 (.n 7 (.q 8 (.q 9 (.q 10 .nil)))) (.q 8 (.n 3 (.q 9 (.q 10 .nil)))))))))))) rfl mixed (by kernel_rfl) ?_
|(refine k6 ?_; first
|(refine j5 (f := 188) rfl obQ (by kernel_rfl) (fun w hw => z1 w) (fun w1K w2K vK hw1K hbK hRK => ?_); obtain ⟨kK, rfl, hkK, hMK⟩ := hRK)
|refine j8 (y6 (W := w2K) (S := fun b => w1K.heap.size ≤ b ∧ b < w2K.heap.size) (es := kdM) (z := zK) (r := .agg #[.int .i64 0, Value.func (.func 233) #[] #[], Value.func (.func 237) #[] #[], .nilFunc, Value.func (.func 234) #[] #[], Value.func (.func 235) #[] #[]]) rfl obQ Tryz.underlying238 Tryz.underlying9 z7 memQ ⟨hkK, y9 hMK⟩ hMK (.inl (A4 hk))) ?_
|refine e7 ?_
|refine j9 (fun b => ⟨_, _, rfl, obQ, ?_⟩))
|(refine A9 ?_; first
|refine w5 ?_
|refine B5 rfl (V9 (r4 rfl obQ (fun w => Z7 rfl rfl _ 3 3 _ _ 0 rfl (by decide) w))) ?_
|refine B5 rfl (k8 rfl obQ) ?_
|refine D9 rfl ?_
|refine w4 rfl rfl ?_ ?_)
|refine A8 ⟨_, rfl⟩ ⟨_, rfl⟩ pstQ rfl ?_
|refine D4 b svQ)
    repeat' (first
|(refine j7 ?_; first
|refine K7 3 ?_
|refine e8 ?_
|refine a6 rfl ?_
|refine j1 ?_
|refine j3 ?_
|refine o0 ?_
|refine i6 ?_
|refine o5 rfl obQ ?_
|refine n7 rfl obQ ?_)
|(refine k6 ?_; first
|refine X7 rfl obQ rfl rfl rfl 2 rfl _ rfl rfl ?_
|refine a8 rfl obQ he (fun W hW => hg _ (by simp [insF]) W hW.below) ?_
|refine e7 ?_
|refine e9 rfl rfl obQ obQ ?_)
|(refine o8 ?_; first
|refine K0 (N4 [1, 2, 4, 16, 17, 18] 3 rfl rfl ?_)
|refine a7 ?_
|refine n5 ?_
|refine n2 ?_
|refine n6 ?_
|refine j4 rfl obQ (fun w hw => ⟨?_, hw.below⟩)))
    all_goals rfl
  | mix =>
    have e1 : mvN x to = (⟨x.kd, to x.a, to x.b, x.c, x.n, x.cl, x.ga, x.w⟩ : Nod) := by unfold mvN; rw [hk]
    rw [e1]
    repeat' (first
|refine e8 ?_
|refine a6 rfl ?_
|refine e7 ?_
|refine k7 (fun bb => ⟨_, _, rfl, obQ, ?_⟩)
|refine a7 ?_)
    rename_i b2
    obtain ⟨b4, rfl⟩ : ∃ z, z = bb := ⟨bb, rfl⟩
    refine C8 (fun b10 : Nat => ([(w, fun b => b < w.heap.size)], ⟨[(1, .s (.v (.func (.func q) #[] #[cap]))), (2, .s (.p b2 0 0)), (4, .s (.p b4 1 0)), (16, .s (.v (.slice (some ⟨b10, 0, none⟩) 2 3))), (17, .s (.v (.int .i64 2))), (18, .s (.v (.int .i64 0)))], [⟨b2, 161, [.v (.string x.kd), .v (.int .i64 x.a), .v (.int .i64 x.b), .v (.int .i64 x.c), .v (.int .i64 x.n), .v (.int .i64 x.cl), .v (.int .i64 x.ga), .v (.string x.w.sh), .v (.int .i64 x.w.a), .v (.int .i64 x.w.b), .v (.int .i64 x.w.at_), .v (.int .i64 x.w.soft)]⟩, ⟨b4, 161, [.v (.string ByteArray.empty), .v (.int .i64 0), .v (.int .i64 0), .v (.int .i64 0), .v (.int .i64 0), .v (.int .i64 0), .v (.int .i64 0), .v (.string ByteArray.empty), .v (.int .i64 0), .v (.int .i64 0), .v (.int .i64 0), .v (.int .i64 0)]⟩, ⟨b10, 230, [.p b2 0 1, .p b2 0 2, .p b2 0 3]⟩], []⟩)) ?_ (fun b10 => ?_)
    · repeat' (first
|refine J7 (id := 1) (.q 0 (.q 1 (.q 2 (.q 5 (.q 6 (.q 11 (.two 3 4 (.n 4 (.n 7 (.q 8 (.q 9 (.q 10 .nil))))) (.two 3 7 (.n 7 (.q 8 (.q 9 (.q 10 .nil)))) (.q 8 (.n 3 (.q 9 (.q 10 .nil)))))))))))) rfl mixed (by kernel_rfl) ?_
|(refine k6 ?_; first
|(refine j5 (f := 188) rfl obQ (by kernel_rfl) (fun w hw => z1 w) (fun w1K w2K vK hw1K hbK hRK => ?_); obtain ⟨kK, rfl, hkK, hMK⟩ := hRK)
|refine j8 (y6 (W := w2K) (S := fun b => w1K.heap.size ≤ b ∧ b < w2K.heap.size) (es := kdM) (z := zK) (r := .agg #[.int .i64 2, Value.func (.func 233) #[] #[], Value.func (.func 238) #[] #[], Value.func (.func 239) #[] #[], Value.func (.func 234) #[] #[], Value.func (.func 235) #[] #[]]) rfl obQ Tryz.underlying238 Tryz.underlying9 z7 memQ ⟨hkK, y9 hMK⟩ hMK (.inl (A4 hk))) ?_
|refine e7 ?_
|refine j9 (fun b => ⟨_, _, rfl, obQ, ?_⟩))
|(refine A9 ?_; first
|refine w5 ?_
|refine B5 rfl (V9 (r4 rfl obQ (fun w => Z7 rfl rfl _ 3 3 _ _ 2 rfl (by decide) w))) ?_
|refine B5 rfl (k8 rfl obQ) ?_
|refine D9 rfl ?_
|refine w4 rfl rfl ?_ ?_)
|refine A8 ⟨_, rfl⟩ ⟨_, rfl⟩ pstQ rfl ?_
|refine D4 b svQ)
    repeat' (first
|(refine j7 ?_; first
|refine K7 3 ?_
|refine e8 ?_
|refine a6 rfl ?_
|refine j1 ?_
|refine j3 ?_
|refine o0 ?_
|refine i6 ?_
|refine o5 rfl obQ ?_
|refine n7 rfl obQ ?_)
|(refine k6 ?_; first
|refine X7 rfl obQ rfl rfl rfl 2 rfl _ rfl rfl ?_
|refine a8 rfl obQ he (fun W hW => hg _ (by simp [insF]) W hW.below) ?_
|refine e7 ?_
|refine e9 rfl rfl obQ obQ ?_)
|(refine o8 ?_; first
|refine K0 (N4 [1, 2, 4, 16, 17, 18] 3 rfl rfl ?_)
|refine a7 ?_
|refine n5 ?_
|refine n2 ?_
|refine n6 ?_
|refine j4 rfl obQ (fun w hw => ⟨?_, hw.below⟩)))
    all_goals rfl
  | wip =>
    have e1 : mvN x to = (⟨x.kd, to x.a, to x.b, x.c, x.n, x.cl, x.ga, x.w⟩ : Nod) := by unfold mvN; rw [hk]
    rw [e1]
    repeat' (first
|refine e8 ?_
|refine a6 rfl ?_
|refine e7 ?_
|refine k7 (fun bb => ⟨_, _, rfl, obQ, ?_⟩)
|refine a7 ?_)
    rename_i b2
    obtain ⟨b4, rfl⟩ : ∃ z, z = bb := ⟨bb, rfl⟩
    refine C8 (fun b10 : Nat => ([(w, fun b => b < w.heap.size)], ⟨[(1, .s (.v (.func (.func q) #[] #[cap]))), (2, .s (.p b2 0 0)), (4, .s (.p b4 1 0)), (16, .s (.v (.slice (some ⟨b10, 0, none⟩) 2 3))), (17, .s (.v (.int .i64 2))), (18, .s (.v (.int .i64 0)))], [⟨b2, 161, [.v (.string x.kd), .v (.int .i64 x.a), .v (.int .i64 x.b), .v (.int .i64 x.c), .v (.int .i64 x.n), .v (.int .i64 x.cl), .v (.int .i64 x.ga), .v (.string x.w.sh), .v (.int .i64 x.w.a), .v (.int .i64 x.w.b), .v (.int .i64 x.w.at_), .v (.int .i64 x.w.soft)]⟩, ⟨b4, 161, [.v (.string ByteArray.empty), .v (.int .i64 0), .v (.int .i64 0), .v (.int .i64 0), .v (.int .i64 0), .v (.int .i64 0), .v (.int .i64 0), .v (.string ByteArray.empty), .v (.int .i64 0), .v (.int .i64 0), .v (.int .i64 0), .v (.int .i64 0)]⟩, ⟨b10, 230, [.p b2 0 1, .p b2 0 2, .p b2 0 3]⟩], []⟩)) ?_ (fun b10 => ?_)
    · repeat' (first
|refine J7 (id := 1) (.q 0 (.q 1 (.q 2 (.q 5 (.q 6 (.q 11 (.two 3 4 (.n 4 (.n 7 (.q 8 (.q 9 (.q 10 .nil))))) (.two 3 7 (.n 7 (.q 8 (.q 9 (.q 10 .nil)))) (.q 8 (.n 3 (.q 9 (.q 10 .nil)))))))))))) rfl mixed (by kernel_rfl) ?_
|(refine k6 ?_; first
|(refine j5 (f := 188) rfl obQ (by kernel_rfl) (fun w hw => z1 w) (fun w1K w2K vK hw1K hbK hRK => ?_); obtain ⟨kK, rfl, hkK, hMK⟩ := hRK)
|refine j8 (y6 (W := w2K) (S := fun b => w1K.heap.size ≤ b ∧ b < w2K.heap.size) (es := kdM) (z := zK) (r := .agg #[.int .i64 2, Value.func (.func 240) #[] #[], Value.func (.func 241) #[] #[], Value.func (.func 242) #[] #[], .nilFunc, Value.func (.func 243) #[] #[]]) rfl obQ Tryz.underlying238 Tryz.underlying9 z7 memQ ⟨hkK, y9 hMK⟩ hMK (.inl (A4 hk))) ?_
|refine e7 ?_
|refine j9 (fun b => ⟨_, _, rfl, obQ, ?_⟩))
|(refine A9 ?_; first
|refine w5 ?_
|refine B5 rfl (V9 (r4 rfl obQ (fun w => Z7 rfl rfl _ 3 3 _ _ 2 rfl (by decide) w))) ?_
|refine B5 rfl (k8 rfl obQ) ?_
|refine D9 rfl ?_
|refine w4 rfl rfl ?_ ?_)
|refine A8 ⟨_, rfl⟩ ⟨_, rfl⟩ pstQ rfl ?_
|refine D4 b svQ)
    repeat' (first
|(refine j7 ?_; first
|refine K7 3 ?_
|refine e8 ?_
|refine a6 rfl ?_
|refine j1 ?_
|refine j3 ?_
|refine o0 ?_
|refine i6 ?_
|refine o5 rfl obQ ?_
|refine n7 rfl obQ ?_)
|(refine k6 ?_; first
|refine X7 rfl obQ rfl rfl rfl 2 rfl _ rfl rfl ?_
|refine a8 rfl obQ he (fun W hW => hg _ (by simp [insF]) W hW.below) ?_
|refine e7 ?_
|refine e9 rfl rfl obQ obQ ?_)
|(refine o8 ?_; first
|refine K0 (N4 [1, 2, 4, 16, 17, 18] 3 rfl rfl ?_)
|refine a7 ?_
|refine n5 ?_
|refine n2 ?_
|refine n6 ?_
|refine j4 rfl obQ (fun w hw => ⟨?_, hw.below⟩)))
    all_goals rfl
  | key =>
    have e1 : mvN x to = (⟨x.kd, to x.a, to x.b, to x.c, x.n, x.cl, x.ga, x.w⟩ : Nod) := by unfold mvN; rw [hk]
    rw [e1]
    repeat' (first
|refine e8 ?_
|refine a6 rfl ?_
|refine e7 ?_
|refine k7 (fun bb => ⟨_, _, rfl, obQ, ?_⟩)
|refine a7 ?_)
    rename_i b2
    obtain ⟨b4, rfl⟩ : ∃ z, z = bb := ⟨bb, rfl⟩
    refine C8 (fun b10 : Nat => ([(w, fun b => b < w.heap.size)], ⟨[(1, .s (.v (.func (.func q) #[] #[cap]))), (2, .s (.p b2 0 0)), (4, .s (.p b4 1 0)), (16, .s (.v (.slice (some ⟨b10, 0, none⟩) 3 3))), (17, .s (.v (.int .i64 3))), (18, .s (.v (.int .i64 0)))], [⟨b2, 161, [.v (.string x.kd), .v (.int .i64 x.a), .v (.int .i64 x.b), .v (.int .i64 x.c), .v (.int .i64 x.n), .v (.int .i64 x.cl), .v (.int .i64 x.ga), .v (.string x.w.sh), .v (.int .i64 x.w.a), .v (.int .i64 x.w.b), .v (.int .i64 x.w.at_), .v (.int .i64 x.w.soft)]⟩, ⟨b4, 161, [.v (.string ByteArray.empty), .v (.int .i64 0), .v (.int .i64 0), .v (.int .i64 0), .v (.int .i64 0), .v (.int .i64 0), .v (.int .i64 0), .v (.string ByteArray.empty), .v (.int .i64 0), .v (.int .i64 0), .v (.int .i64 0), .v (.int .i64 0)]⟩, ⟨b10, 230, [.p b2 0 1, .p b2 0 2, .p b2 0 3]⟩], []⟩)) ?_ (fun b10 => ?_)
    · repeat' (first
|refine J7 (id := 1) (.q 0 (.q 1 (.q 2 (.q 5 (.q 6 (.q 11 (.two 3 4 (.n 4 (.n 7 (.q 8 (.q 9 (.q 10 .nil))))) (.two 3 7 (.n 7 (.q 8 (.q 9 (.q 10 .nil)))) (.q 8 (.n 3 (.q 9 (.q 10 .nil)))))))))))) rfl mixed (by kernel_rfl) ?_
|(refine k6 ?_; first
|(refine j5 (f := 188) rfl obQ (by kernel_rfl) (fun w hw => z1 w) (fun w1K w2K vK hw1K hbK hRK => ?_); obtain ⟨kK, rfl, hkK, hMK⟩ := hRK)
|refine j8 (y6 (W := w2K) (S := fun b => w1K.heap.size ≤ b ∧ b < w2K.heap.size) (es := kdM) (z := zK) (r := .agg #[.int .i64 3, Value.func (.func 244) #[] #[], Value.func (.func 245) #[] #[], Value.func (.func 246) #[] #[], Value.func (.func 247) #[] #[], Value.func (.func 248) #[] #[]]) rfl obQ Tryz.underlying238 Tryz.underlying9 z7 memQ ⟨hkK, y9 hMK⟩ hMK (.inl (A4 hk))) ?_
|refine e7 ?_
|refine j9 (fun b => ⟨_, _, rfl, obQ, ?_⟩))
|(refine A9 ?_; first
|refine w5 ?_
|refine B5 rfl (V9 (r4 rfl obQ (fun w => Z7 rfl rfl _ 3 3 _ _ 3 rfl (by decide) w))) ?_
|refine B5 rfl (k8 rfl obQ) ?_
|refine D9 rfl ?_
|refine w4 rfl rfl ?_ ?_)
|refine A8 ⟨_, rfl⟩ ⟨_, rfl⟩ pstQ rfl ?_
|refine D4 b svQ)
    repeat' (first
|(refine j7 ?_; first
|refine K7 3 ?_
|refine e8 ?_
|refine a6 rfl ?_
|refine j1 ?_
|refine j3 ?_
|refine o0 ?_
|refine i6 ?_
|refine o5 rfl obQ ?_
|refine n7 rfl obQ ?_)
|(refine k6 ?_; first
|refine X7 rfl obQ rfl rfl rfl 2 rfl _ rfl rfl ?_
|refine a8 rfl obQ he (fun W hW => hg _ (by simp [insF]) W hW.below) ?_
|refine e7 ?_
|refine e9 rfl rfl obQ obQ ?_)
|(refine o8 ?_; first
|refine K0 (N4 [1, 2, 4, 16, 17, 18] 3 rfl rfl ?_)
|refine a7 ?_
|refine n5 ?_
|refine n2 ?_
|refine n6 ?_
|refine j4 rfl obQ (fun w hw => ⟨?_, hw.below⟩)))
    all_goals rfl
def ixI {α : Type} (p : α → Bool) : List α → Nat → Int
  | [], _ => -1
  | x :: r, k => if p x = true then (k : Int) else ixI p r (k + 1)
section
variable {α : Type} {p : α → Bool}
theorem Z4 : ∀ (l : List α) (k : Nat), decide (0 ≤ ixI p l k) = l.any p
  | [], k => by simp [ixI]
  | x :: r, k => by
    rw [ixI, List.any_cons]
    cases h : p x
    · simp only [Bool.false_eq_true, if_false, Bool.false_or]
      exact Z4 r (k + 1)
    · simp
theorem Y8 {l : List α} {k : Nat} (h : k < l.length) : ixI p (l.drop k) k = if p l[k] = true then (k : Int) else ixI p (l.drop (k + 1)) (k + 1) := by
  rw [List.drop_eq_getElem_cons h]
  rfl
end
theorem aJ2 (q : FuncId) (c0 : Value) {p : Int → Bool} (A : Option Addr) (c : Nat) (l : List (Int)) (hl : l.length ≤ 1000000) (he : entB Tryz.prog q = true) (w : World) (hr : Rd w A (l.map fun x => Value.int .i64 x)) (hg : ∀ x ∈ l, ∀ W, Below w.heap.size w W → Calls Tryz.prog q #[Value.int .i64 x, c0] W fun e w' => e = .returned (.bool (p x)) ∧ Below W.heap.size W w') : Calls Tryz.prog 199 #[.slice A l.length c, .func (.func q) #[] #[c0]] w fun r w' => r = .returned (.int .i64 (ixI p l 0)) ∧ Below w.heap.size w w' := by
  refine i7 n9 Tryz.func199 rfl Tryz.ntmps199 (Nat.le_of_ble_eq_true rfl) rfl ?_
  repeat' (first
|(refine j7 ?_; first
|refine e8 ?_
|refine a6 rfl ?_
|refine j1 ?_
|refine j3 ?_
|refine i6 ?_
|(refine j0 rfl obQ ?_ ?_ <;> intro h <;> (try simp only [cdS] at h)))
|refine e7 ?_
|refine e9 rfl rfl obQ obQ ?_
|refine a7 ?_
|refine j6 ?_
|refine j4 rfl obQ (fun w hw => ⟨?_, hw.below⟩))
  refine p7 (fun k : Nat => ⟨[(8, .s (.v (.int .i64 k))), (7, .s (.v (.int .i64 l.length))), (0, .s (.v (.slice A l.length c))), (1, .s (.v (.func (.func q) #[] #[c0])))], [], []⟩) (fun k => k ≤ l.length ∧ ixI p l 0 = ixI p (l.drop k) k) (fun k => l.length - k) 0 ⟨Nat.zero_le _, rfl⟩ ?_ (fun k hk => ?_)
  · exact svQ
  by_cases hlt : k < l.length
  · obtain ⟨ad, rfl⟩ := hr.some (by simp; omega)
    have hfd := Y8 (p := p) hlt
    repeat' (first
|(refine j7 ?_; first
|refine e8 ?_
|refine a6 rfl ?_
|refine j1 ?_
|refine j3 ?_
|refine i6 ?_
|(refine j0 rfl obQ ?_ ?_ <;> intro h <;> (try simp only [cdS] at h) <;> (try (exfalso; omega))))
|(refine k6 ?_; first
|refine n4 rfl obQ rfl [Value.int .i64 l[k]] (.past _ memQ _ _ hr.toS _ _ rfl rfl (idx1 (f := fun x => Value.int .i64 x) hlt)) rfl (.inr ⟨rfl, rfl⟩) ?_
|refine a8 rfl obQ he (fun W hW => hg l[k] (List.getElem_mem hlt) W hW.below) ?_
|refine e7 ?_
|refine e9 rfl rfl obQ obQ ?_)
|(refine o8 ?_; first
|refine o6 (k + 1) ?_ (by omega) svQ
|refine a7 ?_
|refine n5 ?_
|refine r8 ?_
|refine j6 ?_
|refine j4 rfl obQ (fun w hw => ⟨?_, hw.below⟩)))
    · rw [hk.2, hfd, if_pos h]
    · exact ⟨by omega, by rw [hk.2, hfd, if_neg (by simpa using h)]⟩
  · repeat' (first
|(refine j7 ?_; first
|refine e8 ?_
|refine a6 rfl ?_
|refine o0 ?_
|refine i6 ?_
|(refine j0 rfl obQ ?_ ?_ <;> intro h <;> (try simp only [cdS] at h) <;> (try (exfalso; omega))))
|refine e7 ?_
|refine e9 rfl rfl obQ obQ ?_
|(refine o8 ?_; first
|refine a7 ?_
|refine n2 ?_
|refine n6 ?_
|refine j4 rfl obQ (fun w hw => ⟨?_, hw.below⟩)))
    rw [hk.2, List.drop_of_length_le (by omega)]
    rfl
theorem aX6 (q : FuncId) (c0 : Value) {p : Int → Bool} (A : Option Addr) (c : Nat) (l : List (Int)) (hl : l.length ≤ 1000000) (he : entB Tryz.prog q = true) (w : World) (hr : Rd w A (l.map fun x => Value.int .i64 x)) (hg : ∀ x ∈ l, ∀ W, Below w.heap.size w W → Calls Tryz.prog q #[Value.int .i64 x, c0] W fun e w' => e = .returned (.bool (p x)) ∧ Below W.heap.size W w') : Calls Tryz.prog 134 #[.slice A l.length c, .func (.func q) #[] #[c0]] w fun r w' => r = .returned (.bool (l.any p)) ∧ Below w.heap.size w w' := by
  refine i7 n9 Tryz.func134 rfl Tryz.ntmps134 (Nat.le_of_ble_eq_true rfl) rfl ?_
  repeat' (first
|refine e8 ?_
|refine a6 rfl ?_
|refine i6 ?_
|refine e7 ?_
|refine e9 rfl rfl obQ obQ ?_
|refine a8 (f := 199) rfl obQ (by kernel_rfl) (fun w hw => aJ2 q c0 A c l hl he w (hw.rdm hr.toS memQ) (fun x hx W hW => hg x hx W (hw.below.trans (hW.mono hw.bsize)))) ?_
|refine a7 ?_
|refine j4 rfl obQ (fun w hw => ⟨?_, hw.below⟩))
  exact rB (Z4 l 0)
end Go.Proofs.YtjkgklhjbopoaaaGreatDoor
