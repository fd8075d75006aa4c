/- Mixer: nodes are checked: contracts of the program (a). -/
import Derived.Test.YtjkgklhjbopoaaaGreatDoorMixer19
namespace Go.Proofs.YtjkgklhjbopoaaaGreatDoor
open Go.E Go.RowKit Go.Fl
attribute [local irreducible] G C S D Calls
set_option maxRecDepth 100000
set_option linter.all false
set_option maxHeartbeats 8000000
theorem ai1 (x : Nod) (z : Int) (hk : kdOf x.kd = some .src) (w : World) (hsh : Sh w) : Calls Tryz.prog 142 #[.agg #[.string x.kd, .int .i64 x.a, .int .i64 x.b, .int .i64 x.c, .int .i64 x.n, .int .i64 x.cl, .int .i64 x.ga, .string x.w.sh, .int .i64 x.w.a, .int .i64 x.w.b, .int .i64 x.w.at_, .int .i64 x.w.soft], .int .i64 z] w fun r w' => r = .returned (.int .i64 (ndE x z)) ∧ Below w.heap.size w w' := by
  refine i7 n9 Tryz.func142 rfl Tryz.ntmps142 (Nat.le_of_ble_eq_true rfl) rfl ?_
  repeat' (first
|refine e8 ?_
|refine a6 rfl ?_
|refine e7 ?_
|refine e9 rfl rfl obQ obQ ?_
|refine k7 (fun bb => ⟨_, _, rfl, obQ, ?_⟩)
|refine a7 ?_)
  rename_i b2
  obtain ⟨b3, rfl⟩ : ∃ z, z = bb := ⟨bb, rfl⟩
  refine C8 (fun b5 : Nat => ([(w, fun b => b < w.heap.size)], ⟨[(2, .s (.p b2 0 0)), (3, .s (.p b3 1 0)), (5, .s (.p b5 2 0)), (6, .s (.v (.bool true)))], [⟨b2, 161, [.v (.string x.kd), .v (.int .i64 x.a), .v (.int .i64 x.b), .v (.int .i64 x.c), .v (.int .i64 x.n), .v (.int .i64 x.cl), .v (.int .i64 x.ga), .v (.string x.w.sh), .v (.int .i64 x.w.a), .v (.int .i64 x.w.b), .v (.int .i64 x.w.at_), .v (.int .i64 x.w.soft)]⟩, ⟨b3, 3, [.v (.int .i64 z)]⟩, ⟨b5, 237, [.v (.int .i64 0), .v (Value.func (.func 233) #[] #[]), .v (Value.func (.func 236) #[] #[]), .v (.nilFunc), .v (Value.func (.func 234) #[] #[]), .v (Value.func (.func 235) #[] #[])]⟩], []⟩)) ?_ (fun b5 => ?_)
  · repeat' (first
|refine F1 (id := 1) 9 (.q 1 (.q 2 (.two 0 7 (.two 3 7 (.q 4 (.q 5 (.q 6 (.n 7 (.n 8 .nil))))) (.n 3 (.q 4 (.q 5 (.q 6 (.n 8 .nil)))))) (.n 0 (.n 3 (.q 4 (.q 5 (.q 6 (.n 8 .nil))))))))) rfl mixed (by kernel_rfl) rfl ?_
|(refine k6 ?_; first
|(refine j5 (f := 188) rfl obQ (by kernel_rfl) (fun w hw => z1 w) (fun w1K w2K vK hw1K hbK hRK => ?_); obtain ⟨kK, rfl, hkK, hMK⟩ := hRK)
|refine j8 (K6 (W := w2K) (S := fun b => w1K.heap.size ≤ b ∧ b < w2K.heap.size) (es := kdM) (z := zK) (r := .agg #[.int .i64 0, Value.func (.func 233) #[] #[], Value.func (.func 236) #[] #[], .nilFunc, Value.func (.func 234) #[] #[], Value.func (.func 235) #[] #[]]) (c := true) rfl obQ Tryz.underlying238 Tryz.underlying9 z7 memQ ⟨hkK, y9 hMK⟩ hMK (.inl ⟨A4 hk, rfl⟩)) ?_
|refine e7 ?_
|refine e9 rfl rfl obQ obQ ?_
|refine k7 (fun bc => ⟨_, _, rfl, obQ, ?_⟩))
|(refine A9 ?_; first
|refine w5 ?_
|refine B5 rfl (k8 rfl obQ) ?_
|refine D9 rfl ?_
|refine w4 rfl rfl ?_ ?_)
|refine A8 ⟨_, rfl⟩ ⟨_, rfl⟩ pstQ rfl ?_
|refine D4 bc svQ)
  cases h1 : zrB .src x
  · by_cases h2 : onF .src x = x
    · rw [aZ3 hk h1 h2]
      repeat' (first
|(refine j7 ?_; first
|refine e8 ?_
|refine a6 rfl ?_
|refine j3 ?_
|refine n7 rfl obQ ?_)
|(refine k6 ?_; first
|refine j8 (r4 rfl obQ (fun w => B9 Tryz.underlying245 (by kernel_rfl) _ _ _ 0 rfl (by decide) w)) ?_
|refine E3 rfl obQ rfl rfl 4 rfl rfl (m := 0) rfl [] rfl rfl (fun w hw j u hu => hw.src (i := 5) (news := [.int .i64 0, .int .i64 0, .int .i64 0]) rfl rfl j u (by rcases j with _ | _ | _ | j <;> simp at hu ⊢ <;> exact hu)) (Nat.le_of_ble_eq_true rfl) (by simp [Value.oneCell']) rfl ?_
|refine j8 (k9 rfl obQ (fun w => G0 (by kernel_rfl) (r := false) h1 _ _ w)) ?_
|refine e7 ?_
|refine e9 rfl rfl obQ obQ ?_
|refine k7 (fun bd => ⟨_, _, rfl, obQ, ?_⟩)
|refine j9 (fun b => ⟨_, _, rfl, obQ, ?_⟩)
|refine a8 (f := 233) rfl obQ (by kernel_rfl) (fun w hw => W9 x w) ?_)
|refine a7 ?_)
      rename_i b7
      obtain ⟨b8, rfl⟩ : ∃ z, z = bd := ⟨bd, rfl⟩
      obtain ⟨bs, rfl⟩ : ∃ z, z = b := ⟨b, rfl⟩
      refine C8 (fun _ : Unit => ([(w, fun b => b < w.heap.size)], ⟨[(2, .s (.p b2 0 0)), (3, .s (.p b3 1 0)), (5, .s (.p b5 2 0)), (7, .s (.p b7 3 0))], [⟨b2, 161, [.v (.string x.kd), .v (.int .i64 x.a), .v (.int .i64 x.b), .v (.int .i64 x.c), .v (.int .i64 x.n), .v (.int .i64 x.cl), .v (.int .i64 x.ga), .v (.string x.w.sh), .v (.int .i64 x.w.a), .v (.int .i64 x.w.b), .v (.int .i64 x.w.at_), .v (.int .i64 x.w.soft)]⟩, ⟨b3, 3, [.v (.int .i64 z)]⟩, ⟨b5, 237, [.v (.int .i64 0), .v (Value.func (.func 233) #[] #[]), .v (Value.func (.func 236) #[] #[]), .v (.nilFunc), .v (Value.func (.func 234) #[] #[]), .v (Value.func (.func 235) #[] #[])]⟩, ⟨b7, 161, [.v (.string x.kd), .v (.int .i64 x.a), .v (.int .i64 x.b), .v (.int .i64 x.c), .v (.int .i64 (x.n)), .v (.int .i64 (0)), .v (.int .i64 (0)), .v (.string ByteArray.empty), .v (.int .i64 0), .v (.int .i64 0), .v (.int .i64 0), .v (.int .i64 0)]⟩, ⟨b8, 245, [.v (.int .i64 x.a), .v (.int .i64 x.b), .v (.int .i64 x.c)]⟩, ⟨bs, 3, [.v (.int .i64 0), .v (.int .i64 0), .v (.int .i64 0)]⟩], []⟩)) ?_ (fun _ => ?_)
      · repeat' (first
|refine A6 (id := 10) 10 (.q 0 (.q 2 (.q 4 (.three 1 3 5 (.q 6 (.three 3 5 7 (.two 5 7 (.n 7 (.q 8 (.n 9 .nil))) (.q 8 (.two 5 9 (.n 9 .nil) (.n 5 .nil)))) (.two 3 7 (.n 7 (.q 8 (.n 9 .nil))) (.n 3 (.q 8 (.n 9 .nil)))) (.two 3 5 (.q 8 (.two 5 9 (.n 9 .nil) (.n 5 .nil))) (.n 3 (.q 8 (.n 9 .nil)))))) (.two 1 5 (.q 6 (.two 5 7 (.n 7 (.q 8 (.n 9 .nil))) (.q 8 (.two 5 9 (.n 9 .nil) (.n 5 .nil))))) (.n 1 (.q 6 (.n 7 (.q 8 (.n 9 .nil)))))) (.two 1 3 (.q 6 (.two 3 7 (.n 7 (.q 8 (.n 9 .nil))) (.n 3 (.q 8 (.n 9 .nil))))) (.n 1 (.q 6 (.n 7 (.q 8 (.n 9 .nil)))))))))) rfl mixed (by kernel_rfl) rfl ?_
|refine e7 ?_
|refine e9 rfl rfl obQ obQ ?_
|(refine A9 ?_; first
|refine w5 ?_
|refine B5 rfl (k8 rfl obQ) ?_
|refine D9 rfl ?_
|refine w4 rfl rfl ?_ ?_
|refine E9 rfl rfl rfl ?_ ?_ ?_)
|refine A8 ⟨_, rfl⟩ ⟨_, rfl⟩ pstQ rfl ?_
|refine D4 () svQ)
      repeat' (first
|(refine j7 ?_; first
|refine e8 ?_
|refine a6 rfl ?_
|refine j3 ?_
|refine i6 ?_
|refine n8 (id := 14) 5 [(0, true), (2, true), (3, true), (4, true), (1, false)] rfl mixed (by kernel_rfl) rfl ?_
|refine n7 rfl obQ ?_)
|(refine k6 ?_; first
|(refine j5 (f := 137) rfl obQ (by kernel_rfl) (fun w hw => B6 x .src hk w) (fun w1I w2I vI hw1I hbI hRI => ?_); obtain ⟨AI, cI, rfl, hSI⟩ := hRI)
|refine j8 (k9 rfl obQ (fun w => T1 (x := onF .src x) (y := x) (b := false) (by simp [h2]) _ _ w)) ?_
|refine e7 ?_
|refine e9 rfl rfl obQ obQ ?_
|refine j9 (fun b => ⟨_, _, rfl, obQ, ?_⟩)
|refine a8 (f := 236) rfl obQ (by kernel_rfl) (fun w hw => bu8 x w) ?_
|refine a8 (f := 112) rfl obQ (by kernel_rfl) (fun w hw => v8 _ _ w) ?_
|refine a8 (f := 107) rfl obQ (by kernel_rfl) (fun w hw => p6 _ _ [wh ((insF .src x).any (unB z)) 10, wi x.n 0 7] (by simp) w (.inr ⟨_, rfl, hw.src (i := 6) rfl rfl⟩)) ?_
|refine a8 (f := 134) rfl obQ (by kernel_rfl) (fun w hw => G4 (l := insF .src x) 201 (.pointer (some ⟨b3, 0, none⟩)) (p := unB z) rfl (Nat.le_of_ble_eq_true rfl) (by kernel_rfl) w (hw.rdm hSI memQ) (fun y hy W hW => Z6 b3 z y W ((hW.block b3 (HW.bxAt hw (i := 1) rfl rfl).1.2).trans (HW.bxAt hw (i := 1) rfl rfl).2))) ?_)
|refine r5 ?_
|refine V_q rfl (k8 rfl obQ) ?_
|refine V_n rfl ?_
|refine G_V ⟨⟨_, rfl, trivial⟩, ⟨_, rfl⟩, rfl, pstQ⟩ rfl ?_
|refine a7 ?_
|refine j4 rfl obQ (fun w hw => ⟨?_, hw.below⟩))
      all_goals rfl
    · rw [aX5 hk h2]
      repeat' (first
|(refine j7 ?_; first
|refine e8 ?_
|refine a6 rfl ?_
|refine j3 ?_
|refine n7 rfl obQ ?_)
|(refine k6 ?_; first
|refine j8 (r4 rfl obQ (fun w => B9 Tryz.underlying245 (by kernel_rfl) _ _ _ 0 rfl (by decide) w)) ?_
|refine E3 rfl obQ rfl rfl 4 rfl rfl (m := 0) rfl [] rfl rfl (fun w hw j u hu => hw.src (i := 5) (news := [.int .i64 0, .int .i64 0, .int .i64 0]) rfl rfl j u (by rcases j with _ | _ | _ | j <;> simp at hu ⊢ <;> exact hu)) (Nat.le_of_ble_eq_true rfl) (by simp [Value.oneCell']) rfl ?_
|refine j8 (k9 rfl obQ (fun w => G0 (by kernel_rfl) (r := false) h1 _ _ w)) ?_
|refine e7 ?_
|refine e9 rfl rfl obQ obQ ?_
|refine k7 (fun bd => ⟨_, _, rfl, obQ, ?_⟩)
|refine j9 (fun b => ⟨_, _, rfl, obQ, ?_⟩)
|refine a8 (f := 233) rfl obQ (by kernel_rfl) (fun w hw => W9 x w) ?_)
|refine a7 ?_)
      rename_i b7
      obtain ⟨b8, rfl⟩ : ∃ z, z = bd := ⟨bd, rfl⟩
      obtain ⟨bs, rfl⟩ : ∃ z, z = b := ⟨b, rfl⟩
      refine C8 (fun _ : Unit => ([(w, fun b => b < w.heap.size)], ⟨[(2, .s (.p b2 0 0)), (3, .s (.p b3 1 0)), (5, .s (.p b5 2 0)), (7, .s (.p b7 3 0))], [⟨b2, 161, [.v (.string x.kd), .v (.int .i64 x.a), .v (.int .i64 x.b), .v (.int .i64 x.c), .v (.int .i64 x.n), .v (.int .i64 x.cl), .v (.int .i64 x.ga), .v (.string x.w.sh), .v (.int .i64 x.w.a), .v (.int .i64 x.w.b), .v (.int .i64 x.w.at_), .v (.int .i64 x.w.soft)]⟩, ⟨b3, 3, [.v (.int .i64 z)]⟩, ⟨b5, 237, [.v (.int .i64 0), .v (Value.func (.func 233) #[] #[]), .v (Value.func (.func 236) #[] #[]), .v (.nilFunc), .v (Value.func (.func 234) #[] #[]), .v (Value.func (.func 235) #[] #[])]⟩, ⟨b7, 161, [.v (.string x.kd), .v (.int .i64 x.a), .v (.int .i64 x.b), .v (.int .i64 x.c), .v (.int .i64 (x.n)), .v (.int .i64 (0)), .v (.int .i64 (0)), .v (.string ByteArray.empty), .v (.int .i64 0), .v (.int .i64 0), .v (.int .i64 0), .v (.int .i64 0)]⟩, ⟨b8, 245, [.v (.int .i64 x.a), .v (.int .i64 x.b), .v (.int .i64 x.c)]⟩, ⟨bs, 3, [.v (.int .i64 0), .v (.int .i64 0), .v (.int .i64 0)]⟩], []⟩)) ?_ (fun _ => ?_)
      · repeat' (first
|refine A6 (id := 10) 10 (.q 0 (.q 2 (.q 4 (.three 1 3 5 (.q 6 (.three 3 5 7 (.two 5 7 (.n 7 (.q 8 (.n 9 .nil))) (.q 8 (.two 5 9 (.n 9 .nil) (.n 5 .nil)))) (.two 3 7 (.n 7 (.q 8 (.n 9 .nil))) (.n 3 (.q 8 (.n 9 .nil)))) (.two 3 5 (.q 8 (.two 5 9 (.n 9 .nil) (.n 5 .nil))) (.n 3 (.q 8 (.n 9 .nil)))))) (.two 1 5 (.q 6 (.two 5 7 (.n 7 (.q 8 (.n 9 .nil))) (.q 8 (.two 5 9 (.n 9 .nil) (.n 5 .nil))))) (.n 1 (.q 6 (.n 7 (.q 8 (.n 9 .nil)))))) (.two 1 3 (.q 6 (.two 3 7 (.n 7 (.q 8 (.n 9 .nil))) (.n 3 (.q 8 (.n 9 .nil))))) (.n 1 (.q 6 (.n 7 (.q 8 (.n 9 .nil)))))))))) rfl mixed (by kernel_rfl) rfl ?_
|refine e7 ?_
|refine e9 rfl rfl obQ obQ ?_
|(refine A9 ?_; first
|refine w5 ?_
|refine B5 rfl (k8 rfl obQ) ?_
|refine D9 rfl ?_
|refine w4 rfl rfl ?_ ?_
|refine E9 rfl rfl rfl ?_ ?_ ?_)
|refine A8 ⟨_, rfl⟩ ⟨_, rfl⟩ pstQ rfl ?_
|refine D4 () svQ)
      repeat' (first
|(refine j7 ?_; first
|refine e8 ?_
|refine a6 rfl ?_
|refine i6 ?_
|refine o5 rfl obQ ?_)
|refine j8 (k9 rfl obQ (fun w => T1 (x := onF .src x) (y := x) (b := true) (by simp [h2]) _ _ w)) ?_
|refine e7 ?_
|refine e9 rfl rfl obQ obQ ?_
|refine a7 ?_
|refine j6 ?_
|refine j4 rfl obQ (fun w hw => ⟨?_, hw.below⟩))
      all_goals rfl
  · rw [aP6 hk h1]
    repeat' (first
|(refine j7 ?_; first
|refine e8 ?_
|refine a6 rfl ?_
|refine j3 ?_
|refine i6 ?_
|refine o5 rfl obQ ?_
|refine n7 rfl obQ ?_)
|(refine k6 ?_; first
|refine j8 (r4 rfl obQ (fun w => B9 Tryz.underlying245 (by kernel_rfl) _ _ _ 0 rfl (by decide) w)) ?_
|refine E3 rfl obQ rfl rfl 4 rfl rfl (m := 0) rfl [] rfl rfl (fun w hw j u hu => hw.src (i := 5) (news := [.int .i64 0, .int .i64 0, .int .i64 0]) rfl rfl j u (by rcases j with _ | _ | _ | j <;> simp at hu ⊢ <;> exact hu)) (Nat.le_of_ble_eq_true rfl) (by simp [Value.oneCell']) rfl ?_
|refine j8 (k9 rfl obQ (fun w => G0 (by kernel_rfl) (r := true) h1 _ _ w)) ?_
|refine e7 ?_
|refine e9 rfl rfl obQ obQ ?_
|refine k7 (fun bd => ⟨_, _, rfl, obQ, ?_⟩)
|refine j9 (fun b => ⟨_, _, rfl, obQ, ?_⟩)
|refine a8 (f := 233) rfl obQ (by kernel_rfl) (fun w hw => W9 x w) ?_)
|refine a7 ?_
|refine j6 ?_
|refine j4 rfl obQ (fun w hw => ⟨?_, hw.below⟩))
    all_goals rfl
theorem ai0 (x : Nod) (z : Int) (hk : kdOf x.kd = some .mat) (w : World) (hsh : Sh w) : Calls Tryz.prog 142 #[.agg #[.string x.kd, .int .i64 x.a, .int .i64 x.b, .int .i64 x.c, .int .i64 x.n, .int .i64 x.cl, .int .i64 x.ga, .string x.w.sh, .int .i64 x.w.a, .int .i64 x.w.b, .int .i64 x.w.at_, .int .i64 x.w.soft], .int .i64 z] w fun r w' => r = .returned (.int .i64 (ndE x z)) ∧ Below w.heap.size w w' := by
  refine i7 n9 Tryz.func142 rfl Tryz.ntmps142 (Nat.le_of_ble_eq_true rfl) rfl ?_
  repeat' (first
|refine e8 ?_
|refine a6 rfl ?_
|refine e7 ?_
|refine e9 rfl rfl obQ obQ ?_
|refine k7 (fun bb => ⟨_, _, rfl, obQ, ?_⟩)
|refine a7 ?_)
  rename_i b2
  obtain ⟨b3, rfl⟩ : ∃ z, z = bb := ⟨bb, rfl⟩
  refine C8 (fun b5 : Nat => ([(w, fun b => b < w.heap.size)], ⟨[(2, .s (.p b2 0 0)), (3, .s (.p b3 1 0)), (5, .s (.p b5 2 0)), (6, .s (.v (.bool true)))], [⟨b2, 161, [.v (.string x.kd), .v (.int .i64 x.a), .v (.int .i64 x.b), .v (.int .i64 x.c), .v (.int .i64 x.n), .v (.int .i64 x.cl), .v (.int .i64 x.ga), .v (.string x.w.sh), .v (.int .i64 x.w.a), .v (.int .i64 x.w.b), .v (.int .i64 x.w.at_), .v (.int .i64 x.w.soft)]⟩, ⟨b3, 3, [.v (.int .i64 z)]⟩, ⟨b5, 237, [.v (.int .i64 0), .v (Value.func (.func 233) #[] #[]), .v (Value.func (.func 237) #[] #[]), .v (.nilFunc), .v (Value.func (.func 234) #[] #[]), .v (Value.func (.func 235) #[] #[])]⟩], []⟩)) ?_ (fun b5 => ?_)
  · repeat' (first
|refine F1 (id := 1) 9 (.q 1 (.q 2 (.two 0 7 (.two 3 7 (.q 4 (.q 5 (.q 6 (.n 7 (.n 8 .nil))))) (.n 3 (.q 4 (.q 5 (.q 6 (.n 8 .nil)))))) (.n 0 (.n 3 (.q 4 (.q 5 (.q 6 (.n 8 .nil))))))))) rfl mixed (by kernel_rfl) rfl ?_
|(refine k6 ?_; first
|(refine j5 (f := 188) rfl obQ (by kernel_rfl) (fun w hw => z1 w) (fun w1K w2K vK hw1K hbK hRK => ?_); obtain ⟨kK, rfl, hkK, hMK⟩ := hRK)
|refine j8 (K6 (W := w2K) (S := fun b => w1K.heap.size ≤ b ∧ b < w2K.heap.size) (es := kdM) (z := zK) (r := .agg #[.int .i64 0, Value.func (.func 233) #[] #[], Value.func (.func 237) #[] #[], .nilFunc, Value.func (.func 234) #[] #[], Value.func (.func 235) #[] #[]]) (c := true) rfl obQ Tryz.underlying238 Tryz.underlying9 z7 memQ ⟨hkK, y9 hMK⟩ hMK (.inl ⟨A4 hk, rfl⟩)) ?_
|refine e7 ?_
|refine e9 rfl rfl obQ obQ ?_
|refine k7 (fun bc => ⟨_, _, rfl, obQ, ?_⟩))
|(refine A9 ?_; first
|refine w5 ?_
|refine B5 rfl (k8 rfl obQ) ?_
|refine D9 rfl ?_
|refine w4 rfl rfl ?_ ?_)
|refine A8 ⟨_, rfl⟩ ⟨_, rfl⟩ pstQ rfl ?_
|refine D4 bc svQ)
  cases h1 : zrB .mat x
  · by_cases h2 : onF .mat x = x
    · rw [aZ3 hk h1 h2]
      repeat' (first
|(refine j7 ?_; first
|refine e8 ?_
|refine a6 rfl ?_
|refine j3 ?_
|refine n7 rfl obQ ?_)
|(refine k6 ?_; first
|refine j8 (r4 rfl obQ (fun w => B9 Tryz.underlying245 (by kernel_rfl) _ _ _ 0 rfl (by decide) w)) ?_
|refine E3 rfl obQ rfl rfl 4 rfl rfl (m := 0) rfl [] rfl rfl (fun w hw j u hu => hw.src (i := 5) (news := [.int .i64 0, .int .i64 0, .int .i64 0]) rfl rfl j u (by rcases j with _ | _ | _ | j <;> simp at hu ⊢ <;> exact hu)) (Nat.le_of_ble_eq_true rfl) (by simp [Value.oneCell']) rfl ?_
|refine j8 (k9 rfl obQ (fun w => G0 (by kernel_rfl) (r := false) h1 _ _ w)) ?_
|refine e7 ?_
|refine e9 rfl rfl obQ obQ ?_
|refine k7 (fun bd => ⟨_, _, rfl, obQ, ?_⟩)
|refine j9 (fun b => ⟨_, _, rfl, obQ, ?_⟩)
|refine a8 (f := 233) rfl obQ (by kernel_rfl) (fun w hw => W9 x w) ?_)
|refine a7 ?_)
      rename_i b7
      obtain ⟨b8, rfl⟩ : ∃ z, z = bd := ⟨bd, rfl⟩
      obtain ⟨bs, rfl⟩ : ∃ z, z = b := ⟨b, rfl⟩
      refine C8 (fun _ : Unit => ([(w, fun b => b < w.heap.size)], ⟨[(2, .s (.p b2 0 0)), (3, .s (.p b3 1 0)), (5, .s (.p b5 2 0)), (7, .s (.p b7 3 0))], [⟨b2, 161, [.v (.string x.kd), .v (.int .i64 x.a), .v (.int .i64 x.b), .v (.int .i64 x.c), .v (.int .i64 x.n), .v (.int .i64 x.cl), .v (.int .i64 x.ga), .v (.string x.w.sh), .v (.int .i64 x.w.a), .v (.int .i64 x.w.b), .v (.int .i64 x.w.at_), .v (.int .i64 x.w.soft)]⟩, ⟨b3, 3, [.v (.int .i64 z)]⟩, ⟨b5, 237, [.v (.int .i64 0), .v (Value.func (.func 233) #[] #[]), .v (Value.func (.func 237) #[] #[]), .v (.nilFunc), .v (Value.func (.func 234) #[] #[]), .v (Value.func (.func 235) #[] #[])]⟩, ⟨b7, 161, [.v (.string x.kd), .v (.int .i64 x.a), .v (.int .i64 x.b), .v (.int .i64 x.c), .v (.int .i64 (x.n)), .v (.int .i64 (0)), .v (.int .i64 (0)), .v (.string ByteArray.empty), .v (.int .i64 0), .v (.int .i64 0), .v (.int .i64 0), .v (.int .i64 0)]⟩, ⟨b8, 245, [.v (.int .i64 x.a), .v (.int .i64 x.b), .v (.int .i64 x.c)]⟩, ⟨bs, 3, [.v (.int .i64 0), .v (.int .i64 0), .v (.int .i64 0)]⟩], []⟩)) ?_ (fun _ => ?_)
      · repeat' (first
|refine A6 (id := 10) 10 (.q 0 (.q 2 (.q 4 (.three 1 3 5 (.q 6 (.three 3 5 7 (.two 5 7 (.n 7 (.q 8 (.n 9 .nil))) (.q 8 (.two 5 9 (.n 9 .nil) (.n 5 .nil)))) (.two 3 7 (.n 7 (.q 8 (.n 9 .nil))) (.n 3 (.q 8 (.n 9 .nil)))) (.two 3 5 (.q 8 (.two 5 9 (.n 9 .nil) (.n 5 .nil))) (.n 3 (.q 8 (.n 9 .nil)))))) (.two 1 5 (.q 6 (.two 5 7 (.n 7 (.q 8 (.n 9 .nil))) (.q 8 (.two 5 9 (.n 9 .nil) (.n 5 .nil))))) (.n 1 (.q 6 (.n 7 (.q 8 (.n 9 .nil)))))) (.two 1 3 (.q 6 (.two 3 7 (.n 7 (.q 8 (.n 9 .nil))) (.n 3 (.q 8 (.n 9 .nil))))) (.n 1 (.q 6 (.n 7 (.q 8 (.n 9 .nil)))))))))) rfl mixed (by kernel_rfl) rfl ?_
|refine e7 ?_
|refine e9 rfl rfl obQ obQ ?_
|(refine A9 ?_; first
|refine w5 ?_
|refine B5 rfl (k8 rfl obQ) ?_
|refine D9 rfl ?_
|refine w4 rfl rfl ?_ ?_
|refine E9 rfl rfl rfl ?_ ?_ ?_)
|refine A8 ⟨_, rfl⟩ ⟨_, rfl⟩ pstQ rfl ?_
|refine D4 () svQ)
      repeat' (first
|(refine j7 ?_; first
|refine e8 ?_
|refine a6 rfl ?_
|refine j3 ?_
|refine i6 ?_
|refine n8 (id := 14) 5 [(0, true), (2, true), (3, true), (4, true), (1, false)] rfl mixed (by kernel_rfl) rfl ?_
|refine n7 rfl obQ ?_)
|(refine k6 ?_; first
|(refine j5 (f := 137) rfl obQ (by kernel_rfl) (fun w hw => B6 x .mat hk w) (fun w1I w2I vI hw1I hbI hRI => ?_); obtain ⟨AI, cI, rfl, hSI⟩ := hRI)
|refine j8 (k9 rfl obQ (fun w => T1 (x := onF .mat x) (y := x) (b := false) (by simp [h2]) _ _ w)) ?_
|refine e7 ?_
|refine e9 rfl rfl obQ obQ ?_
|refine j9 (fun b => ⟨_, _, rfl, obQ, ?_⟩)
|refine a8 (f := 237) rfl obQ (by kernel_rfl) (fun w hw => bx8 x w) ?_
|refine a8 (f := 112) rfl obQ (by kernel_rfl) (fun w hw => v8 _ _ w) ?_
|refine a8 (f := 107) rfl obQ (by kernel_rfl) (fun w hw => p6 _ _ [wh ((insF .mat x).any (unB z)) 10, lvE x.n] (by simp) w (.inr ⟨_, rfl, hw.src (i := 6) rfl rfl⟩)) ?_
|refine a8 (f := 134) rfl obQ (by kernel_rfl) (fun w hw => G4 (l := insF .mat x) 201 (.pointer (some ⟨b3, 0, none⟩)) (p := unB z) rfl (Nat.le_of_ble_eq_true rfl) (by kernel_rfl) w (hw.rdm hSI memQ) (fun y hy W hW => Z6 b3 z y W ((hW.block b3 (HW.bxAt hw (i := 1) rfl rfl).1.2).trans (HW.bxAt hw (i := 1) rfl rfl).2))) ?_)
|refine r5 ?_
|refine V_q rfl (k8 rfl obQ) ?_
|refine V_n rfl ?_
|refine G_V ⟨⟨_, rfl, trivial⟩, ⟨_, rfl⟩, rfl, pstQ⟩ rfl ?_
|refine a7 ?_
|refine j4 rfl obQ (fun w hw => ⟨?_, hw.below⟩))
      all_goals rfl
    · rw [aX5 hk h2]
      repeat' (first
|(refine j7 ?_; first
|refine e8 ?_
|refine a6 rfl ?_
|refine j3 ?_
|refine n7 rfl obQ ?_)
|(refine k6 ?_; first
|refine j8 (r4 rfl obQ (fun w => B9 Tryz.underlying245 (by kernel_rfl) _ _ _ 0 rfl (by decide) w)) ?_
|refine E3 rfl obQ rfl rfl 4 rfl rfl (m := 0) rfl [] rfl rfl (fun w hw j u hu => hw.src (i := 5) (news := [.int .i64 0, .int .i64 0, .int .i64 0]) rfl rfl j u (by rcases j with _ | _ | _ | j <;> simp at hu ⊢ <;> exact hu)) (Nat.le_of_ble_eq_true rfl) (by simp [Value.oneCell']) rfl ?_
|refine j8 (k9 rfl obQ (fun w => G0 (by kernel_rfl) (r := false) h1 _ _ w)) ?_
|refine e7 ?_
|refine e9 rfl rfl obQ obQ ?_
|refine k7 (fun bd => ⟨_, _, rfl, obQ, ?_⟩)
|refine j9 (fun b => ⟨_, _, rfl, obQ, ?_⟩)
|refine a8 (f := 233) rfl obQ (by kernel_rfl) (fun w hw => W9 x w) ?_)
|refine a7 ?_)
      rename_i b7
      obtain ⟨b8, rfl⟩ : ∃ z, z = bd := ⟨bd, rfl⟩
      obtain ⟨bs, rfl⟩ : ∃ z, z = b := ⟨b, rfl⟩
      refine C8 (fun _ : Unit => ([(w, fun b => b < w.heap.size)], ⟨[(2, .s (.p b2 0 0)), (3, .s (.p b3 1 0)), (5, .s (.p b5 2 0)), (7, .s (.p b7 3 0))], [⟨b2, 161, [.v (.string x.kd), .v (.int .i64 x.a), .v (.int .i64 x.b), .v (.int .i64 x.c), .v (.int .i64 x.n), .v (.int .i64 x.cl), .v (.int .i64 x.ga), .v (.string x.w.sh), .v (.int .i64 x.w.a), .v (.int .i64 x.w.b), .v (.int .i64 x.w.at_), .v (.int .i64 x.w.soft)]⟩, ⟨b3, 3, [.v (.int .i64 z)]⟩, ⟨b5, 237, [.v (.int .i64 0), .v (Value.func (.func 233) #[] #[]), .v (Value.func (.func 237) #[] #[]), .v (.nilFunc), .v (Value.func (.func 234) #[] #[]), .v (Value.func (.func 235) #[] #[])]⟩, ⟨b7, 161, [.v (.string x.kd), .v (.int .i64 x.a), .v (.int .i64 x.b), .v (.int .i64 x.c), .v (.int .i64 (x.n)), .v (.int .i64 (0)), .v (.int .i64 (0)), .v (.string ByteArray.empty), .v (.int .i64 0), .v (.int .i64 0), .v (.int .i64 0), .v (.int .i64 0)]⟩, ⟨b8, 245, [.v (.int .i64 x.a), .v (.int .i64 x.b), .v (.int .i64 x.c)]⟩, ⟨bs, 3, [.v (.int .i64 0), .v (.int .i64 0), .v (.int .i64 0)]⟩], []⟩)) ?_ (fun _ => ?_)
      · repeat' (first
|refine A6 (id := 10) 10 (.q 0 (.q 2 (.q 4 (.three 1 3 5 (.q 6 (.three 3 5 7 (.two 5 7 (.n 7 (.q 8 (.n 9 .nil))) (.q 8 (.two 5 9 (.n 9 .nil) (.n 5 .nil)))) (.two 3 7 (.n 7 (.q 8 (.n 9 .nil))) (.n 3 (.q 8 (.n 9 .nil)))) (.two 3 5 (.q 8 (.two 5 9 (.n 9 .nil) (.n 5 .nil))) (.n 3 (.q 8 (.n 9 .nil)))))) (.two 1 5 (.q 6 (.two 5 7 (.n 7 (.q 8 (.n 9 .nil))) (.q 8 (.two 5 9 (.n 9 .nil) (.n 5 .nil))))) (.n 1 (.q 6 (.n 7 (.q 8 (.n 9 .nil)))))) (.two 1 3 (.q 6 (.two 3 7 (.n 7 (.q 8 (.n 9 .nil))) (.n 3 (.q 8 (.n 9 .nil))))) (.n 1 (.q 6 (.n 7 (.q 8 (.n 9 .nil)))))))))) rfl mixed (by kernel_rfl) rfl ?_
|refine e7 ?_
|refine e9 rfl rfl obQ obQ ?_
|(refine A9 ?_; first
|refine w5 ?_
|refine B5 rfl (k8 rfl obQ) ?_
|refine D9 rfl ?_
|refine w4 rfl rfl ?_ ?_
|refine E9 rfl rfl rfl ?_ ?_ ?_)
|refine A8 ⟨_, rfl⟩ ⟨_, rfl⟩ pstQ rfl ?_
|refine D4 () svQ)
      repeat' (first
|(refine j7 ?_; first
|refine e8 ?_
|refine a6 rfl ?_
|refine i6 ?_
|refine o5 rfl obQ ?_)
|refine j8 (k9 rfl obQ (fun w => T1 (x := onF .mat x) (y := x) (b := true) (by simp [h2]) _ _ w)) ?_
|refine e7 ?_
|refine e9 rfl rfl obQ obQ ?_
|refine a7 ?_
|refine j6 ?_
|refine j4 rfl obQ (fun w hw => ⟨?_, hw.below⟩))
      all_goals rfl
  · rw [aP6 hk h1]
    repeat' (first
|(refine j7 ?_; first
|refine e8 ?_
|refine a6 rfl ?_
|refine j3 ?_
|refine i6 ?_
|refine o5 rfl obQ ?_
|refine n7 rfl obQ ?_)
|(refine k6 ?_; first
|refine j8 (r4 rfl obQ (fun w => B9 Tryz.underlying245 (by kernel_rfl) _ _ _ 0 rfl (by decide) w)) ?_
|refine E3 rfl obQ rfl rfl 4 rfl rfl (m := 0) rfl [] rfl rfl (fun w hw j u hu => hw.src (i := 5) (news := [.int .i64 0, .int .i64 0, .int .i64 0]) rfl rfl j u (by rcases j with _ | _ | _ | j <;> simp at hu ⊢ <;> exact hu)) (Nat.le_of_ble_eq_true rfl) (by simp [Value.oneCell']) rfl ?_
|refine j8 (k9 rfl obQ (fun w => G0 (by kernel_rfl) (r := true) h1 _ _ w)) ?_
|refine e7 ?_
|refine e9 rfl rfl obQ obQ ?_
|refine k7 (fun bd => ⟨_, _, rfl, obQ, ?_⟩)
|refine j9 (fun b => ⟨_, _, rfl, obQ, ?_⟩)
|refine a8 (f := 233) rfl obQ (by kernel_rfl) (fun w hw => W9 x w) ?_)
|refine a7 ?_
|refine j6 ?_
|refine j4 rfl obQ (fun w hw => ⟨?_, hw.below⟩))
    all_goals rfl
end Go.Proofs.YtjkgklhjbopoaaaGreatDoor
