/- Mixer: wipes: contracts of the program. -/
import Derived.Test.YtjkgklhjbopoaaaGreatDoorPartB
import Derived.Test.YtjkgklhjbopoaaaGreatDoorEng4
namespace Go.Proofs.YtjkgklhjbopoaaaGreatDoor
open Go.E Go.RowKit Go.Fl
attribute [local irreducible] G C S D Calls
set_option maxRecDepth 100000
set_option linter.all false
set_option maxHeartbeats 8000000
abbrev Sh (w : World) : Prop := Rd w (some ⟨0, 0, none⟩) [.string bHalf, .string bBox, .string bDia]
theorem r7 {w0 w : World} {Ps : Past} {σ : St} {B : Nat} (h : Sh w0) (hw : HW B w0 Ps σ w) (hp : (w0, fun b => b < w0.heap.size) ∈ Ps) : Sh w := hw.rdm h.toS hp
theorem bA1 : shB bHalf = true := by decide +kernel
theorem bs9 : shB bBox = true := by decide +kernel
theorem bz0 : shB bDia = true := by decide +kernel
theorem au5 {a b : ByteArray} (h : a ≠ b) : (a == b) = false := by
  cases e : (a == b)
  · rfl
  · exact absurd ((MapKept.bytes_beq a b).1 e) h
theorem bj5 {s : ByteArray} (h1 : bHalf ≠ s) (h2 : bBox ≠ s) (h3 : bDia ≠ s) : shB s = false := by
  unfold shB
  rw [au5 (Ne.symm h1), au5 (Ne.symm h2), au5 (Ne.symm h3)]
  rfl
theorem bv4 {s : ByteArray} (h : shB s = true) (h1 : bHalf ≠ s) (h2 : bBox ≠ s) : s = bDia := by
  unfold shB at h
  rw [au5 (Ne.symm h1), au5 (Ne.symm h2)] at h
  exact (MapKept.bytes_beq s bDia).1 h
def wpV (w : Wip) : Value := .agg #[.string w.sh, .int .i64 w.a, .int .i64 w.b, .int .i64 w.at_, .int .i64 w.soft]
def wsX (w : Wip) (W y x : Nat) : List Int := wsL w W y ++ (List.range x).map fun (x : Nat) => wsF w (x : Int) (y : Int)
theorem aW8 {w : Wip} (h : WpOk w) {W H : Nat} : ∀ k ∈ wsL w W H, 0 ≤ k ∧ k ≤ 256 := by
  intro k hk
  obtain ⟨y, _, hk⟩ := List.mem_flatMap.1 hk
  obtain ⟨x, _, rfl⟩ := List.mem_map.1 hk
  exact aF8 h _ _
theorem by5 (w : Wip) (W y : Nat) : wsX w W y 0 = wsL w W y := by simp [wsX]
theorem bd2 (w : Wip) (W y : Nat) : wsX w W y W = wsL w W (y + 1) := by
  unfold wsX wsL
  rw [List.range_succ, List.flatMap_append]
  simp
theorem aT5 (w : Wip) (W y x : Nat) : wsX w W y (x + 1) = wsX w W y x ++ [wsF w (x : Int) (y : Int)] := by
  unfold wsX
  rw [List.range_succ, List.map_append, List.append_assoc]
  rfl
theorem aZ5 (w : Wip) (W y x : Nat) : (wsX w W y x).length = y * W + x := by simp [wsX, ar3]
theorem bp5 {w : Wip} {W y x : Nat} (hW : W ≤ 64) (hy : y ≤ 64) (hx : x ≤ 64) : (wsX w W y x).length ≤ 5000 := by
  rw [aZ5]
  have := Nat.mul_le_mul hy hW
  omega
def wdE (w : Wip) (u v : Int) : Int := firstL [wpE w, firstL [wi u 1 64, wi v 1 64]]
def wdR (w : Wip) (u v : Int) : List Int × Int := if wdE w u v = 0 then (wsL w u.toNat v.toNat, 0) else ([], wdE w u v)
theorem bk2 {u v : Int} (h : firstL [wi u 1 64, wi v 1 64] = 0) : (1 ≤ u ∧ u ≤ 64) ∧ 1 ≤ v ∧ v ≤ 64 := by
  rw [p9] at h
  simp only [List.mem_cons, List.mem_nil_iff, or_false, forall_eq_or_imp, forall_eq, D1] at h
  exact h
theorem bv1 {w : Wip} {u v : Int} (h : wdE w u v = 0) : WpOk w ∧ (1 ≤ u ∧ u ≤ 64) ∧ 1 ≤ v ∧ v ≤ 64 := by
  unfold wdE at h
  rw [p9] at h
  simp only [List.mem_cons, List.mem_nil_iff, or_false, forall_eq_or_imp, forall_eq, ag5] at h
  exact ⟨h.1, bk2 h.2⟩
def sbI (a b : Int) : Int := a - b
def brR (w : Wip) (d u v : Int) : List Int × Int := if bdE w d u v = 0 then (zwI sbI (wsL (w.wide d) u.toNat v.toNat) (wsL w u.toNat v.toNat), 0) else ([], bdE w d u v)
theorem bp1 {w : Wip} {d u v : Int} (h : bdE w d u v = 0) : WpOk w ∧ WpOk (w.wide d) ∧ (0 ≤ d ∧ d ≤ 100000) ∧ (1 ≤ u ∧ u ≤ 64) ∧ 1 ≤ v ∧ v ≤ 64 := by
  unfold bdE at h
  rw [p9] at h
  simp only [List.mem_cons, List.mem_nil_iff, or_false, forall_eq_or_imp, forall_eq, ag5, D1, B7 (show (4 : Int) ≠ 0 by omega), decide_eq_false_iff_not] at h
  obtain ⟨h1, h2, h3, h4⟩ := h
  have h5 := h1.at_
  exact ⟨h1, ⟨h1.sh, h1.a, h1.b, by show -100000 ≤ w.at_ + d ∧ w.at_ + d ≤ 100000; omega, h1.soft⟩, h2, bk2 h3⟩
theorem toL {a b : ByteArray} (h : a.toList = b.toList) : a = b := ByteArray.ext (Array.ext' (by simpa [ByteArray.toList_eq] using h))
theorem ai5 {a b : ByteArray} (h : ¬ a.toList = b.toList) : a ≠ b := fun e => h (by rw [e])
theorem az7 (s : ByteArray) (w : World) (hsh : Sh w) : Calls Tryz.prog 179 #[.string s] w fun r w' => r = .returned (.bool (shB s)) ∧ Below w.heap.size w w' := by
  refine i7 n9 Tryz.func179 rfl Tryz.ntmps179 (Nat.le_of_ble_eq_true rfl) rfl ?_
  repeat' (first
|(refine j7 ?_; first
|refine K7 3 ?_
|refine e8 ?_
|refine a6 rfl ?_
|refine j1 ?_
|refine j3 ?_
|refine o0 ?_
|refine i6 ?_
|refine o5 rfl obQ ?_
|refine n7 rfl obQ ?_
|(refine j0 rfl obQ ?_ ?_ <;> intro h <;> (try simp only [cdS] at h)))
|refine n4 rfl obQ rfl [.string bHalf, .string bBox, .string bDia] (.past (w, fun b => b < w.heap.size) memQ _ _ hsh.toS 0 _ rfl rfl (fun j u hu => by rw [Nat.zero_add]; exact hu)) rfl (.inl ⟨rfl, rfl⟩) ?_
|refine e7 ?_
|refine e9 rfl rfl obQ obQ ?_
|(refine o8 ?_; first
|refine K0 (N4 [0, 5, 6] 0 rfl rfl ?_)
|refine a7 ?_
|refine n5 ?_
|refine n2 ?_
|refine r8 ?_
|refine j6 ?_
|refine n6 ?_
|refine j4 rfl obQ (fun w hw => ⟨?_, hw.below⟩)))
  · exact rB (by rw [← toL h, bA1])
  · exact rB (by rw [← toL h, bs9])
  · exact rB (by rw [← toL h, bz0])
  · rename_i h1 h2
    exact rB (by rw [bj5 (ai5 h1) (ai5 h2) (ai5 h)])
theorem K8 (x : Wip) (w : World) (hsh : Sh w) : Calls Tryz.prog 108 #[.agg #[.string x.sh, .int .i64 x.a, .int .i64 x.b, .int .i64 x.at_, .int .i64 x.soft]] w fun r w' => r = .returned (.int .i64 (wpE x)) ∧ Below w.heap.size w w' := by
  refine i7 n9 Tryz.func108 rfl Tryz.ntmps108 (Nat.le_of_ble_eq_true rfl) rfl ?_
  repeat' (first
|(refine j7 ?_; first
|refine e8 ?_
|refine a6 rfl ?_
|refine i6 ?_
|refine n8 (id := 1) 16 [(0, true), (1, true), (5, true), (6, true), (8, true), (9, true), (11, true), (12, true), (14, true), (15, true), (2, false), (3, true), (4, false), (7, false), (10, false), (13, false)] rfl mixed (by kernel_rfl) rfl ?_)
|(refine k6 ?_; first
|refine e7 ?_
|refine e9 rfl rfl obQ obQ ?_
|refine k7 (fun b => ⟨_, _, rfl, obQ, ?_⟩)
|refine j9 (fun b => ⟨_, _, rfl, obQ, ?_⟩)
|refine a8 (f := 179) rfl obQ (by kernel_rfl) (fun w hw => az7 x.sh w (r7 hsh hw memQ)) ?_
|refine a8 (f := 112) rfl obQ (by kernel_rfl) (fun w hw => v8 _ _ w) ?_
|refine a8 (f := 111) rfl obQ (by kernel_rfl) (fun w hw => E5 _ _ _ w) ?_
|refine a8 (f := 107) rfl obQ (by kernel_rfl) (fun w hw => p6 _ _ [wh (!shB x.sh) 13, wi x.a (-100) 100, wi x.b (-100) 100, wi x.at_ (-100000) 100000, wi x.soft 0 100000] (by simp) w (.inr ⟨_, rfl, hw.src (i := 1) rfl rfl⟩)) ?_)
|refine r5 ?_
|refine V_q rfl (k8 rfl obQ) ?_
|refine V_n rfl ?_
|refine G_V ⟨⟨_, rfl, trivial⟩, ⟨_, rfl⟩, rfl, pstQ⟩ rfl ?_
|refine a7 ?_
|refine j4 rfl obQ (fun w hw => ⟨?_, hw.below⟩))
  rfl
theorem aM4 (x : Wip) (hx : WpOk x) (X Y : Int) (hX : 0 ≤ X ∧ X ≤ 64) (hY : 0 ≤ Y ∧ Y ≤ 64) (w : World) (hsh : Sh w) : Calls Tryz.prog 228 #[.agg #[.string x.sh, .int .i64 x.a, .int .i64 x.b, .int .i64 x.at_, .int .i64 x.soft], .int .i64 X, .int .i64 Y] w fun r w' => r = .returned (.int .i64 (wvF x X Y)) ∧ Below w.heap.size w w' := by
  have ha := hx.a
  have hb := hx.b
  have m1 := P6 ha (show -64 ≤ X ∧ X ≤ 64 by omega)
  have m2 := P6 hb (show -64 ≤ Y ∧ Y ≤ 64 by omega)
  refine i7 n9 Tryz.func228 rfl Tryz.ntmps228 (Nat.le_of_ble_eq_true rfl) rfl ?_
  repeat' (first
|(refine j7 ?_; first
|refine e8 ?_
|refine a6 rfl ?_
|refine j1 ?_
|refine j3 ?_
|refine i6 ?_
|refine n8 (id := 1) 11 [(0, true), (1, true), (2, true), (3, true), (4, true), (5, true), (6, true), (7, true), (8, true), (9, true), (10, true)] rfl mixed (by kernel_rfl) rfl ?_
|(refine j0 rfl obQ ?_ ?_ <;> intro h <;> (try simp only [cdS] at h)))
|(refine k6 ?_; first
|refine n4 rfl obQ rfl [.string bHalf] (.past (w, fun b => b < w.heap.size) memQ _ _ hsh.toS 0 _ rfl rfl (fun j u hu => by rcases j with _ | j <;> simp at hu <;> subst hu <;> rfl)) rfl (.inr ⟨rfl, rfl⟩) ?_
|refine n4 rfl obQ rfl [.string bBox] (.past (w, fun b => b < w.heap.size) memQ _ _ hsh.toS 1 _ rfl rfl (fun j u hu => by rcases j with _ | j <;> simp at hu <;> subst hu <;> rfl)) rfl (.inr ⟨rfl, rfl⟩) ?_
|refine e7 ?_
|refine e9 rfl rfl obQ obQ ?_
|refine k7 (fun b => ⟨_, _, rfl, obQ, ?_⟩))
|refine r5 ?_
|refine V_q rfl (k8 rfl obQ) ?_
|(refine o8 ?_; first
|refine a7 ?_
|refine n5 ?_
|refine r8 ?_
|refine j6 ?_
|refine j4 rfl obQ (fun w hw => ⟨?_, hw.below⟩)))
  · exact rI (by unfold wvF; rw [if_pos (toL h)])
  · rename_i h1
    exact rI (by unfold wvF abZ; rw [if_neg (ai5 h1), if_pos (toL h)]; omega)
  · rename_i h1
    exact rI (by unfold wvF abZ; rw [if_neg (ai5 h1), if_neg (ai5 h)]; omega)
theorem aj7 (x : Wip) (hx : WpOk x) (X Y : Int) (hX : 0 ≤ X ∧ X ≤ 64) (hY : 0 ≤ Y ∧ Y ≤ 64) (w : World) (hsh : Sh w) : Calls Tryz.prog 180 #[.agg #[.string x.sh, .int .i64 x.a, .int .i64 x.b, .int .i64 x.at_, .int .i64 x.soft], .int .i64 X, .int .i64 Y] w fun r w' => r = .returned (.int .i64 (wsF x X Y)) ∧ Below w.heap.size w w' := by
  have hv := bv8 hx hX hY
  have hat := hx.at_
  have hso := hx.soft
  unfold wsF
  generalize hV : wvF x X Y = V at *
  refine i7 n9 Tryz.func180 rfl Tryz.ntmps180 (Nat.le_of_ble_eq_true rfl) rfl ?_
  repeat' (first
|(refine j7 ?_; first
|refine e8 ?_
|refine a6 rfl ?_
|refine j1 ?_
|refine j3 ?_
|refine i6 ?_
|(refine j0 rfl obQ ?_ ?_ <;> intro h <;> (try simp only [cdS] at h)))
|(refine k6 ?_; first
|refine e7 ?_
|refine e9 rfl rfl obQ obQ ?_
|refine k7 (fun b => ⟨_, _, rfl, obQ, ?_⟩)
|refine a8 (f := 228) rfl obQ (by kernel_rfl) (fun w hw => (by have h := aM4 x hx X Y hX hY w (r7 hsh hw memQ); rw [hV] at h; exact h)) ?_
|refine a8 (f := 198) rfl obQ (by kernel_rfl) (fun w hw => N6 _ _ (by omega) (by omega) w) ?_)
|(refine o8 ?_; first
|refine a7 ?_
|refine n5 ?_
|refine r8 ?_
|refine j6 ?_
|refine j4 rfl obQ (fun w hw => ⟨?_, hw.below⟩)))
  · exact rI (by rw [if_pos (by omega)])
  · exact rI (by rw [if_neg (by omega), if_pos (by omega)])
  · exact rI (by rw [if_neg (by omega), if_neg (by omega)])
theorem ae1 (x : Wip) (hx : WpOk x) (W H : Nat) (hW : W ≤ 64) (hH : H ≤ 64) (w : World) (hsh : Sh w) : Calls Tryz.prog 110 #[.agg #[.string x.sh, .int .i64 x.a, .int .i64 x.b, .int .i64 x.at_, .int .i64 x.soft], .int .i64 W, .int .i64 H] w fun r w' => ∃ v, r = .returned v ∧ Below w.heap.size w w' ∧ w'.ownsRow w.heap.size 3 1 v (wsL x W H).length ((wsL x W H).map (.int .i64)) := by
  refine i7 n9 Tryz.func110 rfl Tryz.ntmps110 (Nat.le_of_ble_eq_true rfl) rfl ?_
  repeat' (first
|refine e8 ?_
|refine a6 rfl ?_
|refine j1 ?_
|refine e7 ?_
|refine e9 rfl rfl obQ obQ ?_
|refine k7 (fun b => ⟨_, _, rfl, obQ, ?_⟩)
|refine a7 ?_)
  obtain ⟨b3, rfl⟩ : ∃ z, z = b := ⟨b, rfl⟩
  refine C9 7 3 1 rfl ?_
  refine p7 (fun i : Nat × Option Addr × Nat => ⟨[(11, .s (.v (.int .i64 i.1))), (10, .s (.v (.int .i64 H))), (7, .s (.r i.2.1 (wsL x W i.1).length i.2.2 0)), (3, .s (.p b3 0 0)), (1, .s (.v (.int .i64 W)))], [⟨b3, 31, [.v (.string x.sh), .v (.int .i64 x.a), .v (.int .i64 x.b), .v (.int .i64 x.at_), .v (.int .i64 x.soft)]⟩], [⟨3, 1, (wsL x W i.1).length, (wsL x W i.1).map (.int .i64), .slice i.2.1 (wsL x W i.1).length i.2.2⟩]⟩) (fun i => i.1 ≤ H) (fun i => H - i.1) (0, none, 0) (Nat.zero_le _) ?_ (fun i hi => ?_)
  · exact svQ
  obtain ⟨y, A', c'⟩ := i
  have hy : y ≤ H := hi
  dsimp only
  by_cases hyl : y < H
  · repeat' (first
|(refine j7 ?_; first
|refine e8 ?_
|refine a6 rfl ?_
|refine j1 ?_
|refine j3 ?_
|refine o0 ?_
|refine i6 ?_
|(refine j0 rfl obQ ?_ ?_ <;> intro h <;> (try simp only [cdS] at h) <;> (try (exfalso; omega)) <;> (try exact cdF h) <;> (try (exfalso; omega))))
|refine e7 ?_
|refine e9 rfl rfl obQ obQ ?_
|(refine o8 ?_; first
|refine a7 ?_
|refine n2 ?_
|refine n6 ?_
|refine j4 rfl obQ (fun w hw => ⟨?_, hw.below⟩)))
    rw [← by5 x W y]
    refine p7 (fun i : Nat × Option Addr × Nat => ⟨[(15, .s (.v (.int .i64 i.1))), (14, .s (.v (.int .i64 W))), (8, .s (.v (.int .i64 y))), (11, .s (.v (.int .i64 y))), (10, .s (.v (.int .i64 H))), (7, .s (.r i.2.1 (wsX x W y i.1).length i.2.2 0)), (3, .s (.p b3 0 0)), (1, .s (.v (.int .i64 W)))], [⟨b3, 31, [.v (.string x.sh), .v (.int .i64 x.a), .v (.int .i64 x.b), .v (.int .i64 x.at_), .v (.int .i64 x.soft)]⟩], [⟨3, 1, (wsX x W y i.1).length, (wsX x W y i.1).map (.int .i64), .slice i.2.1 (wsX x W y i.1).length i.2.2⟩]⟩) (fun i => i.1 ≤ W) (fun i => W - i.1) (0, A', c') (Nat.zero_le _) ?_ (fun j hj => ?_)
    · exact svQ
    obtain ⟨k, A2, c2⟩ := j
    have hk : k ≤ W := hj
    dsimp only
    have hle := bp5 (w := x) (W := W) (y := y) (x := k) hW (by omega) (by omega)
    by_cases hlt : k < W
    · have hst := aT5 x W y k
      repeat' (first
|(refine j7 ?_; first
|refine e8 ?_
|refine a6 rfl ?_
|refine j1 ?_
|refine j3 ?_
|(refine j0 rfl obQ ?_ ?_ <;> intro h <;> (try simp only [cdS] at h) <;> (try (exfalso; omega)) <;> (try exact cdF h) <;> (try (exfalso; omega))))
|(refine k6 ?_; first
|refine w9 rfl obQ rfl rfl rfl ⟨by decide, rfl⟩ rfl ⟨rfl, rfl, rfl, rfl⟩ [.int .i64 (wsF x (k : Int) (y : Int))] ⟨by decide, rfl⟩ (by simp [Value.oneCell']) (fun w hw => by first | exact hw.src (i := 0) rfl rfl | exact hw.src (i := 1) rfl rfl | exact hw.src (i := 2) rfl rfl | exact hw.src (i := 3) rfl rfl | exact hw.src (i := 4) rfl rfl | exact hw.src (i := 5) rfl rfl | exact hw.src (i := 6) rfl rfl | exact hw.src (i := 7) rfl rfl | exact hw.src (i := 8) rfl rfl) (by unfold maxLen; dsimp only; omega) (fun gb cap' => ⟨_, rfl, ?_⟩)
|refine e7 ?_
|refine e9 rfl rfl obQ obQ ?_
|refine j9 (fun b => ⟨_, _, rfl, obQ, ?_⟩)
|refine a8 (f := 180) rfl obQ (by kernel_rfl) (fun w hw => aj7 x hx _ _ (by omega) (by omega) w (r7 hsh hw memQ)) ?_)
|refine o6 (k + 1, some ⟨gb, 0, none⟩, cap') (show k + 1 ≤ W by omega) (by show W - (k + 1) < W - k; omega) (by dsimp only; rw [hst, List.map_append, List.length_append]; exact svQ)
|refine a7 ?_
|refine n5 ?_)
    · obtain rfl : k = W := by omega
      rw [bd2]
      repeat' (first
|(refine j7 ?_; first
|refine e8 ?_
|refine a6 rfl ?_
|refine o0 ?_
|(refine j0 rfl obQ ?_ ?_ <;> intro h <;> (try simp only [cdS] at h) <;> (try (exfalso; omega)) <;> (try exact cdF h) <;> (try (exfalso; omega))))
|refine e7 ?_
|refine e9 rfl rfl obQ obQ ?_
|(refine o8 ?_; first
|refine o6 (y + 1, A2, c2) (show y + 1 ≤ H by omega) (by show H - (y + 1) < H - y; omega) svQ
|refine a7 ?_
|refine n5 ?_
|refine n2 ?_
|refine n6 ?_))
  · obtain rfl : y = H := by omega
    repeat' (first
|(refine j7 ?_; first
|refine e8 ?_
|refine a6 rfl ?_
|refine o0 ?_
|refine i6 ?_
|(refine j0 rfl obQ ?_ ?_ <;> intro h <;> (try simp only [cdS] at h) <;> (try (exfalso; omega)) <;> (try exact cdF h) <;> (try (exfalso; omega))))
|refine e7 ?_
|refine e9 rfl rfl obQ obQ ?_
|(refine o8 ?_; first
|refine a7 ?_
|refine n2 ?_
|refine n6 ?_
|refine j4 rfl obQ (fun w2 hw => ⟨_, rfl, hw.below, HW.ownRow (i := 0) hw rfl rfl rfl rfl⟩)))
theorem ab8 (x : Wip) (hx : WpOk x) (W H : Nat) (hW : W ≤ 64) (hH : H ≤ 64) (w : World) (hsh : Sh w) : Calls Tryz.prog 110 #[.agg #[.string x.sh, .int .i64 x.a, .int .i64 x.b, .int .i64 x.at_, .int .i64 x.soft], .int .i64 W, .int .i64 H] w fun r w' => ∃ v, r = .returned v ∧ Below w.heap.size w w' ∧ Sl w w' v (wsL x W H).length ((wsL x W H).map (.int .i64)) := by
  refine (ae1 x hx W H hW hH w hsh).mono ?_
  rintro r w' ⟨v, h1, h2, h3⟩
  exact ⟨v, h1, h2, ae7 h3⟩
theorem Z2 (x : Wip) (u t : Int) (w : World) (hsh : Sh w) : Calls Tryz.prog 18 #[.agg #[.string x.sh, .int .i64 x.a, .int .i64 x.b, .int .i64 x.at_, .int .i64 x.soft], .int .i64 u, .int .i64 t] w fun r w' => ∃ v, r = .returned v ∧ Below w.heap.size w w' ∧ Sl2 w w' v (wdR x u t).1.length ((wdR x u t).1.map (.int .i64)) (.int .i64 (wdR x u t).2) := by
  refine i7 n9 Tryz.func18 rfl Tryz.ntmps18 (Nat.le_of_ble_eq_true rfl) rfl ?_
  by_cases hE : wdE x u t = 0
  · have e1 : wdR x u t = (wsL x u.toNat t.toNat, 0) := if_pos hE
    rw [e1]
    obtain ⟨hx, hu, ht⟩ := bv1 hE
    obtain ⟨W, hWe⟩ := Int.eq_ofNat_of_zero_le (show 0 ≤ u by omega)
    obtain ⟨H, hHe⟩ := Int.eq_ofNat_of_zero_le (show 0 ≤ t by omega)
    subst hWe hHe
    rw [Int.toNat_natCast, Int.toNat_natCast]
    repeat' (first
|(refine j7 ?_; first
|refine e8 ?_
|refine a6 rfl ?_
|refine j3 ?_
|refine i6 ?_
|(refine j0 rfl obQ ?_ ?_ <;> intro h <;> (try simp only [cdS] at h) <;> (try (exfalso; omega)) <;> (try exact cdF h) <;> (try contradiction)))
|(refine k6 ?_; first
|(refine j5 (f := 110) rfl obQ (by kernel_rfl) (fun w hw => ab8 x hx W H (by omega) (by omega) w (r7 hsh hw memQ)) (fun w1S w2S vS hw1S hbS hRS => ?_); obtain ⟨AS, cS, rfl, hSS⟩ := hRS)
|refine e7 ?_
|refine e9 rfl rfl obQ obQ ?_
|refine k7 (fun bb => ⟨_, _, rfl, obQ, ?_⟩)
|refine j9 (fun b => ⟨_, _, rfl, obQ, ?_⟩)
|refine a8 (f := 108) rfl obQ (by kernel_rfl) (fun w hw => K8 x w (r7 hsh hw memQ)) ?_
|refine a8 (f := 109) rfl obQ (by kernel_rfl) (fun w hw => I6 _ _ w) ?_
|refine a8 (f := 107) rfl obQ (by kernel_rfl) (fun w hw => p6 _ _ [wpE x, firstL [wi W 1 64, wi H 1 64]] (by simp) w (.inr ⟨_, rfl, hw.src (i := 1) rfl rfl⟩)) ?_)
|refine a7 ?_
|refine j4 rfl obQ (fun w2 hw => ⟨_, rfl, hw.below, Sl.two (HW.callSl hw hSS memQ hw1S.bsize) rfl⟩))
  · have e1 : wdR x u t = ([], wdE x u t) := if_neg hE
    rw [e1]
    skip
    repeat' (first
|(refine j7 ?_; first
|refine e8 ?_
|refine a6 rfl ?_
|refine i6 ?_
|(refine j0 rfl obQ ?_ ?_ <;> intro h <;> (try simp only [cdS] at h) <;> (try (exfalso; omega)) <;> (try exact cdF h) <;> (try contradiction)))
|(refine k6 ?_; first
|refine e7 ?_
|refine e9 rfl rfl obQ obQ ?_
|refine k7 (fun bb => ⟨_, _, rfl, obQ, ?_⟩)
|refine j9 (fun b => ⟨_, _, rfl, obQ, ?_⟩)
|refine a8 (f := 108) rfl obQ (by kernel_rfl) (fun w hw => K8 x w (r7 hsh hw memQ)) ?_
|refine a8 (f := 109) rfl obQ (by kernel_rfl) (fun w hw => I6 _ _ w) ?_
|refine a8 (f := 107) rfl obQ (by kernel_rfl) (fun w hw => p6 _ _ [wpE x, firstL [wi u 1 64, wi t 1 64]] (by simp) w (.inr ⟨_, rfl, hw.src (i := 1) rfl rfl⟩)) ?_)
|refine a7 ?_
|refine j6 ?_
|refine j4 rfl obQ (fun w2 hw => ⟨_, rfl, hw.below, Sl.two (v := .slice none 0 0) (Sl.nil_ _ _) rfl⟩))
theorem aL7 (x : Wip) (d u t : Int) (hb : -1000000000000 ≤ x.at_ ∧ x.at_ ≤ 1000000000000) (hd : -1000000000000 ≤ d ∧ d ≤ 1000000000000) (w : World) (hsh : Sh w) : Calls Tryz.prog 19 #[.agg #[.string x.sh, .int .i64 x.a, .int .i64 x.b, .int .i64 x.at_, .int .i64 x.soft], .int .i64 d, .int .i64 u, .int .i64 t] w fun r w' => ∃ v, r = .returned v ∧ Below w.heap.size w w' ∧ Sl2 w w' v (brR x d u t).1.length ((brR x d u t).1.map (.int .i64)) (.int .i64 (brR x d u t).2) := by
  refine i7 n9 Tryz.func19 rfl Tryz.ntmps19 (Nat.le_of_ble_eq_true rfl) rfl ?_
  by_cases hE : bdE x d u t = 0
  · have e1 : brR x d u t = (zwI sbI (wsL (x.wide d) u.toNat t.toNat) (wsL x u.toNat t.toNat), 0) := if_pos hE
    rw [e1]
    obtain ⟨hx, hxw, hd0, hu, ht⟩ := bp1 hE
    obtain ⟨W, hWe⟩ := Int.eq_ofNat_of_zero_le (show 0 ≤ u by omega)
    obtain ⟨H, hHe⟩ := Int.eq_ofNat_of_zero_le (show 0 ≤ t by omega)
    subst hWe hHe
    rw [Int.toNat_natCast, Int.toNat_natCast]
    have hl1 := ar3 (x.wide d) W H
    have hl2 := ar3 x W H
    have hl3 : H * W ≤ 64 * 64 := Nat.mul_le_mul (by omega) (by omega)
    have hl4 : 0 < H * W := Nat.mul_pos (by omega) (by omega)
    repeat' (first
|(refine j7 ?_; first
|refine e8 ?_
|refine a6 rfl ?_
|refine j1 ?_
|refine j3 ?_
|refine n8 (id := 1) 12 [(0, true), (2, true), (4, true), (5, true), (7, true), (8, true), (9, true), (10, true), (11, true), (1, false), (3, false), (6, false)] rfl mixed (by kernel_rfl) rfl ?_
|(refine j0 rfl obQ ?_ ?_ <;> intro h <;> (try simp only [cdS] at h) <;> (try (exfalso; omega)) <;> (try exact cdF h) <;> (try contradiction)))
|(refine k6 ?_; first
|(refine J0 3 1 (wsL (x.wide d) W H).length ((wsL (x.wide d) W H).map (.int .i64)) (by omega) rfl obQ (by kernel_rfl) (fun w hw => ae1 (x.wide d) hxw W H (by omega) (by omega) w (r7 hsh hw memQ)) (fun gK cK => ?_))
|(refine j5 (f := 110) rfl obQ (by kernel_rfl) (fun w hw => ab8 x hx W H (by omega) (by omega) w (r7 hsh hw memQ)) (fun w1S w2S vS hw1S hbS hRS => ?_); obtain ⟨AS, cS, rfl, hSS⟩ := hRS)
|refine e7 ?_
|refine e9 rfl rfl obQ obQ ?_
|refine k7 (fun bb => ⟨_, _, rfl, obQ, ?_⟩)
|refine j9 (fun b => ⟨_, _, rfl, obQ, ?_⟩)
|refine a8 (f := 108) rfl obQ (by kernel_rfl) (fun w hw => K8 x w (r7 hsh hw memQ)) ?_
|refine a8 (f := 109) rfl obQ (by kernel_rfl) (fun w hw => I6 _ _ w) ?_
|refine a8 (f := 111) rfl obQ (by kernel_rfl) (fun w hw => E5 _ _ _ w) ?_
|refine a8 (f := 112) rfl obQ (by kernel_rfl) (fun w hw => v8 _ _ w) ?_
|refine a8 (f := 107) rfl obQ (by kernel_rfl) (fun w hw => p6 _ _ [wpE x, wi d 0 100000, firstL [wi W 1 64, wi H 1 64], wh (decide (100000 < x.at_ + d)) 4] (by simp) w (.inr ⟨_, rfl, hw.src (i := 1) rfl rfl⟩)) ?_)
|refine r5 ?_
|refine V_q rfl (k8 rfl obQ) ?_
|refine V_n rfl ?_
|refine G_V ⟨⟨_, rfl, trivial⟩, ⟨_, rfl⟩, rfl, pstQ⟩ rfl ?_
|refine a7 ?_)
    obtain ⟨adS, rfl⟩ := hSS.rd.some (by rw [List.length_map]; omega)
    rename_i b4
    obtain ⟨b11, rfl⟩ : ∃ z, z = bb := ⟨bb, rfl⟩
    obtain ⟨bs, rfl⟩ : ∃ z, z = b := ⟨b, rfl⟩
    refine p7 (fun k : Nat => ⟨[(48, .s (.v (.int .i64 k))), (47, .s (.v (.int .i64 (wsL x W H).length))), (46, .s (.v (.slice (some adS) (wsL x W H).length cS))), (12, .s (.r (some ⟨gK, 0, none⟩) (wsL (x.wide d) W H).length cK 0))], [⟨b4, 31, [.v (.string x.sh), .v (.int .i64 x.a), .v (.int .i64 x.b), .v (.int .i64 (x.at_)), .v (.int .i64 x.soft)]⟩, ⟨bs, 28, [.v (.int .i64 (wpE x)), .v (.int .i64 (wi d 0 100000)), .v (.int .i64 (firstL [wi (W : Int) 1 64, wi (H : Int) 1 64])), .v (.int .i64 (wh (decide (100000 < x.at_ + d)) 4))]⟩, ⟨b11, 31, [.v (.string x.sh), .v (.int .i64 x.a), .v (.int .i64 x.b), .v (.int .i64 (x.at_ + d)), .v (.int .i64 x.soft)]⟩], [⟨3, 1, (wsL (x.wide d) W H).length, (upI (wsL (x.wide d) W H).length (fun j => sbI (gI (wsL (x.wide d) W H) j) (gI (wsL x W H) j)) (gI (wsL (x.wide d) W H)) k).map (.int .i64), .slice (some ⟨gK, 0, none⟩) (wsL (x.wide d) W H).length cK⟩]⟩) (fun k => k ≤ (wsL x W H).length) (fun k => (wsL x W H).length - k) 0 (Nat.zero_le _) ?_ (fun k hk0 => ?_)
    · rw [bi7]
      exact svQ
    have hk1 : k ≤ (wsL x W H).length := hk0
    by_cases hlt : k < (wsL x W H).length
    · have hb1 : 0 ≤ gI (wsL (x.wide d) W H) k ∧ gI (wsL (x.wide d) W H) k ≤ 256 := aW8 hxw _ (O3 (by omega))
      have hb2 : 0 ≤ gI (wsL x W H) k ∧ gI (wsL x W H) k ≤ 256 := aW8 hx _ (O3 (by omega))
      repeat' (first
|(refine j7 ?_; first
|refine e8 ?_
|refine a6 rfl ?_
|refine j1 ?_
|refine j3 ?_
|(refine j0 rfl obQ ?_ ?_ <;> intro h <;> (try simp only [cdS] at h) <;> (try (exfalso; omega)) <;> (try exact cdF h) <;> (try (exfalso; omega))))
|(refine k6 ?_; first
|refine n4 rfl obQ rfl [.int .i64 (gI (wsL x W H) k)] (.past (w2S, fun b => w1S.heap.size ≤ b ∧ b < w2S.heap.size) memQ _ _ hSS _ adS rfl rfl (y5 (k := k) rfl (by omega))) rfl (.inr ⟨rfl, rfl⟩) ?_
|refine n4 rfl obQ rfl [.int .i64 (gI (wsL (x.wide d) W H) k)] (.row 0 _ rfl gK (wsL (x.wide d) W H).length cK (((k : Nat) : Int).toNat * 1) rfl rfl (al8 (by omega) rfl rfl)) rfl (.inr ⟨rfl, rfl⟩) ?_
|refine r6 rfl obQ rfl rfl rfl 0 rfl rfl (((k : Nat) : Int).toNat * 1) rfl (by dsimp only; rw [List.length_map, D3]; omega) (xs' := (upI ((wsL (x.wide d) W H).length) (fun j => sbI (gI (wsL (x.wide d) W H) j) (gI (wsL x W H) j)) (gI (wsL (x.wide d) W H)) (k + 1)).map (.int .i64)) (M0 (f := (fun j => sbI (gI (wsL (x.wide d) W H) j) (gI (wsL x W H) j))) rfl (by omega)) rfl ?_
|refine e7 ?_
|refine e9 rfl rfl obQ obQ ?_)
|refine o6 (k + 1) (show k + 1 ≤ (wsL x W H).length by omega) (by show (wsL x W H).length - (k + 1) < (wsL x W H).length - k; omega) svQ
|refine a7 ?_
|refine n5 ?_)
    · obtain rfl : k = (wsL x W H).length := by omega
      repeat' (first
|(refine j7 ?_; first
|refine e8 ?_
|refine a6 rfl ?_
|refine o0 ?_
|refine i6 ?_
|(refine j0 rfl obQ ?_ ?_ <;> intro h <;> (try simp only [cdS] at h) <;> (try (exfalso; omega)) <;> (try exact cdF h) <;> (try (exfalso; omega))))
|refine e7 ?_
|refine e9 rfl rfl obQ obQ ?_
|(refine o8 ?_; first
|refine a7 ?_
|refine n2 ?_
|refine n6 ?_
|refine j4 rfl obQ (fun w2 hw => ⟨_, rfl, hw.below, Sl.two (HW.rowSl (i := 0) hw rfl rfl (by rw [ac6]) (by dsimp only; rw [show (wsL x W H).length = (wsL (x.wide d) W H).length by omega, Y2]; rfl)) rfl⟩)))
  · have e1 : brR x d u t = ([], bdE x d u t) := if_neg hE
    rw [e1]
    repeat' (first
|(refine j7 ?_; first
|refine e8 ?_
|refine a6 rfl ?_
|refine i6 ?_
|refine n8 (id := 1) 12 [(0, true), (2, true), (4, true), (5, true), (7, true), (8, true), (9, true), (10, true), (11, true), (1, false), (3, false), (6, false)] rfl mixed (by kernel_rfl) rfl ?_
|(refine j0 rfl obQ ?_ ?_ <;> intro h <;> (try simp only [cdS] at h) <;> (try (exfalso; omega)) <;> (try exact cdF h) <;> (try contradiction)))
|(refine k6 ?_; first
|refine e7 ?_
|refine e9 rfl rfl obQ obQ ?_
|refine k7 (fun bb => ⟨_, _, rfl, obQ, ?_⟩)
|refine j9 (fun b => ⟨_, _, rfl, obQ, ?_⟩)
|refine a8 (f := 108) rfl obQ (by kernel_rfl) (fun w hw => K8 x w (r7 hsh hw memQ)) ?_
|refine a8 (f := 109) rfl obQ (by kernel_rfl) (fun w hw => I6 _ _ w) ?_
|refine a8 (f := 111) rfl obQ (by kernel_rfl) (fun w hw => E5 _ _ _ w) ?_
|refine a8 (f := 112) rfl obQ (by kernel_rfl) (fun w hw => v8 _ _ w) ?_
|refine a8 (f := 107) rfl obQ (by kernel_rfl) (fun w hw => p6 _ _ [wpE x, wi d 0 100000, firstL [wi u 1 64, wi t 1 64], wh (decide (100000 < x.at_ + d)) 4] (by simp) w (.inr ⟨_, rfl, hw.src (i := 1) rfl rfl⟩)) ?_)
|refine r5 ?_
|refine V_q rfl (k8 rfl obQ) ?_
|refine V_n rfl ?_
|(refine o8 ?_; first
|refine G_V ⟨⟨_, rfl, trivial⟩, ⟨_, rfl⟩, rfl, pstQ⟩ rfl ?_
|refine a7 ?_
|refine j6 ?_
|refine j4 rfl obQ (fun w2 hw => ⟨_, rfl, hw.below, Sl.two (v := .slice none 0 0) (Sl.nil_ _ _) rfl⟩)))
end Go.Proofs.YtjkgklhjbopoaaaGreatDoor
