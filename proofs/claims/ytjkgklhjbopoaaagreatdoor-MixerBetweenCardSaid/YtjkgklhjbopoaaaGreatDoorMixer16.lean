/- Mixer: wipes: contracts of the program. -/
import Derived.Test.YtjkgklhjbopoaaaGreatDoorPartB
import Derived.Test.YtjkgklhjbopoaaaGreatDoorEng4
namespace Go.Proofs.YtjkgklhjbopoaaaGreatDoor
open Go.E Go.RowKit Go.Fl
attribute [local irreducible] G C S D Calls
set_option maxRecDepth 100000
set_option linter.all false
set_option maxHeartbeats 8000000
abbrev Sh (w : World) : Prop := Rd w (some ⟨0, 0, none⟩) [.string bHalf, .string bBox, .string bDia]
theorem Sh_at {w0 w : World} {Ps : Past} {σ : St} {B : Nat} (h : Sh w0) (hw : HW B w0 Ps σ w) (hp : (w0, fun b => b < w0.heap.size) ∈ Ps) : Sh w := hw.rdm h.toS hp
theorem sh_1 : shB bHalf = true := by decide +kernel
theorem sh_2 : shB bBox = true := by decide +kernel
theorem sh_3 : shB bDia = true := by decide +kernel
theorem bq_ne {a b : ByteArray} (h : a ≠ b) : (a == b) = false := by
  cases e : (a == b)
  · rfl
  · exact absurd ((MapKept.bytes_beq a b).1 e) h
theorem sh_no {s : ByteArray} (h1 : bHalf ≠ s) (h2 : bBox ≠ s) (h3 : bDia ≠ s) : shB s = false := by
  unfold shB
  rw [bq_ne (Ne.symm h1), bq_ne (Ne.symm h2), bq_ne (Ne.symm h3)]
  rfl
theorem sh_of {s : ByteArray} (h : shB s = true) (h1 : bHalf ≠ s) (h2 : bBox ≠ s) : s = bDia := by
  unfold shB at h
  rw [bq_ne (Ne.symm h1), bq_ne (Ne.symm h2)] at h
  exact (MapKept.bytes_beq s bDia).1 h
def wpV (w : Wip) : Value := .agg #[.string w.sh, .int .i64 w.a, .int .i64 w.b, .int .i64 w.at_, .int .i64 w.soft]
def wsX (w : Wip) (W y x : Nat) : List Int := wsL w W y ++ (List.range x).map fun (x : Nat) => wsF w (x : Int) (y : Int)
theorem wsL_bd {w : Wip} (h : WpOk w) {W H : Nat} : ∀ k ∈ wsL w W H, 0 ≤ k ∧ k ≤ 256 := by
  intro k hk
  obtain ⟨y, _, hk⟩ := List.mem_flatMap.1 hk
  obtain ⟨x, _, rfl⟩ := List.mem_map.1 hk
  exact ws_bd h _ _
theorem wsX_0 (w : Wip) (W y : Nat) : wsX w W y 0 = wsL w W y := by simp [wsX]
theorem wsX_end (w : Wip) (W y : Nat) : wsX w W y W = wsL w W (y + 1) := by
  unfold wsX wsL
  rw [List.range_succ, List.flatMap_append]
  simp
theorem wsX_step (w : Wip) (W y x : Nat) : wsX w W y (x + 1) = wsX w W y x ++ [wsF w (x : Int) (y : Int)] := by
  unfold wsX
  rw [List.range_succ, List.map_append, List.append_assoc]
  rfl
theorem wsX_len (w : Wip) (W y x : Nat) : (wsX w W y x).length = y * W + x := by simp [wsX, wsL_len]
theorem wsX_le {w : Wip} {W y x : Nat} (hW : W ≤ 64) (hy : y ≤ 64) (hx : x ≤ 64) : (wsX w W y x).length ≤ 5000 := by
  rw [wsX_len]
  have := Nat.mul_le_mul hy hW
  omega
def wdE (w : Wip) (u v : Int) : Int := firstL [wpE w, firstL [wi u 1 64, wi v 1 64]]
def wdR (w : Wip) (u v : Int) : List Int × Int := if wdE w u v = 0 then (wsL w u.toNat v.toNat, 0) else ([], wdE w u v)
theorem sz_ok {u v : Int} (h : firstL [wi u 1 64, wi v 1 64] = 0) : (1 ≤ u ∧ u ≤ 64) ∧ 1 ≤ v ∧ v ≤ 64 := by
  rw [firstL_zero] at h
  simp only [List.mem_cons, List.mem_nil_iff, or_false, forall_eq_or_imp, forall_eq, wi_eq] at h
  exact h
theorem wd_ok {w : Wip} {u v : Int} (h : wdE w u v = 0) : WpOk w ∧ (1 ≤ u ∧ u ≤ 64) ∧ 1 ≤ v ∧ v ≤ 64 := by
  unfold wdE at h
  rw [firstL_zero] at h
  simp only [List.mem_cons, List.mem_nil_iff, or_false, forall_eq_or_imp, forall_eq, wp_ok] at h
  exact ⟨h.1, sz_ok h.2⟩
def sbI (a b : Int) : Int := a - b
def brR (w : Wip) (d u v : Int) : List Int × Int := if bdE w d u v = 0 then (zwI sbI (wsL (w.wide d) u.toNat v.toNat) (wsL w u.toNat v.toNat), 0) else ([], bdE w d u v)
theorem bdd_ok {w : Wip} {d u v : Int} (h : bdE w d u v = 0) : WpOk w ∧ WpOk (w.wide d) ∧ (0 ≤ d ∧ d ≤ 100000) ∧ (1 ≤ u ∧ u ≤ 64) ∧ 1 ≤ v ∧ v ≤ 64 := by
  unfold bdE at h
  rw [firstL_zero] at h
  simp only [List.mem_cons, List.mem_nil_iff, or_false, forall_eq_or_imp, forall_eq, wp_ok, wi_eq, wh_zero (show (4 : Int) ≠ 0 by omega), decide_eq_false_iff_not] at h
  obtain ⟨h1, h2, h3, h4⟩ := h
  have h5 := h1.at_
  exact ⟨h1, ⟨h1.sh, h1.a, h1.b, by show -100000 ≤ w.at_ + d ∧ w.at_ + d ≤ 100000; omega, h1.soft⟩, h2, sz_ok h3⟩
theorem toL {a b : ByteArray} (h : a.toList = b.toList) : a = b := ByteArray.ext (Array.ext' (by simpa [ByteArray.toList_eq] using h))
theorem toL_n {a b : ByteArray} (h : ¬ a.toList = b.toList) : a ≠ b := fun e => h (by rw [e])
theorem misShape_c (s : ByteArray) (w : World) (hsh : Sh w) : Calls Tryz.prog 179 #[.string s] w fun r w' => r = .returned (.bool (shB s)) ∧ Below w.heap.size w w' := by
  refine calls_of T_ok Tryz.func179 rfl Tryz.ntmps179 (Nat.le_of_ble_eq_true rfl) rfl ?_
  repeat' (first
|(refine C_id ?_; first
|refine C_rounds 3 ?_
|refine C_seq ?_
|refine C_region rfl ?_
|refine C_block ?_
|refine C_skip ?_
|refine C_exit ?_
|refine C_ret0 ?_
|refine C_condT rfl obQ ?_
|refine C_condF rfl obQ ?_
|(refine C_cond rfl obQ ?_ ?_ <;> intro h <;> (try simp only [cdS] at h)))
|refine S_load rfl obQ rfl [.string bHalf, .string bBox, .string bDia] (.past (w, fun b => b < w.heap.size) memQ _ _ hsh.toS 0 _ rfl rfl (fun j u hu => by rw [Nat.zero_add]; exact hu)) rfl (.inl ⟨rfl, rfl⟩) ?_
|refine S_nil ?_
|refine S_run rfl rfl obQ obQ ?_
|(refine G_id ?_; first
|refine G_rounds (C_trim [0, 5, 6] 0 rfl rfl ?_)
|refine G_then ?_
|refine G_block ?_
|refine G_blockX ?_
|refine G_blockR ?_
|refine G_thenR ?_
|refine G_thenX ?_
|refine G_ret rfl obQ (fun w hw => ⟨?_, hw.below⟩)))
  · exact rB (by rw [← toL h, sh_1])
  · exact rB (by rw [← toL h, sh_2])
  · exact rB (by rw [← toL h, sh_3])
  · rename_i h1 h2
    exact rB (by rw [sh_no (toL_n h1) (toL_n h2) (toL_n h)])
theorem wpCheck_c (x : Wip) (w : World) (hsh : Sh w) : Calls Tryz.prog 108 #[.agg #[.string x.sh, .int .i64 x.a, .int .i64 x.b, .int .i64 x.at_, .int .i64 x.soft]] w fun r w' => r = .returned (.int .i64 (wpE x)) ∧ Below w.heap.size w w' := by
  refine calls_of T_ok Tryz.func108 rfl Tryz.ntmps108 (Nat.le_of_ble_eq_true rfl) rfl ?_
  repeat' (first
|(refine C_id ?_; first
|refine C_seq ?_
|refine C_region rfl ?_
|refine C_ret0 ?_
|refine C_drawV (id := 1) 16 [(0, true), (1, true), (5, true), (6, true), (8, true), (9, true), (11, true), (12, true), (14, true), (15, true), (2, false), (3, true), (4, false), (7, false), (10, false), (13, false)] rfl mixed (by kernel_rfl) rfl ?_)
|(refine S_id ?_; first
|refine S_nil ?_
|refine S_run rfl rfl obQ obQ ?_
|refine S_box (fun b => ⟨_, _, rfl, obQ, ?_⟩)
|refine S_slice (fun b => ⟨_, _, rfl, obQ, ?_⟩)
|refine S_call (f := 179) rfl obQ (by kernel_rfl) (fun w hw => misShape_c x.sh w (Sh_at hsh hw memQ)) ?_
|refine S_call (f := 112) rfl obQ (by kernel_rfl) (fun w hw => mwhen_c _ _ w) ?_
|refine S_call (f := 111) rfl obQ (by kernel_rfl) (fun w hw => mwithin_c _ _ _ w) ?_
|refine S_call (f := 107) rfl obQ (by kernel_rfl) (fun w hw => mfirst_c _ _ [wh (!shB x.sh) 13, wi x.a (-100) 100, wi x.b (-100) 100, wi x.at_ (-100000) 100000, wi x.soft 0 100000] (by simp) w (.inr ⟨_, rfl, hw.src (i := 1) rfl rfl⟩)) ?_)
|refine V_nil ?_
|refine V_q rfl (Yl_step rfl obQ) ?_
|refine V_n rfl ?_
|refine G_V ⟨⟨_, rfl, trivial⟩, ⟨_, rfl⟩, rfl, pstQ⟩ rfl ?_
|refine G_then ?_
|refine G_ret rfl obQ (fun w hw => ⟨?_, hw.below⟩))
  rfl
theorem wpValue_c (x : Wip) (hx : WpOk x) (X Y : Int) (hX : 0 ≤ X ∧ X ≤ 64) (hY : 0 ≤ Y ∧ Y ≤ 64) (w : World) (hsh : Sh w) : Calls Tryz.prog 228 #[.agg #[.string x.sh, .int .i64 x.a, .int .i64 x.b, .int .i64 x.at_, .int .i64 x.soft], .int .i64 X, .int .i64 Y] w fun r w' => r = .returned (.int .i64 (wvF x X Y)) ∧ Below w.heap.size w w' := by
  have ha := hx.a
  have hb := hx.b
  have m1 := mul_ab ha (show -64 ≤ X ∧ X ≤ 64 by omega)
  have m2 := mul_ab hb (show -64 ≤ Y ∧ Y ≤ 64 by omega)
  refine calls_of T_ok Tryz.func228 rfl Tryz.ntmps228 (Nat.le_of_ble_eq_true rfl) rfl ?_
  repeat' (first
|(refine C_id ?_; first
|refine C_seq ?_
|refine C_region rfl ?_
|refine C_block ?_
|refine C_skip ?_
|refine C_ret0 ?_
|refine C_drawV (id := 1) 11 [(0, true), (1, true), (2, true), (3, true), (4, true), (5, true), (6, true), (7, true), (8, true), (9, true), (10, true)] rfl mixed (by kernel_rfl) rfl ?_
|(refine C_cond rfl obQ ?_ ?_ <;> intro h <;> (try simp only [cdS] at h)))
|(refine S_id ?_; first
|refine S_load rfl obQ rfl [.string bHalf] (.past (w, fun b => b < w.heap.size) memQ _ _ hsh.toS 0 _ rfl rfl (fun j u hu => by rcases j with _ | j <;> simp at hu <;> subst hu <;> rfl)) rfl (.inr ⟨rfl, rfl⟩) ?_
|refine S_load rfl obQ rfl [.string bBox] (.past (w, fun b => b < w.heap.size) memQ _ _ hsh.toS 1 _ rfl rfl (fun j u hu => by rcases j with _ | j <;> simp at hu <;> subst hu <;> rfl)) rfl (.inr ⟨rfl, rfl⟩) ?_
|refine S_nil ?_
|refine S_run rfl rfl obQ obQ ?_
|refine S_box (fun b => ⟨_, _, rfl, obQ, ?_⟩))
|refine V_nil ?_
|refine V_q rfl (Yl_step rfl obQ) ?_
|(refine G_id ?_; first
|refine G_then ?_
|refine G_block ?_
|refine G_blockR ?_
|refine G_thenR ?_
|refine G_ret rfl obQ (fun w hw => ⟨?_, hw.below⟩)))
  · exact rI (by unfold wvF; rw [if_pos (toL h)])
  · rename_i h1
    exact rI (by unfold wvF abZ; rw [if_neg (toL_n h1), if_pos (toL h)]; omega)
  · rename_i h1
    exact rI (by unfold wvF abZ; rw [if_neg (toL_n h1), if_neg (toL_n h)]; omega)
theorem wpShare_c (x : Wip) (hx : WpOk x) (X Y : Int) (hX : 0 ≤ X ∧ X ≤ 64) (hY : 0 ≤ Y ∧ Y ≤ 64) (w : World) (hsh : Sh w) : Calls Tryz.prog 180 #[.agg #[.string x.sh, .int .i64 x.a, .int .i64 x.b, .int .i64 x.at_, .int .i64 x.soft], .int .i64 X, .int .i64 Y] w fun r w' => r = .returned (.int .i64 (wsF x X Y)) ∧ Below w.heap.size w w' := by
  have hv := wv_bd hx hX hY
  have hat := hx.at_
  have hso := hx.soft
  unfold wsF
  generalize hV : wvF x X Y = V at *
  refine calls_of T_ok Tryz.func180 rfl Tryz.ntmps180 (Nat.le_of_ble_eq_true rfl) rfl ?_
  repeat' (first
|(refine C_id ?_; first
|refine C_seq ?_
|refine C_region rfl ?_
|refine C_block ?_
|refine C_skip ?_
|refine C_ret0 ?_
|(refine C_cond rfl obQ ?_ ?_ <;> intro h <;> (try simp only [cdS] at h)))
|(refine S_id ?_; first
|refine S_nil ?_
|refine S_run rfl rfl obQ obQ ?_
|refine S_box (fun b => ⟨_, _, rfl, obQ, ?_⟩)
|refine S_call (f := 228) rfl obQ (by kernel_rfl) (fun w hw => (by have h := wpValue_c x hx X Y hX hY w (Sh_at hsh hw memQ); rw [hV] at h; exact h)) ?_
|refine S_call (f := 198) rfl obQ (by kernel_rfl) (fun w hw => mrounded_c _ _ (by omega) (by omega) w) ?_)
|(refine G_id ?_; first
|refine G_then ?_
|refine G_block ?_
|refine G_blockR ?_
|refine G_thenR ?_
|refine G_ret rfl obQ (fun w hw => ⟨?_, hw.below⟩)))
  · exact rI (by rw [if_pos (by omega)])
  · exact rI (by rw [if_neg (by omega), if_pos (by omega)])
  · exact rI (by rw [if_neg (by omega), if_neg (by omega)])
theorem wpShares_c (x : Wip) (hx : WpOk x) (W H : Nat) (hW : W ≤ 64) (hH : H ≤ 64) (w : World) (hsh : Sh w) : Calls Tryz.prog 110 #[.agg #[.string x.sh, .int .i64 x.a, .int .i64 x.b, .int .i64 x.at_, .int .i64 x.soft], .int .i64 W, .int .i64 H] w fun r w' => ∃ v, r = .returned v ∧ Below w.heap.size w w' ∧ w'.ownsRow w.heap.size 3 1 v (wsL x W H).length ((wsL x W H).map (.int .i64)) := by
  refine calls_of T_ok Tryz.func110 rfl Tryz.ntmps110 (Nat.le_of_ble_eq_true rfl) rfl ?_
  repeat' (first
|refine C_seq ?_
|refine C_region rfl ?_
|refine C_block ?_
|refine S_nil ?_
|refine S_run rfl rfl obQ obQ ?_
|refine S_box (fun b => ⟨_, _, rfl, obQ, ?_⟩)
|refine G_then ?_)
  obtain ⟨b3, rfl⟩ : ∃ z, z = b := ⟨b, rfl⟩
  refine C_row0 7 3 1 rfl ?_
  refine C_loopS (fun i : Nat × Option Addr × Nat => ⟨[(11, .s (.v (.int .i64 i.1))), (10, .s (.v (.int .i64 H))), (7, .s (.r i.2.1 (wsL x W i.1).length i.2.2 0)), (3, .s (.p b3 0 0)), (1, .s (.v (.int .i64 W)))], [⟨b3, 31, [.v (.string x.sh), .v (.int .i64 x.a), .v (.int .i64 x.b), .v (.int .i64 x.at_), .v (.int .i64 x.soft)]⟩], [⟨3, 1, (wsL x W i.1).length, (wsL x W i.1).map (.int .i64), .slice i.2.1 (wsL x W i.1).length i.2.2⟩]⟩) (fun i => i.1 ≤ H) (fun i => H - i.1) (0, none, 0) (Nat.zero_le _) ?_ (fun i hi => ?_)
  · exact svQ
  obtain ⟨y, A', c'⟩ := i
  have hy : y ≤ H := hi
  dsimp only
  by_cases hyl : y < H
  · repeat' (first
|(refine C_id ?_; first
|refine C_seq ?_
|refine C_region rfl ?_
|refine C_block ?_
|refine C_skip ?_
|refine C_exit ?_
|refine C_ret0 ?_
|(refine C_cond rfl obQ ?_ ?_ <;> intro h <;> (try simp only [cdS] at h) <;> (try (exfalso; omega)) <;> (try exact cdF h) <;> (try (exfalso; omega))))
|refine S_nil ?_
|refine S_run rfl rfl obQ obQ ?_
|(refine G_id ?_; first
|refine G_then ?_
|refine G_blockX ?_
|refine G_thenX ?_
|refine G_ret rfl obQ (fun w hw => ⟨?_, hw.below⟩)))
    rw [← wsX_0 x W y]
    refine C_loopS (fun i : Nat × Option Addr × Nat => ⟨[(15, .s (.v (.int .i64 i.1))), (14, .s (.v (.int .i64 W))), (8, .s (.v (.int .i64 y))), (11, .s (.v (.int .i64 y))), (10, .s (.v (.int .i64 H))), (7, .s (.r i.2.1 (wsX x W y i.1).length i.2.2 0)), (3, .s (.p b3 0 0)), (1, .s (.v (.int .i64 W)))], [⟨b3, 31, [.v (.string x.sh), .v (.int .i64 x.a), .v (.int .i64 x.b), .v (.int .i64 x.at_), .v (.int .i64 x.soft)]⟩], [⟨3, 1, (wsX x W y i.1).length, (wsX x W y i.1).map (.int .i64), .slice i.2.1 (wsX x W y i.1).length i.2.2⟩]⟩) (fun i => i.1 ≤ W) (fun i => W - i.1) (0, A', c') (Nat.zero_le _) ?_ (fun j hj => ?_)
    · exact svQ
    obtain ⟨k, A2, c2⟩ := j
    have hk : k ≤ W := hj
    dsimp only
    have hle := wsX_le (w := x) (W := W) (y := y) (x := k) hW (by omega) (by omega)
    by_cases hlt : k < W
    · have hst := wsX_step x W y k
      repeat' (first
|(refine C_id ?_; first
|refine C_seq ?_
|refine C_region rfl ?_
|refine C_block ?_
|refine C_skip ?_
|(refine C_cond rfl obQ ?_ ?_ <;> intro h <;> (try simp only [cdS] at h) <;> (try (exfalso; omega)) <;> (try exact cdF h) <;> (try (exfalso; omega))))
|(refine S_id ?_; first
|refine S_append rfl obQ rfl rfl rfl ⟨by decide, rfl⟩ rfl ⟨rfl, rfl, rfl, rfl⟩ [.int .i64 (wsF x (k : Int) (y : Int))] ⟨by decide, rfl⟩ (by simp [Value.oneCell']) (fun w hw => by first | exact hw.src (i := 0) rfl rfl | exact hw.src (i := 1) rfl rfl | exact hw.src (i := 2) rfl rfl | exact hw.src (i := 3) rfl rfl | exact hw.src (i := 4) rfl rfl | exact hw.src (i := 5) rfl rfl | exact hw.src (i := 6) rfl rfl | exact hw.src (i := 7) rfl rfl | exact hw.src (i := 8) rfl rfl) (by unfold maxLen; dsimp only; omega) (fun gb cap' => ⟨_, rfl, ?_⟩)
|refine S_nil ?_
|refine S_run rfl rfl obQ obQ ?_
|refine S_slice (fun b => ⟨_, _, rfl, obQ, ?_⟩)
|refine S_call (f := 180) rfl obQ (by kernel_rfl) (fun w hw => wpShare_c x hx _ _ (by omega) (by omega) w (Sh_at hsh hw memQ)) ?_)
|refine G_loop (k + 1, some ⟨gb, 0, none⟩, cap') (show k + 1 ≤ W by omega) (by show W - (k + 1) < W - k; omega) (by dsimp only; rw [hst, List.map_append, List.length_append]; exact svQ)
|refine G_then ?_
|refine G_block ?_)
    · obtain rfl : k = W := by omega
      rw [wsX_end]
      repeat' (first
|(refine C_id ?_; first
|refine C_seq ?_
|refine C_region rfl ?_
|refine C_exit ?_
|(refine C_cond rfl obQ ?_ ?_ <;> intro h <;> (try simp only [cdS] at h) <;> (try (exfalso; omega)) <;> (try exact cdF h) <;> (try (exfalso; omega))))
|refine S_nil ?_
|refine S_run rfl rfl obQ obQ ?_
|(refine G_id ?_; first
|refine G_loop (y + 1, A2, c2) (show y + 1 ≤ H by omega) (by show H - (y + 1) < H - y; omega) svQ
|refine G_then ?_
|refine G_block ?_
|refine G_blockX ?_
|refine G_thenX ?_))
  · obtain rfl : y = H := by omega
    repeat' (first
|(refine C_id ?_; first
|refine C_seq ?_
|refine C_region rfl ?_
|refine C_exit ?_
|refine C_ret0 ?_
|(refine C_cond rfl obQ ?_ ?_ <;> intro h <;> (try simp only [cdS] at h) <;> (try (exfalso; omega)) <;> (try exact cdF h) <;> (try (exfalso; omega))))
|refine S_nil ?_
|refine S_run rfl rfl obQ obQ ?_
|(refine G_id ?_; first
|refine G_then ?_
|refine G_blockX ?_
|refine G_thenX ?_
|refine G_ret rfl obQ (fun w2 hw => ⟨_, rfl, hw.below, HW.ownRow (i := 0) hw rfl rfl rfl rfl⟩)))
theorem wpShares_sl (x : Wip) (hx : WpOk x) (W H : Nat) (hW : W ≤ 64) (hH : H ≤ 64) (w : World) (hsh : Sh w) : Calls Tryz.prog 110 #[.agg #[.string x.sh, .int .i64 x.a, .int .i64 x.b, .int .i64 x.at_, .int .i64 x.soft], .int .i64 W, .int .i64 H] w fun r w' => ∃ v, r = .returned v ∧ Below w.heap.size w w' ∧ Sl w w' v (wsL x W H).length ((wsL x W H).map (.int .i64)) := by
  refine (wpShares_c x hx W H hW hH w hsh).mono ?_
  rintro r w' ⟨v, h1, h2, h3⟩
  exact ⟨v, h1, h2, own_sl h3⟩
theorem mWiped_c (x : Wip) (u t : Int) (w : World) (hsh : Sh w) : Calls Tryz.prog 18 #[.agg #[.string x.sh, .int .i64 x.a, .int .i64 x.b, .int .i64 x.at_, .int .i64 x.soft], .int .i64 u, .int .i64 t] w fun r w' => ∃ v, r = .returned v ∧ Below w.heap.size w w' ∧ Sl2 w w' v (wdR x u t).1.length ((wdR x u t).1.map (.int .i64)) (.int .i64 (wdR x u t).2) := by
  refine calls_of T_ok Tryz.func18 rfl Tryz.ntmps18 (Nat.le_of_ble_eq_true rfl) rfl ?_
  by_cases hE : wdE x u t = 0
  · have e1 : wdR x u t = (wsL x u.toNat t.toNat, 0) := if_pos hE
    rw [e1]
    obtain ⟨hx, hu, ht⟩ := wd_ok hE
    obtain ⟨W, hWe⟩ := Int.eq_ofNat_of_zero_le (show 0 ≤ u by omega)
    obtain ⟨H, hHe⟩ := Int.eq_ofNat_of_zero_le (show 0 ≤ t by omega)
    subst hWe hHe
    rw [Int.toNat_natCast, Int.toNat_natCast]
    repeat' (first
|(refine C_id ?_; first
|refine C_seq ?_
|refine C_region rfl ?_
|refine C_skip ?_
|refine C_ret0 ?_
|(refine C_cond rfl obQ ?_ ?_ <;> intro h <;> (try simp only [cdS] at h) <;> (try (exfalso; omega)) <;> (try exact cdF h) <;> (try contradiction)))
|(refine S_id ?_; first
|(refine S_callM (f := 110) rfl obQ (by kernel_rfl) (fun w hw => wpShares_sl x hx W H (by omega) (by omega) w (Sh_at hsh hw memQ)) (fun w1S w2S vS hw1S hbS hRS => ?_); obtain ⟨AS, cS, rfl, hSS⟩ := hRS)
|refine S_nil ?_
|refine S_run rfl rfl obQ obQ ?_
|refine S_box (fun bb => ⟨_, _, rfl, obQ, ?_⟩)
|refine S_slice (fun b => ⟨_, _, rfl, obQ, ?_⟩)
|refine S_call (f := 108) rfl obQ (by kernel_rfl) (fun w hw => wpCheck_c x w (Sh_at hsh hw memQ)) ?_
|refine S_call (f := 109) rfl obQ (by kernel_rfl) (fun w hw => mcheckSize_c _ _ w) ?_
|refine S_call (f := 107) rfl obQ (by kernel_rfl) (fun w hw => mfirst_c _ _ [wpE x, firstL [wi W 1 64, wi H 1 64]] (by simp) w (.inr ⟨_, rfl, hw.src (i := 1) rfl rfl⟩)) ?_)
|refine G_then ?_
|refine G_ret rfl obQ (fun w2 hw => ⟨_, rfl, hw.below, Sl.two (HW.callSl hw hSS memQ hw1S.bsize) rfl⟩))
  · have e1 : wdR x u t = ([], wdE x u t) := if_neg hE
    rw [e1]
    skip
    repeat' (first
|(refine C_id ?_; first
|refine C_seq ?_
|refine C_region rfl ?_
|refine C_ret0 ?_
|(refine C_cond rfl obQ ?_ ?_ <;> intro h <;> (try simp only [cdS] at h) <;> (try (exfalso; omega)) <;> (try exact cdF h) <;> (try contradiction)))
|(refine S_id ?_; first
|refine S_nil ?_
|refine S_run rfl rfl obQ obQ ?_
|refine S_box (fun bb => ⟨_, _, rfl, obQ, ?_⟩)
|refine S_slice (fun b => ⟨_, _, rfl, obQ, ?_⟩)
|refine S_call (f := 108) rfl obQ (by kernel_rfl) (fun w hw => wpCheck_c x w (Sh_at hsh hw memQ)) ?_
|refine S_call (f := 109) rfl obQ (by kernel_rfl) (fun w hw => mcheckSize_c _ _ w) ?_
|refine S_call (f := 107) rfl obQ (by kernel_rfl) (fun w hw => mfirst_c _ _ [wpE x, firstL [wi u 1 64, wi t 1 64]] (by simp) w (.inr ⟨_, rfl, hw.src (i := 1) rfl rfl⟩)) ?_)
|refine G_then ?_
|refine G_thenR ?_
|refine G_ret rfl obQ (fun w2 hw => ⟨_, rfl, hw.below, Sl.two (v := .slice none 0 0) (Sl.nil_ _ _) rfl⟩))
theorem mBorder_c (x : Wip) (d u t : Int) (hb : -1000000000000 ≤ x.at_ ∧ x.at_ ≤ 1000000000000) (hd : -1000000000000 ≤ d ∧ d ≤ 1000000000000) (w : World) (hsh : Sh w) : Calls Tryz.prog 19 #[.agg #[.string x.sh, .int .i64 x.a, .int .i64 x.b, .int .i64 x.at_, .int .i64 x.soft], .int .i64 d, .int .i64 u, .int .i64 t] w fun r w' => ∃ v, r = .returned v ∧ Below w.heap.size w w' ∧ Sl2 w w' v (brR x d u t).1.length ((brR x d u t).1.map (.int .i64)) (.int .i64 (brR x d u t).2) := by
  refine calls_of T_ok Tryz.func19 rfl Tryz.ntmps19 (Nat.le_of_ble_eq_true rfl) rfl ?_
  by_cases hE : bdE x d u t = 0
  · have e1 : brR x d u t = (zwI sbI (wsL (x.wide d) u.toNat t.toNat) (wsL x u.toNat t.toNat), 0) := if_pos hE
    rw [e1]
    obtain ⟨hx, hxw, hd0, hu, ht⟩ := bdd_ok hE
    obtain ⟨W, hWe⟩ := Int.eq_ofNat_of_zero_le (show 0 ≤ u by omega)
    obtain ⟨H, hHe⟩ := Int.eq_ofNat_of_zero_le (show 0 ≤ t by omega)
    subst hWe hHe
    rw [Int.toNat_natCast, Int.toNat_natCast]
    have hl1 := wsL_len (x.wide d) W H
    have hl2 := wsL_len x W H
    have hl3 : H * W ≤ 64 * 64 := Nat.mul_le_mul (by omega) (by omega)
    have hl4 : 0 < H * W := Nat.mul_pos (by omega) (by omega)
    repeat' (first
|(refine C_id ?_; first
|refine C_seq ?_
|refine C_region rfl ?_
|refine C_block ?_
|refine C_skip ?_
|refine C_drawV (id := 1) 12 [(0, true), (2, true), (4, true), (5, true), (7, true), (8, true), (9, true), (10, true), (11, true), (1, false), (3, false), (6, false)] rfl mixed (by kernel_rfl) rfl ?_
|(refine C_cond rfl obQ ?_ ?_ <;> intro h <;> (try simp only [cdS] at h) <;> (try (exfalso; omega)) <;> (try exact cdF h) <;> (try contradiction)))
|(refine S_id ?_; first
|(refine S_callRowG 3 1 (wsL (x.wide d) W H).length ((wsL (x.wide d) W H).map (.int .i64)) (by omega) rfl obQ (by kernel_rfl) (fun w hw => wpShares_c (x.wide d) hxw W H (by omega) (by omega) w (Sh_at hsh hw memQ)) (fun gK cK => ?_))
|(refine S_callM (f := 110) rfl obQ (by kernel_rfl) (fun w hw => wpShares_sl x hx W H (by omega) (by omega) w (Sh_at hsh hw memQ)) (fun w1S w2S vS hw1S hbS hRS => ?_); obtain ⟨AS, cS, rfl, hSS⟩ := hRS)
|refine S_nil ?_
|refine S_run rfl rfl obQ obQ ?_
|refine S_box (fun bb => ⟨_, _, rfl, obQ, ?_⟩)
|refine S_slice (fun b => ⟨_, _, rfl, obQ, ?_⟩)
|refine S_call (f := 108) rfl obQ (by kernel_rfl) (fun w hw => wpCheck_c x w (Sh_at hsh hw memQ)) ?_
|refine S_call (f := 109) rfl obQ (by kernel_rfl) (fun w hw => mcheckSize_c _ _ w) ?_
|refine S_call (f := 111) rfl obQ (by kernel_rfl) (fun w hw => mwithin_c _ _ _ w) ?_
|refine S_call (f := 112) rfl obQ (by kernel_rfl) (fun w hw => mwhen_c _ _ w) ?_
|refine S_call (f := 107) rfl obQ (by kernel_rfl) (fun w hw => mfirst_c _ _ [wpE x, wi d 0 100000, firstL [wi W 1 64, wi H 1 64], wh (decide (100000 < x.at_ + d)) 4] (by simp) w (.inr ⟨_, rfl, hw.src (i := 1) rfl rfl⟩)) ?_)
|refine V_nil ?_
|refine V_q rfl (Yl_step rfl obQ) ?_
|refine V_n rfl ?_
|refine G_V ⟨⟨_, rfl, trivial⟩, ⟨_, rfl⟩, rfl, pstQ⟩ rfl ?_
|refine G_then ?_)
    obtain ⟨adS, rfl⟩ := hSS.rd.some (by rw [List.length_map]; omega)
    rename_i b4
    obtain ⟨b11, rfl⟩ : ∃ z, z = bb := ⟨bb, rfl⟩
    obtain ⟨bs, rfl⟩ : ∃ z, z = b := ⟨b, rfl⟩
    refine C_loopS (fun k : Nat => ⟨[(48, .s (.v (.int .i64 k))), (47, .s (.v (.int .i64 (wsL x W H).length))), (46, .s (.v (.slice (some adS) (wsL x W H).length cS))), (12, .s (.r (some ⟨gK, 0, none⟩) (wsL (x.wide d) W H).length cK 0))], [⟨b4, 31, [.v (.string x.sh), .v (.int .i64 x.a), .v (.int .i64 x.b), .v (.int .i64 (x.at_)), .v (.int .i64 x.soft)]⟩, ⟨bs, 28, [.v (.int .i64 (wpE x)), .v (.int .i64 (wi d 0 100000)), .v (.int .i64 (firstL [wi (W : Int) 1 64, wi (H : Int) 1 64])), .v (.int .i64 (wh (decide (100000 < x.at_ + d)) 4))]⟩, ⟨b11, 31, [.v (.string x.sh), .v (.int .i64 x.a), .v (.int .i64 x.b), .v (.int .i64 (x.at_ + d)), .v (.int .i64 x.soft)]⟩], [⟨3, 1, (wsL (x.wide d) W H).length, (upI (wsL (x.wide d) W H).length (fun j => sbI (gI (wsL (x.wide d) W H) j) (gI (wsL x W H) j)) (gI (wsL (x.wide d) W H)) k).map (.int .i64), .slice (some ⟨gK, 0, none⟩) (wsL (x.wide d) W H).length cK⟩]⟩) (fun k => k ≤ (wsL x W H).length) (fun k => (wsL x W H).length - k) 0 (Nat.zero_le _) ?_ (fun k hk0 => ?_)
    · rw [upI_0]
      exact svQ
    have hk1 : k ≤ (wsL x W H).length := hk0
    by_cases hlt : k < (wsL x W H).length
    · have hb1 : 0 ≤ gI (wsL (x.wide d) W H) k ∧ gI (wsL (x.wide d) W H) k ≤ 256 := wsL_bd hxw _ (gI_mem (by omega))
      have hb2 : 0 ≤ gI (wsL x W H) k ∧ gI (wsL x W H) k ≤ 256 := wsL_bd hx _ (gI_mem (by omega))
      repeat' (first
|(refine C_id ?_; first
|refine C_seq ?_
|refine C_region rfl ?_
|refine C_block ?_
|refine C_skip ?_
|(refine C_cond rfl obQ ?_ ?_ <;> intro h <;> (try simp only [cdS] at h) <;> (try (exfalso; omega)) <;> (try exact cdF h) <;> (try (exfalso; omega))))
|(refine S_id ?_; first
|refine S_load rfl obQ rfl [.int .i64 (gI (wsL x W H) k)] (.past (w2S, fun b => w1S.heap.size ≤ b ∧ b < w2S.heap.size) memQ _ _ hSS _ adS rfl rfl (gI_idxZ (k := k) rfl (by omega))) rfl (.inr ⟨rfl, rfl⟩) ?_
|refine S_load rfl obQ rfl [.int .i64 (gI (wsL (x.wide d) W H) k)] (.row 0 _ rfl gK (wsL (x.wide d) W H).length cK (((k : Nat) : Int).toNat * 1) rfl rfl (upI_idx (by omega) rfl rfl)) rfl (.inr ⟨rfl, rfl⟩) ?_
|refine S_storeRow rfl obQ rfl rfl rfl 0 rfl rfl (((k : Nat) : Int).toNat * 1) rfl (by dsimp only; rw [List.length_map, upI_len]; omega) (xs' := (upI ((wsL (x.wide d) W H).length) (fun j => sbI (gI (wsL (x.wide d) W H) j) (gI (wsL x W H) j)) (gI (wsL (x.wide d) W H)) (k + 1)).map (.int .i64)) (upI_put (f := (fun j => sbI (gI (wsL (x.wide d) W H) j) (gI (wsL x W H) j))) rfl (by omega)) rfl ?_
|refine S_nil ?_
|refine S_run rfl rfl obQ obQ ?_)
|refine G_loop (k + 1) (show k + 1 ≤ (wsL x W H).length by omega) (by show (wsL x W H).length - (k + 1) < (wsL x W H).length - k; omega) svQ
|refine G_then ?_
|refine G_block ?_)
    · obtain rfl : k = (wsL x W H).length := by omega
      repeat' (first
|(refine C_id ?_; first
|refine C_seq ?_
|refine C_region rfl ?_
|refine C_exit ?_
|refine C_ret0 ?_
|(refine C_cond rfl obQ ?_ ?_ <;> intro h <;> (try simp only [cdS] at h) <;> (try (exfalso; omega)) <;> (try exact cdF h) <;> (try (exfalso; omega))))
|refine S_nil ?_
|refine S_run rfl rfl obQ obQ ?_
|(refine G_id ?_; first
|refine G_then ?_
|refine G_blockX ?_
|refine G_thenX ?_
|refine G_ret rfl obQ (fun w2 hw => ⟨_, rfl, hw.below, Sl.two (HW.rowSl (i := 0) hw rfl rfl (by rw [zwI_len]) (by dsimp only; rw [show (wsL x W H).length = (wsL (x.wide d) W H).length by omega, upI_end]; rfl)) rfl⟩)))
  · have e1 : brR x d u t = ([], bdE x d u t) := if_neg hE
    rw [e1]
    repeat' (first
|(refine C_id ?_; first
|refine C_seq ?_
|refine C_region rfl ?_
|refine C_ret0 ?_
|refine C_drawV (id := 1) 12 [(0, true), (2, true), (4, true), (5, true), (7, true), (8, true), (9, true), (10, true), (11, true), (1, false), (3, false), (6, false)] rfl mixed (by kernel_rfl) rfl ?_
|(refine C_cond rfl obQ ?_ ?_ <;> intro h <;> (try simp only [cdS] at h) <;> (try (exfalso; omega)) <;> (try exact cdF h) <;> (try contradiction)))
|(refine S_id ?_; first
|refine S_nil ?_
|refine S_run rfl rfl obQ obQ ?_
|refine S_box (fun bb => ⟨_, _, rfl, obQ, ?_⟩)
|refine S_slice (fun b => ⟨_, _, rfl, obQ, ?_⟩)
|refine S_call (f := 108) rfl obQ (by kernel_rfl) (fun w hw => wpCheck_c x w (Sh_at hsh hw memQ)) ?_
|refine S_call (f := 109) rfl obQ (by kernel_rfl) (fun w hw => mcheckSize_c _ _ w) ?_
|refine S_call (f := 111) rfl obQ (by kernel_rfl) (fun w hw => mwithin_c _ _ _ w) ?_
|refine S_call (f := 112) rfl obQ (by kernel_rfl) (fun w hw => mwhen_c _ _ w) ?_
|refine S_call (f := 107) rfl obQ (by kernel_rfl) (fun w hw => mfirst_c _ _ [wpE x, wi d 0 100000, firstL [wi u 1 64, wi t 1 64], wh (decide (100000 < x.at_ + d)) 4] (by simp) w (.inr ⟨_, rfl, hw.src (i := 1) rfl rfl⟩)) ?_)
|refine V_nil ?_
|refine V_q rfl (Yl_step rfl obQ) ?_
|refine V_n rfl ?_
|(refine G_id ?_; first
|refine G_V ⟨⟨_, rfl, trivial⟩, ⟨_, rfl⟩, rfl, pstQ⟩ rfl ?_
|refine G_then ?_
|refine G_thenR ?_
|refine G_ret rfl obQ (fun w2 hw => ⟨_, rfl, hw.below, Sl.two (v := .slice none 0 0) (Sl.nil_ _ _) rfl⟩)))
end Go.Proofs.YtjkgklhjbopoaaaGreatDoor
