/- Three pictures: the reference and the law. -/
import Derived.Test.YtdbffbcobghbeaaGreatDoorColour53
import Derived.Test.YtdbffbcobghbeaaGreatDoorColour19
namespace Go.Proofs.YtdbffbcobghbeaaGreatDoor
open Go.E Go.RowKit Go.Fl
attribute [local irreducible] G C S D Calls
set_option maxRecDepth 100000
set_option linter.unusedSimpArgs false
set_option linter.unusedVariables false

theorem th_bad1 {x y z : Pic} (h0 : th1 x y z = 0) (h : ¬ y.w = x.w ∨ ¬ y.h = x.h) : thE x y z = 2 := by
  rw [thE_2 h0, show szB x y z = true from ?_]
  · rfl
  · simp only [szB, Bool.or_eq_true, Bool.not_eq_true', Bool.and_eq_false_iff, decide_eq_false_iff_not]
    omega
theorem th_bad2 {x y z : Pic} (h0 : th1 x y z = 0) (h : ¬ z.w = x.w ∨ ¬ z.h = x.h) : thE x y z = 2 := by
  rw [thE_2 h0, show szB x y z = true from ?_]
  · rfl
  · simp only [szB, Bool.or_eq_true, Bool.not_eq_true', Bool.and_eq_false_iff, decide_eq_false_iff_not]
    omega
theorem th_good {x y z : Pic} (h0 : th1 x y z = 0) (h : y.w = x.w ∧ y.h = x.h) (h2 : z.w = x.w ∧ z.h = x.h) : thE x y z = 0 := by
  rw [thE_2 h0, show szB x y z = false from ?_]
  · rfl
  · simp only [szB, Bool.or_eq_false_iff, Bool.not_eq_false', Bool.and_eq_true, decide_eq_true_eq]
    omega
theorem bne_dec {a b : Int} : (a != b) = decide (a ≠ b) := by by_cases h : a = b <;> simp [h]
theorem wt_1 {a b c : Int} (h : ¬ wi a 0 256 = 0) : wtE a b c = wi a 0 256 := by
  have : wr1 a b c = wi a 0 256 := if_neg h
  rw [wtE, this, if_neg h]
theorem wt_2 {a b c : Int} (h0 : wi a 0 256 = 0) (h : ¬ wi b 0 256 = 0) : wtE a b c = wi b 0 256 := by
  have : wr1 a b c = wi b 0 256 := by unfold wr1; simp only [firstL]; rw [if_pos h0, if_neg h]
  rw [wtE, this, if_neg h]
theorem wt_3 {a b c : Int} (h0 : wi a 0 256 = 0) (h1 : wi b 0 256 = 0) (h : ¬ wi c 0 256 = 0) : wtE a b c = wi c 0 256 := by
  have : wr1 a b c = wi c 0 256 := by unfold wr1; simp only [firstL]; rw [if_pos h0, if_pos h1, if_neg h]
  rw [wtE, this, if_neg h]
theorem wt_4 {a b c : Int} (h0 : wi a 0 256 = 0) (h1 : wi b 0 256 = 0) (h : wi c 0 256 = 0) : wtE a b c = wh (a + b + c != 256) 1 := by
  have : wr1 a b c = 0 := by unfold wr1; simp only [firstL]; rw [if_pos h0, if_pos h1, if_pos h]
  rw [wtE, if_pos this, bne_dec]
theorem sl_rd {w w' : World} {A : Option Addr} {n c : Nat} {xs : List Value} (h : Sl w w' (.slice A n c) n xs) : RdS (fun b => w.heap.size ≤ b ∧ b < w'.heap.size) w' A xs := by
  obtain ⟨A', c', e, h⟩ := h
  cases e
  exact h
/-- Three pictures that a call has made. -/
def ThA (w w' : World) (v : Value) (x y z : Pic) : Prop := ∃ Ax cx Ay cy Az cz, v = .agg #[.string x.nm, .int .i64 x.w, .int .i64 x.h, .slice Ax x.s.length cx, .string y.nm, .int .i64 y.w, .int .i64 y.h, .slice Ay y.s.length cy, .string z.nm, .int .i64 z.w, .int .i64 z.h, .slice Az z.s.length cz] ∧ RdS (fun b => w.heap.size ≤ b ∧ b < w'.heap.size) w' Ax (x.s.map (.float .f32)) ∧ RdS (fun b => w.heap.size ≤ b ∧ b < w'.heap.size) w' Ay (y.s.map (.float .f32)) ∧ RdS (fun b => w.heap.size ≤ b ∧ b < w'.heap.size) w' Az (z.s.map (.float .f32))
theorem pl_map {x y z : Pic} (h : ThOk x y z) {α : Type} (f : Col → α) : (plL x y z).map (fun q => f q.c) = (List.range x.s.length).map fun k => f (plA x y z k) := by
  unfold plL
  rw [List.map_map]
  refine List.map_congr_left fun k hk => ?_
  show f (toP x y z k).c = _
  rw [(toP_c (plA_ok h (List.mem_range.1 hk)).1).1]

set_option maxHeartbeats 1000000 in
/-- genlockref02.CheckThree -/
theorem rCheckThree_c (x y z : Pic) (Ax Ay Az : Option Addr) (cx cy cz : Nat) (hsx : x.s.length ≤ 1000000) (hsy : y.s.length ≤ 1000000) (hsz : z.s.length ≤ 1000000) (hnx : x.nm.size ≤ maxLen) (hny : y.nm.size ≤ maxLen) (hnz : z.nm.size ≤ maxLen) (w : World) (hrx : Rd w Ax (x.s.map (.float .f32))) (hry : Rd w Ay (y.s.map (.float .f32))) (hrz : Rd w Az (z.s.map (.float .f32))) : Calls Tryz.prog 63 #[.agg #[.string x.nm, .int .i64 x.w, .int .i64 x.h, .slice Ax x.s.length cx, .string y.nm, .int .i64 y.w, .int .i64 y.h, .slice Ay y.s.length cy, .string z.nm, .int .i64 z.w, .int .i64 z.h, .slice Az z.s.length cz]] w fun r w' => r = .returned (.int .i64 (thE x y z)) ∧ Below w.heap.size w w' := by
  refine calls_of (args := [.agg #[.string x.nm, .int .i64 x.w, .int .i64 x.h, .slice Ax x.s.length cx, .string y.nm, .int .i64 y.w, .int .i64 y.h, .slice Ay y.s.length cy, .string z.nm, .int .i64 z.w, .int .i64 z.h, .slice Az z.s.length cz]]) T_ok Tryz.func63 rfl Tryz.ntmps63 (Nat.le_of_ble_eq_true rfl) rfl ?_
  repeat' (first
 | (refine C_id ?_; first
 | refine C_rounds 3 ?_
 | refine C_seq ?_
 | refine C_region rfl ?_
 | refine C_block ?_
 | refine C_skip ?_
 | refine C_exit ?_
 | refine C_ret0 ?_
 | refine C_drawV (id := 1) 8 [(0, true), (1, true), (3, true), (4, true), (6, true), (7, true), (2, false), (5, false)] rfl mixed (by kernel_rfl) rfl ?_
 | refine C_draw (id := 7) rfl mixed (by kernel_rfl) ?_
 | refine C_condT rfl obQ ?_
 | refine C_condF rfl obQ ?_
 | (refine C_cond rfl obQ (fun h => ?_) (fun h => ?_) <;> (try simp only [Bool.or_eq_true, Bool.and_eq_true, Bool.or_eq_false_iff, Bool.and_eq_false_iff, decide_eq_true_eq, decide_eq_false_iff_not, beq_iff_eq, bne_iff_ne, beq_eq_false_iff_ne, bne_eq_false_iff_eq, ne_eq, Decidable.not_not, List.cons.injEq, and_true, Bool.not_eq_true', Bool.not_eq_false', Int.not_lt, Int.not_le] at h))
 )
 | (refine S_id ?_; first
 | refine S_nil ?_
 | refine S_run rfl rfl obQ obQ ?_
 | refine S_box (fun b => ⟨_, _, rfl, obQ, ?_⟩)
 | refine S_slice (fun b => ⟨_, _, rfl, obQ, ?_⟩)
 | refine S_call (f := 57) rfl obQ (by kernel_rfl) (fun w hw => rCheckPicture_c x Ax cx hsx hnx w (hw.rdm hrx.toS memQ)) ?_
 | refine S_call (f := 57) rfl obQ (by kernel_rfl) (fun w hw => rCheckPicture_c y Ay cy hsy hny w (hw.rdm hry.toS memQ)) ?_
 | refine S_call (f := 57) rfl obQ (by kernel_rfl) (fun w hw => rCheckPicture_c z Az cz hsz hnz w (hw.rdm hrz.toS memQ)) ?_
 | refine S_call (f := 117) rfl obQ (by kernel_rfl) (fun w hw => rFirst_c _ _ [picE x, picE y, picE z] (by simp) w (.inr ⟨_, rfl, hw.src (i := 1) rfl rfl⟩)) ?_
 )
 | (refine D_id ?_; first
 | refine D_nil ?_
 | refine D_run rfl rfl obQ obQ ?_
 )
 | (refine V_id ?_; first
 | refine V_nil ?_
 | refine V_q rfl (Yl_step rfl obQ) ?_
 | refine V_n rfl ?_
 )
 | (refine G_id ?_; first
 | refine G_V ⟨⟨_, rfl, trivial⟩, ⟨_, rfl⟩, rfl, pstQ⟩ rfl ?_
 | refine G_rounds (C_trim [1, 2, 4] 1 rfl rfl ?_)
 | refine G_then ?_
 | refine G_block ?_
 | refine G_blockX ?_
 | refine G_blockR ?_
 | refine G_thenR ?_
 | refine G_thenX ?_
 | refine G_ret rfl obQ (fun w hw => ⟨?_, hw.below⟩)
 )
 )
  all_goals first
    | exact rI (thE_1 (by assumption)).symm
    | exact rI (th_bad1 (by assumption) (by assumption)).symm
    | exact rI (th_bad2 (by assumption) (by assumption)).symm
    | exact rI (th_good (by assumption) (by assumption) (by assumption)).symm

set_option maxHeartbeats 400000 in
/-- genlockref02.CheckWeights -/
theorem rCheckWeights_c (a b c : Int) (w : World) : Calls Tryz.prog 64 #[.agg #[.int .i64 a, .int .i64 b, .int .i64 c]] w fun r w' => r = .returned (.int .i64 (wtE a b c)) ∧ Below w.heap.size w w' := by
  refine calls_of (args := [.agg #[.int .i64 a, .int .i64 b, .int .i64 c]]) T_ok Tryz.func64 rfl Tryz.ntmps64 (Nat.le_of_ble_eq_true rfl) rfl ?_
  repeat' (first
 | (refine C_id ?_; first
 | refine C_rounds 3 ?_
 | refine C_seq ?_
 | refine C_region rfl ?_
 | refine C_block ?_
 | refine C_skip ?_
 | refine C_exit ?_
 | refine C_ret0 ?_
 | refine C_condT rfl obQ ?_
 | refine C_condF rfl obQ ?_
 | (refine C_cond rfl obQ (fun h => ?_) (fun h => ?_) <;> (try simp only [Bool.or_eq_true, Bool.and_eq_true, Bool.or_eq_false_iff, Bool.and_eq_false_iff, decide_eq_true_eq, decide_eq_false_iff_not, beq_iff_eq, bne_iff_ne, beq_eq_false_iff_ne, bne_eq_false_iff_eq, ne_eq, Decidable.not_not, List.cons.injEq, and_true, Bool.not_eq_true', Bool.not_eq_false', Int.not_lt, Int.not_le] at h) <;> (try (exfalso; omega)) <;> (try (exfalso; simp at h; done)) <;> (try (exfalso; simp only [not_true_eq_false, false_or, or_false] at h; omega)) <;> (try (have hwa := (wi_eq _ _ _).1 (by assumption : wi a 0 256 = 0); have hwb := (wi_eq _ _ _).1 (by assumption : wi b 0 256 = 0); have hwc := (wi_eq _ _ _).1 (by assumption : wi c 0 256 = 0))))
 )
 | (refine S_id ?_; first
 | refine S_nil ?_
 | refine S_run rfl rfl obQ obQ ?_
 | refine S_box (fun bb => ⟨_, _, rfl, obQ, ?_⟩)
 | refine S_call (f := 29) rfl obQ (by kernel_rfl) (fun w hw => rRange_c _ _ _ w) ?_
 | refine S_call (f := 119) rfl obQ (by kernel_rfl) (fun w hw => rWhen_c _ _ w) ?_
 )
 | (refine G_id ?_; first
 | refine G_rounds (C_trim [1, 2, 3] 1 rfl rfl ?_)
 | refine G_then ?_
 | refine G_block ?_
 | refine G_blockX ?_
 | refine G_blockR ?_
 | refine G_thenR ?_
 | refine G_thenX ?_
 | refine G_ret rfl obQ (fun w hw => ⟨?_, hw.below⟩)
 )
 )
  all_goals first
    | exact rI (wt_1 (by assumption)).symm
    | exact rI (wt_2 (by assumption) (by assumption)).symm
    | exact rI (wt_3 (by assumption) (by assumption) (by assumption)).symm
    | exact rI (wt_4 (by assumption) (by assumption) (by assumption)).symm

set_option maxHeartbeats 400000 in
/-- genlockref02.Colour -/
theorem rColour_c (x y z : Pic) (ax ay az : Addr) (cx cy cz : Nat) (ht : ThOk x y z) (k : Nat) (hlt : k < x.s.length) (hsx : x.s.length ≤ 1000000) (w : World) (hrx : Rd w (some ax) (x.s.map (.float .f32))) (hry : Rd w (some ay) (y.s.map (.float .f32))) (hrz : Rd w (some az) (z.s.map (.float .f32))) : Calls Tryz.prog 100 #[.agg #[.string x.nm, .int .i64 x.w, .int .i64 x.h, .slice (some ax) x.s.length cx, .string y.nm, .int .i64 y.w, .int .i64 y.h, .slice (some ay) y.s.length cy, .string z.nm, .int .i64 z.w, .int .i64 z.h, .slice (some az) z.s.length cz], .int .i64 k] w fun r w' => r = .returned (triV (plA x y z k)) ∧ Below w.heap.size w w' := by
  have hln := ht.len
  obtain ⟨hok, hgx, hgy, hgz⟩ := plA_ok ht hlt
  refine calls_of (args := [.agg #[.string x.nm, .int .i64 x.w, .int .i64 x.h, .slice (some ax) x.s.length cx, .string y.nm, .int .i64 y.w, .int .i64 y.h, .slice (some ay) y.s.length cy, .string z.nm, .int .i64 z.w, .int .i64 z.h, .slice (some az) z.s.length cz], .int .i64 k]) T_ok Tryz.func100 rfl Tryz.ntmps100 (Nat.le_of_ble_eq_true rfl) rfl ?_
  repeat' (first
 | (refine C_id ?_; first
 | refine C_rounds 3 ?_
 | refine C_seq ?_
 | refine C_region rfl ?_
 | refine C_block ?_
 | refine C_skip ?_
 | refine C_exit ?_
 | refine C_ret0 ?_
 | refine C_condT rfl obQ ?_
 | refine C_condF rfl obQ ?_
 )
 | (refine S_id ?_; first
 | refine S_load rfl obQ rfl [.float .f32 (gB x.s k)] (.past _ memQ _ _ hrx.toS _ _ rfl rfl (gB_idxZ (k := k) rfl hlt)) rfl (.inr ⟨rfl, rfl⟩) ?_
 | refine S_load rfl obQ rfl [.float .f32 (gB y.s k)] (.past _ memQ _ _ hry.toS _ _ rfl rfl (gB_idxZ (k := k) rfl (by omega))) rfl (.inr ⟨rfl, rfl⟩) ?_
 | refine S_load rfl obQ rfl [.float .f32 (gB z.s k)] (.past _ memQ _ _ hrz.toS _ _ rfl rfl (gB_idxZ (k := k) rfl (by omega))) rfl (.inr ⟨rfl, rfl⟩) ?_
 | refine S_nil ?_
 | refine S_run rfl rfl obQ obQ ?_
 | refine S_box (fun b => ⟨_, _, rfl, obQ, ?_⟩)
 | refine S_call (f := 98) rfl obQ (by kernel_rfl) (fun w hw => sixteenths_c (gB x.s k) hgx.fin hgx.bd w) ?_
 | refine S_call (f := 98) rfl obQ (by kernel_rfl) (fun w hw => sixteenths_c (gB y.s k) hgy.fin hgy.bd w) ?_
 | refine S_call (f := 98) rfl obQ (by kernel_rfl) (fun w hw => sixteenths_c (gB z.s k) hgz.fin hgz.bd w) ?_
 )
 | (refine G_id ?_; first
 | refine G_rounds (C_trim [1, 2, 4, 5, 6] 3 rfl rfl ?_)
 | refine G_then ?_
 | refine G_block ?_
 | refine G_blockX ?_
 | refine G_thenX ?_
 | refine G_ret rfl obQ (fun w hw => ⟨?_, hw.below⟩)
 )
 )
  rfl

set_option maxHeartbeats 400000 in
/-- genlocklaw02.three -/
theorem lthree_c (x y z : Pic) (Ax Ay Az : Option Addr) (cx cy cz : Nat) (hsx : x.s.length ≤ 1000000) (hsy : y.s.length ≤ 1000000) (hsz : z.s.length ≤ 1000000) (hax : Ax = none → x.s.length = 0 ∧ cx = 0) (hay : Ay = none → y.s.length = 0 ∧ cy = 0) (haz : Az = none → z.s.length = 0 ∧ cz = 0) (w : World) (hrx : Rd w Ax (x.s.map (.float .f32))) (hry : Rd w Ay (y.s.map (.float .f32))) (hrz : Rd w Az (z.s.map (.float .f32))) : Calls Tryz.prog 62 #[.agg #[.string x.nm, .int .i64 x.w, .int .i64 x.h, .slice Ax x.s.length cx, .string y.nm, .int .i64 y.w, .int .i64 y.h, .slice Ay y.s.length cy, .string z.nm, .int .i64 z.w, .int .i64 z.h, .slice Az z.s.length cz]] w fun r w' => ∃ v, r = .returned v ∧ Below w.heap.size w w' ∧ ThA w w' v x y z := by
  refine calls_of (args := [.agg #[.string x.nm, .int .i64 x.w, .int .i64 x.h, .slice Ax x.s.length cx, .string y.nm, .int .i64 y.w, .int .i64 y.h, .slice Ay y.s.length cy, .string z.nm, .int .i64 z.w, .int .i64 z.h, .slice Az z.s.length cz]]) T_ok Tryz.func62 rfl Tryz.ntmps62 (Nat.le_of_ble_eq_true rfl) rfl ?_
  repeat' (first
 | (refine C_id ?_; first
 | refine C_seq ?_
 | refine C_region rfl ?_
 | refine C_ret0 ?_
 | refine C_drawV (id := 1) 8 [(0, true), (1, true), (3, true), (4, true), (6, true), (7, true), (2, false), (5, false)] rfl mixed (by kernel_rfl) rfl ?_
 )
 | (refine S_id ?_; first
 | (refine S_callM (f := 56) rfl obQ (by kernel_rfl) (fun w hw => lown_c x Ax cx hsx hax w (hw.rdm hrx.toS memQ)) (fun w1X w2X vX hw1X hbX hRX => ?_); obtain ⟨AX, cX, rfl, hSX⟩ := hRX)
 | (refine S_callM (f := 56) rfl obQ (by kernel_rfl) (fun w hw => lown_c y Ay cy hsy hay w (hw.rdm hry.toS memQ)) (fun w1Y w2Y vY hw1Y hbY hRY => ?_); obtain ⟨AY, cY, rfl, hSY⟩ := hRY)
 | (refine S_callM (f := 56) rfl obQ (by kernel_rfl) (fun w hw => lown_c z Az cz hsz haz w (hw.rdm hrz.toS memQ)) (fun w1Z w2Z vZ hw1Z hbZ hRZ => ?_); obtain ⟨AZ, cZ, rfl, hSZ⟩ := hRZ)
 | refine S_nil ?_
 | refine S_run rfl rfl obQ obQ ?_
 | refine S_box (fun b => ⟨_, _, rfl, obQ, ?_⟩)
 )
 | (refine V_id ?_; first
 | refine V_nil ?_
 | refine V_q rfl (Yl_step rfl obQ) ?_
 | refine V_n rfl ?_
 )
 | (refine G_id ?_; first
 | refine G_V ⟨⟨_, rfl, trivial⟩, ⟨_, rfl⟩, rfl, pstQ⟩ rfl ?_
 | refine G_then ?_
 | refine G_ret rfl obQ (fun w2 hw => ⟨_, rfl, hw.below, _, _, _, _, _, _, rfl, sl_rd (n := 0) (HW.callSl (n := 0) (c := 0) hw hSX memQ hw1X.bsize), sl_rd (n := 0) (HW.callSl (n := 0) (c := 0) hw hSY memQ hw1Y.bsize), sl_rd (n := 0) (HW.callSl (n := 0) (c := 0) hw hSZ memQ hw1Z.bsize)⟩)
 )
 )

end Go.Proofs.YtdbffbcobghbeaaGreatDoor
