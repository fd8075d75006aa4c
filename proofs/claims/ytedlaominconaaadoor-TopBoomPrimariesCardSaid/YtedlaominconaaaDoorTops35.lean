/- The law: three pictures by matrices, and their luma. -/
import Derived.Test.YtedlaominconaaaDoorTops34
import Derived.Test.YtedlaominconaaaDoorEng4
namespace Go.Proofs.YtedlaominconaaaDoor
open Go.E Go.RowKit Go.Fl
attribute [local irreducible] G C S D DY DS V VT Yl QV QT Calls
set_option maxRecDepth 100000
set_option linter.unusedSimpArgs false
set_option linter.unusedVariables false

/-- An entry of a byte, and what remains of it. -/
def Z9 (z v : Int) : Prop := (-128 ≤ z ∧ z ≤ 127) ∧ z.tmod 10 = v
theorem cv_i8 {z v : Int} (h : Z9 z v) (w : World) : (convert 22 3 (.int .i8 z)).run Tryd.prog w = .ok (.int .i64 z) w := by
  have h1 := h.1
  simp [convert, run_underlying Tryd.underlying22, run_underlying Tryd.underlying3, Conv.intToInt, inR_wrap (k := .i64) (z := z) (by simp only [inR]; omega)]
theorem rem_w {a b r : Int} (t : TypeId) (x y : Operand) {P : Program} (ha : 0 ≤ a ∧ a ≤ 1000) (hb : 1 ≤ b ∧ b ≤ 1000) (h : a.tmod b = r) (w : World) : (do eqGuard .rem t x y (.int .i64 a) (.int .i64 b); binOp .rem t (.int .i64 a) (.int .i64 b) : Sem Value).run P w = .ok (.int .i64 r) w := by
  subst h
  exact rem_pos' t x y ha hb w
theorem pcolr_as {x y z : Pic} {ax ay az : Addr} {cx cy cz n k : Nat} {c : Col} {w : World} (ht : ThOk x y z) (hx : x.s.length = n) (hlt : k < n) (h6 : n ≤ 1000000) (hc : plA x y z k = c) (hrx : Rd w (some ax) (x.s.map (.float .f32))) (hry : Rd w (some ay) (y.s.map (.float .f32))) (hrz : Rd w (some az) (z.s.map (.float .f32))) : Calls Tryd.prog 12 #[.agg #[.string x.nm, .int .i64 x.w, .int .i64 x.h, .slice (some ax) n cx, .string y.nm, .int .i64 y.w, .int .i64 y.h, .slice (some ay) n cy, .string z.nm, .int .i64 z.w, .int .i64 z.h, .slice (some az) n cz], .int .i64 k] w fun r w' => r = .returned (.agg #[.int .i64 c.1, .int .i64 c.2.1, .int .i64 c.2.2]) ∧ Below w.heap.size w w' := by
  subst hc hx
  have := rColour_c x y z ax ay az cx cy cz ht k hlt h6 w hrx hry hrz
  have hl := ht.len
  rwa [← hl.1, ← hl.2] at this
theorem rem_z {z v : Int} (h : Z9 z v) (t : TypeId) (x y : Operand) {P : Program} (w : World) : (do eqGuard .rem t x y (.int .i64 z) (.int .i64 10); binOp .rem t (.int .i64 z) (.int .i64 10) : Sem Value).run P w = .ok (.int .i64 v) w := rem_ten t x y h.2 w
theorem pthn_as {x y z : Pic} {Ax Ay Az : Option Addr} {cx cy cz n : Nat} {e : Int} {w : World} (hx : x.s.length = n) (hy : y.s.length = n) (hz : z.s.length = n) (hn : n ≤ 12) (hnx : x.nm.size ≤ maxLen) (hny : y.nm.size ≤ maxLen) (hnz : z.nm.size ≤ maxLen) (he : thE x y z = e) (hrx : Rd w Ax (x.s.map (.float .f32))) (hry : Rd w Ay (y.s.map (.float .f32))) (hrz : Rd w Az (z.s.map (.float .f32))) : Calls Tryd.prog 4 #[.agg #[.string x.nm, .int .i64 x.w, .int .i64 x.h, .slice Ax n cx, .string y.nm, .int .i64 y.w, .int .i64 y.h, .slice Ay n cy, .string z.nm, .int .i64 z.w, .int .i64 z.h, .slice Az n cz]] w fun r w' => r = .returned (.int .i64 e) ∧ Below w.heap.size w w' := by
  have := pth_as (cx := cx) (cy := cy) (cz := cz) hnx hny hnz (show x.s.length ≤ maxLen by unfold maxLen; omega) (show y.s.length ≤ maxLen by unfold maxLen; omega) (show z.s.length ≤ maxLen by unfold maxLen; omega) he hrx hry hrz
  rwa [hx, hy, hz] at this
theorem whole_of {m : Mat} (h : ((eG m == 0) && ((ivG m 0 0).2 == 1) && decide (-4096 ≤ (ivG m 0 0).1) && decide ((ivG m 0 0).1 ≤ 4096) && ((ivG m 0 1).2 == 1) && decide (-4096 ≤ (ivG m 0 1).1) && decide ((ivG m 0 1).1 ≤ 4096) && ((ivG m 0 2).2 == 1) && decide (-4096 ≤ (ivG m 0 2).1) && decide ((ivG m 0 2).1 ≤ 4096) && ((ivG m 1 0).2 == 1) && decide (-4096 ≤ (ivG m 1 0).1) && decide ((ivG m 1 0).1 ≤ 4096) && ((ivG m 1 1).2 == 1) && decide (-4096 ≤ (ivG m 1 1).1) && decide ((ivG m 1 1).1 ≤ 4096) && ((ivG m 1 2).2 == 1) && decide (-4096 ≤ (ivG m 1 2).1) && decide ((ivG m 1 2).1 ≤ 4096) && ((ivG m 2 0).2 == 1) && decide (-4096 ≤ (ivG m 2 0).1) && decide ((ivG m 2 0).1 ≤ 4096) && ((ivG m 2 1).2 == 1) && decide (-4096 ≤ (ivG m 2 1).1) && decide ((ivG m 2 1).1 ≤ 4096) && ((ivG m 2 2).2 == 1) && decide (-4096 ≤ (ivG m 2 2).1) && decide ((ivG m 2 2).1 ≤ 4096)) = true) : Whole m := by
  simp only [Bool.and_eq_true, beq_iff_eq, decide_eq_true_eq] at h
  refine ⟨by omega, fun i k hi hk => ?_⟩
  have h3 : ∀ j, j < 3 → j = 0 ∨ j = 1 ∨ j = 2 := fun j hj => by omega
  rcases h3 i hi with rfl | rfl | rfl <;> rcases h3 k hk with rfl | rfl | rfl <;> omega
/-- A picture of its own, of n samples. -/
def PicN (w w' : World) (v : Value) (q : Pic) (n : Nat) : Prop := ∃ A c, v = .agg #[.string q.nm, .int .i64 q.w, .int .i64 q.h, .slice A n c] ∧ RdS (fun b => w.heap.size ≤ b ∧ b < w'.heap.size) w' A (q.s.map (.float .f32))
def PicE (w w' : World) (v : Value) (q : Pic) (n : Nat) : Prop := ∃ A c, v = .tuple #[.agg #[.string q.nm, .int .i64 q.w, .int .i64 q.h, .slice A n c], .int .i64 0] ∧ RdS (fun b => w.heap.size ≤ b ∧ b < w'.heap.size) w' A (q.s.map (.float .f32))
theorem pbpic_as {p : Pic} {A : Option Addr} {c n : Nat} {w : World} (hn : p.s.length = n) (h6 : n ≤ 1000000) (h0 : 0 < n) (hA : A = none → n = 0 ∧ c = 0) (hr : Rd w A (p.s.map (.float .f32))) : Calls Tryd.prog 10 #[.agg #[.string p.nm, .int .i64 p.w, .int .i64 p.h, .slice A n c]] w fun r w' => ∃ v, r = .returned v ∧ Below w.heap.size w w' ∧ PicN w w' v p n := by
  subst hn
  refine (bpic_c p A c h6 h0 hA w hr).mono fun r w' ⟨v, h1, h2, A', c', h3, h4, _⟩ => ⟨v, h1, h2, A', c', h3, h4⟩
theorem plumN_as {x y z q : Pic} {ax ay az : Addr} {cx cy cz n : Nat} {wa wb wc : Int} {w : World} (ht : ThOk x y z) (hw : WtOk wa wb wc) (hx : x.s.length = n) (hy : y.s.length = n) (hz : z.s.length = n) (h6 : n ≤ 1000000) (hq : luP x y z wa wb wc = q) (hrx : Rd w (some ax) (x.s.map (.float .f32))) (hry : Rd w (some ay) (y.s.map (.float .f32))) (hrz : Rd w (some az) (z.s.map (.float .f32))) : Calls Tryd.prog 9 #[.agg #[.string x.nm, .int .i64 x.w, .int .i64 x.h, .slice (some ax) n cx, .string y.nm, .int .i64 y.w, .int .i64 y.h, .slice (some ay) n cy, .string z.nm, .int .i64 z.w, .int .i64 z.h, .slice (some az) n cz], .agg #[.int .i64 wa, .int .i64 wb, .int .i64 wc]] w fun r w' => ∃ v, r = .returned v ∧ Below w.heap.size w w' ∧ PicE w w' v q n := by
  have hl : q.s.length = n := by rw [← hq, luP_len3, hx]
  refine (plum_as (cx := cx) (cy := cy) (cz := cz) ht hw (by omega) (by omega) hx h6 hrx hry hrz).mono fun r w' ⟨v, h1, h2, A', c', h3, h4⟩ => ⟨v, h1, h2, A', c', ?_, ?_⟩
  · rw [h3, hq, hl]
  · rw [← hq]; exact h4
/-- Samples up to 1. -/
def Sm16 (s : List Nat) (k : Nat) : Prop := ∀ j, j < k → -16 ≤ lvl (gB s j) ∧ lvl (gB s j) ≤ 16
theorem Sm16.step {s : List Nat} {k : Nat} (h : Sm16 s k) (h1 : ¬ 16 < lvl (gB s k)) (h2 : ¬ lvl (gB s k) < -16) : Sm16 s (k + 1) := fun j hj => by
  rcases Nat.lt_succ_iff_lt_or_eq.1 hj with h3 | rfl
  · exact h j h3
  · omega

set_option maxHeartbeats 400000 in
/-- genlocktop.TopBoomPrimaries -/
theorem lPrimN_c (z0 z1 z2 z3 z4 z5 z6 z7 z8 z9 z10 z11 z12 z13 z14 z15 z16 z17 w0 w1 : Int) (x y z : Pic) (Ax Ay Az : Option Addr) (cx cy cz : Nat) (hnx : x.nm.size ≤ maxLen) (hny : y.nm.size ≤ maxLen) (hnz : z.nm.size ≤ maxLen) (hsx : x.s.length ≤ maxLen) (hsy : y.s.length ≤ maxLen) (hsz : z.s.length ≤ maxLen) (hno : ¬ (thE x y z = 0 ∧ x.s.length ≤ 12)) (w : World) (hrx : Rd w Ax (x.s.map (.float .f32))) (hry : Rd w Ay (y.s.map (.float .f32))) (hrz : Rd w Az (z.s.map (.float .f32))) : Calls Tryd.prog 3 #[.agg #[.int .i8 z0, .int .i8 z1, .int .i8 z2, .int .i8 z3, .int .i8 z4, .int .i8 z5, .int .i8 z6, .int .i8 z7, .int .i8 z8, .int .i8 z9, .int .i8 z10, .int .i8 z11, .int .i8 z12, .int .i8 z13, .int .i8 z14, .int .i8 z15, .int .i8 z16, .int .i8 z17], .agg #[.string x.nm, .int .i64 x.w, .int .i64 x.h, .slice Ax x.s.length cx, .string y.nm, .int .i64 y.w, .int .i64 y.h, .slice Ay y.s.length cy, .string z.nm, .int .i64 z.w, .int .i64 z.h, .slice Az z.s.length cz], .agg #[.int .u8 w0, .int .u8 w1]] w fun r w' => r = .returned (.bool true) ∧ Below w.heap.size w w' := by
  refine calls_of (args := [.agg #[.int .i8 z0, .int .i8 z1, .int .i8 z2, .int .i8 z3, .int .i8 z4, .int .i8 z5, .int .i8 z6, .int .i8 z7, .int .i8 z8, .int .i8 z9, .int .i8 z10, .int .i8 z11, .int .i8 z12, .int .i8 z13, .int .i8 z14, .int .i8 z15, .int .i8 z16, .int .i8 z17], .agg #[.string x.nm, .int .i64 x.w, .int .i64 x.h, .slice Ax x.s.length cx, .string y.nm, .int .i64 y.w, .int .i64 y.h, .slice Ay y.s.length cy, .string z.nm, .int .i64 z.w, .int .i64 z.h, .slice Az z.s.length cz], .agg #[.int .u8 w0, .int .u8 w1]]) T_ok Tryd.func3 rfl Tryd.ntmps3 (Nat.le_of_ble_eq_true rfl) rfl ?_
  unfold maxLen at hsx
  by_cases hE : thE x y z = 0
  · have hl : 12 < x.s.length := by omega
    repeat' (first
 | (refine C_id ?_; first
 | refine C_seq ?_
 | refine C_region rfl ?_
 | refine C_ret0 ?_
 | (refine C_cond rfl obQ (fun h => ?_) (fun h => ?_) <;> (try simp only [Bool.or_eq_true, Bool.and_eq_true, Bool.or_eq_false_iff, Bool.and_eq_false_iff, decide_eq_true_eq, decide_eq_false_iff_not, beq_iff_eq, bne_iff_ne, beq_eq_false_iff_ne, bne_eq_false_iff_eq, ne_eq, Decidable.not_not, List.cons.injEq, and_true, Bool.not_eq_true', Bool.not_eq_false', Int.not_lt, Int.not_le] at h) <;> (try (exfalso; omega)) <;> (try (exfalso; simp at h; done)) <;> (try (exfalso; simp only [not_true_eq_false, false_or, or_false] at h; omega)) <;> (try contradiction))
     )
 | (refine S_id ?_; first
 | ((with_reducible (first | refine S_falseN ?_ ?_ | refine S_falseB ?_ ?_ | refine S_falseL ?_ ?_ | refine S_falseD ?_ ?_ | refine S_falseE ?_ ?_)); · (first | rfl | exact bne_self_eq_false _ | assumption | omega | exact decide_eq_false (by omega) | (simp only [bne_eq_false_iff_eq]; first | assumption | omega) | (rw [bne_eq_false_iff_eq]; first | omega | (dsimp only; omega)) | (rw [beq_eq_false_iff_ne]; omega)))
 | refine S_unG rfl rfl rfl rfl ?_
 | refine S_nil ?_
 | refine S_runN rfl rfl obQ obQ ?_
 | refine S_box (fun bb => ⟨_, _, rfl, obQ, ?_⟩)
 | refine S_call (f := 4) rfl obQ (by kernel_rfl) (fun w hw => pth_as hnx hny hnz (by unfold maxLen; omega) hsy hsz hE (hw.rdm hrx.toS memQ) (hw.rdm hry.toS memQ) (hw.rdm hrz.toS memQ)) ?_
 | refine S_call (f := 5) rfl obQ (by kernel_rfl) (fun w hw => bshown_c w) ?_
     )
 | (refine G_id ?_; first
 | refine G_then ?_
 | refine G_thenR ?_
 | refine G_ret rfl obQ (fun w hw => ⟨?_, hw.below⟩)
     )
     )
    all_goals rfl
  · obtain ⟨e, he⟩ : ∃ e, thE x y z = e := ⟨_, rfl⟩
    rw [he] at hE
    repeat' (first
 | (refine C_id ?_; first
 | refine C_seq ?_
 | refine C_region rfl ?_
 | refine C_ret0 ?_
 | refine C_condT rfl obQ ?_
     )
 | (refine S_id ?_; first
 | ((with_reducible (first | refine S_trueE ?_ ?_ | refine S_trueB ?_ ?_ | refine S_trueL ?_ ?_ | refine S_trueD ?_ ?_ | refine S_trueN ?_ ?_)); · (first | exact beq_self_eq_true _ | rfl | omega | exact decide_eq_true (by omega) | (simp only [bne_iff_ne, ne_eq]; assumption) | (rw [beq_iff_eq]; omega)))
 | refine S_offG (.v (.bool false)) rfl rfl rfl rfl rfl ?_
 | ((with_reducible refine S_trueO ?_ ?_); · (first | rfl | exact bne_iff_ne.2 (by assumption)))
 | refine S_nil ?_
 | refine S_runN rfl rfl obQ obQ ?_
 | refine S_box (fun bb => ⟨_, _, rfl, obQ, ?_⟩)
 | refine S_call (f := 4) rfl obQ (by kernel_rfl) (fun w hw => pth_as hnx hny hnz (by unfold maxLen; omega) hsy hsz he (hw.rdm hrx.toS memQ) (hw.rdm hry.toS memQ) (hw.rdm hrz.toS memQ)) ?_
 | refine S_call (f := 5) rfl obQ (by kernel_rfl) (fun w hw => bshown_c w) ?_
     )
 | (refine G_id ?_; first
 | refine G_then ?_
 | refine G_thenR ?_
 | refine G_ret rfl obQ (fun w hw => ⟨?_, hw.below⟩)
     )
     )
    all_goals rfl

set_option maxHeartbeats 4000000 in
/-- genlocktop.TopBoomPrimaries -/
theorem lPrimD_c (ma mb : Mat) (hma : M9 ma) (hmb : M9 mb) (z0 z1 z2 z3 z4 z5 z6 z7 z8 z9 z10 z11 z12 z13 z14 z15 z16 z17 : Int) (hz0 : Z9 z0 ma.a) (hz1 : Z9 z1 ma.b) (hz2 : Z9 z2 ma.c) (hz3 : Z9 z3 ma.d) (hz4 : Z9 z4 ma.e) (hz5 : Z9 z5 ma.f) (hz6 : Z9 z6 ma.g) (hz7 : Z9 z7 ma.h) (hz8 : Z9 z8 ma.i) (hz9 : Z9 z9 mb.a) (hz10 : Z9 z10 mb.b) (hz11 : Z9 z11 mb.c) (hz12 : Z9 z12 mb.d) (hz13 : Z9 z13 mb.e) (hz14 : Z9 z14 mb.f) (hz15 : Z9 z15 mb.g) (hz16 : Z9 z16 mb.h) (hz17 : Z9 z17 mb.i) (w0 w1 : Nat) (hw0 : w0 ≤ 255) (hw1 : w1 ≤ 255) (x y z : Pic) (ax ay az : Addr) (cx cy cz n : Nat) (ht : ThOk x y z) (hE : thE x y z = 0) (hx : x.s.length = n) (hy : y.s.length = n) (hz : z.s.length = n) (hn : n ≤ 12) (h0 : 0 < n) (hnx : x.nm.size ≤ maxLen) (hny : y.nm.size ≤ maxLen) (hnz : z.nm.size ≤ maxLen) (w : World) (hrx : Rd w (some ax) (x.s.map (.float .f32))) (hry : Rd w (some ay) (y.s.map (.float .f32))) (hrz : Rd w (some az) (z.s.map (.float .f32))) (hO : Ot w) : Calls Tryd.prog 3 #[.agg #[.int .i8 z0, .int .i8 z1, .int .i8 z2, .int .i8 z3, .int .i8 z4, .int .i8 z5, .int .i8 z6, .int .i8 z7, .int .i8 z8, .int .i8 z9, .int .i8 z10, .int .i8 z11, .int .i8 z12, .int .i8 z13, .int .i8 z14, .int .i8 z15, .int .i8 z16, .int .i8 z17], .agg #[.string x.nm, .int .i64 x.w, .int .i64 x.h, .slice (some ax) n cx, .string y.nm, .int .i64 y.w, .int .i64 y.h, .slice (some ay) n cy, .string z.nm, .int .i64 z.w, .int .i64 z.h, .slice (some az) n cz], .agg #[.int .u8 ((w0 : Nat) : Int), .int .u8 ((w1 : Nat) : Int)]] w fun r w' => r = .returned (.bool true) ∧ Below w.heap.size w w' := by
  refine calls_of (args := [.agg #[.int .i8 z0, .int .i8 z1, .int .i8 z2, .int .i8 z3, .int .i8 z4, .int .i8 z5, .int .i8 z6, .int .i8 z7, .int .i8 z8, .int .i8 z9, .int .i8 z10, .int .i8 z11, .int .i8 z12, .int .i8 z13, .int .i8 z14, .int .i8 z15, .int .i8 z16, .int .i8 z17], .agg #[.string x.nm, .int .i64 x.w, .int .i64 x.h, .slice (some ax) n cx, .string y.nm, .int .i64 y.w, .int .i64 y.h, .slice (some ay) n cy, .string z.nm, .int .i64 z.w, .int .i64 z.h, .slice (some az) n cz], .agg #[.int .u8 ((w0 : Nat) : Int), .int .u8 ((w1 : Nat) : Int)]]) T_ok Tryd.func3 rfl Tryd.ntmps3 (Nat.le_of_ble_eq_true rfl) rfl ?_
  repeat' (first
 | (refine C_id ?_; first
 | refine C_seq ?_
 | refine C_regionNe 1 rfl rfl ?_
 )
 | (refine S_id ?_; first
 | refine S_nil ?_
 | refine S_run rfl rfl obQ obQ ?_
 | refine S_box (fun b => ⟨_, _, rfl, obQ, ?_⟩)
 )
 | (refine G_id ?_; first
 | refine G_then ?_
 )
 )
  obtain ⟨b5, rfl⟩ : ∃ t, t = b := ⟨b, rfl⟩
  obtain ⟨b4, rfl⟩ : ∃ t, t = b := ⟨b, rfl⟩
  obtain ⟨b3, rfl⟩ : ∃ t, t = b := ⟨b, rfl⟩
  repeat' (first
 | (refine C_id ?_; first
 | refine C_seq ?_
 | refine C_region rfl ?_
 | refine C_block ?_
 | refine C_skip ?_
 | refine C_condF rfl obQ ?_
   )
 | (refine S_id ?_; first
 | ((with_reducible (first | refine S_falseN ?_ ?_ | refine S_falseB ?_ ?_ | refine S_falseL ?_ ?_ | refine S_falseD ?_ ?_ | refine S_falseE ?_ ?_)); · (first | rfl | exact bne_self_eq_false _ | assumption | omega | exact decide_eq_false (by omega) | (simp only [bne_eq_false_iff_eq]; first | assumption | omega) | (rw [bne_eq_false_iff_eq]; first | omega | (dsimp only; omega)) | (rw [beq_eq_false_iff_ne]; omega)))
 | ((with_reducible refine S_falseO ?_ ?_ ?_); (· rfl); (· first | rfl | (first | rfl | exact bne_self_eq_false _ | assumption | omega | exact decide_eq_false (by omega) | (simp only [bne_eq_false_iff_eq]; first | assumption | omega) | (rw [bne_eq_false_iff_eq]; first | omega | (dsimp only; omega)) | (rw [beq_eq_false_iff_ne]; omega))))
 | refine S_unG rfl rfl rfl rfl ?_
 | refine S_nil ?_
 | refine S_runN rfl rfl obQ obQ ?_
 | refine S_call (f := 4) rfl obQ (by kernel_rfl) (fun w hw => pthn_as hx hy hz hn hnx hny hnz hE (hw.rdm hrx.toS memQ) (hw.rdm hry.toS memQ) (hw.rdm hrz.toS memQ)) ?_
   )
 | (refine G_id ?_; first
 | refine G_then ?_
   )
   )
  refine C_rounds 3 ?_
  repeat' (first
 | (refine C_id ?_; first
 | refine C_seq ?_
 | refine C_region rfl ?_
 | refine C_block ?_
 | refine C_skip ?_
 | refine C_condT rfl obQ ?_
   )
 | (refine S_id ?_; first
 | ((with_reducible (first | refine S_trueE ?_ ?_ | refine S_trueB ?_ ?_ | refine S_trueL ?_ ?_ | refine S_trueD ?_ ?_ | refine S_trueN ?_ ?_)); · (first | exact beq_self_eq_true _ | rfl | omega | exact decide_eq_true (by omega) | (simp only [bne_iff_ne, ne_eq]; assumption) | (rw [beq_iff_eq]; omega)))
 | refine S_nil ?_
 | refine S_runN rfl rfl obQ obQ ?_
 | refine S_box (fun bk => ⟨_, _, rfl, obQ, ?_⟩)
   )
 | (refine G_id ?_; first
 | refine G_then ?_
   )
   )
  refine C_loopS (fun k : Nat => ⟨[(3, .s (.p b3 0 0)), (4, .s (.p b4 1 0)), (5, .s (.p b5 2 0)), (51, .s (.v (.agg #[.string x.nm, .int .i64 x.w, .int .i64 x.h, .slice (some ax) n cx, .string y.nm, .int .i64 y.w, .int .i64 y.h, .slice (some ay) n cy, .string z.nm, .int .i64 z.w, .int .i64 z.h, .slice (some az) n cz]))), (52, .s (.v (.int .i64 0))), (56, .s (.v (.slice (some ax) n cx))), (57, .s (.v (.int .i64 ((n : Nat) : Int)))), (58, .s (.v (.int .i64 ((k : Nat) : Int))))], [⟨b3, 25, [.v (.int .i8 z0), .v (.int .i8 z1), .v (.int .i8 z2), .v (.int .i8 z3), .v (.int .i8 z4), .v (.int .i8 z5), .v (.int .i8 z6), .v (.int .i8 z7), .v (.int .i8 z8), .v (.int .i8 z9), .v (.int .i8 z10), .v (.int .i8 z11), .v (.int .i8 z12), .v (.int .i8 z13), .v (.int .i8 z14), .v (.int .i8 z15), .v (.int .i8 z16), .v (.int .i8 z17)]⟩, ⟨b4, 29, [.v (.string x.nm), .v (.int .i64 x.w), .v (.int .i64 x.h), .v (.slice (some ax) n cx), .v (.string y.nm), .v (.int .i64 y.w), .v (.int .i64 y.h), .v (.slice (some ay) n cy), .v (.string z.nm), .v (.int .i64 z.w), .v (.int .i64 z.h), .v (.slice (some az) n cz)]⟩, ⟨b5, 30, [.v (.int .u8 ((w0 : Nat) : Int)), .v (.int .u8 ((w1 : Nat) : Int))]⟩], []⟩) (fun k => k ≤ n ∧ Sm16 x.s k) (fun k => n - k) 0 ⟨Nat.zero_le _, fun j hj => absurd hj (Nat.not_lt_zero _)⟩ ?_ (fun k hk => ?_)
  · exact ⟨⟨_, rfl, obQ⟩, ⟨_, rfl⟩, rfl, psQ⟩
  obtain ⟨hk, hsx⟩ := hk
  by_cases hlt : k < n
  · have hsm : Smp (gB x.s k) := ht.px.s _ (gB_mem (by omega))
    by_cases hgt : 16 < lvl (gB x.s k)
    · repeat' (first
 | (refine C_id ?_; first
 | refine C_seq ?_
 | refine C_region rfl ?_
 | refine C_block ?_
 | refine C_skip ?_
 | refine C_ret0 ?_
 | refine C_condT rfl obQ ?_
       )
 | (refine S_id ?_; first
 | ((with_reducible (first | refine S_falseN ?_ ?_ | refine S_falseB ?_ ?_ | refine S_falseL ?_ ?_ | refine S_falseD ?_ ?_ | refine S_falseE ?_ ?_)); · (first | rfl | exact bne_self_eq_false _ | assumption | omega | exact decide_eq_false (by omega) | (simp only [bne_eq_false_iff_eq]; first | assumption | omega) | (rw [bne_eq_false_iff_eq]; first | omega | (dsimp only; omega)) | (rw [beq_eq_false_iff_ne]; omega)))
 | ((with_reducible (first | refine S_trueE ?_ ?_ | refine S_trueB ?_ ?_ | refine S_trueL ?_ ?_ | refine S_trueD ?_ ?_ | refine S_trueN ?_ ?_)); · (first | exact beq_self_eq_true _ | rfl | omega | exact decide_eq_true (by omega) | (simp only [bne_iff_ne, ne_eq]; assumption) | (rw [beq_iff_eq]; omega)))
 | refine S_unG rfl rfl rfl rfl ?_
 | refine S_load rfl obQ rfl [.float .f32 (gB x.s k)] (.past (w, fun b => b < w.heap.size) memQ _ _ hrx.toS _ _ rfl rfl (gB_idx (by omega))) rfl (.inr ⟨rfl, rfl⟩) ?_
 | refine S_pure (binX_pure rfl obQ (fun w => gt_one hsm _ _ _ w)) ?_
 | refine S_pure (binX_pure rfl obQ (fun w => lt_mone hsm _ _ _ w)) ?_
 | refine S_offG (.v (.bool false)) rfl rfl rfl rfl rfl ?_
 | ((with_reducible refine S_trueO ?_ ?_); · (first | rfl | exact bne_iff_ne.2 (by assumption)))
 | refine S_nil ?_
 | refine S_runN rfl rfl obQ obQ ?_
 | refine S_call (f := 5) rfl obQ (by kernel_rfl) (fun w hw => bshown_c w) ?_
       )
 | (refine G_id ?_; first
 | refine G_then ?_
 | refine G_blockR ?_
 | refine G_thenR ?_
 | refine G_ret rfl obQ (fun w hw => ⟨?_, hw.below⟩)
       )
       )
      all_goals rfl
    · by_cases hls : lvl (gB x.s k) < -16
      · repeat' (first
 | (refine C_id ?_; first
 | refine C_seq ?_
 | refine C_region rfl ?_
 | refine C_block ?_
 | refine C_skip ?_
 | refine C_ret0 ?_
 | refine C_condT rfl obQ ?_
         )
 | (refine S_id ?_; first
 | ((with_reducible (first | refine S_falseN ?_ ?_ | refine S_falseB ?_ ?_ | refine S_falseL ?_ ?_ | refine S_falseD ?_ ?_ | refine S_falseE ?_ ?_)); · (first | rfl | exact bne_self_eq_false _ | assumption | omega | exact decide_eq_false (by omega) | (simp only [bne_eq_false_iff_eq]; first | assumption | omega) | (rw [bne_eq_false_iff_eq]; first | omega | (dsimp only; omega)) | (rw [beq_eq_false_iff_ne]; omega)))
 | ((with_reducible (first | refine S_trueE ?_ ?_ | refine S_trueB ?_ ?_ | refine S_trueL ?_ ?_ | refine S_trueD ?_ ?_ | refine S_trueN ?_ ?_)); · (first | exact beq_self_eq_true _ | rfl | omega | exact decide_eq_true (by omega) | (simp only [bne_iff_ne, ne_eq]; assumption) | (rw [beq_iff_eq]; omega)))
 | refine S_unG rfl rfl rfl rfl ?_
 | refine S_load rfl obQ rfl [.float .f32 (gB x.s k)] (.past (w, fun b => b < w.heap.size) memQ _ _ hrx.toS _ _ rfl rfl (gB_idx (by omega))) rfl (.inr ⟨rfl, rfl⟩) ?_
 | refine S_pure (binX_pure rfl obQ (fun w => gt_one hsm _ _ _ w)) ?_
 | refine S_pure (binX_pure rfl obQ (fun w => lt_mone hsm _ _ _ w)) ?_
 | refine S_offG (.v (.bool false)) rfl rfl rfl rfl rfl ?_
 | ((with_reducible refine S_trueO ?_ ?_); · (first | rfl | exact bne_iff_ne.2 (by assumption)))
 | refine S_nil ?_
 | refine S_runN rfl rfl obQ obQ ?_
 | refine S_call (f := 5) rfl obQ (by kernel_rfl) (fun w hw => bshown_c w) ?_
         )
 | (refine G_id ?_; first
 | refine G_then ?_
 | refine G_blockR ?_
 | refine G_thenR ?_
 | refine G_ret rfl obQ (fun w hw => ⟨?_, hw.below⟩)
         )
         )
        all_goals rfl
      · repeat' (first
 | (refine C_id ?_; first
 | refine C_seq ?_
 | refine C_region rfl ?_
 | refine C_block ?_
 | refine C_skip ?_
 | refine C_condT rfl obQ ?_
 | refine C_condF rfl obQ ?_
         )
 | (refine S_id ?_; first
 | ((with_reducible (first | refine S_falseN ?_ ?_ | refine S_falseB ?_ ?_ | refine S_falseL ?_ ?_ | refine S_falseD ?_ ?_ | refine S_falseE ?_ ?_)); · (first | rfl | exact bne_self_eq_false _ | assumption | omega | exact decide_eq_false (by omega) | (simp only [bne_eq_false_iff_eq]; first | assumption | omega) | (rw [bne_eq_false_iff_eq]; first | omega | (dsimp only; omega)) | (rw [beq_eq_false_iff_ne]; omega)))
 | ((with_reducible refine S_falseO ?_ ?_ ?_); (· rfl); (· first | rfl | (first | rfl | exact bne_self_eq_false _ | assumption | omega | exact decide_eq_false (by omega) | (simp only [bne_eq_false_iff_eq]; first | assumption | omega) | (rw [bne_eq_false_iff_eq]; first | omega | (dsimp only; omega)) | (rw [beq_eq_false_iff_ne]; omega))))
 | ((with_reducible (first | refine S_trueE ?_ ?_ | refine S_trueB ?_ ?_ | refine S_trueL ?_ ?_ | refine S_trueD ?_ ?_ | refine S_trueN ?_ ?_)); · (first | exact beq_self_eq_true _ | rfl | omega | exact decide_eq_true (by omega) | (simp only [bne_iff_ne, ne_eq]; assumption) | (rw [beq_iff_eq]; omega)))
 | refine S_unG rfl rfl rfl rfl ?_
 | refine S_load rfl obQ rfl [.float .f32 (gB x.s k)] (.past (w, fun b => b < w.heap.size) memQ _ _ hrx.toS _ _ rfl rfl (gB_idx (by omega))) rfl (.inr ⟨rfl, rfl⟩) ?_
 | refine S_pure (binX_pure rfl obQ (fun w => gt_one hsm _ _ _ w)) ?_
 | refine S_pure (binX_pure rfl obQ (fun w => lt_mone hsm _ _ _ w)) ?_
 | refine S_nil ?_
 | refine S_runN rfl rfl obQ obQ ?_
         )
 | (refine G_id ?_; first
 | refine G_loop (k + 1) ⟨by omega, hsx.step hgt hls⟩ (by show n - (k + 1) < n - k; omega) ⟨⟨_, rfl, obQ⟩, ⟨_, rfl⟩, rfl, psQ⟩
 | refine G_then ?_
 | refine G_block ?_
         )
         )
  obtain rfl : n = k := by omega
  repeat' (first
 | (refine C_id ?_; first
 | refine C_seq ?_
 | refine C_region rfl ?_
 | refine C_block ?_
 | refine C_skip ?_
 | refine C_exit ?_
 | refine C_condT rfl obQ ?_
 | refine C_condF rfl obQ ?_
   )
 | (refine S_id ?_; first
 | ((with_reducible (first | refine S_falseN ?_ ?_ | refine S_falseB ?_ ?_ | refine S_falseL ?_ ?_ | refine S_falseD ?_ ?_ | refine S_falseE ?_ ?_)); · (first | rfl | exact bne_self_eq_false _ | assumption | omega | exact decide_eq_false (by omega) | (simp only [bne_eq_false_iff_eq]; first | assumption | omega) | (rw [bne_eq_false_iff_eq]; first | omega | (dsimp only; omega)) | (rw [beq_eq_false_iff_ne]; omega)))
 | ((with_reducible (first | refine S_trueE ?_ ?_ | refine S_trueB ?_ ?_ | refine S_trueL ?_ ?_ | refine S_trueD ?_ ?_ | refine S_trueN ?_ ?_)); · (first | exact beq_self_eq_true _ | rfl | omega | exact decide_eq_true (by omega) | (simp only [bne_iff_ne, ne_eq]; assumption) | (rw [beq_iff_eq]; omega)))
 | refine S_nil ?_
 | refine S_runN rfl rfl obQ obQ ?_
 | refine S_box (fun bk => ⟨_, _, rfl, obQ, ?_⟩)
   )
 | (refine G_id ?_; first
 | refine G_rounds (C_trim [3, 4, 5, 51, 52] 3 rfl rfl ?_)
 | refine G_then ?_
 | refine G_block ?_
 | refine G_blockX ?_
 | refine G_thenX ?_
   )
   )
  refine C_loopS (fun k : Nat => ⟨[(3, .s (.p b3 0 0)), (4, .s (.p b4 1 0)), (5, .s (.p b5 2 0)), (51, .s (.v (.agg #[.string x.nm, .int .i64 x.w, .int .i64 x.h, .slice (some ax) n cx, .string y.nm, .int .i64 y.w, .int .i64 y.h, .slice (some ay) n cy, .string z.nm, .int .i64 z.w, .int .i64 z.h, .slice (some az) n cz]))), (52, .s (.v (.int .i64 1))), (56, .s (.v (.slice (some ay) n cy))), (57, .s (.v (.int .i64 ((n : Nat) : Int)))), (58, .s (.v (.int .i64 ((k : Nat) : Int))))], [⟨b3, 25, [.v (.int .i8 z0), .v (.int .i8 z1), .v (.int .i8 z2), .v (.int .i8 z3), .v (.int .i8 z4), .v (.int .i8 z5), .v (.int .i8 z6), .v (.int .i8 z7), .v (.int .i8 z8), .v (.int .i8 z9), .v (.int .i8 z10), .v (.int .i8 z11), .v (.int .i8 z12), .v (.int .i8 z13), .v (.int .i8 z14), .v (.int .i8 z15), .v (.int .i8 z16), .v (.int .i8 z17)]⟩, ⟨b4, 29, [.v (.string x.nm), .v (.int .i64 x.w), .v (.int .i64 x.h), .v (.slice (some ax) n cx), .v (.string y.nm), .v (.int .i64 y.w), .v (.int .i64 y.h), .v (.slice (some ay) n cy), .v (.string z.nm), .v (.int .i64 z.w), .v (.int .i64 z.h), .v (.slice (some az) n cz)]⟩, ⟨b5, 30, [.v (.int .u8 ((w0 : Nat) : Int)), .v (.int .u8 ((w1 : Nat) : Int))]⟩], []⟩) (fun k => k ≤ n ∧ Sm16 y.s k) (fun k => n - k) 0 ⟨Nat.zero_le _, fun j hj => absurd hj (Nat.not_lt_zero _)⟩ ?_ (fun k hk => ?_)
  · exact ⟨⟨_, rfl, obQ⟩, ⟨_, rfl⟩, rfl, psQ⟩
  obtain ⟨hk, hsy⟩ := hk
  by_cases hlt : k < n
  · have hsm : Smp (gB y.s k) := ht.py.s _ (gB_mem (by omega))
    by_cases hgt : 16 < lvl (gB y.s k)
    · repeat' (first
 | (refine C_id ?_; first
 | refine C_seq ?_
 | refine C_region rfl ?_
 | refine C_block ?_
 | refine C_skip ?_
 | refine C_ret0 ?_
 | refine C_condT rfl obQ ?_
       )
 | (refine S_id ?_; first
 | ((with_reducible (first | refine S_falseN ?_ ?_ | refine S_falseB ?_ ?_ | refine S_falseL ?_ ?_ | refine S_falseD ?_ ?_ | refine S_falseE ?_ ?_)); · (first | rfl | exact bne_self_eq_false _ | assumption | omega | exact decide_eq_false (by omega) | (simp only [bne_eq_false_iff_eq]; first | assumption | omega) | (rw [bne_eq_false_iff_eq]; first | omega | (dsimp only; omega)) | (rw [beq_eq_false_iff_ne]; omega)))
 | ((with_reducible (first | refine S_trueE ?_ ?_ | refine S_trueB ?_ ?_ | refine S_trueL ?_ ?_ | refine S_trueD ?_ ?_ | refine S_trueN ?_ ?_)); · (first | exact beq_self_eq_true _ | rfl | omega | exact decide_eq_true (by omega) | (simp only [bne_iff_ne, ne_eq]; assumption) | (rw [beq_iff_eq]; omega)))
 | refine S_unG rfl rfl rfl rfl ?_
 | refine S_load rfl obQ rfl [.float .f32 (gB y.s k)] (.past (w, fun b => b < w.heap.size) memQ _ _ hry.toS _ _ rfl rfl (gB_idx (by omega))) rfl (.inr ⟨rfl, rfl⟩) ?_
 | refine S_pure (binX_pure rfl obQ (fun w => gt_one hsm _ _ _ w)) ?_
 | refine S_pure (binX_pure rfl obQ (fun w => lt_mone hsm _ _ _ w)) ?_
 | refine S_offG (.v (.bool false)) rfl rfl rfl rfl rfl ?_
 | ((with_reducible refine S_trueO ?_ ?_); · (first | rfl | exact bne_iff_ne.2 (by assumption)))
 | refine S_nil ?_
 | refine S_runN rfl rfl obQ obQ ?_
 | refine S_call (f := 5) rfl obQ (by kernel_rfl) (fun w hw => bshown_c w) ?_
       )
 | (refine G_id ?_; first
 | refine G_then ?_
 | refine G_blockR ?_
 | refine G_thenR ?_
 | refine G_ret rfl obQ (fun w hw => ⟨?_, hw.below⟩)
       )
       )
      all_goals rfl
    · by_cases hls : lvl (gB y.s k) < -16
      · repeat' (first
 | (refine C_id ?_; first
 | refine C_seq ?_
 | refine C_region rfl ?_
 | refine C_block ?_
 | refine C_skip ?_
 | refine C_ret0 ?_
 | refine C_condT rfl obQ ?_
         )
 | (refine S_id ?_; first
 | ((with_reducible (first | refine S_falseN ?_ ?_ | refine S_falseB ?_ ?_ | refine S_falseL ?_ ?_ | refine S_falseD ?_ ?_ | refine S_falseE ?_ ?_)); · (first | rfl | exact bne_self_eq_false _ | assumption | omega | exact decide_eq_false (by omega) | (simp only [bne_eq_false_iff_eq]; first | assumption | omega) | (rw [bne_eq_false_iff_eq]; first | omega | (dsimp only; omega)) | (rw [beq_eq_false_iff_ne]; omega)))
 | ((with_reducible (first | refine S_trueE ?_ ?_ | refine S_trueB ?_ ?_ | refine S_trueL ?_ ?_ | refine S_trueD ?_ ?_ | refine S_trueN ?_ ?_)); · (first | exact beq_self_eq_true _ | rfl | omega | exact decide_eq_true (by omega) | (simp only [bne_iff_ne, ne_eq]; assumption) | (rw [beq_iff_eq]; omega)))
 | refine S_unG rfl rfl rfl rfl ?_
 | refine S_load rfl obQ rfl [.float .f32 (gB y.s k)] (.past (w, fun b => b < w.heap.size) memQ _ _ hry.toS _ _ rfl rfl (gB_idx (by omega))) rfl (.inr ⟨rfl, rfl⟩) ?_
 | refine S_pure (binX_pure rfl obQ (fun w => gt_one hsm _ _ _ w)) ?_
 | refine S_pure (binX_pure rfl obQ (fun w => lt_mone hsm _ _ _ w)) ?_
 | refine S_offG (.v (.bool false)) rfl rfl rfl rfl rfl ?_
 | ((with_reducible refine S_trueO ?_ ?_); · (first | rfl | exact bne_iff_ne.2 (by assumption)))
 | refine S_nil ?_
 | refine S_runN rfl rfl obQ obQ ?_
 | refine S_call (f := 5) rfl obQ (by kernel_rfl) (fun w hw => bshown_c w) ?_
         )
 | (refine G_id ?_; first
 | refine G_then ?_
 | refine G_blockR ?_
 | refine G_thenR ?_
 | refine G_ret rfl obQ (fun w hw => ⟨?_, hw.below⟩)
         )
         )
        all_goals rfl
      · repeat' (first
 | (refine C_id ?_; first
 | refine C_seq ?_
 | refine C_region rfl ?_
 | refine C_block ?_
 | refine C_skip ?_
 | refine C_condT rfl obQ ?_
 | refine C_condF rfl obQ ?_
         )
 | (refine S_id ?_; first
 | ((with_reducible (first | refine S_falseN ?_ ?_ | refine S_falseB ?_ ?_ | refine S_falseL ?_ ?_ | refine S_falseD ?_ ?_ | refine S_falseE ?_ ?_)); · (first | rfl | exact bne_self_eq_false _ | assumption | omega | exact decide_eq_false (by omega) | (simp only [bne_eq_false_iff_eq]; first | assumption | omega) | (rw [bne_eq_false_iff_eq]; first | omega | (dsimp only; omega)) | (rw [beq_eq_false_iff_ne]; omega)))
 | ((with_reducible refine S_falseO ?_ ?_ ?_); (· rfl); (· first | rfl | (first | rfl | exact bne_self_eq_false _ | assumption | omega | exact decide_eq_false (by omega) | (simp only [bne_eq_false_iff_eq]; first | assumption | omega) | (rw [bne_eq_false_iff_eq]; first | omega | (dsimp only; omega)) | (rw [beq_eq_false_iff_ne]; omega))))
 | ((with_reducible (first | refine S_trueE ?_ ?_ | refine S_trueB ?_ ?_ | refine S_trueL ?_ ?_ | refine S_trueD ?_ ?_ | refine S_trueN ?_ ?_)); · (first | exact beq_self_eq_true _ | rfl | omega | exact decide_eq_true (by omega) | (simp only [bne_iff_ne, ne_eq]; assumption) | (rw [beq_iff_eq]; omega)))
 | refine S_unG rfl rfl rfl rfl ?_
 | refine S_load rfl obQ rfl [.float .f32 (gB y.s k)] (.past (w, fun b => b < w.heap.size) memQ _ _ hry.toS _ _ rfl rfl (gB_idx (by omega))) rfl (.inr ⟨rfl, rfl⟩) ?_
 | refine S_pure (binX_pure rfl obQ (fun w => gt_one hsm _ _ _ w)) ?_
 | refine S_pure (binX_pure rfl obQ (fun w => lt_mone hsm _ _ _ w)) ?_
 | refine S_nil ?_
 | refine S_runN rfl rfl obQ obQ ?_
         )
 | (refine G_id ?_; first
 | refine G_loop (k + 1) ⟨by omega, hsy.step hgt hls⟩ (by show n - (k + 1) < n - k; omega) ⟨⟨_, rfl, obQ⟩, ⟨_, rfl⟩, rfl, psQ⟩
 | refine G_then ?_
 | refine G_block ?_
         )
         )
  obtain rfl : n = k := by omega
  repeat' (first
 | (refine C_id ?_; first
 | refine C_seq ?_
 | refine C_region rfl ?_
 | refine C_block ?_
 | refine C_skip ?_
 | refine C_exit ?_
 | refine C_condT rfl obQ ?_
 | refine C_condF rfl obQ ?_
   )
 | (refine S_id ?_; first
 | ((with_reducible (first | refine S_falseN ?_ ?_ | refine S_falseB ?_ ?_ | refine S_falseL ?_ ?_ | refine S_falseD ?_ ?_ | refine S_falseE ?_ ?_)); · (first | rfl | exact bne_self_eq_false _ | assumption | omega | exact decide_eq_false (by omega) | (simp only [bne_eq_false_iff_eq]; first | assumption | omega) | (rw [bne_eq_false_iff_eq]; first | omega | (dsimp only; omega)) | (rw [beq_eq_false_iff_ne]; omega)))
 | ((with_reducible (first | refine S_trueE ?_ ?_ | refine S_trueB ?_ ?_ | refine S_trueL ?_ ?_ | refine S_trueD ?_ ?_ | refine S_trueN ?_ ?_)); · (first | exact beq_self_eq_true _ | rfl | omega | exact decide_eq_true (by omega) | (simp only [bne_iff_ne, ne_eq]; assumption) | (rw [beq_iff_eq]; omega)))
 | refine S_nil ?_
 | refine S_runN rfl rfl obQ obQ ?_
 | refine S_box (fun bk => ⟨_, _, rfl, obQ, ?_⟩)
   )
 | (refine G_id ?_; first
 | refine G_rounds (C_trim [3, 4, 5, 51, 52] 3 rfl rfl ?_)
 | refine G_then ?_
 | refine G_block ?_
 | refine G_blockX ?_
 | refine G_thenX ?_
   )
   )
  refine C_loopS (fun k : Nat => ⟨[(3, .s (.p b3 0 0)), (4, .s (.p b4 1 0)), (5, .s (.p b5 2 0)), (51, .s (.v (.agg #[.string x.nm, .int .i64 x.w, .int .i64 x.h, .slice (some ax) n cx, .string y.nm, .int .i64 y.w, .int .i64 y.h, .slice (some ay) n cy, .string z.nm, .int .i64 z.w, .int .i64 z.h, .slice (some az) n cz]))), (52, .s (.v (.int .i64 2))), (56, .s (.v (.slice (some az) n cz))), (57, .s (.v (.int .i64 ((n : Nat) : Int)))), (58, .s (.v (.int .i64 ((k : Nat) : Int))))], [⟨b3, 25, [.v (.int .i8 z0), .v (.int .i8 z1), .v (.int .i8 z2), .v (.int .i8 z3), .v (.int .i8 z4), .v (.int .i8 z5), .v (.int .i8 z6), .v (.int .i8 z7), .v (.int .i8 z8), .v (.int .i8 z9), .v (.int .i8 z10), .v (.int .i8 z11), .v (.int .i8 z12), .v (.int .i8 z13), .v (.int .i8 z14), .v (.int .i8 z15), .v (.int .i8 z16), .v (.int .i8 z17)]⟩, ⟨b4, 29, [.v (.string x.nm), .v (.int .i64 x.w), .v (.int .i64 x.h), .v (.slice (some ax) n cx), .v (.string y.nm), .v (.int .i64 y.w), .v (.int .i64 y.h), .v (.slice (some ay) n cy), .v (.string z.nm), .v (.int .i64 z.w), .v (.int .i64 z.h), .v (.slice (some az) n cz)]⟩, ⟨b5, 30, [.v (.int .u8 ((w0 : Nat) : Int)), .v (.int .u8 ((w1 : Nat) : Int))]⟩], []⟩) (fun k => k ≤ n ∧ Sm16 z.s k) (fun k => n - k) 0 ⟨Nat.zero_le _, fun j hj => absurd hj (Nat.not_lt_zero _)⟩ ?_ (fun k hk => ?_)
  · exact ⟨⟨_, rfl, obQ⟩, ⟨_, rfl⟩, rfl, psQ⟩
  obtain ⟨hk, hsz⟩ := hk
  by_cases hlt : k < n
  · have hsm : Smp (gB z.s k) := ht.pz.s _ (gB_mem (by omega))
    by_cases hgt : 16 < lvl (gB z.s k)
    · repeat' (first
 | (refine C_id ?_; first
 | refine C_seq ?_
 | refine C_region rfl ?_
 | refine C_block ?_
 | refine C_skip ?_
 | refine C_ret0 ?_
 | refine C_condT rfl obQ ?_
       )
 | (refine S_id ?_; first
 | ((with_reducible (first | refine S_falseN ?_ ?_ | refine S_falseB ?_ ?_ | refine S_falseL ?_ ?_ | refine S_falseD ?_ ?_ | refine S_falseE ?_ ?_)); · (first | rfl | exact bne_self_eq_false _ | assumption | omega | exact decide_eq_false (by omega) | (simp only [bne_eq_false_iff_eq]; first | assumption | omega) | (rw [bne_eq_false_iff_eq]; first | omega | (dsimp only; omega)) | (rw [beq_eq_false_iff_ne]; omega)))
 | ((with_reducible (first | refine S_trueE ?_ ?_ | refine S_trueB ?_ ?_ | refine S_trueL ?_ ?_ | refine S_trueD ?_ ?_ | refine S_trueN ?_ ?_)); · (first | exact beq_self_eq_true _ | rfl | omega | exact decide_eq_true (by omega) | (simp only [bne_iff_ne, ne_eq]; assumption) | (rw [beq_iff_eq]; omega)))
 | refine S_unG rfl rfl rfl rfl ?_
 | refine S_load rfl obQ rfl [.float .f32 (gB z.s k)] (.past (w, fun b => b < w.heap.size) memQ _ _ hrz.toS _ _ rfl rfl (gB_idx (by omega))) rfl (.inr ⟨rfl, rfl⟩) ?_
 | refine S_pure (binX_pure rfl obQ (fun w => gt_one hsm _ _ _ w)) ?_
 | refine S_pure (binX_pure rfl obQ (fun w => lt_mone hsm _ _ _ w)) ?_
 | refine S_offG (.v (.bool false)) rfl rfl rfl rfl rfl ?_
 | ((with_reducible refine S_trueO ?_ ?_); · (first | rfl | exact bne_iff_ne.2 (by assumption)))
 | refine S_nil ?_
 | refine S_runN rfl rfl obQ obQ ?_
 | refine S_call (f := 5) rfl obQ (by kernel_rfl) (fun w hw => bshown_c w) ?_
       )
 | (refine G_id ?_; first
 | refine G_then ?_
 | refine G_blockR ?_
 | refine G_thenR ?_
 | refine G_ret rfl obQ (fun w hw => ⟨?_, hw.below⟩)
       )
       )
      all_goals rfl
    · by_cases hls : lvl (gB z.s k) < -16
      · repeat' (first
 | (refine C_id ?_; first
 | refine C_seq ?_
 | refine C_region rfl ?_
 | refine C_block ?_
 | refine C_skip ?_
 | refine C_ret0 ?_
 | refine C_condT rfl obQ ?_
         )
 | (refine S_id ?_; first
 | ((with_reducible (first | refine S_falseN ?_ ?_ | refine S_falseB ?_ ?_ | refine S_falseL ?_ ?_ | refine S_falseD ?_ ?_ | refine S_falseE ?_ ?_)); · (first | rfl | exact bne_self_eq_false _ | assumption | omega | exact decide_eq_false (by omega) | (simp only [bne_eq_false_iff_eq]; first | assumption | omega) | (rw [bne_eq_false_iff_eq]; first | omega | (dsimp only; omega)) | (rw [beq_eq_false_iff_ne]; omega)))
 | ((with_reducible (first | refine S_trueE ?_ ?_ | refine S_trueB ?_ ?_ | refine S_trueL ?_ ?_ | refine S_trueD ?_ ?_ | refine S_trueN ?_ ?_)); · (first | exact beq_self_eq_true _ | rfl | omega | exact decide_eq_true (by omega) | (simp only [bne_iff_ne, ne_eq]; assumption) | (rw [beq_iff_eq]; omega)))
 | refine S_unG rfl rfl rfl rfl ?_
 | refine S_load rfl obQ rfl [.float .f32 (gB z.s k)] (.past (w, fun b => b < w.heap.size) memQ _ _ hrz.toS _ _ rfl rfl (gB_idx (by omega))) rfl (.inr ⟨rfl, rfl⟩) ?_
 | refine S_pure (binX_pure rfl obQ (fun w => gt_one hsm _ _ _ w)) ?_
 | refine S_pure (binX_pure rfl obQ (fun w => lt_mone hsm _ _ _ w)) ?_
 | refine S_offG (.v (.bool false)) rfl rfl rfl rfl rfl ?_
 | ((with_reducible refine S_trueO ?_ ?_); · (first | rfl | exact bne_iff_ne.2 (by assumption)))
 | refine S_nil ?_
 | refine S_runN rfl rfl obQ obQ ?_
 | refine S_call (f := 5) rfl obQ (by kernel_rfl) (fun w hw => bshown_c w) ?_
         )
 | (refine G_id ?_; first
 | refine G_then ?_
 | refine G_blockR ?_
 | refine G_thenR ?_
 | refine G_ret rfl obQ (fun w hw => ⟨?_, hw.below⟩)
         )
         )
        all_goals rfl
      · repeat' (first
 | (refine C_id ?_; first
 | refine C_seq ?_
 | refine C_region rfl ?_
 | refine C_block ?_
 | refine C_skip ?_
 | refine C_condT rfl obQ ?_
 | refine C_condF rfl obQ ?_
         )
 | (refine S_id ?_; first
 | ((with_reducible (first | refine S_falseN ?_ ?_ | refine S_falseB ?_ ?_ | refine S_falseL ?_ ?_ | refine S_falseD ?_ ?_ | refine S_falseE ?_ ?_)); · (first | rfl | exact bne_self_eq_false _ | assumption | omega | exact decide_eq_false (by omega) | (simp only [bne_eq_false_iff_eq]; first | assumption | omega) | (rw [bne_eq_false_iff_eq]; first | omega | (dsimp only; omega)) | (rw [beq_eq_false_iff_ne]; omega)))
 | ((with_reducible refine S_falseO ?_ ?_ ?_); (· rfl); (· first | rfl | (first | rfl | exact bne_self_eq_false _ | assumption | omega | exact decide_eq_false (by omega) | (simp only [bne_eq_false_iff_eq]; first | assumption | omega) | (rw [bne_eq_false_iff_eq]; first | omega | (dsimp only; omega)) | (rw [beq_eq_false_iff_ne]; omega))))
 | ((with_reducible (first | refine S_trueE ?_ ?_ | refine S_trueB ?_ ?_ | refine S_trueL ?_ ?_ | refine S_trueD ?_ ?_ | refine S_trueN ?_ ?_)); · (first | exact beq_self_eq_true _ | rfl | omega | exact decide_eq_true (by omega) | (simp only [bne_iff_ne, ne_eq]; assumption) | (rw [beq_iff_eq]; omega)))
 | refine S_unG rfl rfl rfl rfl ?_
 | refine S_load rfl obQ rfl [.float .f32 (gB z.s k)] (.past (w, fun b => b < w.heap.size) memQ _ _ hrz.toS _ _ rfl rfl (gB_idx (by omega))) rfl (.inr ⟨rfl, rfl⟩) ?_
 | refine S_pure (binX_pure rfl obQ (fun w => gt_one hsm _ _ _ w)) ?_
 | refine S_pure (binX_pure rfl obQ (fun w => lt_mone hsm _ _ _ w)) ?_
 | refine S_nil ?_
 | refine S_runN rfl rfl obQ obQ ?_
         )
 | (refine G_id ?_; first
 | refine G_loop (k + 1) ⟨by omega, hsz.step hgt hls⟩ (by show n - (k + 1) < n - k; omega) ⟨⟨_, rfl, obQ⟩, ⟨_, rfl⟩, rfl, psQ⟩
 | refine G_then ?_
 | refine G_block ?_
         )
         )
  obtain rfl : n = k := by omega
  repeat' (first
 | (refine C_id ?_; first
 | refine C_seq ?_
 | refine C_regionNe 14 rfl rfl ?_
 | refine C_exit ?_
 | refine C_condF rfl obQ ?_
   )
 | (refine S_id ?_; first
 | ((with_reducible (first | refine S_falseN ?_ ?_ | refine S_falseB ?_ ?_ | refine S_falseL ?_ ?_ | refine S_falseD ?_ ?_ | refine S_falseE ?_ ?_)); · (first | rfl | exact bne_self_eq_false _ | assumption | omega | exact decide_eq_false (by omega) | (simp only [bne_eq_false_iff_eq]; first | assumption | omega) | (rw [bne_eq_false_iff_eq]; first | omega | (dsimp only; omega)) | (rw [beq_eq_false_iff_ne]; omega)))
 | refine S_nil ?_
 | refine S_runN rfl rfl obQ obQ ?_
 | refine S_box (fun b11 => ⟨_, _, rfl, obQ, ?_⟩)
   )
 | (refine G_id ?_; first
 | refine G_rounds (C_trim [3, 4, 5, 51, 52] 3 rfl rfl ?_)
 | refine G_then ?_
 | refine G_block ?_
 | refine G_blockX ?_
 | refine G_thenX ?_
   )
   )
  refine C_region rfl ?_
  refine S_run rfl rfl obQ obQ ?_
  refine S_nil ?_
  refine G_then ?_
  try refine C_seq ?_
  refine C_cut (fun _ : Unit => ([(w, fun b => b < w.heap.size)], (⟨[(4, .s (.p b4 1 0)), (5, .s (.p b5 2 0)), (11, .s (.p b11 3 0))], [⟨b3, 25, [.v (.int .i8 z0), .v (.int .i8 z1), .v (.int .i8 z2), .v (.int .i8 z3), .v (.int .i8 z4), .v (.int .i8 z5), .v (.int .i8 z6), .v (.int .i8 z7), .v (.int .i8 z8), .v (.int .i8 z9), .v (.int .i8 z10), .v (.int .i8 z11), .v (.int .i8 z12), .v (.int .i8 z13), .v (.int .i8 z14), .v (.int .i8 z15), .v (.int .i8 z16), .v (.int .i8 z17)]⟩, ⟨b4, 29, [.v (.string x.nm), .v (.int .i64 x.w), .v (.int .i64 x.h), .v (.slice (some ax) n cx), .v (.string y.nm), .v (.int .i64 y.w), .v (.int .i64 y.h), .v (.slice (some ay) n cy), .v (.string z.nm), .v (.int .i64 z.w), .v (.int .i64 z.h), .v (.slice (some az) n cz)]⟩, ⟨b5, 30, [.v (.int .u8 ((w0 : Nat) : Int)), .v (.int .u8 ((w1 : Nat) : Int))]⟩, ⟨b11, 38, [.v (.int .i64 ma.a), .v (.int .i64 ma.b), .v (.int .i64 ma.c), .v (.int .i64 ma.d), .v (.int .i64 ma.e), .v (.int .i64 ma.f), .v (.int .i64 ma.g), .v (.int .i64 ma.h), .v (.int .i64 ma.i), .v (.int .i64 1), .v (.int .i64 mb.a), .v (.int .i64 mb.b), .v (.int .i64 mb.c), .v (.int .i64 mb.d), .v (.int .i64 mb.e), .v (.int .i64 mb.f), .v (.int .i64 mb.g), .v (.int .i64 mb.h), .v (.int .i64 mb.i), .v (.int .i64 1)]⟩], []⟩ : St))) ?_ (fun _ => ?_)
  · refine C_block ?_
    refine C_trim [3, 4, 5, 11, 71] 4 rfl rfl ?_
    refine C_rounds 3 ?_
    repeat' (first
 | (refine C_id ?_; first
 | refine C_rounds 3 ?_
 | refine C_seq ?_
 | refine C_region rfl ?_
 | refine C_block ?_
 | refine C_skip ?_
 | refine C_exit ?_
 | refine C_drawT (id := 24) 16 rfl mixed (by kernel_rfl) rfl rfl ?_
 | refine C_condT rfl obQ ?_
 | refine C_condF rfl obQ ?_
     )
 | (refine S_id ?_; first
 | ((with_reducible (first | refine S_falseN ?_ ?_ | refine S_falseB ?_ ?_ | refine S_falseL ?_ ?_ | refine S_falseD ?_ ?_ | refine S_falseE ?_ ?_)); · (first | rfl | exact bne_self_eq_false _ | assumption | omega | exact decide_eq_false (by omega) | (simp only [bne_eq_false_iff_eq]; first | assumption | omega) | (rw [bne_eq_false_iff_eq]; first | omega | (dsimp only; omega)) | (rw [beq_eq_false_iff_ne]; omega)))
 | ((with_reducible (first | refine S_trueE ?_ ?_ | refine S_trueB ?_ ?_ | refine S_trueL ?_ ?_ | refine S_trueD ?_ ?_ | refine S_trueN ?_ ?_)); · (first | exact beq_self_eq_true _ | rfl | omega | exact decide_eq_true (by omega) | (simp only [bne_iff_ne, ne_eq]; assumption) | (rw [beq_iff_eq]; omega)))
 | refine S_nil ?_
 | refine S_runN rfl rfl obQ obQ ?_
     )
 | (refine D_id ?_; first
 | refine D_pure (convX_pure rfl obQ (fun w => cv_i8 (by assumption) w)) ?_
 | refine D_pure (binX_pure rfl obQ (fun w => rem_z (by assumption) _ _ _ w)) ?_
 | refine D_tail ?_
 | refine D_one rfl obQ ?_
     )
 | (refine G_id ?_; first
 | refine G_rounds (C_trim [3, 4, 5, 11, 12, 13, 71, 77, 80] 4 rfl rfl ?_)
 | refine G_cutN () ⟨⟨_, rfl, obQ⟩, ⟨_, rfl⟩, rfl, psQ⟩
 | refine G_then ?_
 | refine G_block ?_
 | refine G_blockX ?_
 | refine G_thenX ?_
     )
     )
  dsimp only
  obtain ⟨mc, hmc⟩ : ∃ mc, cmM ma mb = mc := ⟨_, rfl⟩
  have hmco : MatOk mc := by rw [← hmc]; exact cm_ok hma hmb
  repeat' (first
 | (refine C_id ?_; first
 | refine C_seq ?_
 | refine C_regionNe 29 rfl rfl ?_
   )
 | (refine S_id ?_; first
 | refine S_nil ?_
 | refine S_runN rfl rfl obQ obQ ?_
 | refine S_box (fun b15 => ⟨_, _, rfl, obQ, ?_⟩)
 | refine S_call (f := 6) rfl obQ (by kernel_rfl) (fun w hw => pcomp_as hma hmb hmc) ?_
   )
 | (refine G_id ?_; first
 | refine G_then ?_
   )
   )
  repeat' (first
 | (refine C_id ?_; first
 | refine C_seq ?_
 | refine C_regionNe 30 rfl rfl ?_
   )
 | (refine S_id ?_; first
 | refine S_nil ?_
 | refine S_runN rfl rfl obQ obQ ?_
 | refine S_box (fun b17 => ⟨_, _, rfl, obQ, ?_⟩)
 | refine S_call (f := 7) rfl obQ (by kernel_rfl) (fun w hw => pinv_as hma (hw.rdm hO.toS memQ)) ?_
   )
 | (refine G_id ?_; first
 | refine G_then ?_
   )
   )
  repeat' (first
 | (refine C_id ?_; first
 | refine C_seq ?_
 | refine C_regionNe 32 rfl rfl ?_
 | refine C_skip ?_
 | refine C_condF rfl obQ ?_
   )
 | (refine S_id ?_; first
 | ((with_reducible (first | refine S_falseN ?_ ?_ | refine S_falseB ?_ ?_ | refine S_falseL ?_ ?_ | refine S_falseD ?_ ?_ | refine S_falseE ?_ ?_)); · (first | rfl | exact bne_self_eq_false _ | assumption | omega | exact decide_eq_false (by omega) | (simp only [bne_eq_false_iff_eq]; first | assumption | omega) | (rw [bne_eq_false_iff_eq]; first | omega | (dsimp only; omega)) | (rw [beq_eq_false_iff_ne]; omega)))
 | ((with_reducible refine S_falseO ?_ ?_ ?_); (· rfl); (· first | rfl | (first | rfl | exact bne_self_eq_false _ | assumption | omega | exact decide_eq_false (by omega) | (simp only [bne_eq_false_iff_eq]; first | assumption | omega) | (rw [bne_eq_false_iff_eq]; first | omega | (dsimp only; omega)) | (rw [beq_eq_false_iff_ne]; omega))))
 | refine S_unG rfl rfl rfl rfl ?_
 | ((with_reducible refine S_falseA ?_ ?_); · (first | rfl | exact eG_2 ma))
 | refine S_nil ?_
 | refine S_one rfl obQ ?_
 | refine S_call (f := 8) rfl obQ (by kernel_rfl) (fun w hw => pmat_as hmco) ?_
   )
 | (refine G_id ?_; first
 | refine G_then ?_
   )
   )
  repeat' (first
 | (refine C_id ?_; first
 | refine C_seq ?_
 | refine C_regionNe 34 rfl rfl ?_
   )
 | (refine S_id ?_; first
 | refine S_nil ?_
 | refine S_runN rfl rfl obQ obQ ?_
 | refine S_box (fun b20 => ⟨_, _, rfl, obQ, ?_⟩)
   )
 | (refine G_id ?_; first
 | refine G_then ?_
   )
   )
  refine C_region rfl ?_
  refine S_run rfl rfl obQ obQ ?_
  refine S_nil ?_
  refine G_then ?_
  try refine C_seq ?_
  refine C_cut (fun V : {q : Bool // q = true → Whole ma} => ([(w, fun b => b < w.heap.size)], (⟨[(4, .s (.p b4 1 0)), (5, .s (.p b5 2 0)), (11, .s (.p b11 3 0)), (15, .s (.p b15 4 0)), (19, .s (.v (.bool V.1))), (20, .s (.p b20 6 0))], [⟨b3, 25, [.v (.int .i8 z0), .v (.int .i8 z1), .v (.int .i8 z2), .v (.int .i8 z3), .v (.int .i8 z4), .v (.int .i8 z5), .v (.int .i8 z6), .v (.int .i8 z7), .v (.int .i8 z8), .v (.int .i8 z9), .v (.int .i8 z10), .v (.int .i8 z11), .v (.int .i8 z12), .v (.int .i8 z13), .v (.int .i8 z14), .v (.int .i8 z15), .v (.int .i8 z16), .v (.int .i8 z17)]⟩, ⟨b4, 29, [.v (.string x.nm), .v (.int .i64 x.w), .v (.int .i64 x.h), .v (.slice (some ax) n cx), .v (.string y.nm), .v (.int .i64 y.w), .v (.int .i64 y.h), .v (.slice (some ay) n cy), .v (.string z.nm), .v (.int .i64 z.w), .v (.int .i64 z.h), .v (.slice (some az) n cz)]⟩, ⟨b5, 30, [.v (.int .u8 ((w0 : Nat) : Int)), .v (.int .u8 ((w1 : Nat) : Int))]⟩, ⟨b11, 38, [.v (.int .i64 ma.a), .v (.int .i64 ma.b), .v (.int .i64 ma.c), .v (.int .i64 ma.d), .v (.int .i64 ma.e), .v (.int .i64 ma.f), .v (.int .i64 ma.g), .v (.int .i64 ma.h), .v (.int .i64 ma.i), .v (.int .i64 1), .v (.int .i64 mb.a), .v (.int .i64 mb.b), .v (.int .i64 mb.c), .v (.int .i64 mb.d), .v (.int .i64 mb.e), .v (.int .i64 mb.f), .v (.int .i64 mb.g), .v (.int .i64 mb.h), .v (.int .i64 mb.i), .v (.int .i64 1)]⟩, ⟨b15, 37, [.v (.int .i64 mc.a), .v (.int .i64 mc.b), .v (.int .i64 mc.c), .v (.int .i64 mc.d), .v (.int .i64 mc.e), .v (.int .i64 mc.f), .v (.int .i64 mc.g), .v (.int .i64 mc.h), .v (.int .i64 mc.i), .v (.int .i64 mc.n)]⟩, ⟨b17, 45, [.v (.int .i64 (ivG ma 0 0).1), .v (.int .i64 (ivG ma 0 0).2), .v (.int .i64 (ivG ma 0 1).1), .v (.int .i64 (ivG ma 0 1).2), .v (.int .i64 (ivG ma 0 2).1), .v (.int .i64 (ivG ma 0 2).2), .v (.int .i64 (ivG ma 1 0).1), .v (.int .i64 (ivG ma 1 0).2), .v (.int .i64 (ivG ma 1 1).1), .v (.int .i64 (ivG ma 1 1).2), .v (.int .i64 (ivG ma 1 2).1), .v (.int .i64 (ivG ma 1 2).2), .v (.int .i64 (ivG ma 2 0).1), .v (.int .i64 (ivG ma 2 0).2), .v (.int .i64 (ivG ma 2 1).1), .v (.int .i64 (ivG ma 2 1).2), .v (.int .i64 (ivG ma 2 2).1), .v (.int .i64 (ivG ma 2 2).2)]⟩, ⟨b20, 37, [.v (.int .i64 (ivG ma 0 0).1), .v (.int .i64 (ivG ma 0 1).1), .v (.int .i64 (ivG ma 0 2).1), .v (.int .i64 (ivG ma 1 0).1), .v (.int .i64 (ivG ma 1 1).1), .v (.int .i64 (ivG ma 1 2).1), .v (.int .i64 (ivG ma 2 0).1), .v (.int .i64 (ivG ma 2 1).1), .v (.int .i64 (ivG ma 2 2).1), .v (.int .i64 1)]⟩], []⟩ : St))) ?_ (fun V => ?_)
  · refine C_block ?_
    refine C_trim [4, 5, 11, 15, 17, 19, 20, 134] 7 rfl rfl ?_
    refine C_rounds 3 ?_
    repeat' (first
 | (refine C_id ?_; first
 | refine C_rounds 3 ?_
 | refine C_seq ?_
 | refine C_region rfl ?_
 | refine C_block ?_
 | refine C_skip ?_
 | refine C_exit ?_
 | refine C_drawT (id := 42) 7 rfl mixed (by kernel_rfl) rfl rfl ?_
 | refine C_condT rfl obQ ?_
 | refine C_condF rfl obQ ?_
     )
 | (refine S_id ?_; first
 | ((with_reducible (first | refine S_falseN ?_ ?_ | refine S_falseB ?_ ?_ | refine S_falseL ?_ ?_ | refine S_falseD ?_ ?_ | refine S_falseE ?_ ?_)); · (first | rfl | exact bne_self_eq_false _ | assumption | omega | exact decide_eq_false (by omega) | (simp only [bne_eq_false_iff_eq]; first | assumption | omega) | (rw [bne_eq_false_iff_eq]; first | omega | (dsimp only; omega)) | (rw [beq_eq_false_iff_ne]; omega)))
 | ((with_reducible (first | refine S_trueE ?_ ?_ | refine S_trueB ?_ ?_ | refine S_trueL ?_ ?_ | refine S_trueD ?_ ?_ | refine S_trueN ?_ ?_)); · (first | exact beq_self_eq_true _ | rfl | omega | exact decide_eq_true (by omega) | (simp only [bne_iff_ne, ne_eq]; assumption) | (rw [beq_iff_eq]; omega)))
 | refine S_nil ?_
 | refine S_runN rfl rfl obQ obQ ?_
 | refine S_box (fun b23 => ⟨_, _, rfl, obQ, ?_⟩)
     )
 | (refine D_id ?_; first
 | refine D_tail ?_
 | refine D_run rfl rfl obQ obQ ?_
     )
 | (refine G_id ?_; first
 | refine G_rounds (C_trim [4, 5, 11, 15, 17, 19, 20, 21, 134, 137] 7 rfl rfl ?_)
 | refine G_then ?_
 | refine G_block ?_
 | refine G_blockX ?_
 | refine G_thenX ?_
     )
     )
    refine G_cutN ⟨_, ?_⟩ ⟨⟨_, rfl, obQ⟩, ⟨_, rfl⟩, rfl, psQ⟩
    exact whole_of
  obtain ⟨u, hu⟩ := V
  dsimp only
  obtain ⟨wb, hwb⟩ : ∃ wb, ((w1 : Nat) : Int).tmod (257 - ((w0 : Nat) : Int)) = wb := ⟨_, rfl⟩
  have hwt : WtOk ((w0 : Nat) : Int) wb (256 - ((w0 : Nat) : Int) - wb) := by rw [← hwb]; exact wts_ok hw0
  have hwbd := hwt.wb
  repeat' (first
 | (refine C_id ?_; first
 | refine C_seq ?_
 | refine C_regionNe 47 rfl rfl ?_
   )
 | (refine S_id ?_; first
 | refine S_pure (binX_pure rfl obQ (fun w => rem_w _ _ _ (by omega) (by omega) hwb w)) ?_
 | refine S_nil ?_
 | refine S_box (fun b25 => ⟨_, _, rfl, obQ, ?_⟩)
 | refine S_one rfl obQ ?_
   )
 | (refine G_id ?_; first
 | refine G_then ?_
   )
   )
  repeat' (first
 | (refine C_id ?_; first
 | refine C_seq ?_
 | refine C_region rfl ?_
   )
 | (refine S_id ?_; first
 | refine S_nil ?_
 | refine S_runN rfl rfl obQ obQ ?_
   )
 | (refine G_id ?_; first
 | refine G_then ?_
   )
   )
  obtain ⟨q, hq⟩ : ∃ q, luP x y z ((w0 : Nat) : Int) wb (256 - ((w0 : Nat) : Int) - wb) = q := ⟨_, rfl⟩
  have hqn : q.s.length = n := by rw [← hq, luP_len3, hx]
  have hqo : PicOk q := by rw [← hq]; exact luP_ok ht hwt
  have hqnm : q.nm.size ≤ maxLen := by rw [← hq]; exact hnx
  have hqs : ∀ k, k < n → gB q.s k = smp (luN ((w0 : Nat) : Int) wb (256 - ((w0 : Nat) : Int) - wb) (plA x y z k)) := fun k hk => by rw [← hq]; exact luP_gB ht (by omega)
  refine C_cut (fun V : SlA (q.s.map (.float .f32)) × Nat => ([V.1.ps, (w, fun b => b < w.heap.size)], (⟨[(4, .s (.p b4 1 0)), (5, .s (.p b5 2 0)), (11, .s (.p b11 3 0)), (15, .s (.p b15 4 0)), (19, .s (.v (.bool u))), (20, .s (.p b20 6 0)), (25, .s (.p b25 7 0)), (26, .s (.p V.2 8 0)), (27, .s (.v (.int .i64 0)))], [⟨b3, 25, [.v (.int .i8 z0), .v (.int .i8 z1), .v (.int .i8 z2), .v (.int .i8 z3), .v (.int .i8 z4), .v (.int .i8 z5), .v (.int .i8 z6), .v (.int .i8 z7), .v (.int .i8 z8), .v (.int .i8 z9), .v (.int .i8 z10), .v (.int .i8 z11), .v (.int .i8 z12), .v (.int .i8 z13), .v (.int .i8 z14), .v (.int .i8 z15), .v (.int .i8 z16), .v (.int .i8 z17)]⟩, ⟨b4, 29, [.v (.string x.nm), .v (.int .i64 x.w), .v (.int .i64 x.h), .v (.slice (some ax) n cx), .v (.string y.nm), .v (.int .i64 y.w), .v (.int .i64 y.h), .v (.slice (some ay) n cy), .v (.string z.nm), .v (.int .i64 z.w), .v (.int .i64 z.h), .v (.slice (some az) n cz)]⟩, ⟨b5, 30, [.v (.int .u8 ((w0 : Nat) : Int)), .v (.int .u8 ((w1 : Nat) : Int))]⟩, ⟨b11, 38, [.v (.int .i64 ma.a), .v (.int .i64 ma.b), .v (.int .i64 ma.c), .v (.int .i64 ma.d), .v (.int .i64 ma.e), .v (.int .i64 ma.f), .v (.int .i64 ma.g), .v (.int .i64 ma.h), .v (.int .i64 ma.i), .v (.int .i64 1), .v (.int .i64 mb.a), .v (.int .i64 mb.b), .v (.int .i64 mb.c), .v (.int .i64 mb.d), .v (.int .i64 mb.e), .v (.int .i64 mb.f), .v (.int .i64 mb.g), .v (.int .i64 mb.h), .v (.int .i64 mb.i), .v (.int .i64 1)]⟩, ⟨b15, 37, [.v (.int .i64 mc.a), .v (.int .i64 mc.b), .v (.int .i64 mc.c), .v (.int .i64 mc.d), .v (.int .i64 mc.e), .v (.int .i64 mc.f), .v (.int .i64 mc.g), .v (.int .i64 mc.h), .v (.int .i64 mc.i), .v (.int .i64 mc.n)]⟩, ⟨b17, 45, [.v (.int .i64 (ivG ma 0 0).1), .v (.int .i64 (ivG ma 0 0).2), .v (.int .i64 (ivG ma 0 1).1), .v (.int .i64 (ivG ma 0 1).2), .v (.int .i64 (ivG ma 0 2).1), .v (.int .i64 (ivG ma 0 2).2), .v (.int .i64 (ivG ma 1 0).1), .v (.int .i64 (ivG ma 1 0).2), .v (.int .i64 (ivG ma 1 1).1), .v (.int .i64 (ivG ma 1 1).2), .v (.int .i64 (ivG ma 1 2).1), .v (.int .i64 (ivG ma 1 2).2), .v (.int .i64 (ivG ma 2 0).1), .v (.int .i64 (ivG ma 2 0).2), .v (.int .i64 (ivG ma 2 1).1), .v (.int .i64 (ivG ma 2 1).2), .v (.int .i64 (ivG ma 2 2).1), .v (.int .i64 (ivG ma 2 2).2)]⟩, ⟨b20, 37, [.v (.int .i64 (ivG ma 0 0).1), .v (.int .i64 (ivG ma 0 1).1), .v (.int .i64 (ivG ma 0 2).1), .v (.int .i64 (ivG ma 1 0).1), .v (.int .i64 (ivG ma 1 1).1), .v (.int .i64 (ivG ma 1 2).1), .v (.int .i64 (ivG ma 2 0).1), .v (.int .i64 (ivG ma 2 1).1), .v (.int .i64 (ivG ma 2 2).1), .v (.int .i64 1)]⟩, ⟨b25, 34, [.v (.int .i64 ((w0 : Nat) : Int)), .v (.int .i64 wb), .v (.int .i64 (256 - ((w0 : Nat) : Int) - wb))]⟩, ⟨V.2, 50, [.v (.string q.nm), .v (.int .i64 q.w), .v (.int .i64 q.h), .v (.slice V.1.A n V.1.c)]⟩], []⟩ : St))) ?_ (fun V => ?_)
  · repeat' (first
 | (refine C_id ?_; first
 | refine C_drawTr (id := 48) 17 (.q 0 (.q 1 (.q 3 (.q 4 (.q 6 (.q 7 (.q 10 (.two 2 15 (.two 5 15 (.two 8 15 (.q 9 (.two 11 15 (.q 12 (.q 13 (.q 14 (.n 15 (.n 16 .nil))))) (.n 11 (.q 12 (.q 13 (.q 14 (.n 16 .nil))))))) (.n 8 (.q 9 (.n 11 (.q 12 (.q 13 (.q 14 (.n 16 .nil)))))))) (.n 5 (.n 8 (.q 9 (.n 11 (.q 12 (.q 13 (.q 14 (.n 16 .nil))))))))) (.n 2 (.n 5 (.n 8 (.q 9 (.n 11 (.q 12 (.q 13 (.q 14 (.n 16 .nil))))))))))))))))) rfl mixed (by kernel_rfl) rfl ?_
     )
 | (refine S_id ?_; first
 | (refine S_callM (f := 10) rfl obQ (by kernel_rfl) (fun w hw => pbpic_as (A := some ax) hx (by omega) h0 (fun h => by cases h) (hw.rdm hrx.toS memQ)) (fun w1X w2X vX hw1X hbX hRX => ?_); obtain ⟨AX, cX, rfl, hSX⟩ := hRX; obtain ⟨aX, rfl⟩ := rdP_some hSX (by rw [List.length_map]; omega))
 | (refine S_callM (f := 10) rfl obQ (by kernel_rfl) (fun w hw => pbpic_as (A := some ay) hy (by omega) h0 (fun h => by cases h) (hw.rdm hry.toS memQ)) (fun w1Y w2Y vY hw1Y hbY hRY => ?_); obtain ⟨AY, cY, rfl, hSY⟩ := hRY; obtain ⟨aY, rfl⟩ := rdP_some hSY (by rw [List.length_map]; omega))
 | (refine S_callM (f := 10) rfl obQ (by kernel_rfl) (fun w hw => pbpic_as (A := some az) hz (by omega) h0 (fun h => by cases h) (hw.rdm hrz.toS memQ)) (fun w1Z w2Z vZ hw1Z hbZ hRZ => ?_); obtain ⟨AZ, cZ, rfl, hSZ⟩ := hRZ; obtain ⟨aZ, rfl⟩ := rdP_some hSZ (by rw [List.length_map]; omega))
 | (refine S_callM (f := 9) rfl obQ (by kernel_rfl) (fun w hw => plumN_as ht hwt hx hy hz (by omega) hq (hw.rdm hSX memQ) (hw.rdm hSY memQ) (hw.rdm hSZ memQ)) (fun w1L w2L vL hw1L hbL hRL => ?_); obtain ⟨AL, cL, rfl, hSL⟩ := hRL)
 | refine S_nil ?_
 | refine S_runN rfl rfl obQ obQ ?_
 | refine S_box (fun bb => ⟨_, _, rfl, obQ, ?_⟩)
     )
 | (refine VT_id ?_; first
 | refine VT_nil ?_
 | refine VT_q rfl (Yl_step rfl obQ) ?_
 | refine VT_n rfl ?_
 | refine VT_two rfl rfl ?_ ?_
     )
 | (refine G_id ?_; first
 | refine G_VT2 ⟨_, rfl⟩ ⟨_, rfl⟩ pstQ rfl ?_
 | refine G_cutN (⟨w1L, w2L, AL, cL, hSL⟩, bb) ⟨⟨_, rfl, obQ⟩, ⟨_, rfl⟩, rfl, psQ⟩
     )
     )
  obtain ⟨⟨WL1, WL2, AL, cL, hL2⟩, b26⟩ := V
  obtain ⟨aL, rfl⟩ := rdP_some hL2 (by rw [List.length_map]; omega)
  dsimp only [SlA.ps]
  repeat' (first
 | (refine C_id ?_; first
 | refine C_seq ?_
 | refine C_regionNe 51 rfl rfl ?_
 | refine C_skip ?_
 | refine C_condF rfl obQ ?_
   )
 | (refine S_id ?_; first
 | ((with_reducible (first | refine S_falseN ?_ ?_ | refine S_falseB ?_ ?_ | refine S_falseL ?_ ?_ | refine S_falseD ?_ ?_ | refine S_falseE ?_ ?_)); · (first | rfl | exact bne_self_eq_false _ | assumption | omega | exact decide_eq_false (by omega) | (simp only [bne_eq_false_iff_eq]; first | assumption | omega) | (rw [bne_eq_false_iff_eq]; first | omega | (dsimp only; omega)) | (rw [beq_eq_false_iff_ne]; omega)))
 | ((with_reducible refine S_falseO ?_ ?_ ?_); (· rfl); (· first | rfl | (first | rfl | exact bne_self_eq_false _ | assumption | omega | exact decide_eq_false (by omega) | (simp only [bne_eq_false_iff_eq]; first | assumption | omega) | (rw [bne_eq_false_iff_eq]; first | omega | (dsimp only; omega)) | (rw [beq_eq_false_iff_ne]; omega))))
 | refine S_unG rfl rfl rfl rfl ?_
 | refine S_nil ?_
 | refine S_one rfl obQ ?_
 | refine S_call (f := 11) rfl obQ (by kernel_rfl) (fun w hw => prckP_as hqo hqnm hqn (by omega) (hw.rdm hL2 memQ)) ?_
   )
 | (refine G_id ?_; first
 | refine G_then ?_
   )
   )
  repeat' (first
 | (refine C_id ?_; first
 | refine C_region rfl ?_
 | refine C_block ?_
   )
 | (refine S_id ?_; first
 | refine S_nil ?_
 | refine S_runN rfl rfl obQ obQ ?_
   )
 | (refine G_id ?_; first
 | refine G_then ?_
   )
   )
  refine C_loopS (fun k : Nat => ⟨[(4, .s (.p b4 1 0)), (5, .s (.p b5 2 0)), (11, .s (.p b11 3 0)), (15, .s (.p b15 4 0)), (19, .s (.v (.bool u))), (20, .s (.p b20 6 0)), (25, .s (.p b25 7 0)), (26, .s (.p b26 8 0)), (223, .s (.v (.int .i64 ((n : Nat) : Int)))), (224, .s (.v (.int .i64 ((k : Nat) : Int))))], [⟨b3, 25, [.v (.int .i8 z0), .v (.int .i8 z1), .v (.int .i8 z2), .v (.int .i8 z3), .v (.int .i8 z4), .v (.int .i8 z5), .v (.int .i8 z6), .v (.int .i8 z7), .v (.int .i8 z8), .v (.int .i8 z9), .v (.int .i8 z10), .v (.int .i8 z11), .v (.int .i8 z12), .v (.int .i8 z13), .v (.int .i8 z14), .v (.int .i8 z15), .v (.int .i8 z16), .v (.int .i8 z17)]⟩, ⟨b4, 29, [.v (.string x.nm), .v (.int .i64 x.w), .v (.int .i64 x.h), .v (.slice (some ax) n cx), .v (.string y.nm), .v (.int .i64 y.w), .v (.int .i64 y.h), .v (.slice (some ay) n cy), .v (.string z.nm), .v (.int .i64 z.w), .v (.int .i64 z.h), .v (.slice (some az) n cz)]⟩, ⟨b5, 30, [.v (.int .u8 ((w0 : Nat) : Int)), .v (.int .u8 ((w1 : Nat) : Int))]⟩, ⟨b11, 38, [.v (.int .i64 ma.a), .v (.int .i64 ma.b), .v (.int .i64 ma.c), .v (.int .i64 ma.d), .v (.int .i64 ma.e), .v (.int .i64 ma.f), .v (.int .i64 ma.g), .v (.int .i64 ma.h), .v (.int .i64 ma.i), .v (.int .i64 1), .v (.int .i64 mb.a), .v (.int .i64 mb.b), .v (.int .i64 mb.c), .v (.int .i64 mb.d), .v (.int .i64 mb.e), .v (.int .i64 mb.f), .v (.int .i64 mb.g), .v (.int .i64 mb.h), .v (.int .i64 mb.i), .v (.int .i64 1)]⟩, ⟨b15, 37, [.v (.int .i64 mc.a), .v (.int .i64 mc.b), .v (.int .i64 mc.c), .v (.int .i64 mc.d), .v (.int .i64 mc.e), .v (.int .i64 mc.f), .v (.int .i64 mc.g), .v (.int .i64 mc.h), .v (.int .i64 mc.i), .v (.int .i64 mc.n)]⟩, ⟨b17, 45, [.v (.int .i64 (ivG ma 0 0).1), .v (.int .i64 (ivG ma 0 0).2), .v (.int .i64 (ivG ma 0 1).1), .v (.int .i64 (ivG ma 0 1).2), .v (.int .i64 (ivG ma 0 2).1), .v (.int .i64 (ivG ma 0 2).2), .v (.int .i64 (ivG ma 1 0).1), .v (.int .i64 (ivG ma 1 0).2), .v (.int .i64 (ivG ma 1 1).1), .v (.int .i64 (ivG ma 1 1).2), .v (.int .i64 (ivG ma 1 2).1), .v (.int .i64 (ivG ma 1 2).2), .v (.int .i64 (ivG ma 2 0).1), .v (.int .i64 (ivG ma 2 0).2), .v (.int .i64 (ivG ma 2 1).1), .v (.int .i64 (ivG ma 2 1).2), .v (.int .i64 (ivG ma 2 2).1), .v (.int .i64 (ivG ma 2 2).2)]⟩, ⟨b20, 37, [.v (.int .i64 (ivG ma 0 0).1), .v (.int .i64 (ivG ma 0 1).1), .v (.int .i64 (ivG ma 0 2).1), .v (.int .i64 (ivG ma 1 0).1), .v (.int .i64 (ivG ma 1 1).1), .v (.int .i64 (ivG ma 1 2).1), .v (.int .i64 (ivG ma 2 0).1), .v (.int .i64 (ivG ma 2 1).1), .v (.int .i64 (ivG ma 2 2).1), .v (.int .i64 1)]⟩, ⟨b25, 34, [.v (.int .i64 ((w0 : Nat) : Int)), .v (.int .i64 wb), .v (.int .i64 (256 - ((w0 : Nat) : Int) - wb))]⟩, ⟨b26, 50, [.v (.string q.nm), .v (.int .i64 q.w), .v (.int .i64 q.h), .v (.slice (some aL) n cL)]⟩], []⟩) (fun k => k ≤ n) (fun k => n - k) 0 (Nat.zero_le _) ?_ (fun k hk => ?_)
  · exact ⟨⟨_, rfl, obQ⟩, ⟨_, rfl⟩, rfl, psQ⟩
  have hk : k ≤ n := hk
  by_cases hlt : k < n
  · obtain ⟨c, hc⟩ : ∃ c, plA x y z k = c := ⟨_, rfl⟩
    have hcb : ColB 16 c := by rw [← hc]; exact ⟨hsx k hlt, hsy k hlt, hsz k hlt⟩
    have hcok := hcb.ok (by omega)
    obtain ⟨o, ho⟩ : ∃ o, convF ma c = o := ⟨_, rfl⟩
    have hob : ColB 432 o := by rw [← ho]; exact conv_bd hma hcb
    have hook := hob.ok (by omega)
    obtain ⟨tw, htw⟩ : ∃ tw, convF mb o = tw := ⟨_, rfl⟩
    have htb : ColB 11664 tw := by rw [← htw]; exact conv_bd hmb hob
    have htok := htb.ok (by omega)
    have h3 : convF mc c = tw := by rw [← hmc, cm_conv hma.n hmb.n, ho, htw]
    obtain ⟨lu, hlu⟩ : ∃ lu, luN ((w0 : Nat) : Int) wb (256 - ((w0 : Nat) : Int) - wb) c = lu := ⟨_, rfl⟩
    have hsl : gB q.s k = smp lu := by rw [hqs k hlt, hc, hlu]
    have hlb : -16384 ≤ lu ∧ lu ≤ 16384 := by rw [← hlu]; exact (luN_bd hwt hcok).2
    have hsmp : Smp (gB q.s k) := by rw [hsl]; exact smp_Smp hlb
    have hlv : lvl (gB q.s k) = lu := by rw [hsl]; exact smp_lvl (by omega)
    repeat' (first
 | (refine C_id ?_; first
 | refine C_seq ?_
 | refine C_region rfl ?_
 | refine C_block ?_
 | refine C_skip ?_
 | refine C_drawV (id := 61) 24 [(0, true), (1, false), (2, true), (3, true), (4, false), (5, false), (6, true), (7, true), (8, false), (9, false), (10, true), (11, true), (12, true), (13, false), (14, false), (15, true), (16, true), (17, true), (18, true), (19, true), (20, true), (21, true), (22, false), (23, false)] rfl mixed (by kernel_rfl) rfl ?_
 | refine C_condT rfl obQ ?_
 | refine C_condF rfl obQ ?_
 | (refine C_cond rfl obQ (fun h => ?_) (fun h => ?_) <;> (try simp only [Bool.or_eq_true, Bool.and_eq_true, Bool.or_eq_false_iff, Bool.and_eq_false_iff, decide_eq_true_eq, decide_eq_false_iff_not, beq_iff_eq, bne_iff_ne, beq_eq_false_iff_ne, bne_eq_false_iff_eq, ne_eq, Decidable.not_not, List.cons.injEq, and_true, Bool.not_eq_true', Bool.not_eq_false', Int.not_lt, Int.not_le] at h) <;> (try (exfalso; omega)) <;> (try (exfalso; simp at h; done)) <;> (try (exfalso; simp only [not_true_eq_false, false_or, or_false] at h; omega)) <;> (try contradiction))
     )
 | (refine S_id ?_; first
 | ((with_reducible (first | refine S_falseN ?_ ?_ | refine S_falseB ?_ ?_ | refine S_falseL ?_ ?_ | refine S_falseD ?_ ?_ | refine S_falseE ?_ ?_)); · (first | rfl | exact bne_self_eq_false _ | assumption | omega | exact decide_eq_false (by omega) | (simp only [bne_eq_false_iff_eq]; first | assumption | omega) | (rw [bne_eq_false_iff_eq]; first | omega | (dsimp only; omega)) | (rw [beq_eq_false_iff_ne]; omega)))
 | ((with_reducible refine S_falseO ?_ ?_ ?_); (· rfl); (· first | rfl | (first | rfl | exact bne_self_eq_false _ | assumption | omega | exact decide_eq_false (by omega) | (simp only [bne_eq_false_iff_eq]; first | assumption | omega) | (rw [bne_eq_false_iff_eq]; first | omega | (dsimp only; omega)) | (rw [beq_eq_false_iff_ne]; omega))))
 | ((with_reducible (first | refine S_trueE ?_ ?_ | refine S_trueB ?_ ?_ | refine S_trueL ?_ ?_ | refine S_trueD ?_ ?_ | refine S_trueN ?_ ?_)); · (first | exact beq_self_eq_true _ | rfl | omega | exact decide_eq_true (by omega) | (simp only [bne_iff_ne, ne_eq]; assumption) | (rw [beq_iff_eq]; omega)))
 | refine S_unG rfl rfl rfl rfl ?_
 | refine S_solid 270 rfl rfl ?_
 | refine S_solid 274 rfl rfl ?_
 | refine S_solid 278 rfl rfl ?_
 | refine S_solid 279 rfl rfl ?_
 | refine S_solid 283 rfl rfl ?_
 | refine S_solid 284 rfl rfl ?_
 | refine S_solid 285 rfl rfl ?_
 | refine S_solid 286 rfl rfl ?_
 | refine S_solid 287 rfl rfl ?_
 | refine S_solid 288 rfl rfl ?_
 | refine S_pure (binX_pure rfl obQ (fun w => ne_deep (k := .i64) (n := 3) (xs := [tw.1, tw.2.1, tw.2.2]) (ys := [tw.1, tw.2.1, tw.2.2]) (by kernel_rfl) rfl rfl _ _ w)) ?_
 | refine S_pure (binX_pure rfl obQ (fun w => ne_deep (k := .i64) (n := 3) (xs := [c.1, c.2.1, c.2.2]) (ys := [c.1, c.2.1, c.2.2]) (by kernel_rfl) rfl rfl _ _ w)) ?_
 | refine S_load rfl obQ rfl [.float .f32 (gB q.s k)] (.past (WL2, fun b => WL1.heap.size ≤ b ∧ b < WL2.heap.size) memQ _ _ hL2 _ _ rfl rfl (gB_idx (by omega))) rfl (.inr ⟨rfl, rfl⟩) ?_
 | refine S_nil ?_
 | refine S_runN rfl rfl obQ obQ ?_
 | refine S_box (fun bb => ⟨_, _, rfl, obQ, ?_⟩)
 | refine S_call (f := 12) rfl obQ (by kernel_rfl) (fun w hw => pcolr_as ht hx hlt (by omega) hc (hw.rdm hrx.toS memQ) (hw.rdm hry.toS memQ) (hw.rdm hrz.toS memQ)) ?_
 | refine S_call (f := 13) rfl obQ (by kernel_rfl) (fun w hw => pconv1_as hma hcok ho hook) ?_
 | refine S_call (f := 13) rfl obQ (by kernel_rfl) (fun w hw => pconv1_as hmb hook htw htok) ?_
 | refine S_call (f := 13) rfl obQ (by kernel_rfl) (fun w hw => pconv_as hmco hcok h3 htok) ?_
 | refine S_call (f := 13) rfl obQ (by kernel_rfl) (fun w hw => pconvw_as hwt hcok hlu) ?_
 | refine S_call (f := 13) rfl obQ (by kernel_rfl) (fun w hw => pundo_as hma (hu (by assumption)) hcok ho hook) ?_
 | refine S_call (f := 14) rfl obQ (by kernel_rfl) (fun w hw => pcol_as hook) ?_
 | refine S_call (f := 15) rfl obQ (by kernel_rfl) (fun w hw => psix_as hsmp hlv) ?_
     )
 | (refine V_id ?_; first
 | refine V_nil ?_
 | refine V_q rfl (Yl_step rfl obQ) ?_
 | refine V_n rfl ?_
     )
 | (refine G_id ?_; first
 | refine G_V ⟨⟨_, rfl, trivial⟩, ⟨_, rfl⟩, rfl, pstQ⟩ rfl ?_
 | refine G_loop (k + 1) (show k + 1 ≤ n by omega) (by show n - (k + 1) < n - k; omega) ⟨⟨_, rfl, obQ⟩, ⟨_, rfl⟩, rfl, psQ⟩
 | refine G_then ?_
 | refine G_block ?_
     )
     )
    skip -- END
  obtain rfl : n = k := by omega
  repeat' (first
 | (refine C_id ?_; first
 | refine C_seq ?_
 | refine C_region rfl ?_
 | refine C_exit ?_
 | refine C_ret0 ?_
 | refine C_condF rfl obQ ?_
   )
 | (refine S_id ?_; first
 | ((with_reducible (first | refine S_falseN ?_ ?_ | refine S_falseB ?_ ?_ | refine S_falseL ?_ ?_ | refine S_falseD ?_ ?_ | refine S_falseE ?_ ?_)); · (first | rfl | exact bne_self_eq_false _ | assumption | omega | exact decide_eq_false (by omega) | (simp only [bne_eq_false_iff_eq]; first | assumption | omega) | (rw [bne_eq_false_iff_eq]; first | omega | (dsimp only; omega)) | (rw [beq_eq_false_iff_ne]; omega)))
 | refine S_nil ?_
 | refine S_runN rfl rfl obQ obQ ?_
 | refine S_call (f := 5) rfl obQ (by kernel_rfl) (fun w hw => bshown_c w) ?_
   )
 | (refine G_id ?_; first
 | refine G_then ?_
 | refine G_blockX ?_
 | refine G_thenX ?_
 | refine G_ret rfl obQ (fun w hw => ⟨?_, hw.below⟩)
   )
   )
  all_goals rfl

end Go.Proofs.YtedlaominconaaaDoor
