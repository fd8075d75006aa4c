/- Three pictures, matrices: the reference. -/
import Derived.Test.YtedlaominconaaaDoorTops27
import Derived.Test.YtedlaominconaaaDoorColour19
import Derived.Test.YtedlaominconaaaDoorColour32
import Derived.Test.YtedlaominconaaaDoorEng4
namespace Go.Proofs.YtedlaominconaaaDoor
open Go.E Go.RowKit Go.Fl
attribute [local irreducible] G C S D Calls
set_option maxRecDepth 100000
set_option linter.unusedSimpArgs false
set_option linter.unusedVariables false

theorem gB_idxZ {l : List Nat} {k : Nat} {z : Int} (e : z = k) (h : k < l.length) : ∀ (j : Nat) (u : Value), ([.float .f32 (gB l k)] : List Value)[j]? = some u → (l.map (Value.float .f32))[(z.toNat * 1 + j)]? = some u := by
  subst e
  exact gB_idx h

theorem th_bad1 {x y z : Pic} (h0 : th1 x y z = 0) (h : ¬ y.w = x.w ∨ ¬ y.h = x.h) : thE x y z = 2 := by
  rw [thE_2 h0, show szB x y z = true from ?_]
  · rfl
  · simp only [szB, Bool.or_eq_true, Bool.not_eq_true', Bool.and_eq_false_iff, decide_eq_false_iff_not]
    omega
theorem th_bad2 {x y z : Pic} (h0 : th1 x y z = 0) (h : ¬ z.w = x.w ∨ ¬ z.h = x.h) : thE x y z = 2 := by
  rw [thE_2 h0, show szB x y z = true from ?_]
  · rfl
  · simp only [szB, Bool.or_eq_true, Bool.not_eq_true', Bool.and_eq_false_iff, decide_eq_false_iff_not]
    omega
theorem th_good {x y z : Pic} (h0 : th1 x y z = 0) (h : y.w = x.w ∧ y.h = x.h) (h2 : z.w = x.w ∧ z.h = x.h) : thE x y z = 0 := by
  rw [thE_2 h0, show szB x y z = false from ?_]
  · rfl
  · simp only [szB, Bool.or_eq_false_iff, Bool.not_eq_false', Bool.and_eq_true, decide_eq_true_eq]
    omega
theorem pl_map {x y z : Pic} (h : ThOk x y z) {α : Type} (f : Col → α) : (plL x y z).map (fun q => f q.c) = (List.range x.s.length).map fun k => f (plA x y z k) := by
  unfold plL
  rw [List.map_map]
  refine List.map_congr_left fun k hk => ?_
  show f (toP x y z k).c = _
  rw [(toP_c (plA_ok h (List.mem_range.1 hk)).1).1]

set_option maxHeartbeats 400000 in
/-- genlockref02.Colour -/
theorem rColour_c (x y z : Pic) (ax ay az : Addr) (cx cy cz : Nat) (ht : ThOk x y z) (k : Nat) (hlt : k < x.s.length) (hsx : x.s.length ≤ 1000000) (w : World) (hrx : Rd w (some ax) (x.s.map (.float .f32))) (hry : Rd w (some ay) (y.s.map (.float .f32))) (hrz : Rd w (some az) (z.s.map (.float .f32))) : Calls Tryd.prog 12 #[.agg #[.string x.nm, .int .i64 x.w, .int .i64 x.h, .slice (some ax) x.s.length cx, .string y.nm, .int .i64 y.w, .int .i64 y.h, .slice (some ay) y.s.length cy, .string z.nm, .int .i64 z.w, .int .i64 z.h, .slice (some az) z.s.length cz], .int .i64 k] w fun r w' => r = .returned (triV (plA x y z k)) ∧ Below w.heap.size w w' := by
  have hln := ht.len
  obtain ⟨hok, hgx, hgy, hgz⟩ := plA_ok ht hlt
  refine calls_of (args := [.agg #[.string x.nm, .int .i64 x.w, .int .i64 x.h, .slice (some ax) x.s.length cx, .string y.nm, .int .i64 y.w, .int .i64 y.h, .slice (some ay) y.s.length cy, .string z.nm, .int .i64 z.w, .int .i64 z.h, .slice (some az) z.s.length cz], .int .i64 k]) T_ok Tryd.func12 rfl Tryd.ntmps12 (Nat.le_of_ble_eq_true rfl) rfl ?_
  repeat' (first
 | (refine C_id ?_; first
 | refine C_rounds 3 ?_
 | refine C_seq ?_
 | refine C_region rfl ?_
 | refine C_block ?_
 | refine C_skip ?_
 | refine C_exit ?_
 | refine C_ret0 ?_
 | refine C_condT rfl obQ ?_
 | refine C_condF rfl obQ ?_
 )
 | (refine S_id ?_; first
 | refine S_load rfl obQ rfl [.float .f32 (gB x.s k)] (.past _ memQ _ _ hrx.toS _ _ rfl rfl (gB_idxZ (k := k) rfl hlt)) rfl (.inr ⟨rfl, rfl⟩) ?_
 | refine S_load rfl obQ rfl [.float .f32 (gB y.s k)] (.past _ memQ _ _ hry.toS _ _ rfl rfl (gB_idxZ (k := k) rfl (by omega))) rfl (.inr ⟨rfl, rfl⟩) ?_
 | refine S_load rfl obQ rfl [.float .f32 (gB z.s k)] (.past _ memQ _ _ hrz.toS _ _ rfl rfl (gB_idxZ (k := k) rfl (by omega))) rfl (.inr ⟨rfl, rfl⟩) ?_
 | refine S_nil ?_
 | refine S_run rfl rfl obQ obQ ?_
 | refine S_box (fun b => ⟨_, _, rfl, obQ, ?_⟩)
 | refine S_call (f := 15) rfl obQ (by kernel_rfl) (fun w hw => sixteenths_c (gB x.s k) hgx.fin hgx.bd w) ?_
 | refine S_call (f := 15) rfl obQ (by kernel_rfl) (fun w hw => sixteenths_c (gB y.s k) hgy.fin hgy.bd w) ?_
 | refine S_call (f := 15) rfl obQ (by kernel_rfl) (fun w hw => sixteenths_c (gB z.s k) hgz.fin hgz.bd w) ?_
 )
 | (refine G_id ?_; first
 | refine G_rounds (C_trim [1, 2, 4, 5, 6] 3 rfl rfl ?_)
 | refine G_then ?_
 | refine G_block ?_
 | refine G_blockX ?_
 | refine G_thenX ?_
 | refine G_ret rfl obQ (fun w hw => ⟨?_, hw.below⟩)
 )
 )
  rfl

set_option maxHeartbeats 1000000 in
/-- genlockref01.CheckPicture -/
theorem rCheckPictureBig_c (p : Pic) (A : Option Addr) (c : Nat) (h4 : 4096 < p.s.length) (hmax : p.s.length ≤ maxLen) (hnm : p.nm.size ≤ maxLen) (w : World) : Calls Tryd.prog 11 #[.agg #[.string p.nm, .int .i64 p.w, .int .i64 p.h, .slice A p.s.length c]] w fun r w' => r = .returned (.int .i64 (picE p)) ∧ Below w.heap.size w w' := by
  refine calls_of (args := [.agg #[.string p.nm, .int .i64 p.w, .int .i64 p.h, .slice A p.s.length c]]) T_ok Tryd.func11 rfl Tryd.ntmps11 (Nat.le_of_ble_eq_true rfl) rfl ?_
  have hmul : hdE p = 0 → 1 ≤ p.w * p.h ∧ p.w * p.h ≤ 64 * 64 := fun h => by
    obtain ⟨_, h2, h3⟩ := hd_ok h
    have g1 := Int.mul_le_mul h2.2 h3.2 (by omega) (by omega)
    have g2 := Int.mul_pos (show 0 < p.w by omega) (show 0 < p.h by omega)
    omega
  unfold maxLen at hmax
  repeat' (first
 | (refine C_id ?_; first
 | refine C_seq ?_
 | refine C_regionNe 6 rfl rfl ?_
 | refine C_skip ?_
 | refine C_ret0 ?_
 | refine C_drawT (id := 1) 9 rfl mixed (by kernel_rfl) rfl rfl ?_
 | (refine C_cond rfl obQ (fun h => ?_) (fun h => ?_) <;> (try simp only [Bool.or_eq_true, Bool.and_eq_true, Bool.or_eq_false_iff, Bool.and_eq_false_iff, decide_eq_true_eq, decide_eq_false_iff_not, beq_iff_eq, bne_iff_ne, beq_eq_false_iff_ne, bne_eq_false_iff_eq, ne_eq, Decidable.not_not, List.cons.injEq, and_true, Bool.not_eq_true', Bool.not_eq_false', Int.not_lt, Int.not_le] at h) <;> (try (exfalso; omega)) <;> (try (exfalso; simp at h; done)) <;> (try (exfalso; simp only [not_true_eq_false, false_or, or_false] at h; omega)) <;> (try have hmul := hmul h))
   )
 | (refine S_id ?_; first
 | refine S_nil ?_
 | refine S_run rfl rfl obQ obQ ?_
 | refine S_box (fun b => ⟨_, _, rfl, obQ, ?_⟩)
 | refine S_slice (fun b => ⟨_, _, rfl, obQ, ?_⟩)
 | refine S_call (f := 16) rfl obQ (by kernel_rfl) (fun w hw => rFirst_c _ _ [wh (!isName p.nm) 8, wi p.w 1 64, wi p.h 1 64] (by simp) w (.inr ⟨_, rfl, hw.src (i := 1) rfl rfl⟩)) ?_
   )
 | (refine D_id ?_; first
 | refine D_tail ?_
 | refine D_run rfl rfl obQ obQ ?_
 | refine D_call (f := 38) rfl obQ (by kernel_rfl) (fun w hw => rCheckName_c p.nm hnm w) ?_
 | refine D_call (f := 28) rfl obQ (by kernel_rfl) (fun w hw => rRange_c _ _ _ w) ?_
   )
 | (refine G_id ?_; first
 | refine G_then ?_
 | refine G_thenR ?_
 | refine G_ret rfl obQ (fun w hw => ⟨?_, hw.below⟩)
   )
   )
  · exact rI (picE_hd h).symm
  · exact rI (picE_n (by assumption) h).symm

theorem rCheckPicAny {p : Pic} {A : Option Addr} {c : Nat} {w : World} (hs : p.s.length ≤ maxLen) (hnm : p.nm.size ≤ maxLen) (hr : Rd w A (p.s.map (.float .f32))) : Calls Tryd.prog 11 #[.agg #[.string p.nm, .int .i64 p.w, .int .i64 p.h, .slice A p.s.length c]] w fun r w' => r = .returned (.int .i64 (picE p)) ∧ Below w.heap.size w w' := by
  by_cases h : p.s.length ≤ 1000000
  · exact rCheckPicture_c p A c h hnm w hr
  · exact rCheckPictureBig_c p A c (by omega) hs hnm w

set_option maxHeartbeats 1000000 in
/-- genlockref02.CheckThree -/
theorem rCheckThreeAny_c (x y z : Pic) (Ax Ay Az : Option Addr) (cx cy cz : Nat) (hnx : x.nm.size ≤ maxLen) (hny : y.nm.size ≤ maxLen) (hnz : z.nm.size ≤ maxLen) (hsx : x.s.length ≤ maxLen) (hsy : y.s.length ≤ maxLen) (hsz : z.s.length ≤ maxLen) (w : World) (hrx : Rd w Ax (x.s.map (.float .f32))) (hry : Rd w Ay (y.s.map (.float .f32))) (hrz : Rd w Az (z.s.map (.float .f32))) : Calls Tryd.prog 4 #[.agg #[.string x.nm, .int .i64 x.w, .int .i64 x.h, .slice Ax x.s.length cx, .string y.nm, .int .i64 y.w, .int .i64 y.h, .slice Ay y.s.length cy, .string z.nm, .int .i64 z.w, .int .i64 z.h, .slice Az z.s.length cz]] w fun r w' => r = .returned (.int .i64 (thE x y z)) ∧ Below w.heap.size w w' := by
  refine calls_of (args := [.agg #[.string x.nm, .int .i64 x.w, .int .i64 x.h, .slice Ax x.s.length cx, .string y.nm, .int .i64 y.w, .int .i64 y.h, .slice Ay y.s.length cy, .string z.nm, .int .i64 z.w, .int .i64 z.h, .slice Az z.s.length cz]]) T_ok Tryd.func4 rfl Tryd.ntmps4 (Nat.le_of_ble_eq_true rfl) rfl ?_
  repeat' (first
 | (refine C_id ?_; first
 | refine C_rounds 3 ?_
 | refine C_seq ?_
 | refine C_region rfl ?_
 | refine C_block ?_
 | refine C_skip ?_
 | refine C_exit ?_
 | refine C_ret0 ?_
 | refine C_drawV (id := 1) 8 [(0, true), (1, true), (3, true), (4, true), (6, true), (7, true), (2, false), (5, false)] rfl mixed (by kernel_rfl) rfl ?_
 | refine C_draw (id := 7) rfl mixed (by kernel_rfl) ?_
 | refine C_condT rfl obQ ?_
 | refine C_condF rfl obQ ?_
 | (refine C_cond rfl obQ (fun h => ?_) (fun h => ?_) <;> (try simp only [Bool.or_eq_true, Bool.and_eq_true, Bool.or_eq_false_iff, Bool.and_eq_false_iff, decide_eq_true_eq, decide_eq_false_iff_not, beq_iff_eq, bne_iff_ne, beq_eq_false_iff_ne, bne_eq_false_iff_eq, ne_eq, Decidable.not_not, List.cons.injEq, and_true, Bool.not_eq_true', Bool.not_eq_false', Int.not_lt, Int.not_le] at h))
 )
 | (refine S_id ?_; first
 | refine S_nil ?_
 | refine S_run rfl rfl obQ obQ ?_
 | refine S_box (fun b => ⟨_, _, rfl, obQ, ?_⟩)
 | refine S_slice (fun b => ⟨_, _, rfl, obQ, ?_⟩)
 | refine S_call (f := 11) rfl obQ (by kernel_rfl) (fun w hw => rCheckPicAny (p := x) hsx hnx (hw.rdm hrx.toS memQ)) ?_
 | refine S_call (f := 11) rfl obQ (by kernel_rfl) (fun w hw => rCheckPicAny (p := y) hsy hny (hw.rdm hry.toS memQ)) ?_
 | refine S_call (f := 11) rfl obQ (by kernel_rfl) (fun w hw => rCheckPicAny (p := z) hsz hnz (hw.rdm hrz.toS memQ)) ?_
 | refine S_call (f := 16) rfl obQ (by kernel_rfl) (fun w hw => rFirst_c _ _ [picE x, picE y, picE z] (by simp) w (.inr ⟨_, rfl, hw.src (i := 1) rfl rfl⟩)) ?_
 )
 | (refine D_id ?_; first
 | refine D_nil ?_
 | refine D_run rfl rfl obQ obQ ?_
 )
 | (refine V_id ?_; first
 | refine V_nil ?_
 | refine V_q rfl (Yl_step rfl obQ) ?_
 | refine V_n rfl ?_
 )
 | (refine G_id ?_; first
 | refine G_V ⟨⟨_, rfl, trivial⟩, ⟨_, rfl⟩, rfl, pstQ⟩ rfl ?_
 | refine G_rounds (C_trim [1, 2, 4] 1 rfl rfl ?_)
 | refine G_then ?_
 | refine G_block ?_
 | refine G_blockX ?_
 | refine G_blockR ?_
 | refine G_thenR ?_
 | refine G_thenX ?_
 | refine G_ret rfl obQ (fun w hw => ⟨?_, hw.below⟩)
 )
 )
  all_goals first
    | exact rI (thE_1 (by assumption)).symm
    | exact rI (th_bad1 (by assumption) (by assumption)).symm
    | exact rI (th_bad2 (by assumption) (by assumption)).symm
    | exact rI (th_good (by assumption) (by assumption) (by assumption)).symm

end Go.Proofs.YtedlaominconaaaDoor
