/- Fields; what the law calls: curves and pictures of its own, short ones. -/
import Derived.Test.YtedlaominconaaaTops24
namespace Go.Proofs.Ytedlaominconaaa
open Go.E Go.RowKit Go.Fl
attribute [local irreducible] G C S D Calls
set_option maxRecDepth 100000
set_option linter.unusedSimpArgs false
set_option linter.unusedVariables false

theorem callRdS {w0 w w1 w2 : World} {Ps : Past} {σ : St} (hw : HW w0.heap.size w0 Ps σ w) {A : Option Addr} {xs : List Value} (h : RdS (fun b => w1.heap.size ≤ b ∧ b < w2.heap.size) w2 A xs) (hp : (w2, fun b => w1.heap.size ≤ b ∧ b < w2.heap.size) ∈ Ps) (h1 : w0.heap.size ≤ w1.heap.size) : RdS (fun b => w0.heap.size ≤ b ∧ b < w.heap.size) w A xs := by
  obtain ⟨A', c', e, hr⟩ := HW.callSl (n := 0) (c := 0) hw h hp h1
  injection e with e1
  subst e1
  exact hr
/-- Two pictures that a call hands back. -/
def FldR (w w' : World) (v : Value) (p q : Pic) : Prop := ∃ A c B d, v = .tuple #[.agg #[.string p.nm, .int .i64 p.w, .int .i64 p.h, .slice A p.s.length c, .string q.nm, .int .i64 q.w, .int .i64 q.h, .slice B q.s.length d], .int .i64 0] ∧ RdS (fun b => w.heap.size ≤ b ∧ b < w'.heap.size) w' A (p.s.map (.float .f32)) ∧ RdS (fun b => w.heap.size ≤ b ∧ b < w'.heap.size) w' B (q.s.map (.float .f32))
def fldP (nm : ByteArray) (s : List Nat) (W H fr : Nat) : Pic := rowsP nm s W ((H + 1 - fr) / 2) fun i => (fr + 2 * i) * W

set_option maxHeartbeats 1000000 in
/-- picture.Fields -/
theorem pfields_c (nm : ByteArray) (ad : Addr) (c W H : Nat) (s : List Nat) (hok : PicOk (⟨nm, ((W : Nat) : Int), ((H : Nat) : Int), s⟩ : Pic)) (hn : s.length = W * H) (h64 : W ≤ 64 ∧ H ≤ 64) (hc : s.length ≤ c) (hW0 : 0 < W) (h2 : 2 ≤ H) (w : World) (hr : Rd w (some ad) (s.map (.float .f32))) : Calls Try.prog 26 #[.agg #[.string nm, .int .i64 ((W : Nat) : Int), .int .i64 ((H : Nat) : Int), .slice (some ad) s.length c]] w fun r w' => ∃ v, r = .returned v ∧ Below w.heap.size w w' ∧ FldR w w' v (fldP nm s W H 0) (fldP nm s W H 1) := by
  have hs : s.length ≤ 1000000 := by have := wh_64 hn h64; omega
  refine calls_of (args := [.agg #[.string nm, .int .i64 ((W : Nat) : Int), .int .i64 ((H : Nat) : Int), .slice (some ad) s.length c]]) T_ok Try.func26 rfl Try.ntmps26 (Nat.le_of_ble_eq_true rfl) rfl ?_
  repeat' (first
 | (refine C_id ?_; first
 | refine C_seq ?_
 | refine C_region rfl ?_
 | refine C_skip ?_
 | refine C_ret0 ?_
 | refine C_drawV (id := 1) 5 [(0, true), (2, true), (3, true), (4, true), (1, false)] rfl mixed (by kernel_rfl) rfl ?_
 | refine C_drawV (id := 4) 7 [(0, true), (1, true), (4, true), (5, true), (2, false), (3, false), (6, false)] rfl mixed (by kernel_rfl) rfl ?_
 | refine C_condF rfl obQ ?_
   )
 | (refine S_id ?_; first
 | ((with_reducible (first | refine S_falseN ?_ ?_ | refine S_falseB ?_ ?_ | refine S_falseL ?_ ?_ | refine S_falseD ?_ ?_ | refine S_falseE ?_ ?_)); · (first | rfl | omega | exact decide_eq_false (by omega) | (rw [beq_eq_false_iff_ne]; omega)))
 | (refine S_callM (f := 65) rfl obQ (by kernel_rfl) (fun w hw => pevery_c nm ad c W H s.length hn hW0 hc h64 0 (by omega) w) (fun w1E0 w2E0 vE0 hw1E0 hbE0 hRE0 => ?_); obtain ⟨AE0, cE0, rfl, hSE0, hcE0, _, _⟩ := hRE0; obtain ⟨aE0, rfl⟩ := rdP_some hSE0 (by simp; omega))
 | (refine S_callM (f := 61) rfl obQ (by kernel_rfl) (fun w hw => pmade_as (nm := nm) (Wd := W) (m := (H + 1 - 0) / 2) (s := s) (a := fun i => (0 + 2 * i) * W) (rm := fun i => c - (0 + 2 * i) * W) (adr := fun i => ad.add ((0 + 2 * i) * W * 1)) (by omega) (by omega) (by omega) w (hw.rdm hSE0 memQ) (fun i hi => (by have h1 := row_end hn (show 0 + 2 * i < H by omega); exact rd_map (rd_part (hw.rdm hr.toS memQ) ((0 + 2 * i) * W) W) h1))) (fun w1P0 w2P0 vP0 hw1P0 hbP0 hRP0 => ?_); obtain ⟨AP0, cP0, rfl, hSP0, _, _, _⟩ := hRP0)
 | (refine S_callM (f := 65) rfl obQ (by kernel_rfl) (fun w hw => pevery_c nm ad c W H s.length hn hW0 hc h64 1 (by omega) w) (fun w1E1 w2E1 vE1 hw1E1 hbE1 hRE1 => ?_); obtain ⟨AE1, cE1, rfl, hSE1, hcE1, _, _⟩ := hRE1; obtain ⟨aE1, rfl⟩ := rdP_some hSE1 (by simp; omega))
 | (refine S_callM (f := 61) rfl obQ (by kernel_rfl) (fun w hw => pmade_as (nm := nm) (Wd := W) (m := (H + 1 - 1) / 2) (s := s) (a := fun i => (1 + 2 * i) * W) (rm := fun i => c - (1 + 2 * i) * W) (adr := fun i => ad.add ((1 + 2 * i) * W * 1)) (by omega) (by omega) (by omega) w (hw.rdm hSE1 memQ) (fun i hi => (by have h1 := row_end hn (show 1 + 2 * i < H by omega); exact rd_map (rd_part (hw.rdm hr.toS memQ) ((1 + 2 * i) * W) W) h1))) (fun w1P1 w2P1 vP1 hw1P1 hbP1 hRP1 => ?_); obtain ⟨AP1, cP1, rfl, hSP1, _, _, _⟩ := hRP1)
 | refine S_nil ?_
 | refine S_runN rfl rfl obQ obQ ?_
 | refine S_box (fun bb => ⟨_, _, rfl, obQ, ?_⟩)
 | refine S_slice (fun b => ⟨_, _, rfl, obQ, ?_⟩)
 | refine S_call (f := 48) rfl obQ (by kernel_rfl) (fun w hw => checkPZ (⟨nm, ((W : Nat) : Int), ((H : Nat) : Int), s⟩ : Pic) _ _ hs hok w (hw.rdm hr.toS memQ)) ?_
 | refine S_call (f := 64) rfl obQ (by kernel_rfl) (fun w hw => pwhen_c false 16 w) ?_
 | refine S_call (f := 58) rfl obQ (by kernel_rfl) (fun w hw => pfirst_z _ _ 2 (by simp) w (.inr ⟨_, rfl, hw.src (i := 2) rfl rfl⟩)) ?_
   )
 | (refine V_id ?_; first
 | refine V_nil ?_
 | refine V_q rfl (Yl_step rfl obQ) ?_
 | refine V_n rfl ?_
   )
 | (refine G_id ?_; first
 | refine G_V ⟨⟨_, rfl, trivial⟩, ⟨_, rfl⟩, rfl, pstQ⟩ rfl ?_
 | refine G_then ?_
 | refine G_ret rfl obQ (fun w2 hw => ⟨_, rfl, hw.below, _, _, _, _, rfl, callRdS hw hSP0 memQ hw1P0.bsize, callRdS hw hSP1 memQ hw1P1.bsize⟩)
   )
   )

set_option maxHeartbeats 400000 in
/-- genlocktop.boomCurve -/
theorem bcurve_c (A : Option Addr) (c : Nat) (l : List (Pt)) (hl : l.length ≤ 1000000) (w : World) (hr : Rd w A (l.flatMap ptC)) : Calls Try.prog 17 #[.slice A l.length c] w fun r w' => ∃ v, r = .returned v ∧ Below w.heap.size w w' ∧ Sl w w' v l.length (l.flatMap ptC) := by
  refine calls_of (args := [.slice A l.length c]) T_ok Try.func17 rfl Try.ntmps17 (Nat.le_of_ble_eq_true rfl) rfl ?_
  repeat' (first
 | (refine C_id ?_; first
 | refine C_seq ?_
 | refine C_region rfl ?_
 | refine C_block ?_
 )
 | (refine S_id ?_; first
 | refine S_nil ?_
 | refine S_run rfl rfl obQ obQ ?_
 | refine S_box (fun b => ⟨_, _, rfl, obQ, ?_⟩)
 )
 | (refine G_id ?_; first
 | refine G_then ?_
 )
 )
  refine C_row0 3 110 2 rfl ?_
  refine C_loopS (fun i : Nat × Option Addr × Nat => ⟨[(3, .s (.r i.2.1 i.1 i.2.2 0)), (6, .s (.v (.slice A l.length c))), (7, .s (.v (.int .i64 l.length))), (8, .s (.v (.int .i64 i.1)))], [], [⟨110, 2, i.1, (l.take i.1).flatMap ptC, .slice i.2.1 i.1 i.2.2⟩]⟩) (fun i => i.1 ≤ l.length) (fun i => l.length - i.1) (0, none, 0) (Nat.zero_le _) ?_ (fun i hi => ?_)
  · exact ⟨⟨_, rfl, obQ⟩, ⟨_, rfl⟩, rfl, pstQ⟩
  obtain ⟨k, A', c'⟩ := i
  have hi' : k ≤ l.length := hi
  dsimp only
  by_cases hlt : k < l.length
  · obtain ⟨ad, rfl⟩ := hr.some (by rw [flat_len (f := ptC) (s := 2) l (fun _ _ => rfl)]; omega)
    have hmt := flatMap_take_succ (f := ptC) hlt
    repeat' (first
 | (refine C_id ?_; first
 | refine C_seq ?_
 | refine C_region rfl ?_
 | refine C_block ?_
 | refine C_skip ?_
 | (refine C_cond rfl obQ (fun h => ?_) (fun h => ?_) <;> (try simp only [Bool.or_eq_true, Bool.and_eq_true, Bool.or_eq_false_iff, Bool.and_eq_false_iff, decide_eq_true_eq, decide_eq_false_iff_not, beq_iff_eq, bne_iff_ne, beq_eq_false_iff_ne, bne_eq_false_iff_eq, ne_eq, Decidable.not_not, List.cons.injEq, and_true, Bool.not_eq_true', Bool.not_eq_false', Int.not_lt, Int.not_le] at h) <;> (try (exfalso; omega)))
     )
 | (refine S_id ?_; first
 | refine S_load rfl obQ rfl [.int .i64 l[k].1, .int .i64 l[k].2] (.past _ memQ _ _ hr.toS _ _ rfl rfl (idxS (f := ptC) (fun _ => rfl) hlt)) rfl (.inl ⟨rfl, rfl⟩) ?_
 | refine S_append rfl obQ rfl rfl rfl ⟨by decide, rfl⟩ rfl ⟨rfl, rfl, rfl, rfl⟩ [.int .i64 l[k].1, .int .i64 l[k].2] ⟨by decide, rfl⟩ (by simp [Value.oneCell']) (fun w hw => by first | exact hw.src (i := 0) rfl rfl | exact hw.src (i := 1) rfl rfl | exact hw.src (i := 2) rfl rfl | exact hw.src (i := 3) rfl rfl | exact hw.src (i := 4) rfl rfl | exact hw.src (i := 5) rfl rfl | exact hw.src (i := 6) rfl rfl | exact hw.src (i := 7) rfl rfl | exact hw.src (i := 8) rfl rfl) (by unfold maxLen; dsimp only; omega) (fun gb cap' => ⟨_, rfl, ?_⟩)
 | refine S_nil ?_
 | refine S_run rfl rfl obQ obQ ?_
 | refine S_box (fun b => ⟨_, _, rfl, obQ, ?_⟩)
 | refine S_slice (fun b => ⟨_, _, rfl, obQ, ?_⟩)
     )
 | (refine G_id ?_; first
 | refine G_loop (k + 1, some ⟨gb, 0, none⟩, cap') (by show k + 1 ≤ _; omega) (by show l.length - (k + 1) < l.length - k; omega) ⟨⟨_, rfl, obQ⟩, ⟨_, rfl⟩, (by dsimp only; rw [hmt]; rfl), pstQ⟩
 | refine G_then ?_
 | refine G_block ?_
     )
     )
  · obtain rfl : k = l.length := by omega
    repeat' (first
 | (refine C_id ?_; first
 | refine C_seq ?_
 | refine C_region rfl ?_
 | refine C_exit ?_
 | refine C_ret0 ?_
 | (refine C_cond rfl obQ (fun h => ?_) (fun h => ?_) <;> (try simp only [Bool.or_eq_true, Bool.and_eq_true, Bool.or_eq_false_iff, Bool.and_eq_false_iff, decide_eq_true_eq, decide_eq_false_iff_not, beq_iff_eq, bne_iff_ne, beq_eq_false_iff_ne, bne_eq_false_iff_eq, ne_eq, Decidable.not_not, List.cons.injEq, and_true, Bool.not_eq_true', Bool.not_eq_false', Int.not_lt, Int.not_le] at h) <;> (try (exfalso; omega)))
     )
 | (refine S_id ?_; first
 | refine S_nil ?_
 | refine S_run rfl rfl obQ obQ ?_
     )
 | (refine G_id ?_; first
 | refine G_then ?_
 | refine G_blockX ?_
 | refine G_thenX ?_
 | refine G_ret rfl obQ (fun w2 hw => ⟨_, rfl, hw.below, HW.rowSl (i := 0) hw rfl rfl rfl (by rw [List.take_length])⟩)
     )
     )

set_option maxHeartbeats 400000 in
/-- genlocktop.boomPicture -/
theorem bpic_c (p : Pic) (A : Option Addr) (c : Nat) (hs : p.s.length ≤ 1000000) (h0 : 0 < p.s.length) (hA : A = none → p.s.length = 0 ∧ c = 0) (w : World) (hr : Rd w A (p.s.map (.float .f32))) : Calls Try.prog 19 #[.agg #[.string p.nm, .int .i64 p.w, .int .i64 p.h, .slice A p.s.length c]] w fun r w' => ∃ v, r = .returned v ∧ Below w.heap.size w w' ∧ PicC w w' v p := by
  refine calls_of (args := [.agg #[.string p.nm, .int .i64 p.w, .int .i64 p.h, .slice A p.s.length c]]) T_ok Try.func19 rfl Try.ntmps19 (Nat.le_of_ble_eq_true rfl) rfl ?_
  repeat' (first
 | (refine C_id ?_; first
 | refine C_seq ?_
 | refine C_region rfl ?_
 | refine C_ret0 ?_
 )
 | (refine S_id ?_; first
 | (refine S_callRws (f := 51) rfl obQ (by kernel_rfl) (fun w hw => rOwnR_c p A c hs h0 hA w (hw.rdm hr.toS memQ)) (fun v rs hR => ?_); obtain ⟨g, cR, rfl, rfl⟩ := hR)
 | refine S_nil ?_
 | refine S_run rfl rfl obQ obQ ?_
 | refine S_box (fun bb => ⟨_, _, rfl, obQ, ?_⟩)
 )
 | (refine G_id ?_; first
 | refine G_then ?_
 | refine G_ret rfl obQ (fun w2 hw => ⟨_, rfl, hw.below, PicC.of (s := p.s) (HW.rowSlC (i := 0) hw rfl rfl rfl rfl) rfl rfl⟩)
 )
 )

set_option maxHeartbeats 400000 in
/-- genlocktop.boomSmall -/
theorem bsmall_c (p : Pic) (A : Option Addr) (c : Nat) (v : Bool) (hv : (shortB p && decide (picE p = 0)) = v) (w : World) (hr : Rd w A (p.s.map (.float .f32))) : Calls Try.prog 14 #[.agg #[.string p.nm, .int .i64 p.w, .int .i64 p.h, .slice A p.s.length c]] w fun r w' => r = .returned (.bool v) ∧ Below w.heap.size w w' := by
  refine calls_of (args := [.agg #[.string p.nm, .int .i64 p.w, .int .i64 p.h, .slice A p.s.length c]]) T_ok Try.func14 rfl Try.ntmps14 (Nat.le_of_ble_eq_true rfl) rfl ?_
  subst hv
  cases hsb : shortB p
  · repeat' (first
 | (refine C_id ?_; first
 | refine C_seq ?_
 | refine C_region rfl ?_
 | refine C_ret0 ?_
     )
 | (refine S_id ?_; first
 | ((with_reducible refine S_trueA ?_ ?_ ?_); (· rfl); (· first | rfl | (first | rfl | (rw [beq_iff_eq]; assumption) | omega)))
 | refine S_unG rfl rfl rfl rfl ?_
 | refine S_offG (.v (.bool false)) rfl rfl rfl rfl rfl ?_
 | refine S_nil ?_
 | refine S_runN rfl rfl obQ obQ ?_
 | refine S_box (fun bb => ⟨_, _, rfl, obQ, ?_⟩)
 | refine S_call (f := 43) rfl obQ (by kernel_rfl) (fun w hw => rShortPicture_c p _ _ _ hsb w) ?_
 | refine S_call (f := 20) rfl obQ (by kernel_rfl) (fun w hw => rCheckPicture_c p _ _ hs hnm w (hw.rdm hr.toS memQ)) ?_
     )
 | (refine G_id ?_; first
 | refine G_then ?_
 | refine G_ret rfl obQ (fun w hw => ⟨?_, hw.below⟩)
     )
     )
    all_goals rfl
  · obtain ⟨h1, h2⟩ := shortB_ok hsb
    have hs : p.s.length ≤ 1000000 := by omega
    have hnm : p.nm.size ≤ maxLen := by unfold maxLen; omega
    by_cases hp : picE p = 0
    · simp only [hp, decide_true]
      repeat' (first
 | (refine C_id ?_; first
 | refine C_seq ?_
 | refine C_region rfl ?_
 | refine C_ret0 ?_
       )
 | (refine S_id ?_; first
 | ((with_reducible refine S_trueA ?_ ?_ ?_); (· rfl); (· first | rfl | (first | rfl | (rw [beq_iff_eq]; assumption) | omega)))
 | refine S_unG rfl rfl rfl rfl ?_
 | refine S_offG (.v (.bool false)) rfl rfl rfl rfl rfl ?_
 | refine S_nil ?_
 | refine S_runN rfl rfl obQ obQ ?_
 | refine S_box (fun bb => ⟨_, _, rfl, obQ, ?_⟩)
 | refine S_call (f := 43) rfl obQ (by kernel_rfl) (fun w hw => rShortPicture_c p _ _ _ hsb w) ?_
 | refine S_call (f := 20) rfl obQ (by kernel_rfl) (fun w hw => rCheckPicture_c p _ _ hs hnm w (hw.rdm hr.toS memQ)) ?_
       )
 | (refine G_id ?_; first
 | refine G_then ?_
 | refine G_ret rfl obQ (fun w hw => ⟨?_, hw.below⟩)
       )
       )
      all_goals rfl
    · simp only [hp, decide_false]
      repeat' (first
 | (refine C_id ?_; first
 | refine C_seq ?_
 | refine C_region rfl ?_
 | refine C_ret0 ?_
       )
 | (refine S_id ?_; first
 | refine S_unG rfl rfl rfl rfl ?_
 | refine S_nil ?_
 | refine S_runN rfl rfl obQ obQ ?_
 | refine S_box (fun bb => ⟨_, _, rfl, obQ, ?_⟩)
 | refine S_call (f := 43) rfl obQ (by kernel_rfl) (fun w hw => rShortPicture_c p _ _ _ hsb w) ?_
 | refine S_call (f := 20) rfl obQ (by kernel_rfl) (fun w hw => rCheckPicture_c p _ _ hs hnm w (hw.rdm hr.toS memQ)) ?_
       )
 | (refine G_id ?_; first
 | refine G_then ?_
 | refine G_ret rfl obQ (fun w hw => ⟨?_, hw.below⟩)
       )
       )
      all_goals first | rfl | (rw [beq_eq_false_iff_ne.2 hp])
  all_goals rfl

end Go.Proofs.Ytedlaominconaaa
