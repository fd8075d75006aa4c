/- Fields; what the law calls: curves and pictures of its own, short ones. -/
import Derived.Test.YtedlaominconaaaDoorTops24
namespace Go.Proofs.YtedlaominconaaaDoor
open Go.E Go.RowKit Go.Fl
attribute [local irreducible] G C S D Calls
set_option maxRecDepth 100000
set_option linter.unusedSimpArgs false
set_option linter.unusedVariables false

theorem callRdS {w0 w w1 w2 : World} {Ps : Past} {σ : St} (hw : HW w0.heap.size w0 Ps σ w) {A : Option Addr} {xs : List Value} (h : RdS (fun b => w1.heap.size ≤ b ∧ b < w2.heap.size) w2 A xs) (hp : (w2, fun b => w1.heap.size ≤ b ∧ b < w2.heap.size) ∈ Ps) (h1 : w0.heap.size ≤ w1.heap.size) : RdS (fun b => w0.heap.size ≤ b ∧ b < w.heap.size) w A xs := by
  obtain ⟨A', c', e, hr⟩ := HW.callSl (n := 0) (c := 0) hw h hp h1
  injection e with e1
  subst e1
  exact hr
/-- Two pictures that a call hands back. -/
def FldR (w w' : World) (v : Value) (p q : Pic) : Prop := ∃ A c B d, v = .tuple #[.agg #[.string p.nm, .int .i64 p.w, .int .i64 p.h, .slice A p.s.length c, .string q.nm, .int .i64 q.w, .int .i64 q.h, .slice B q.s.length d], .int .i64 0] ∧ RdS (fun b => w.heap.size ≤ b ∧ b < w'.heap.size) w' A (p.s.map (.float .f32)) ∧ RdS (fun b => w.heap.size ≤ b ∧ b < w'.heap.size) w' B (q.s.map (.float .f32))
def fldP (nm : ByteArray) (s : List Nat) (W H fr : Nat) : Pic := rowsP nm s W ((H + 1 - fr) / 2) fun i => (fr + 2 * i) * W

set_option maxHeartbeats 1000000 in
/-- picture.Fields -/
theorem pfields_c (nm : ByteArray) (ad : Addr) (c W H : Nat) (s : List Nat) (hok : PicOk (⟨nm, ((W : Nat) : Int), ((H : Nat) : Int), s⟩ : Pic)) (hn : s.length = W * H) (h64 : W ≤ 64 ∧ H ≤ 64) (hc : s.length ≤ c) (hW0 : 0 < W) (h2 : 2 ≤ H) (w : World) (hr : Rd w (some ad) (s.map (.float .f32))) : Calls Tryd.prog 17 #[.agg #[.string nm, .int .i64 ((W : Nat) : Int), .int .i64 ((H : Nat) : Int), .slice (some ad) s.length c]] w fun r w' => ∃ v, r = .returned v ∧ Below w.heap.size w w' ∧ FldR w w' v (fldP nm s W H 0) (fldP nm s W H 1) := by
  have hs : s.length ≤ 1000000 := by have := wh_64 hn h64; omega
  refine calls_of (args := [.agg #[.string nm, .int .i64 ((W : Nat) : Int), .int .i64 ((H : Nat) : Int), .slice (some ad) s.length c]]) T_ok Tryd.func17 rfl Tryd.ntmps17 (Nat.le_of_ble_eq_true rfl) rfl ?_
  repeat' (first
 | (refine C_id ?_; first
 | refine C_seq ?_
 | refine C_region rfl ?_
 | refine C_block ?_
 | refine C_skip ?_
 | refine C_exit ?_
 | refine C_ret0 ?_
 | refine C_drawV (id := 1) 5 [(0, true), (2, true), (3, true), (4, true), (1, false)] rfl mixed (by kernel_rfl) rfl ?_
 | refine C_drawV (id := 4) 7 [(0, true), (1, true), (4, true), (5, true), (2, false), (3, false), (6, false)] rfl mixed (by kernel_rfl) rfl ?_
 | refine C_condT rfl obQ ?_
 | refine C_condF rfl obQ ?_
 | (refine C_cond rfl obQ (fun h => ?_) (fun h => ?_) <;> (try simp only [Bool.or_eq_true, Bool.and_eq_true, Bool.or_eq_false_iff, Bool.and_eq_false_iff, decide_eq_true_eq, decide_eq_false_iff_not, beq_iff_eq, bne_iff_ne, beq_eq_false_iff_ne, bne_eq_false_iff_eq, ne_eq, Decidable.not_not, List.cons.injEq, and_true, Bool.not_eq_true', Bool.not_eq_false', Int.not_lt, Int.not_le] at h) <;> (try (exfalso; omega)) <;> (try (exfalso; simp at h; done)) <;> (try (exfalso; simp only [not_true_eq_false, false_or, or_false] at h; omega)) <;> (try contradiction))
   )
 | (refine S_id ?_; first
 | ((with_reducible (first | refine S_falseN ?_ ?_ | refine S_falseB ?_ ?_ | refine S_falseL ?_ ?_ | refine S_falseD ?_ ?_ | refine S_falseE ?_ ?_)); · (first | rfl | omega | exact decide_eq_false (by omega) | (rw [beq_eq_false_iff_ne]; omega)))
 | ((with_reducible refine S_falseO ?_ ?_ ?_); (· rfl); (· first | rfl | (first | rfl | omega | exact decide_eq_false (by omega) | (rw [beq_eq_false_iff_ne]; omega))))
 | ((with_reducible (first | refine S_trueE ?_ ?_ | refine S_trueB ?_ ?_ | refine S_trueL ?_ ?_ | refine S_trueD ?_ ?_ | refine S_trueN ?_ ?_)); · (first | rfl | assumption | omega | exact decide_eq_true (by omega)))
 | ((with_reducible refine S_trueA ?_ ?_ ?_); (· rfl); (· first | rfl | (first | rfl | assumption | omega | exact decide_eq_true (by omega))))
 | refine S_unG rfl rfl rfl rfl ?_
 | (refine S_callM (f := 47) rfl obQ (by kernel_rfl) (fun w hw => pevery_c nm ad c W H s.length hn hW0 hc h64 0 (by omega) w) (fun w1E0 w2E0 vE0 hw1E0 hbE0 hRE0 => ?_); obtain ⟨AE0, cE0, rfl, hSE0, hcE0, _, _⟩ := hRE0; obtain ⟨aE0, rfl⟩ := rdP_some hSE0 (by simp; omega))
 | (refine S_callM (f := 46) rfl obQ (by kernel_rfl) (fun w hw => pmade_as (nm := nm) (Wd := W) (m := (H + 1 - 0) / 2) (s := s) (a := fun i => (0 + 2 * i) * W) (rm := fun i => c - (0 + 2 * i) * W) (adr := fun i => ad.add ((0 + 2 * i) * W * 1)) (by omega) (by omega) (by omega) w (hw.rdm hSE0 memQ) (fun i hi => (by have h1 := row_end hn (show 0 + 2 * i < H by omega); exact rd_map (rd_part (hw.rdm hr.toS memQ) ((0 + 2 * i) * W) W) h1))) (fun w1P0 w2P0 vP0 hw1P0 hbP0 hRP0 => ?_); obtain ⟨AP0, cP0, rfl, hSP0, _, _, _⟩ := hRP0)
 | (refine S_callM (f := 47) rfl obQ (by kernel_rfl) (fun w hw => pevery_c nm ad c W H s.length hn hW0 hc h64 1 (by omega) w) (fun w1E1 w2E1 vE1 hw1E1 hbE1 hRE1 => ?_); obtain ⟨AE1, cE1, rfl, hSE1, hcE1, _, _⟩ := hRE1; obtain ⟨aE1, rfl⟩ := rdP_some hSE1 (by simp; omega))
 | (refine S_callM (f := 46) rfl obQ (by kernel_rfl) (fun w hw => pmade_as (nm := nm) (Wd := W) (m := (H + 1 - 1) / 2) (s := s) (a := fun i => (1 + 2 * i) * W) (rm := fun i => c - (1 + 2 * i) * W) (adr := fun i => ad.add ((1 + 2 * i) * W * 1)) (by omega) (by omega) (by omega) w (hw.rdm hSE1 memQ) (fun i hi => (by have h1 := row_end hn (show 1 + 2 * i < H by omega); exact rd_map (rd_part (hw.rdm hr.toS memQ) ((1 + 2 * i) * W) W) h1))) (fun w1P1 w2P1 vP1 hw1P1 hbP1 hRP1 => ?_); obtain ⟨AP1, cP1, rfl, hSP1, _, _, _⟩ := hRP1)
 | refine S_offG (.v (.bool false)) rfl rfl rfl rfl rfl ?_
 | refine S_nil ?_
 | refine S_runN rfl rfl obQ obQ ?_
 | refine S_box (fun bb => ⟨_, _, rfl, obQ, ?_⟩)
 | refine S_slice (fun b => ⟨_, _, rfl, obQ, ?_⟩)
 | refine S_call (f := 44) rfl obQ (by kernel_rfl) (fun w hw => checkPZ (⟨nm, ((W : Nat) : Int), ((H : Nat) : Int), s⟩ : Pic) _ _ hs hok w (hw.rdm hr.toS memQ)) ?_
 | refine S_call (f := 45) rfl obQ (by kernel_rfl) (fun w hw => pwhen_c false 16 w) ?_
 | refine S_call (f := 43) rfl obQ (by kernel_rfl) (fun w hw => pfirst_z _ _ 2 (by simp) w (.inr ⟨_, rfl, hw.src (i := 2) rfl rfl⟩)) ?_
   )
 | (refine D_id ?_; first
 | refine D_nil ?_
 | refine D_tail ?_
 | refine D_run rfl rfl obQ obQ ?_
 | refine D_call (f := 44) rfl obQ (by kernel_rfl) (fun w hw => checkPZ (⟨nm, ((W : Nat) : Int), ((H : Nat) : Int), s⟩ : Pic) _ _ hs hok w (hw.rdm hr.toS memQ)) ?_
 | refine D_call (f := 45) rfl obQ (by kernel_rfl) (fun w hw => pwhen_c false 16 w) ?_
 | refine D_call (f := 43) rfl obQ (by kernel_rfl) (fun w hw => pfirst_z _ _ 2 (by simp) w (.inr ⟨_, rfl, hw.src (i := 2) rfl rfl⟩)) ?_
   )
 | (refine V_id ?_; first
 | refine V_nil ?_
 | refine V_q rfl (Yl_step rfl obQ) ?_
 | refine V_n rfl ?_
   )
 | (refine G_id ?_; first
 | refine G_V ⟨⟨_, rfl, trivial⟩, ⟨_, rfl⟩, rfl, pstQ⟩ rfl ?_
 | refine G_then ?_
 | refine G_block ?_
 | refine G_blockX ?_
 | refine G_blockN rfl ?_
 | refine G_blockR ?_
 | refine G_thenR ?_
 | refine G_thenX ?_
 | refine G_ret rfl obQ (fun w2 hw => ⟨_, rfl, hw.below, _, _, _, _, rfl, callRdS hw hSP0 memQ hw1P0.bsize, callRdS hw hSP1 memQ hw1P1.bsize⟩)
   )
   )

-- bcurve

set_option maxHeartbeats 400000 in
/-- genlocktop.boomPicture -/
theorem bpic_c (p : Pic) (A : Option Addr) (c : Nat) (hs : p.s.length ≤ 1000000) (h0 : 0 < p.s.length) (hA : A = none → p.s.length = 0 ∧ c = 0) (w : World) (hr : Rd w A (p.s.map (.float .f32))) : Calls Tryd.prog 10 #[.agg #[.string p.nm, .int .i64 p.w, .int .i64 p.h, .slice A p.s.length c]] w fun r w' => ∃ v, r = .returned v ∧ Below w.heap.size w w' ∧ PicC w w' v p := by
  refine calls_of (args := [.agg #[.string p.nm, .int .i64 p.w, .int .i64 p.h, .slice A p.s.length c]]) T_ok Tryd.func10 rfl Tryd.ntmps10 (Nat.le_of_ble_eq_true rfl) rfl ?_
  repeat' (first
 | (refine C_id ?_; first
 | refine C_seq ?_
 | refine C_region rfl ?_
 | refine C_block ?_
 | refine C_skip ?_
 | refine C_exit ?_
 | refine C_ret0 ?_
 | refine C_condT rfl obQ ?_
 | refine C_condF rfl obQ ?_
 | (refine C_cond rfl obQ (fun h => ?_) (fun h => ?_) <;> (try simp only [Bool.or_eq_true, Bool.and_eq_true, Bool.or_eq_false_iff, Bool.and_eq_false_iff, decide_eq_true_eq, decide_eq_false_iff_not, beq_iff_eq, bne_iff_ne, beq_eq_false_iff_ne, bne_eq_false_iff_eq, ne_eq, Decidable.not_not, List.cons.injEq, and_true, Bool.not_eq_true', Bool.not_eq_false', Int.not_lt, Int.not_le] at h))
 )
 | (refine S_id ?_; first
 | (refine S_callRws (f := 37) rfl obQ (by kernel_rfl) (fun w hw => rOwnR_c p A c hs h0 hA w (hw.rdm hr.toS memQ)) (fun v rs hR => ?_); obtain ⟨g, cR, rfl, rfl⟩ := hR)
 | refine S_nil ?_
 | refine S_run rfl rfl obQ obQ ?_
 | refine S_box (fun bb => ⟨_, _, rfl, obQ, ?_⟩)
 )
 | (refine G_id ?_; first
 | refine G_then ?_
 | refine G_block ?_
 | refine G_blockX ?_
 | refine G_blockN rfl ?_
 | refine G_blockR ?_
 | refine G_thenR ?_
 | refine G_thenX ?_
 | refine G_ret rfl obQ (fun w2 hw => ⟨_, rfl, hw.below, PicC.of (s := p.s) (HW.rowSlC (i := 0) hw rfl rfl rfl rfl) rfl rfl⟩)
 )
 )

-- bsmall

end Go.Proofs.YtedlaominconaaaDoor
