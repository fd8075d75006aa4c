/- Pictures of a row, planes of an interval, parts that are the same. -/
import Derived.Test.YtedlaominconaaaTops9
namespace Go.Proofs.Ytedlaominconaaa
open Go.E Go.RowKit Go.Fl
attribute [local irreducible] G C S D Calls
set_option maxRecDepth 100000
set_option linter.unusedSimpArgs false
set_option linter.unusedVariables false

/-- The planes of an interval. -/
def dpl (lo hi : Int) : List Pla := [⟨1, 1, 0, hi⟩, ⟨1, 0, 1, hi⟩, ⟨1, -1, 0, hi⟩, ⟨1, 0, -1, hi⟩, ⟨-1, -1, 0, -lo⟩, ⟨-1, 0, -1, -lo⟩, ⟨-1, 1, 0, -lo⟩, ⟨-1, 0, 1, -lo⟩]
/-- One level of a cycle, held against the interval. -/
def stP (lo hi : Int) (p : Int) (m : Int) (e : Int) : Int :=
  let p1 := if hi < e ∧ (p < 0 ∨ 3 < p) then m else p
  if e < lo ∧ p1 < 0 then 4 + m else p1
def cyP (lo hi : Int) (e0 e1 e2 e3 : Int) : Int := stP lo hi (stP lo hi (stP lo hi (stP lo hi (-1) 0 e0) 1 e1) 2 e2) 3 e3
theorem cyP_fb {lo hi y u v : Int} (h : lo ≤ hi) : cyP lo hi (y + u) (y + v) (y - u) (y - v) = fbF (dpl lo hi) (y, u, v) := by
  have h0 : offB (gPl (dpl lo hi) 0) (y, u, v) = decide (hi < y + u) := by simp [offB, gPl, dpl, dotF]
  have h1 : offB (gPl (dpl lo hi) 1) (y, u, v) = decide (hi < y + v) := by simp [offB, gPl, dpl, dotF]
  have h2 : offB (gPl (dpl lo hi) 2) (y, u, v) = decide (hi < y - u) := by simp [offB, gPl, dpl, dotF]; omega
  have h3 : offB (gPl (dpl lo hi) 3) (y, u, v) = decide (hi < y - v) := by simp [offB, gPl, dpl, dotF]; omega
  have h4 : offB (gPl (dpl lo hi) 4) (y, u, v) = decide (y + u < lo) := by simp [offB, gPl, dpl, dotF]; omega
  have h5 : offB (gPl (dpl lo hi) 5) (y, u, v) = decide (y + v < lo) := by simp [offB, gPl, dpl, dotF]; omega
  have h6 : offB (gPl (dpl lo hi) 6) (y, u, v) = decide (y - u < lo) := by simp [offB, gPl, dpl, dotF]; omega
  have h7 : offB (gPl (dpl lo hi) 7) (y, u, v) = decide (y - v < lo) := by simp [offB, gPl, dpl, dotF]; omega
  have hr : List.range (dpl lo hi).length = [0, 1, 2, 3, 4, 5, 6, 7] := rfl
  unfold fbF
  rw [hr]
  simp only [List.find?, h0, h1, h2, h3, h4, h5, h6, h7]
  generalize y + u = a0
  generalize y + v = a1
  generalize y - u = a2
  generalize y - v = a3
  unfold cyP
  have key : ∀ (a : Int), (hi < a ∧ ¬ a < lo) ∨ (¬ hi < a ∧ a < lo) ∨ (¬ hi < a ∧ ¬ a < lo) := fun a => by omega
  rcases key a0 with ⟨p0, q0⟩ | ⟨p0, q0⟩ | ⟨p0, q0⟩ <;> rcases key a1 with ⟨p1, q1⟩ | ⟨p1, q1⟩ | ⟨p1, q1⟩ <;> rcases key a2 with ⟨p2, q2⟩ | ⟨p2, q2⟩ | ⟨p2, q2⟩ <;> rcases key a3 with ⟨p3, q3⟩ | ⟨p3, q3⟩ | ⟨p3, q3⟩ <;> simp [stP, p0, p1, p2, p3, q0, q1, q2, q3]

theorem dsameS_as {A B : Option Addr} {c c2 n : Nat} {l : List Nat} (hn : l.length = n) (hl : n ≤ 1000000) (hs : ∀ x ∈ l, Fin32 x) (w : World) (hr : Rd w A (l.map (.float .f32))) (hr2 : Rd w B (l.map (.float .f32))) : Calls Try.prog 40 #[.slice A n c, .slice B n c2] w fun r w' => r = .returned (.bool true) ∧ Below w.heap.size w w' := by
  subst hn
  have h := rSameSamples_c A B c c2 l l hl hl hs hs w hr hr2
  rw [decide_eq_true rfl] at h
  exact h
theorem smp_fin {l : List Int} (h : ∀ x ∈ l, -16384 ≤ x ∧ x ≤ 16384) : ∀ b ∈ l.map smp, Fin32 b := fun b hb => (smp_all h b hb).fin

set_option maxHeartbeats 400000 in
/-- genlockref03.SameParts -/
theorem dsameParts_c (A B C A2 B2 C2 : Option Addr) (c1 c2 c3 c4 c5 c6 n m k : Nat) (L U V : List Nat) (hL : L.length = n) (hU : U.length = m) (hV : V.length = k) (hn : n ≤ 1000000) (hm : m ≤ 1000000) (hk : k ≤ 1000000) (fL : ∀ x ∈ L, Fin32 x) (fU : ∀ x ∈ U, Fin32 x) (fV : ∀ x ∈ V, Fin32 x) (w : World) (h1 : Rd w A (L.map (.float .f32))) (h2 : Rd w B (U.map (.float .f32))) (h3 : Rd w C (V.map (.float .f32))) (h4 : Rd w A2 (L.map (.float .f32))) (h5 : Rd w B2 (U.map (.float .f32))) (h6 : Rd w C2 (V.map (.float .f32))) : Calls Try.prog 12 #[.agg #[.slice A n c1, .slice B m c2, .slice C k c3], .agg #[.slice A2 n c4, .slice B2 m c5, .slice C2 k c6]] w fun r w' => r = .returned (.bool true) ∧ Below w.heap.size w w' := by
  refine calls_of (args := [.agg #[.slice A n c1, .slice B m c2, .slice C k c3], .agg #[.slice A2 n c4, .slice B2 m c5, .slice C2 k c6]]) T_ok Try.func12 rfl Try.ntmps12 (Nat.le_of_ble_eq_true rfl) rfl ?_
  repeat' (first
 | (refine C_id ?_; first
 | refine C_seq ?_
 | refine C_region rfl ?_
 | refine C_ret0 ?_
 )
 | (refine S_id ?_; first
 | ((with_reducible refine S_trueA ?_ ?_ ?_); (· rfl); (· first | rfl | (first | rfl | assumption | omega | exact decide_eq_true (by omega) | (rw [beq_iff_eq]; omega) | (rw [bne_iff_ne]; first | assumption | omega))))
 | refine S_unG rfl rfl rfl rfl ?_
 | refine S_nil ?_
 | refine S_runN rfl rfl obQ obQ ?_
 | refine S_box (fun b => ⟨_, _, rfl, obQ, ?_⟩)
 | refine S_call (f := 40) rfl obQ (by kernel_rfl) (fun w hw => dsameS_as hL hn fL w (hw.rdm h1.toS memQ) (hw.rdm h4.toS memQ)) ?_
 | refine S_call (f := 40) rfl obQ (by kernel_rfl) (fun w hw => dsameS_as hU hm fU w (hw.rdm h2.toS memQ) (hw.rdm h5.toS memQ)) ?_
 | refine S_call (f := 40) rfl obQ (by kernel_rfl) (fun w hw => dsameS_as hV hk fV w (hw.rdm h3.toS memQ) (hw.rdm h6.toS memQ)) ?_
 )
 | (refine G_id ?_; first
 | refine G_then ?_
 | refine G_ret rfl obQ (fun w hw => ⟨?_, hw.below⟩)
 )
 )
  all_goals rfl

/-- A picture that is handed back. -/
def PcR (w w' : World) (v : Value) (nm : ByteArray) (n : Nat) (xs : List Value) : Prop := ∃ A c, v = .agg #[.string nm, .int .i64 n, .int .i64 1, .slice A n c] ∧ RdS (fun b => w.heap.size ≤ b ∧ b < w'.heap.size) w' A xs
theorem smp_take {l : List Int} {k : Nat} (h : k < l.length) : ((l.take (k + 1)).map smp).map (Value.float .f32) = ((l.take k).map smp).map (Value.float .f32) ++ [.float .f32 (smp (gI l k))] := by
  rw [List.take_succ_eq_append_getElem h, gI_at h, List.map_append, List.map_append]
  rfl

set_option maxHeartbeats 1000000 in
/-- genlocktop.dollyRow -/
theorem drow_c (nm : ByteArray) (A : Option Addr) (c : Nat) (l : List Int) (hl : l.length ≤ 1000) (hb : ∀ x ∈ l, -16384 ≤ x ∧ x ≤ 16384) (w : World) (hr : Rd w A (l.map (.int .i64))) : Calls Try.prog 10 #[.string nm, .slice A l.length c] w fun r w' => ∃ v, r = .returned v ∧ Below w.heap.size w w' ∧ PcR w w' v nm l.length ((l.map smp).map (.float .f32)) := by
  refine calls_of (args := [.string nm, .slice A l.length c]) T_ok Try.func10 rfl Try.ntmps10 (Nat.le_of_ble_eq_true rfl) rfl ?_
  repeat' (first
   | (refine C_id ?_; first
   | refine C_seq ?_
   | refine C_regionNe 1 rfl rfl ?_
   )
   | (refine S_id ?_; first
   | refine S_nil ?_
   | refine S_box (fun b4 => ⟨_, _, rfl, obQ, ?_⟩)
   )
   | (refine G_id ?_; first
   | refine G_then ?_
   )
   )
  repeat' (first
   | (refine C_id ?_; first
   | refine C_seq ?_
   | refine C_regionNe 2 rfl rfl ?_
   )
   | (refine S_id ?_; first
   | refine S_nil ?_
   | refine S_run rfl rfl obQ obQ ?_
   | refine S_box (fun b5 => ⟨_, _, rfl, obQ, ?_⟩)
   )
   | (refine G_id ?_; first
   | refine G_then ?_
   )
   )
  refine C_rowB 47 1 [⟨b4, 44, [.v (.string ByteArray.empty), .v (.int .i64 0), .v (.int .i64 0), .v (.slice none 0 0)]⟩, ⟨b5, 44, [.v (.string nm), .v (.int .i64 l.length), .v (.int .i64 1), .r none 0 0 0]⟩] rfl ?_
  repeat' (first
   | (refine C_id ?_; first
   | refine C_seq ?_
   | refine C_region rfl ?_
   | refine C_block ?_
   )
   | (refine S_id ?_; first
   | refine S_nil ?_
   | refine S_run rfl rfl obQ obQ ?_
   | refine S_box (fun b => ⟨_, _, rfl, obQ, ?_⟩)
   )
   | (refine G_id ?_; first
   | refine G_then ?_
   )
   )
  refine C_loopS (fun i : Nat × Option Addr × Nat => ⟨[(4, .s (.p b4 0 0)), (5, .s (.p b5 1 0)), (12, .s (.v (.slice A l.length c))), (13, .s (.v (.int .i64 l.length))), (14, .s (.v (.int .i64 i.1)))], [⟨b4, 44, [.v (.string ByteArray.empty), .v (.int .i64 0), .v (.int .i64 0), .v (.slice none 0 0)]⟩, ⟨b5, 44, [.v (.string nm), .v (.int .i64 l.length), .v (.int .i64 1), .r i.2.1 i.1 i.2.2 0]⟩], [⟨47, 1, i.1, ((l.take i.1).map smp).map (.float .f32), .slice i.2.1 i.1 i.2.2⟩]⟩) (fun i => i.1 ≤ l.length) (fun i => l.length - i.1) (0, none, 0) (Nat.zero_le _) ?_ (fun i hi => ?_)
  · exact ⟨⟨_, rfl, obQ⟩, ⟨_, rfl⟩, rfl, pstQ⟩
  obtain ⟨k, A', c'⟩ := i
  have hk : k ≤ l.length := hi
  dsimp only
  by_cases hlt : k < l.length
  · obtain ⟨ad, rfl⟩ := hr.some (by simp; omega)
    have hbk := hb _ (gI_mem hlt)
    have hq := (smp_ok (n := gI l k) (by omega)).1
    have hmt := smp_take hlt
    repeat' (first
     | (refine C_id ?_; first
     | refine C_seq ?_
     | refine C_region rfl ?_
     | refine C_block ?_
     | refine C_skip ?_
     | (refine C_cond rfl obQ (fun h => ?_) (fun h => ?_) <;> (try simp only [Bool.or_eq_true, Bool.and_eq_true, Bool.or_eq_false_iff, Bool.and_eq_false_iff, decide_eq_true_eq, decide_eq_false_iff_not, beq_iff_eq, bne_iff_ne, beq_eq_false_iff_ne, bne_eq_false_iff_eq, ne_eq, Decidable.not_not, List.cons.injEq, and_true, Bool.not_eq_true', Bool.not_eq_false', Int.not_lt, Int.not_le] at h) <;> (try (exfalso; omega)))
     )
     | (refine S_id ?_; first
     | refine S_load rfl obQ rfl [.int .i64 (gI l k)] (.past (w, fun b => b < w.heap.size) memQ _ _ hr.toS _ _ rfl rfl (gI_idxZ rfl hlt)) rfl (.inr ⟨rfl, rfl⟩) ?_
     | refine S_pure (convX_pure rfl obQ (fun w => cv_flt (gI l k) w)) ?_
     | refine S_pure (binX_pure rfl obQ (fun w => fl_arith (op := .quo) (k := .f32) hq _ _ _ w)) ?_
     | refine S_append rfl obQ rfl rfl rfl ⟨by decide, rfl⟩ rfl ⟨rfl, rfl, rfl, rfl⟩ [.float .f32 (smp (gI l k))] ⟨by decide, rfl⟩ (by simp [Value.oneCell']) (fun w hw => by first | exact hw.src (i := 0) rfl rfl | exact hw.src (i := 1) rfl rfl | exact hw.src (i := 2) rfl rfl | exact hw.src (i := 3) rfl rfl | exact hw.src (i := 4) rfl rfl | exact hw.src (i := 5) rfl rfl | exact hw.src (i := 6) rfl rfl | exact hw.src (i := 7) rfl rfl | exact hw.src (i := 8) rfl rfl) (by unfold maxLen; dsimp only; omega) (fun gb cap' => ⟨_, rfl, ?_⟩)
     | refine S_nil ?_
     | refine S_run rfl rfl obQ obQ ?_
     | refine S_slice (fun b => ⟨_, _, rfl, obQ, ?_⟩)
     )
     | (refine G_id ?_; first
     | refine G_loop (k + 1, some ⟨gb, 0, none⟩, cap') (by show k + 1 ≤ l.length; omega) (by show l.length - (k + 1) < l.length - k; omega) ⟨⟨_, rfl, obQ⟩, ⟨_, rfl⟩, (by dsimp only; rw [hmt]), pstQ⟩
     | refine G_then ?_
     | refine G_block ?_
     )
     )
  · have hke : k = l.length := by omega
    subst hke
    rw [List.take_length]
    repeat' (first
     | (refine C_id ?_; first
     | refine C_seq ?_
     | refine C_region rfl ?_
     | refine C_exit ?_
     | refine C_ret0 ?_
     | (refine C_cond rfl obQ (fun h => ?_) (fun h => ?_) <;> (try simp only [Bool.or_eq_true, Bool.and_eq_true, Bool.or_eq_false_iff, Bool.and_eq_false_iff, decide_eq_true_eq, decide_eq_false_iff_not, beq_iff_eq, bne_iff_ne, beq_eq_false_iff_ne, bne_eq_false_iff_eq, ne_eq, Decidable.not_not, List.cons.injEq, and_true, Bool.not_eq_true', Bool.not_eq_false', Int.not_lt, Int.not_le] at h) <;> (try (exfalso; omega)))
     )
     | (refine S_id ?_; first
     | refine S_nil ?_
     | refine S_run rfl rfl obQ obQ ?_
     )
     | (refine G_id ?_; first
     | refine G_then ?_
     | refine G_blockX ?_
     | refine G_thenX ?_
     | refine G_ret rfl obQ (fun w2 hw => ⟨_, rfl, hw.below, by obtain ⟨B1, d1, e1, r1⟩ := HW.rowSl (i := 0) hw rfl rfl rfl rfl; injection e1 with e3 e4 e5; subst e3; subst e5; exact ⟨_, _, rfl, r1⟩⟩)
     )
     )

end Go.Proofs.Ytedlaominconaaa
