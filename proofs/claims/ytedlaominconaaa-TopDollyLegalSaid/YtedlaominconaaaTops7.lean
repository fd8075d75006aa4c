/- Composite signals: colour differences, a line decoded by itself. -/
import Derived.Test.YtedlaominconaaaTops6
import Derived.Test.YtedlaominconaaaEngAE
import Derived.Test.YtedlaominconaaaEngAI
namespace Go.Proofs.Ytedlaominconaaa
open Go.E Go.RowKit Go.Fl
attribute [local irreducible] G C S D Calls
set_option maxRecDepth 100000
set_option linter.unusedSimpArgs false
set_option linter.unusedVariables false

theorem block_rd {w : World} {ad : Addr} {xs : List Value} (h : Rd w (some ad) xs) (hx : 0 < xs.length) : ad.block < w.heap.size := by
  rcases h with h | ⟨ad', e, h2⟩
  · rw [h] at hx; simp at hx
  · cases e
    have := cell_lt (h2 0 xs[0] (List.getElem?_eq_getElem hx))
    rwa [block_of_add] at this
def dU (s den : Int) (q : Cy) : Int := rnd (s * (q.a - q.c)) den
def dV (s den : Int) (q : Cy) : Int := rnd (s * (q.b - q.d)) den
/-- Two slices. -/
def Sl22 (w w' : World) (v : Value) (n : Nat) (xs ys : List Value) : Prop := ∃ A c B c2, v = .tuple #[.slice A n c, .slice B n c2] ∧ RdS (fun b => w.heap.size ≤ b ∧ b < w'.heap.size) w' A xs ∧ RdS (fun b => w.heap.size ≤ b ∧ b < w'.heap.size) w' B ys
theorem cyL_len (l : List Int) (n : Nat) : (cyL l n).length = n := by simp [cyL]

set_option maxHeartbeats 4000000 in
/-- composite.differences -/
theorem ddiff_c (ad : Addr) (c : Nat) (l : List Int) (n : Nat) (hl : l.length = 4 * n) (hn0 : 0 < n) (hn : n ≤ 1000) (hc : 4 * n ≤ c) (hb : ∀ x ∈ l, -100000 ≤ x ∧ x ≤ 100000) (z s den : Int) (hs : sgL z = s) (hz : z = 0 ∨ z = 1) (hd : 1 ≤ den ∧ den ≤ 100) (w : World) (hr : Rd w (some ad) (l.map (.int .i64))) : Calls Try.prog 108 #[.slice (some ad) (4 * n) c, .int .i64 z, .int .i64 den] w fun r w' => ∃ v, r = .returned v ∧ Below w.heap.size w w' ∧ Sl22 w w' v n (((cyL l n).map (dU s den)).map (.int .i64)) (((cyL l n).map (dV s den)).map (.int .i64)) := by
  refine calls_ofM (args := [.slice (some ad) (4 * n) c, .int .i64 z, .int .i64 den]) T_ok Try.func108 rfl Try.ntmps108 (Nat.le_of_ble_eq_true rfl) rfl ?_
  have hs2 : s = 1 ∨ s = -1 := by
    rw [← hs]
    rcases hz with rfl | rfl
    · exact .inl rfl
    · exact .inr rfl
  have hblk := block_rd hr (by simp; omega)
  have hcl := cyL_len l n
  repeat' (first
   | (refine C_id ?_; first
   | refine C_seq ?_
   | refine C_regionNe 1 rfl rfl ?_
   )
   | (refine S_id ?_; first
   | (refine S_box (fun b4 => ⟨_, _, rfl, obQ, ?_⟩); refine S_box (fun b5 => ⟨_, _, rfl, obQ, ?_⟩))
   | refine S_nil ?_
   | refine S_run rfl rfl obQ obQ ?_
   )
   | (refine G_id ?_; first
   | refine G_then ?_
   )
   )
  repeat' (first
   | (refine C_id ?_; first
   | refine C_seq ?_
   | refine C_regionNe 2 rfl rfl ?_
   )
   | (refine S_id ?_; first
   | (refine S_box (fun b8 => ⟨_, _, rfl, obQ, ?_⟩); refine S_box (fun b9 => ⟨_, _, rfl, obQ, ?_⟩))
   | refine S_nil ?_
   )
   | (refine G_id ?_; first
   | refine G_then ?_
   )
   )
  repeat' (first
   | (refine C_id ?_; first
   | refine C_region rfl ?_
   | refine C_block ?_
   )
   | (refine S_id ?_; first
   | (refine S_callM (f := 120) rfl obQ (by kernel_rfl) (fun w hw => dcycles_c ad (4 * n) c w) (fun w1C w2C vC hw1C hbC hRC => ?_); obtain ⟨bC, rfl, hbC, hMC⟩ := hRC)
   | refine S_nil ?_
   | refine S_run rfl rfl obQ obQ ?_
   )
   | (refine G_id ?_; first
   | refine G_then ?_
   )
   )
  refine C_rowB 3 1 [⟨b4, 3, [.v (.int .i64 z)]⟩, ⟨b5, 3, [.v (.int .i64 den)]⟩, ⟨b8, 27, [.r none 0 0 0]⟩, ⟨b9, 27, [.v (.slice none 0 0)]⟩] rfl ?_
  refine C_rowB 3 1 [⟨b4, 3, [.v (.int .i64 z)]⟩, ⟨b5, 3, [.v (.int .i64 den)]⟩, ⟨b8, 27, [.r none 0 0 0]⟩, ⟨b9, 27, [.r none 0 0 1]⟩] rfl ?_
  refine C_rangeFuncE rfl rfl obQ (by kernel_rfl) (encs := encY) (cyL l n) (fun _ => rfl) (by intro t ht; simp at ht; rcases ht with rfl | rfl <;> exact Nat.le_of_ble_eq_true rfl) (fun q => [(14, .int .i64 q.i), (15, .agg #[.int .i64 q.a, .int .i64 q.b, .int .i64 q.c, .int .i64 q.d])]) (fun q => by simp [encY]) (fun w3 hw3 => ?_) (fun (pre : List Cy) (i : (Option Addr × Nat) × (Option Addr × Nat)) => ⟨[], [⟨b4, 3, [.v (.int .i64 z)]⟩, ⟨b5, 3, [.v (.int .i64 den)]⟩, ⟨b8, 27, [.r i.1.1 pre.length i.1.2 0]⟩, ⟨b9, 27, [.r i.2.1 pre.length i.2.2 1]⟩], [⟨3, 1, pre.length, (pre.map (dU s den)).map (.int .i64), .slice i.1.1 pre.length i.1.2⟩, ⟨3, 1, pre.length, (pre.map (dV s den)).map (.int .i64), .slice i.2.1 pre.length i.2.2⟩]⟩) ((none, 0), (none, 0)) (fun w3 hw3 => HW.same hw3 rfl rfl) (fun l' L W3 pre q i hpre hwp => ?_) (fun D WD i hBD hWD hnD => ?_)
  · exact cycles_seq bC l n hl hn hb ad c hc _ ⟨(w2C, fun b => w1C.heap.size ≤ b ∧ b < w2C.heap.size), by simp, hbC⟩ ⟨(w, fun b => b < w.heap.size), by simp, hblk⟩ w3 ⟨((hw3.past (w2C, fun b => w1C.heap.size ≤ b ∧ b < w2C.heap.size) (by simp) bC hbC).1.2).trans hMC, hw3.rdm hr.toS memQ⟩
  · try dsimp only
    have hpl : pre.length ≤ 1000 := by omega
    have hqo := q.ok
    have k1 : -200000 ≤ s * (q.a - q.c) ∧ s * (q.a - q.c) ≤ 200000 := by rcases hs2 with rfl | rfl <;> omega
    have k2 : -200000 ≤ s * (q.b - q.d) ∧ s * (q.b - q.d) ≤ 200000 := by rcases hs2 with rfl | rfl <;> omega
    obtain ⟨⟨A1, c1⟩, ⟨A2, c2⟩⟩ := i
    dsimp only at hwp ⊢
    repeat' (first
     | (refine C_id ?_; first
     | refine C_seq ?_
     | refine C_region rfl ?_
     | refine C_block ?_
     | refine C_drawV (id := 4) 12 [(0, true), (1, true), (3, true), (4, true), (5, true), (6, true), (7, true), (9, true), (2, false), (8, true), (10, false), (11, false)] rfl mixed (by kernel_rfl) rfl ?_
     | refine C_drawV (id := 5) 12 [(0, true), (1, true), (3, true), (4, true), (5, true), (6, true), (7, true), (9, true), (2, false), (8, true), (10, false), (11, false)] rfl mixed (by kernel_rfl) rfl ?_
     )
     | (refine S_id ?_; first
     | refine S_append rfl obQ rfl rfl rfl ⟨by decide, rfl⟩ rfl ⟨rfl, rfl, rfl, rfl⟩ [.int .i64 (rnd (s * (q.a - q.c)) den)] ⟨by decide, rfl⟩ (by simp [Value.oneCell']) (fun w hw => by first | exact hw.src (i := 0) rfl rfl | exact hw.src (i := 1) rfl rfl | exact hw.src (i := 2) rfl rfl | exact hw.src (i := 3) rfl rfl | exact hw.src (i := 4) rfl rfl | exact hw.src (i := 5) rfl rfl | exact hw.src (i := 6) rfl rfl | exact hw.src (i := 7) rfl rfl | exact hw.src (i := 8) rfl rfl) (by unfold maxLen; dsimp only; omega) (fun gb cap' => ⟨_, rfl, ?_⟩)
     | refine S_append rfl obQ rfl rfl rfl ⟨by decide, rfl⟩ rfl ⟨rfl, rfl, rfl, rfl⟩ [.int .i64 (rnd (s * (q.b - q.d)) den)] ⟨by decide, rfl⟩ (by simp [Value.oneCell']) (fun w hw => by first | exact hw.src (i := 0) rfl rfl | exact hw.src (i := 1) rfl rfl | exact hw.src (i := 2) rfl rfl | exact hw.src (i := 3) rfl rfl | exact hw.src (i := 4) rfl rfl | exact hw.src (i := 5) rfl rfl | exact hw.src (i := 6) rfl rfl | exact hw.src (i := 7) rfl rfl | exact hw.src (i := 8) rfl rfl) (by unfold maxLen; dsimp only; omega) (fun gb2 cap2 => ⟨_, rfl, ?_⟩)
     | refine S_nil ?_
     | refine S_run rfl rfl obQ obQ ?_
     | refine S_box (fun b11 => ⟨_, _, rfl, obQ, ?_⟩)
     | refine S_slice (fun b => ⟨_, _, rfl, obQ, ?_⟩)
     | refine S_call (f := 105) rfl obQ (by kernel_rfl) (fun w hw => dsignK_c hs hz w) ?_
     | refine S_call (f := 121) rfl obQ (by kernel_rfl) (fun w hw => drounded_c _ _ (by omega) (by omega) w) ?_
     )
     | (refine V_id ?_; first
     | refine V_nil ?_
     | refine V_q rfl (Yl_step rfl obQ) ?_
     | refine V_n rfl ?_
     )
     | (refine G_id ?_; first
     | refine G_V ⟨⟨_, rfl, trivial⟩, ⟨_, rfl⟩, rfl, pstQ⟩ rfl ?_
     | refine G_assignE hwp (fun W4 hw4 => ?_)
     | refine G_roundE ((some ⟨gb, 0, none⟩, cap'), (some ⟨gb2, 0, none⟩, cap2)) (by dsimp only; rw [List.length_append]; simp only [List.map_append]; exact ⟨⟨_, rfl, obQ⟩, ⟨_, rfl⟩, rfl, pstQ⟩) hw4
     | refine G_then ?_
     | refine G_block ?_
     )
     )
  · obtain ⟨⟨A1, c1⟩, ⟨A2, c2⟩⟩ := i
    try dsimp only
    repeat' (first
     | (refine C_id ?_; first
     | refine C_seq ?_
     | refine C_ret0 ?_
     | refine C_draw (id := 6) rfl mixed (by kernel_rfl) ?_
     )
     | (refine D_id ?_; first
     | refine D_nil ?_
     | refine D_run rfl rfl obQ obQ ?_
     )
     | (refine G_id ?_; first
     | refine G_then ?_
     | refine G_block ?_
     | refine G_retD rfl obQ ((DsP.nil _ _).cons hBD hWD hnD) (fun w2 hw => ⟨_, rfl, hw.below, by obtain ⟨B1, d1, e1, r1⟩ := HW.rowSl (i := 0) hw rfl rfl rfl rfl; obtain ⟨B2, d2, e2, r2⟩ := HW.rowSl (i := 1) hw rfl rfl rfl rfl; injection e1 with e3 e4 e5; injection e2 with e6 e7 e8; subst e3; subst e5; subst e6; subst e8; rw [hcl] at *; exact ⟨_, _, _, _, rfl, r1, r2⟩⟩)
     )
     )

end Go.Proofs.Ytedlaominconaaa
