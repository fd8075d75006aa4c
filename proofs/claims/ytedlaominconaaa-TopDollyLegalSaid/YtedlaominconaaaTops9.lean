/- Violations; pictures of a row, parts of colours, planes of an interval. -/
import Derived.Test.YtedlaominconaaaTops8
import Derived.Test.YtedlaominconaaaColour18
namespace Go.Proofs.Ytedlaominconaaa
open Go.E Go.RowKit Go.Fl
attribute [local irreducible] G C S D Calls
set_option maxRecDepth 100000
set_option linter.unusedSimpArgs false
set_option linter.unusedVariables false

theorem pic_len {p : Pic} (h : PicOk p) : p.s.length ≤ 4096 ∧ 0 < p.s.length := by
  have h1 := h.n
  have h2 := Int.mul_le_mul h.w.2 h.h.2 (by have := h.h; omega) (by omega)
  have h3 := Int.mul_pos (show 0 < p.w by have := h.w; omega) (show 0 < p.h by have := h.h; omega)
  omega

/-- The violations among the first places. -/
def viF (g : List Pla) (x y z : Pic) (k : Nat) : List Pt := ((List.range k).filter fun i => decide (fbF g (plA x y z i) ≠ -1)).map fun (i : Nat) => ((i : Int), fbF g (plA x y z i))
theorem viF_t {g : List Pla} {x y z : Pic} {k : Nat} (h : ¬ fbF g (plA x y z k) = -1) : viF g x y z (k + 1) = viF g x y z k ++ [((k : Int), fbF g (plA x y z k))] := by
  unfold viF
  rw [List.range_succ, List.filter_append, List.map_append]
  simp [h]
theorem viF_f {g : List Pla} {x y z : Pic} {k : Nat} (h : fbF g (plA x y z k) = -1) : viF g x y z (k + 1) = viF g x y z k := by
  unfold viF
  rw [List.range_succ, List.filter_append, List.map_append]
  simp [h]
theorem viF_len (g : List Pla) (x y z : Pic) (k : Nat) : (viF g x y z k).length ≤ k := by
  unfold viF
  rw [List.length_map]
  have := List.length_filter_le (fun i => decide (fbF g (plA x y z i) ≠ -1)) (List.range k)
  simpa using this
def viO (g : List Pla) (pre : List OPl) : List Pt := (pre.filter fun q => decide (fbF g q.c ≠ -1)).map fun q => ((q.i : Int), fbF g q.c)
theorem viO_t {g : List Pla} {pre : List OPl} {q : OPl} (h : ¬ fbF g q.c = -1) : viO g (pre ++ [q]) = viO g pre ++ [((q.i : Int), fbF g q.c)] := by
  unfold viO
  rw [List.filter_append, List.map_append]
  simp [h]
theorem viO_f {g : List Pla} {pre : List OPl} {q : OPl} (h : fbF g q.c = -1) : viO g (pre ++ [q]) = viO g pre := by
  unfold viO
  rw [List.filter_append, List.map_append]
  simp [h]
theorem viO_len (g : List Pla) (pre : List OPl) : (viO g pre).length ≤ pre.length := by
  unfold viO
  rw [List.length_map]
  exact List.length_filter_le _ _
theorem viO_eq {g : List Pla} {x y z : Pic} (ht : ThOk x y z) : viO g (plL x y z) = viF g x y z x.s.length := by
  unfold viO viF plL
  rw [List.filter_map, List.map_map]
  have e : ∀ k ∈ List.range x.s.length, (toP x y z k).c = plA x y z k ∧ (toP x y z k).i = k := fun k hk => toP_c (plA_ok ht (List.mem_range.1 hk)).1
  rw [List.filter_congr (q := fun i => decide (fbF g (plA x y z i) ≠ -1)) (fun k hk => by simp only [Function.comp]; rw [(e k hk).1])]
  refine List.map_congr_left fun k hk => ?_
  have := e k (List.mem_filter.1 hk).1
  simp only [Function.comp]
  rw [this.1, this.2]
def viE (g : List Pla) (x y z : Pic) : Int := firstL [gmE g, thE x y z]
theorem viE_ok {g : List Pla} {x y z : Pic} (h : viE g x y z = 0) : gmE g = 0 ∧ ThOk x y z := by
  unfold viE at h
  rw [firstL_zero] at h
  simp only [List.mem_cons, List.mem_nil_iff, or_false, forall_eq_or_imp, forall_eq, th_ok] at h
  exact h
theorem ptC_snoc (l : List Pt) (a b : Int) : (l ++ [(a, b)]).flatMap ptC = l.flatMap ptC ++ [.int .i64 a, .int .i64 b] := by rw [List.flatMap_append]; rfl

set_option maxHeartbeats 1000000 in
/-- colour.Violations -/
theorem ViolationsE_c (A : Option Addr) (c : Nat) (g : List Pla) (hg6 : g.length ≤ 1000000) (x y z : Pic) (Ax Ay Az : Option Addr) (cx cy cz : Nat) (hsx : x.s.length ≤ 1000000) (hsy : y.s.length ≤ 1000000) (hsz : z.s.length ≤ 1000000) (hne : ¬ viE g x y z = 0) (w : World) (hr : Rd w A (g.flatMap plC)) (hrx : Rd w Ax (x.s.map (.float .f32))) (hry : Rd w Ay (y.s.map (.float .f32))) (hrz : Rd w Az (z.s.map (.float .f32))) : Calls Try.prog 8 #[.slice A g.length c, .agg #[.string x.nm, .int .i64 x.w, .int .i64 x.h, .slice Ax x.s.length cx, .string y.nm, .int .i64 y.w, .int .i64 y.h, .slice Ay y.s.length cy, .string z.nm, .int .i64 z.w, .int .i64 z.h, .slice Az z.s.length cz]] w fun r w' => ∃ v, r = .returned v ∧ Below w.heap.size w w' ∧ Sl2 w w' v 0 [] (.int .i64 (viE g x y z)) := by
  refine calls_ofM (args := [.slice A g.length c, .agg #[.string x.nm, .int .i64 x.w, .int .i64 x.h, .slice Ax x.s.length cx, .string y.nm, .int .i64 y.w, .int .i64 y.h, .slice Ay y.s.length cy, .string z.nm, .int .i64 z.w, .int .i64 z.h, .slice Az z.s.length cz]]) T_ok Try.func8 rfl Try.ntmps8 (Nat.le_of_ble_eq_true rfl) rfl ?_
  have hne' : ¬ firstL [gmE g, thE x y z] = 0 := hne
  repeat' (first
 | (refine C_id ?_; first
 | refine C_seq ?_
 | refine C_region rfl ?_
 | refine C_ret0 ?_
 | refine C_drawV (id := 1) 3 [(0, true), (2, true), (1, false)] rfl mixed (by kernel_rfl) rfl ?_
 | (refine C_cond rfl obQ (fun h => ?_) (fun h => ?_) <;> (try simp only [Bool.or_eq_true, Bool.and_eq_true, Bool.or_eq_false_iff, Bool.and_eq_false_iff, decide_eq_true_eq, decide_eq_false_iff_not, beq_iff_eq, bne_iff_ne, beq_eq_false_iff_ne, bne_eq_false_iff_eq, ne_eq, Decidable.not_not, List.cons.injEq, and_true, Bool.not_eq_true', Bool.not_eq_false', Int.not_lt, Int.not_le] at h) <;> (try (exfalso; omega)) <;> (try (exfalso; simp at h; done)) <;> (try (exfalso; simp only [not_true_eq_false, false_or, or_false] at h; omega)) <;> (try contradiction))
 )
 | (refine S_id ?_; first
 | refine S_nil ?_
 | refine S_run rfl rfl obQ obQ ?_
 | refine S_box (fun b => ⟨_, _, rfl, obQ, ?_⟩)
 | refine S_slice (fun b => ⟨_, _, rfl, obQ, ?_⟩)
 | refine S_call (f := 32) rfl obQ (by kernel_rfl) (fun w hw => checkGamut_c A c g hg6 w (hw.rdm hr.toS memQ)) ?_
 | refine S_call (f := 33) rfl obQ (by kernel_rfl) (fun w hw => checkThree_c x y z _ _ _ cx cy cz hsx hsy hsz w (hw.rdm hrx.toS memQ) (hw.rdm hry.toS memQ) (hw.rdm hrz.toS memQ)) ?_
 | refine S_call (f := 31) rfl obQ (by kernel_rfl) (fun w hw => cfirst_c _ _ [gmE g, thE x y z] (by simp) w (.inr ⟨_, rfl, hw.src (i := 2) rfl rfl⟩)) ?_
 )
 | (refine V_id ?_; first
 | refine V_nil ?_
 | refine V_q rfl (Yl_step rfl obQ) ?_
 | refine V_n rfl ?_
 )
 | (refine G_id ?_; first
 | refine G_V ⟨⟨_, rfl, trivial⟩, ⟨_, rfl⟩, rfl, pstQ⟩ rfl ?_
 | refine G_then ?_
 | refine G_thenR ?_
 | refine G_retD rfl obQ (DsP.nil _ _) (fun w2 hw => ⟨_, rfl, hw.below, Sl.two (v := .slice none 0 0) (Sl.nil_ _ _) rfl⟩)
 )
 )

set_option maxHeartbeats 4000000 in
/-- colour.Violations -/
theorem Violations_c (A : Option Addr) (c : Nat) (g : List Pla) (hg6 : g.length ≤ 1000000) (x y z : Pic) (ax ay az : Addr) (cx cy cz : Nat) (hsx : x.s.length ≤ 1000000) (hsy : y.s.length ≤ 1000000) (hsz : z.s.length ≤ 1000000) (hE : viE g x y z = 0) (w : World) (hr : Rd w A (g.flatMap plC)) (hrx : Rd w (some ax) (x.s.map (.float .f32))) (hry : Rd w (some ay) (y.s.map (.float .f32))) (hrz : Rd w (some az) (z.s.map (.float .f32))) : Calls Try.prog 8 #[.slice A g.length c, .agg #[.string x.nm, .int .i64 x.w, .int .i64 x.h, .slice (some ax) x.s.length cx, .string y.nm, .int .i64 y.w, .int .i64 y.h, .slice (some ay) y.s.length cy, .string z.nm, .int .i64 z.w, .int .i64 z.h, .slice (some az) z.s.length cz]] w fun r w' => ∃ v, r = .returned v ∧ Below w.heap.size w w' ∧ Sl2 w w' v (viF g x y z x.s.length).length ((viF g x y z x.s.length).flatMap ptC) (.int .i64 0) := by
  refine calls_ofM (args := [.slice A g.length c, .agg #[.string x.nm, .int .i64 x.w, .int .i64 x.h, .slice (some ax) x.s.length cx, .string y.nm, .int .i64 y.w, .int .i64 y.h, .slice (some ay) y.s.length cy, .string z.nm, .int .i64 z.w, .int .i64 z.h, .slice (some az) z.s.length cz]]) T_ok Try.func8 rfl Try.ntmps8 (Nat.le_of_ble_eq_true rfl) rfl ?_
  obtain ⟨hg, ht⟩ := viE_ok hE
  have hE' : firstL [gmE g, thE x y z] = 0 := hE
  obtain ⟨h4, hx0⟩ := pic_len ht.px
  have hln := ht.len
  have hbx := block_rd hrx (by simp; omega)
  have hby := block_rd hry (by simp; omega)
  have hbz := block_rd hrz (by simp; omega)
  rw [← viO_eq ht]
  repeat' (first
   | (refine C_id ?_; first
   | refine C_seq ?_
   | refine C_region rfl ?_
   | refine C_block ?_
   | refine C_skip ?_
   | refine C_drawV (id := 1) 3 [(0, true), (2, true), (1, false)] rfl mixed (by kernel_rfl) rfl ?_
   | (refine C_cond rfl obQ (fun h => ?_) (fun h => ?_) <;> (try simp only [Bool.or_eq_true, Bool.and_eq_true, Bool.or_eq_false_iff, Bool.and_eq_false_iff, decide_eq_true_eq, decide_eq_false_iff_not, beq_iff_eq, bne_iff_ne, beq_eq_false_iff_ne, bne_eq_false_iff_eq, ne_eq, Decidable.not_not, List.cons.injEq, and_true, Bool.not_eq_true', Bool.not_eq_false', Int.not_lt, Int.not_le] at h) <;> (try (exfalso; omega)) <;> (try (exfalso; simp at h; done)) <;> (try (exfalso; simp only [not_true_eq_false, false_or, or_false] at h; omega)) <;> (try contradiction))
   )
   | (refine S_id ?_; first
   | (refine S_callM (f := 34) rfl obQ (by kernel_rfl) (fun w hw => places_c x y z ax ay az cx cy cz w) (fun w1C w2C vC hw1C hbC hRC => ?_); obtain ⟨bC, rfl, hbC, hMC⟩ := hRC)
   | refine S_nil ?_
   | refine S_run rfl rfl obQ obQ ?_
   | refine S_box (fun b => ⟨_, _, rfl, obQ, ?_⟩)
   | refine S_slice (fun b => ⟨_, _, rfl, obQ, ?_⟩)
   | refine S_call (f := 32) rfl obQ (by kernel_rfl) (fun w hw => checkGamut_c A c g hg6 w (hw.rdm hr.toS memQ)) ?_
   | refine S_call (f := 33) rfl obQ (by kernel_rfl) (fun w hw => checkThree_c x y z _ _ _ cx cy cz hsx hsy hsz w (hw.rdm hrx.toS memQ) (hw.rdm hry.toS memQ) (hw.rdm hrz.toS memQ)) ?_
   | refine S_call (f := 31) rfl obQ (by kernel_rfl) (fun w hw => cfirst_c _ _ [gmE g, thE x y z] (by simp) w (.inr ⟨_, rfl, hw.src (i := 2) rfl rfl⟩)) ?_
   )
   | (refine V_id ?_; first
   | refine V_nil ?_
   | refine V_q rfl (Yl_step rfl obQ) ?_
   | refine V_n rfl ?_
   )
   | (refine G_id ?_; first
   | refine G_V ⟨⟨_, rfl, trivial⟩, ⟨_, rfl⟩, rfl, pstQ⟩ rfl ?_
   | refine G_then ?_
   )
   )
  rename_i b2 b3 bs hbC0
  obtain ⟨b7, rfl⟩ : ∃ z, z = b := ⟨b, rfl⟩
  refine C_rowB 49 2 [⟨b2, 41, [.v (.slice A g.length c)]⟩, ⟨b3, 46, [.v (.string x.nm), .v (.int .i64 x.w), .v (.int .i64 x.h), .v (.slice (some ax) x.s.length cx), .v (.string y.nm), .v (.int .i64 y.w), .v (.int .i64 y.h), .v (.slice (some ay) y.s.length cy), .v (.string z.nm), .v (.int .i64 z.w), .v (.int .i64 z.h), .v (.slice (some az) z.s.length cz)]⟩, ⟨bs, 32, [.v (.int .i64 (gmE g)), .v (.int .i64 (thE x y z))]⟩, ⟨b7, 38, [.r none 0 0 0]⟩] rfl ?_
  refine C_rangeFuncE rfl rfl obQ (by kernel_rfl) (encs := encP) (plL x y z) (fun _ => rfl) (by intro t ht; simp at ht; rcases ht with rfl | rfl <;> exact Nat.le_of_ble_eq_true rfl) (fun q => [(22, .int .i64 q.i), (23, triV q.c)]) (fun q => by simp [encP]) (fun w3 hw3 => ?_) (fun (pre : List OPl) (i : Option Addr × Nat) => ⟨[], [⟨b2, 41, [.v (.slice A g.length c)]⟩, ⟨b3, 46, [.v (.string x.nm), .v (.int .i64 x.w), .v (.int .i64 x.h), .v (.slice (some ax) x.s.length cx), .v (.string y.nm), .v (.int .i64 y.w), .v (.int .i64 y.h), .v (.slice (some ay) y.s.length cy), .v (.string z.nm), .v (.int .i64 z.w), .v (.int .i64 z.h), .v (.slice (some az) z.s.length cz)]⟩, ⟨bs, 32, [.v (.int .i64 (gmE g)), .v (.int .i64 (thE x y z))]⟩, ⟨b7, 38, [.r i.1 (viO g pre).length i.2 0]⟩], [⟨49, 2, (viO g pre).length, (viO g pre).flatMap ptC, .slice i.1 (viO g pre).length i.2⟩]⟩) (none, 0) (fun w3 hw3 => HW.same hw3 rfl rfl) (fun l L W3 pre q i hpre hwp => ?_) (fun D WD i hBD hWD hnD => ?_)
  · exact places_seq bC x y z ax ay az cx cy cz ht hsx _ ⟨(w2C, fun b => w1C.heap.size ≤ b ∧ b < w2C.heap.size), by simp, hbC⟩ ⟨(w, fun b => b < w.heap.size), by simp, hbx⟩ ⟨(w, fun b => b < w.heap.size), by simp, hby⟩ ⟨(w, fun b => b < w.heap.size), by simp, hbz⟩ w3 ⟨((hw3.past (w2C, fun b => w1C.heap.size ≤ b ∧ b < w2C.heap.size) (by simp) bC hbC).1.2).trans hMC, hw3.rdm hrx.toS memQ, hw3.rdm hry.toS memQ, hw3.rdm hrz.toS memQ⟩
  · try dsimp only
    have hpl : pre.length ≤ 1000000 := by simp [plL] at hpre; omega
    have hvl := viO_len g pre
    by_cases hfb : fbF g q.c = -1
    · have hsn := viO_f (pre := pre) hfb
      repeat' (first
       | (refine C_id ?_; first
       | refine C_seq ?_
       | refine C_region rfl ?_
       | refine C_block ?_
       | refine C_skip ?_
       | (refine C_cond rfl obQ (fun h => ?_) (fun h => ?_) <;> (try simp only [Bool.or_eq_true, Bool.and_eq_true, Bool.or_eq_false_iff, Bool.and_eq_false_iff, decide_eq_true_eq, decide_eq_false_iff_not, beq_iff_eq, bne_iff_ne, beq_eq_false_iff_ne, bne_eq_false_iff_eq, ne_eq, Decidable.not_not, List.cons.injEq, and_true, Bool.not_eq_true', Bool.not_eq_false', Int.not_lt, Int.not_le] at h) <;> (try (exfalso; omega)) <;> (try (exfalso; simp at h; done)) <;> (try (exfalso; simp only [not_true_eq_false, false_or, or_false] at h; omega)) <;> (try (exfalso; simp at h; omega)))
       )
       | (refine S_id ?_; first
       | refine S_pure (binX_pure rfl obQ (fun w => ne_flat (k := .i64) (n := 2) (xs := [(q.i : Int), fbF g q.c]) (ys := [(q.i : Int), -1]) (by kernel_rfl) rfl rfl _ _ w)) ?_
       | refine S_nil ?_
       | refine S_run rfl rfl obQ obQ ?_
       | refine S_box (fun b0 => ⟨_, _, rfl, obQ, ?_⟩)
       | refine S_call (f := 35) rfl obQ (by kernel_rfl) (fun w hw => forbids_c A c g q.c hg q.ok w (hw.rdm hr.toS memQ)) ?_
       )
       | (refine G_id ?_; first
       | refine G_assignE hwp (fun W4 hw4 => ?_)
       | refine G_roundE i (by dsimp only; rw [hsn]; exact ⟨⟨_, rfl, obQ⟩, ⟨_, rfl⟩, rfl, pstQ⟩) hw4
       | refine G_then ?_
       | refine G_block ?_
       )
       )
    · have hsn := viO_t (pre := pre) hfb
      repeat' (first
       | (refine C_id ?_; first
       | refine C_seq ?_
       | refine C_region rfl ?_
       | refine C_block ?_
       | (refine C_cond rfl obQ (fun h => ?_) (fun h => ?_) <;> (try simp only [Bool.or_eq_true, Bool.and_eq_true, Bool.or_eq_false_iff, Bool.and_eq_false_iff, decide_eq_true_eq, decide_eq_false_iff_not, beq_iff_eq, bne_iff_ne, beq_eq_false_iff_ne, bne_eq_false_iff_eq, ne_eq, Decidable.not_not, List.cons.injEq, and_true, Bool.not_eq_true', Bool.not_eq_false', Int.not_lt, Int.not_le] at h) <;> (try (exfalso; omega)) <;> (try (exfalso; simp at h; done)) <;> (try (exfalso; simp only [not_true_eq_false, false_or, or_false] at h; omega)) <;> (try (exfalso; simp at h; omega)))
       )
       | (refine S_id ?_; first
       | refine S_pure (binX_pure rfl obQ (fun w => ne_flat (k := .i64) (n := 2) (xs := [(q.i : Int), fbF g q.c]) (ys := [(q.i : Int), -1]) (by kernel_rfl) rfl rfl _ _ w)) ?_
       | refine S_append rfl obQ rfl rfl rfl ⟨by decide, rfl⟩ rfl ⟨rfl, rfl, rfl, rfl⟩ [.int .i64 (q.i : Int), .int .i64 (fbF g q.c)] ⟨by decide, rfl⟩ (by simp [Value.oneCell']) (fun w hw => by first | exact hw.src (i := 0) rfl rfl | exact hw.src (i := 1) rfl rfl | exact hw.src (i := 2) rfl rfl | exact hw.src (i := 3) rfl rfl | exact hw.src (i := 4) rfl rfl | exact hw.src (i := 5) rfl rfl | exact hw.src (i := 6) rfl rfl | exact hw.src (i := 7) rfl rfl | exact hw.src (i := 8) rfl rfl) (by unfold maxLen; dsimp only; omega) (fun gb cap' => ⟨_, rfl, ?_⟩)
       | refine S_nil ?_
       | refine S_run rfl rfl obQ obQ ?_
       | refine S_box (fun b0 => ⟨_, _, rfl, obQ, ?_⟩)
       | refine S_slice (fun b => ⟨_, _, rfl, obQ, ?_⟩)
       | refine S_call (f := 35) rfl obQ (by kernel_rfl) (fun w hw => forbids_c A c g q.c hg q.ok w (hw.rdm hr.toS memQ)) ?_
       )
       | (refine G_id ?_; first
       | refine G_assignE hwp (fun W4 hw4 => ?_)
       | refine G_roundE (some ⟨gb, 0, none⟩, cap') (by dsimp only; rw [hsn, List.length_append, ptC_snoc]; exact ⟨⟨_, rfl, obQ⟩, ⟨_, rfl⟩, rfl, pstQ⟩) hw4
       | refine G_then ?_
       | refine G_block ?_
       )
       )
  · repeat' (first
     | (refine C_id ?_; first
     | refine C_seq ?_
     | refine C_region rfl ?_
     | refine C_ret0 ?_
     )
     | (refine S_id ?_; first
     | refine S_nil ?_
     | refine S_run rfl rfl obQ obQ ?_
     )
     | (refine G_id ?_; first
     | refine G_then ?_
     | refine G_block ?_
     | refine G_retD rfl obQ ((DsP.nil _ _).cons hBD hWD hnD) (fun w2 hw => ⟨_, rfl, hw.below, Sl.two (HW.rowSl (w0 := w) (i := 0) hw rfl rfl rfl rfl) rfl⟩)
     )
     )

end Go.Proofs.Ytedlaominconaaa
