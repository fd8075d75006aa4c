/- The parts of colours. -/
import Derived.Test.YtedlaominconaaaTops10
import Derived.Test.YtedlaominconaaaEngZ
namespace Go.Proofs.Ytedlaominconaaa
open Go.E Go.RowKit Go.Fl
attribute [local irreducible] G C S D DY DS V VT Yl QV QT Calls
set_option maxRecDepth 100000
set_option linter.unusedSimpArgs false
set_option linter.unusedVariables false

def ccC (c : Col) : List Value := [.int .i64 c.1, .int .i64 c.2.1, .int .i64 c.2.2]
def gC (l : List Col) (k : Nat) : Col := l.getD k (0, 0, 0)
theorem gC_at {l : List Col} {k : Nat} (h : k < l.length) : gC l k = l[k] := by simp [gC, h]
theorem gC_mem {l : List Col} {k : Nat} (h : k < l.length) : gC l k ∈ l := by rw [gC_at h]; exact List.getElem_mem h
theorem gC_idx {l : List Col} {k : Nat} (h : k < l.length) : ∀ (j : Nat) (u : Value), (ccC (gC l k))[j]? = some u → (l.flatMap ccC)[((k : Int).toNat * 3 + j)]? = some u := by
  rw [gC_at h]
  exact idxS (f := ccC) (fun _ => rfl) h
theorem cc_len (l : List Col) : (l.flatMap ccC).length = l.length * 3 := flat_len (f := ccC) (s := 3) l (fun _ _ => rfl)
/-- The luma of the first colours, four times each. -/
def lmL (l : List Col) : List Int := l.flatMap fun c => [c.1, c.1, c.1, c.1]
def uL (l : List Col) : List Int := l.map (·.2.1)
def vL (l : List Col) : List Int := l.map (·.2.2)
def flV (l : List Int) : List Value := (l.map smp).map (.float .f32)
theorem flV_app (a b : List Int) : flV (a ++ b) = flV a ++ flV b := by simp [flV]
theorem lm_take {l : List Col} {k : Nat} (h : k < l.length) : flV (lmL (l.take (k + 1))) = flV (lmL (l.take k)) ++ [.float .f32 (smp (gC l k).1), .float .f32 (smp (gC l k).1), .float .f32 (smp (gC l k).1), .float .f32 (smp (gC l k).1)] := by
  rw [List.take_succ_eq_append_getElem h, gC_at h]
  unfold lmL
  rw [List.flatMap_append, flV_app]
  rfl
theorem u_take {l : List Col} {k : Nat} (h : k < l.length) : flV (uL (l.take (k + 1))) = flV (uL (l.take k)) ++ [.float .f32 (smp (gC l k).2.1)] := by
  rw [List.take_succ_eq_append_getElem h, gC_at h]
  unfold uL
  rw [List.map_append, flV_app]
  rfl
theorem v_take {l : List Col} {k : Nat} (h : k < l.length) : flV (vL (l.take (k + 1))) = flV (vL (l.take k)) ++ [.float .f32 (smp (gC l k).2.2)] := by
  rw [List.take_succ_eq_append_getElem h, gC_at h]
  unfold vL
  rw [List.map_append, flV_app]
  rfl
theorem lmL_len : ∀ l : List Col, (lmL l).length = 4 * l.length
  | [] => rfl
  | c :: r => by
    have := lmL_len r
    unfold lmL at this ⊢
    rw [List.flatMap_cons, List.length_append, this]
    simp
    omega

set_option maxHeartbeats 4000000 in
/-- genlocktop.dollyParts -/
theorem dpartsOf_c (A : Option Addr) (c : Nat) (l : List Col) (hl : l.length ≤ 1000) (hb : ∀ x ∈ l, (-16384 ≤ x.1 ∧ x.1 ≤ 16384) ∧ (-16384 ≤ x.2.1 ∧ x.2.1 ≤ 16384) ∧ (-16384 ≤ x.2.2 ∧ x.2.2 ≤ 16384)) (w : World) (hr : Rd w A (l.flatMap ccC)) : Calls Try.prog 7 #[.slice A l.length c] w fun r w' => ∃ v, r = .returned v ∧ Below w.heap.size w w' ∧ SlT w w' v (4 * l.length) l.length (flV (lmL l)) (flV (uL l)) (flV (vL l)) := by
  refine calls_of (args := [.slice A l.length c]) T_ok Try.func7 rfl Try.ntmps7 (Nat.le_of_ble_eq_true rfl) rfl ?_
  repeat' (first
   | (refine C_id ?_; first
   | refine C_seq ?_
   | refine C_regionNe 1 rfl rfl ?_
   )
   | (refine S_id ?_; first
   | refine S_nil ?_
   | refine S_box (fun b2 => ⟨_, _, rfl, obQ, ?_⟩)
   )
   | (refine G_id ?_; first
   | refine G_then ?_
   )
   )
  repeat' (first
   | (refine C_id ?_; first
   | refine C_seq ?_
   | refine C_regionNe 2 rfl rfl ?_
   )
   | (refine S_id ?_; first
   | refine S_nil ?_
   | refine S_box (fun b3 => ⟨_, _, rfl, obQ, ?_⟩)
   )
   | (refine G_id ?_; first
   | refine G_then ?_
   )
   )
  refine C_rowB 47 1 [⟨b2, 36, [.v (.slice none 0 0), .v (.slice none 0 0), .v (.slice none 0 0)]⟩, ⟨b3, 36, [.r none 0 0 0, .v (.slice none 0 0), .v (.slice none 0 0)]⟩] rfl ?_
  refine C_rowB 47 1 [⟨b2, 36, [.v (.slice none 0 0), .v (.slice none 0 0), .v (.slice none 0 0)]⟩, ⟨b3, 36, [.r none 0 0 0, .r none 0 0 1, .v (.slice none 0 0)]⟩] rfl ?_
  refine C_rowB 47 1 [⟨b2, 36, [.v (.slice none 0 0), .v (.slice none 0 0), .v (.slice none 0 0)]⟩, ⟨b3, 36, [.r none 0 0 0, .r none 0 0 1, .r none 0 0 2]⟩] rfl ?_
  repeat' (first
   | (refine C_id ?_; first
   | refine C_region rfl ?_
   | refine C_block ?_
   )
   | (refine S_id ?_; first
   | refine S_nil ?_
   | refine S_run rfl rfl obQ obQ ?_
   )
   | (refine G_id ?_; first
   | refine G_then ?_
   )
   )
  refine C_loopS (fun i : Nat × Nat × (Option Addr × Nat) × (Option Addr × Nat) × (Option Addr × Nat) => ⟨[(2, .s (.p b2 0 0)), (3, .s (.p b3 1 0)), (6, .s (.v (.slice A l.length c))), (7, .s (.v (.int .i64 l.length))), (8, .s (.v (.int .i64 i.1)))], [⟨b2, 36, [.v (.slice none 0 0), .v (.slice none 0 0), .v (.slice none 0 0)]⟩, ⟨b3, 36, [.r i.2.2.1.1 i.2.1 i.2.2.1.2 0, .r i.2.2.2.1.1 i.1 i.2.2.2.1.2 1, .r i.2.2.2.2.1 i.1 i.2.2.2.2.2 2]⟩], [⟨47, 1, i.2.1, flV (lmL (l.take i.1)), .slice i.2.2.1.1 i.2.1 i.2.2.1.2⟩, ⟨47, 1, i.1, flV (uL (l.take i.1)), .slice i.2.2.2.1.1 i.1 i.2.2.2.1.2⟩, ⟨47, 1, i.1, flV (vL (l.take i.1)), .slice i.2.2.2.2.1 i.1 i.2.2.2.2.2⟩]⟩) (fun i => i.1 ≤ l.length ∧ i.2.1 = 4 * i.1) (fun i => l.length - i.1) (0, 0, (none, 0), (none, 0), (none, 0)) ⟨Nat.zero_le _, rfl⟩ ?_ (fun i hi => ?_)
  · exact ⟨⟨_, rfl, obQ⟩, ⟨_, rfl⟩, rfl, pstQ⟩
  obtain ⟨k, nn, ⟨A1, c1⟩, ⟨A2, c2⟩, ⟨A3, c3⟩⟩ := i
  obtain ⟨hk, hnn⟩ := hi
  dsimp only at hk hnn ⊢
  by_cases hlt : k < l.length
  · obtain ⟨ad, rfl⟩ := hr.some (by rw [cc_len]; omega)
    obtain ⟨hb1, hb2, hb3⟩ := hb _ (gC_mem hlt)
    have hq1 := (smp_ok (n := (gC l k).1) (by omega)).1
    have hq2 := (smp_ok (n := (gC l k).2.1) (by omega)).1
    have hq3 := (smp_ok (n := (gC l k).2.2) (by omega)).1
    have hm1 := lm_take hlt
    have hm2 := u_take hlt
    have hm3 := v_take hlt
    repeat' (first
     | (refine C_id ?_; first
     | refine C_rounds 4 ?_
     | refine C_seq ?_
     | refine C_region rfl ?_
     | refine C_block ?_
     | refine C_skip ?_
     | refine C_exit ?_
     | refine C_drawTr0 (id := 9) 17 (.q 0 (.q 1 (.q 2 (.q 3 (.q 4 (.q 5 (.q 8 (.q 9 (.q 10 (.q 11 (.q 12 (.q 13 (.two 6 14 (.two 7 14 (.q 16 (.n 14 (.n 15 .nil))) (.n 7 (.q 16 (.n 15 .nil)))) (.n 6 (.n 7 (.q 16 (.n 15 .nil))))))))))))))))) rfl mixed (by kernel_rfl) rfl ?_
     | refine C_condT rfl obQ ?_
     | refine C_condF rfl obQ ?_
     | (refine C_cond rfl obQ (fun h => ?_) (fun h => ?_) <;> (try simp only [Bool.or_eq_true, Bool.and_eq_true, Bool.or_eq_false_iff, Bool.and_eq_false_iff, decide_eq_true_eq, decide_eq_false_iff_not, beq_iff_eq, bne_iff_ne, beq_eq_false_iff_ne, bne_eq_false_iff_eq, ne_eq, Decidable.not_not, List.cons.injEq, and_true, Bool.not_eq_true', Bool.not_eq_false', Int.not_lt, Int.not_le] at h) <;> (try (exfalso; omega)) <;> (try (exfalso; simp at h; done)) <;> (try (exfalso; simp only [not_true_eq_false, false_or, or_false] at h; omega)) <;> (try (exfalso; simp at h; done)) <;> (try (exfalso; simp only [decide_eq_true_eq, decide_eq_false_iff_not] at h; omega)))
     )
     | (refine S_id ?_; first
     | refine S_load rfl obQ rfl [.int .i64 (gC l k).1, .int .i64 (gC l k).2.1, .int .i64 (gC l k).2.2] (.past (w, fun b => b < w.heap.size) memQ _ _ hr.toS _ _ rfl rfl (gC_idx hlt)) rfl (.inl ⟨rfl, rfl⟩) ?_
     | refine S_pure (convX_pure rfl obQ (fun w => cv_flt ((gC l k).1) w)) ?_
     | refine S_pure (binX_pure rfl obQ (fun w => fl_arith (op := .quo) (k := .f32) hq1 _ _ _ w)) ?_
     | refine S_append rfl obQ rfl rfl rfl ⟨by decide, rfl⟩ rfl ⟨rfl, rfl, rfl, rfl⟩ [.float .f32 (smp (gC l k).1)] ⟨by decide, rfl⟩ (by simp [Value.oneCell']) (fun w hw => by first | exact hw.src (i := 0) rfl rfl | exact hw.src (i := 1) rfl rfl | exact hw.src (i := 2) rfl rfl | exact hw.src (i := 3) rfl rfl | exact hw.src (i := 4) rfl rfl | exact hw.src (i := 5) rfl rfl | exact hw.src (i := 6) rfl rfl | exact hw.src (i := 7) rfl rfl | exact hw.src (i := 8) rfl rfl) (by unfold maxLen; dsimp only; omega) (fun gb cap' => ⟨_, rfl, ?_⟩)
     | refine S_append rfl obQ rfl rfl rfl ⟨by decide, rfl⟩ rfl ⟨rfl, rfl, rfl, rfl⟩ [.float .f32 (smp (gC l k).2.1)] ⟨by decide, rfl⟩ (by simp [Value.oneCell']) (fun w hw => by first | exact hw.src (i := 0) rfl rfl | exact hw.src (i := 1) rfl rfl | exact hw.src (i := 2) rfl rfl | exact hw.src (i := 3) rfl rfl | exact hw.src (i := 4) rfl rfl | exact hw.src (i := 5) rfl rfl | exact hw.src (i := 6) rfl rfl | exact hw.src (i := 7) rfl rfl | exact hw.src (i := 8) rfl rfl) (by unfold maxLen; dsimp only; omega) (fun gb2 cap2 => ⟨_, rfl, ?_⟩)
     | refine S_append rfl obQ rfl rfl rfl ⟨by decide, rfl⟩ rfl ⟨rfl, rfl, rfl, rfl⟩ [.float .f32 (smp (gC l k).2.2)] ⟨by decide, rfl⟩ (by simp [Value.oneCell']) (fun w hw => by first | exact hw.src (i := 0) rfl rfl | exact hw.src (i := 1) rfl rfl | exact hw.src (i := 2) rfl rfl | exact hw.src (i := 3) rfl rfl | exact hw.src (i := 4) rfl rfl | exact hw.src (i := 5) rfl rfl | exact hw.src (i := 6) rfl rfl | exact hw.src (i := 7) rfl rfl | exact hw.src (i := 8) rfl rfl) (by unfold maxLen; dsimp only; omega) (fun gb3 cap3 => ⟨_, rfl, ?_⟩)
     | refine S_nil ?_
     | refine S_run rfl rfl obQ obQ ?_
     | refine S_box (fun b5 => ⟨_, _, rfl, obQ, ?_⟩)
     | refine S_slice (fun b => ⟨_, _, rfl, obQ, ?_⟩)
     )
     | (refine VT_id ?_; first
     | refine VT_nil ?_
     | refine VT_q rfl (Yl_pure (convX_pure rfl obQ (fun w => cv_flt ((gC l k).2.1) w))) ?_
     | refine VT_q rfl (Yl_pure (convX_pure rfl obQ (fun w => cv_flt ((gC l k).2.2) w))) ?_
     | refine VT_q rfl (Yl_pure (binX_pure rfl obQ (fun w => fl_arith (op := .quo) (k := .f32) hq2 _ _ _ w))) ?_
     | refine VT_q rfl (Yl_pure (binX_pure rfl obQ (fun w => fl_arith (op := .quo) (k := .f32) hq3 _ _ _ w))) ?_
     | refine VT_q rfl (Yl_step rfl obQ) ?_
     | refine VT_n rfl ?_
     | refine VT_two rfl rfl ?_ ?_
     )
     | (refine G_id ?_; first
     | refine G_VT2 ⟨_, rfl⟩ ⟨_, rfl⟩ pstQ rfl ?_
     | refine G_loop (k + 1, nn + 1 + 1 + 1 + 1, (some ⟨gb, 0, none⟩, cap'), (some ⟨gb2, 0, none⟩, cap2), (some ⟨gb3, 0, none⟩, cap3)) ⟨by show k + 1 ≤ l.length; omega, by show nn + 1 + 1 + 1 + 1 = 4 * (k + 1); omega⟩ (by show l.length - (k + 1) < l.length - k; omega) ⟨⟨_, rfl, obQ⟩, ⟨_, rfl⟩, (by dsimp only; rw [hm1, hm2, hm3]; simp only [List.append_assoc]; rfl), pstQ⟩
     | refine G_rounds (C_trim [2, 3, 5, 6, 7, 8, 12] 3 rfl rfl ?_)
     | refine G_then ?_
     | refine G_block ?_
     | refine G_blockX ?_
     | refine G_thenX ?_
     )
     )
  · have hke : k = l.length := by omega
    subst hke
    subst hnn
    rw [List.take_length]
    repeat' (first
     | (refine C_id ?_; first
     | refine C_seq ?_
     | refine C_region rfl ?_
     | refine C_exit ?_
     | refine C_ret0 ?_
     | (refine C_cond rfl obQ (fun h => ?_) (fun h => ?_) <;> (try simp only [Bool.or_eq_true, Bool.and_eq_true, Bool.or_eq_false_iff, Bool.and_eq_false_iff, decide_eq_true_eq, decide_eq_false_iff_not, beq_iff_eq, bne_iff_ne, beq_eq_false_iff_ne, bne_eq_false_iff_eq, ne_eq, Decidable.not_not, List.cons.injEq, and_true, Bool.not_eq_true', Bool.not_eq_false', Int.not_lt, Int.not_le] at h) <;> (try (exfalso; omega)))
     )
     | (refine S_id ?_; first
     | refine S_nil ?_
     | refine S_run rfl rfl obQ obQ ?_
     )
     | (refine G_id ?_; first
     | refine G_then ?_
     | refine G_blockX ?_
     | refine G_thenX ?_
     | refine G_ret rfl obQ (fun w2 hw => ⟨_, rfl, hw.below, _, _, _, _, _, _, rfl, sl_rd1 (HW.rowSl (i := 0) hw rfl rfl rfl rfl), sl_rd1 (HW.rowSl (i := 1) hw rfl rfl rfl rfl), sl_rd1 (HW.rowSl (i := 2) hw rfl rfl rfl rfl)⟩)
     )
     )

end Go.Proofs.Ytedlaominconaaa
