/- Curves: values, inverses, knees: the program. -/
import Derived.Test.YtedlaominconaaaColour3
import Derived.Test.YtedlaominconaaaEng4
namespace Go.Proofs.Ytedlaominconaaa
open Go.E Go.RowKit Go.Fl
attribute [local irreducible] G C S D Calls
set_option maxRecDepth 100000
set_option linter.unusedSimpArgs false
set_option linter.unusedVariables false

set_option maxHeartbeats 400000 in
/-- (genlock/colour.Curve).value -/
theorem value_c (A : Option Addr) (c : Nat) (l : List Pt) (n : Int) (hv : CvOk l) (w : World) (hr : Rd w A (l.flatMap ptC)) : Calls Try.prog 50 #[.slice A l.length c, .int .i64 n] w fun r w' => r = .returned (.int .i64 (valF l n)) ∧ Below w.heap.size w w' := by
  refine calls_of (args := [.slice A l.length c, .int .i64 n]) T_ok Try.func50 rfl Try.ntmps50 (Nat.le_of_ble_eq_true rfl) rfl ?_
  have hlo := hv.lo
  have hhi := hv.hi
  obtain ⟨ad, rfl⟩ := hr.some (by rw [pt_len]; omega)
  repeat' (first
 | (refine C_id ?_; first
 | refine C_seq ?_
 | refine C_region rfl ?_
 | refine C_block ?_
 | refine C_skip ?_
 | refine C_ret0 ?_
 | (refine C_cond rfl obQ (fun h => ?_) (fun h => ?_) <;> (try simp only [Bool.or_eq_true, Bool.and_eq_true, Bool.or_eq_false_iff, Bool.and_eq_false_iff, decide_eq_true_eq, decide_eq_false_iff_not, beq_iff_eq, bne_iff_ne, beq_eq_false_iff_ne, bne_eq_false_iff_eq, ne_eq, Decidable.not_not, List.cons.injEq, and_true, Bool.not_eq_true', Bool.not_eq_false', Int.not_lt, Int.not_le] at h))
 )
 | (refine S_id ?_; first
 | refine S_load rfl obQ rfl [.int .i64 (gP l 0).1] (.past _ memQ _ _ hr.toS _ _ rfl rfl (gP_1 (k := 0) rfl (by omega))) rfl (.inr ⟨rfl, rfl⟩) ?_
 | refine S_load rfl obQ rfl [.int .i64 (gP l 0).2] (.past _ memQ _ _ hr.toS _ _ rfl rfl (gP_2 (k := 0) rfl (by omega))) rfl (.inr ⟨rfl, rfl⟩) ?_
 | refine S_nil ?_
 | refine S_run rfl rfl obQ obQ ?_
 )
 | (refine G_id ?_; first
 | refine G_then ?_
 | refine G_thenR ?_
 | refine G_ret rfl obQ (fun w hw => ⟨?_, hw.below⟩)
 )
 )
  · exact rI (valF_low h).symm
  have h0 := h
  refine C_loopS (fun k : Nat => ⟨[(20, .s (.v (.int .i64 k))), (19, .s (.v (.int .i64 l.length))), (18, .s (.v (.slice (some ad) l.length c))), (0, .s (.v (.slice (some ad) l.length c))), (1, .s (.v (.int .i64 n)))], [], []⟩) (fun k => k ≤ l.length ∧ ∀ j, j < k → (gP l j).1 < n) (fun k => l.length - k) 0 ⟨Nat.zero_le _, fun j hj => absurd hj (Nat.not_lt_zero j)⟩ ?_ (fun k hk => ?_)
  · exact ⟨⟨_, rfl, obQ⟩, ⟨_, rfl⟩, rfl, pstQ⟩
  by_cases hlt : k < l.length
  · have hkp : n ≤ (gP l k).1 → 0 < k := fun h => by
      rcases Nat.eq_zero_or_pos k with rfl | h'
      · omega
      · exact h'
    have hsf : n ≤ (gP l k).1 → _ := fun h => seg_facts hv (hkp h) hlt (hk.2 (k - 1) (by have := hkp h; omega)) h
    have hb := hv.bd k hlt
    have hb1 := hv.bd (k - 1) (by omega)
    repeat' (first
 | (refine C_id ?_; first
 | refine C_seq ?_
 | refine C_region rfl ?_
 | refine C_block ?_
 | refine C_skip ?_
 | refine C_ret0 ?_
 | refine C_draw (id := 8) rfl mixed (by kernel_rfl) ?_
 | (refine C_cond rfl obQ (fun h => ?_) (fun h => ?_) <;> (try simp only [Bool.or_eq_true, Bool.and_eq_true, Bool.or_eq_false_iff, Bool.and_eq_false_iff, decide_eq_true_eq, decide_eq_false_iff_not, beq_iff_eq, bne_iff_ne, beq_eq_false_iff_ne, bne_eq_false_iff_eq, ne_eq, Decidable.not_not, List.cons.injEq, and_true, Bool.not_eq_true', Bool.not_eq_false', Int.not_lt, Int.not_le] at h) <;> (try (exfalso; omega)) <;> (try (exfalso; simp at h; done)) <;> (try (exfalso; simp only [not_true_eq_false, false_or, or_false] at h; omega)) <;> (try (have hkp := hkp h; have hlk := hk.2 (k - 1) (by omega); have hsf := hsf h)))
     )
 | (refine S_id ?_; first
 | refine S_load rfl obQ rfl [.int .i64 (gP l (k)).1, .int .i64 (gP l (k)).2] (.past _ memQ _ _ hr.toS _ _ rfl rfl (gP_idx hlt)) rfl (.inl ⟨rfl, rfl⟩) ?_
 | refine S_load rfl obQ rfl [.int .i64 (gP l (k - 1)).1, .int .i64 (gP l (k - 1)).2] (.past _ memQ _ _ hr.toS _ _ rfl rfl (gP_idxZ (k := k - 1) (by omega) (by omega))) rfl (.inl ⟨rfl, rfl⟩) ?_
 | refine S_nil ?_
 | refine S_run rfl rfl obQ obQ ?_
 | refine S_box (fun b => ⟨_, _, rfl, obQ, ?_⟩)
     )
 | (refine D_id ?_; first
 | refine D_nil ?_
 | refine D_run rfl rfl obQ obQ ?_
 | refine D_call (f := 94) rfl obQ (by kernel_rfl) (fun w hw => rounded_c _ _ (by omega) (by omega) w) ?_
     )
 | (refine G_id ?_; first
 | refine G_loop (k + 1) ?_ (by omega) ⟨⟨_, rfl, obQ⟩, ⟨_, rfl⟩, rfl, pstQ⟩
 | refine G_then ?_
 | refine G_block ?_
 | refine G_blockR ?_
 | refine G_thenR ?_
 | refine G_ret rfl obQ (fun w hw => ⟨?_, hw.below⟩)
     )
     )
    · exact rI (valF_at hkp hlt hk.2 h).symm
    · exact ⟨by omega, fun j hj => by
        rcases Nat.lt_or_ge j k with h1 | h1
        · exact hk.2 j h1
        · obtain rfl : j = k := by omega
          omega⟩
  · obtain rfl : k = l.length := by omega
    repeat' (first
 | (refine C_id ?_; first
 | refine C_seq ?_
 | refine C_region rfl ?_
 | refine C_exit ?_
 | refine C_ret0 ?_
 | (refine C_cond rfl obQ (fun h => ?_) (fun h => ?_) <;> (try simp only [Bool.or_eq_true, Bool.and_eq_true, Bool.or_eq_false_iff, Bool.and_eq_false_iff, decide_eq_true_eq, decide_eq_false_iff_not, beq_iff_eq, bne_iff_ne, beq_eq_false_iff_ne, bne_eq_false_iff_eq, ne_eq, Decidable.not_not, List.cons.injEq, and_true, Bool.not_eq_true', Bool.not_eq_false', Int.not_lt, Int.not_le] at h) <;> (try (exfalso; omega)))
     )
 | (refine S_id ?_; first
 | refine S_load rfl obQ rfl [.int .i64 (gP l (l.length - 1)).2] (.past _ memQ _ _ hr.toS _ _ rfl (add_of_add _ _ _) (gP_2 (k := l.length - 1) (by omega) (by omega))) rfl (.inr ⟨rfl, rfl⟩) ?_
 | refine S_nil ?_
 | refine S_run rfl rfl obQ obQ ?_
     )
 | (refine G_id ?_; first
 | refine G_then ?_
 | refine G_blockX ?_
 | refine G_thenX ?_
 | refine G_ret rfl obQ (fun w hw => ⟨?_, hw.below⟩)
     )
     )
    exact rI (valF_end (by omega) hk.2).symm

set_option maxHeartbeats 400000 in
/-- (genlock/colour.Point).exchanged -/
theorem exchanged_c (p : Pt) (w : World) : Calls Try.prog 47 #[.agg #[.int .i64 p.1, .int .i64 p.2]] w fun r w' => r = .returned (.agg #[.int .i64 p.2, .int .i64 p.1]) ∧ Below w.heap.size w w' := by
  refine calls_of (args := [.agg #[.int .i64 p.1, .int .i64 p.2]]) T_ok Try.func47 rfl Try.ntmps47 (Nat.le_of_ble_eq_true rfl) rfl ?_
  repeat' (first
 | (refine C_id ?_; first
 | refine C_seq ?_
 | refine C_region rfl ?_
 | refine C_block ?_
 | refine C_skip ?_
 | refine C_ret0 ?_
 | (refine C_cond rfl obQ (fun h => ?_) (fun h => ?_) <;> (try simp only [Bool.or_eq_true, Bool.and_eq_true, Bool.or_eq_false_iff, Bool.and_eq_false_iff, decide_eq_true_eq, decide_eq_false_iff_not, beq_iff_eq, bne_iff_ne, beq_eq_false_iff_ne, bne_eq_false_iff_eq, ne_eq, Decidable.not_not, List.cons.injEq, and_true, Bool.not_eq_true', Bool.not_eq_false', Int.not_lt, Int.not_le] at h))
 )
 | (refine S_id ?_; first
 | refine S_nil ?_
 | refine S_run rfl rfl obQ obQ ?_
 | refine S_box (fun b => ⟨_, _, rfl, obQ, ?_⟩)
 )
 | (refine G_id ?_; first
 | refine G_then ?_
 | refine G_thenR ?_
 | refine G_ret rfl obQ (fun w hw => ⟨?_, hw.below⟩)
 )
 )
  rfl

set_option maxHeartbeats 400000 in
/-- colour.mapped[genlock/colour.Point,genlock/colour.Point] -/
theorem mappedPP_c (q : FuncId) {g : Pt → Pt} (A : Option Addr) (c : Nat) (l : List (Pt)) (hl : l.length ≤ 1000000) (he : entB Try.prog q = true) (w : World) (hr : Rd w A (l.flatMap fun x => [Value.int .i64 x.1, Value.int .i64 x.2])) (hg : ∀ x ∈ l, ∀ W, Below w.heap.size w W → Calls Try.prog q #[Value.agg #[Value.int .i64 x.1, Value.int .i64 x.2]] W fun e w' => e = .returned (Value.agg #[Value.int .i64 (g x).1, Value.int .i64 (g x).2]) ∧ Below W.heap.size W w') : Calls Try.prog 46 #[.slice A l.length c, .func (.func q) #[] #[]] w fun r w' => ∃ v, r = .returned v ∧ Below w.heap.size w w' ∧ Sl w w' v l.length (l.flatMap fun x => [Value.int .i64 (g x).1, Value.int .i64 (g x).2]) := by
  refine calls_of (args := [.slice A l.length c, .func (.func q) #[] #[]]) T_ok Try.func46 rfl Try.ntmps46 (Nat.le_of_ble_eq_true rfl) rfl ?_
  repeat' (first
 | (refine C_id ?_; first
 | refine C_seq ?_
 | refine C_region rfl ?_
 | refine C_block ?_
 )
 | (refine S_id ?_; first
 | refine S_nil ?_
 | refine S_run rfl rfl obQ obQ ?_
 | refine S_box (fun b => ⟨_, _, rfl, obQ, ?_⟩)
 )
 | (refine G_id ?_; first
 | refine G_then ?_
 )
 )
  refine C_row0 5 110 2 rfl ?_
  refine C_loopS (fun i : Nat × Option Addr × Nat => ⟨[(5, .s (.r i.2.1 i.1 i.2.2 0)), (8, .s (.v (.slice A l.length c))), (9, .s (.v (.int .i64 l.length))), (10, .s (.v (.int .i64 i.1))), (1, .s (.v (.func (.func q) #[] #[])))], [], [⟨110, 2, i.1, (l.take i.1).flatMap fun x => [Value.int .i64 (g x).1, Value.int .i64 (g x).2], .slice i.2.1 i.1 i.2.2⟩]⟩) (fun i => i.1 ≤ l.length) (fun i => l.length - i.1) (0, none, 0) (Nat.zero_le _) ?_ (fun i hi => ?_)
  · exact ⟨⟨_, rfl, obQ⟩, ⟨_, rfl⟩, rfl, pstQ⟩
  obtain ⟨k, A', c'⟩ := i
  have hi' : k ≤ l.length := hi
  dsimp only
  by_cases hlt : k < l.length
  · obtain ⟨ad, rfl⟩ := hr.some (by simp [flat_len (s := 2)]; omega)
    have hmt := flatMap_take_succ (f := fun x => [Value.int .i64 (g x).1, Value.int .i64 (g x).2]) hlt
    repeat' (first
 | (refine C_id ?_; first
 | refine C_seq ?_
 | refine C_region rfl ?_
 | refine C_block ?_
 | refine C_skip ?_
 | (refine C_cond rfl obQ (fun h => ?_) (fun h => ?_) <;> (try simp only [Bool.or_eq_true, Bool.and_eq_true, Bool.or_eq_false_iff, Bool.and_eq_false_iff, decide_eq_true_eq, decide_eq_false_iff_not, beq_iff_eq, bne_iff_ne, beq_eq_false_iff_ne, bne_eq_false_iff_eq, ne_eq, Decidable.not_not, List.cons.injEq, and_true, Bool.not_eq_true', Bool.not_eq_false', Int.not_lt, Int.not_le] at h) <;> (try (exfalso; omega)))
     )
 | (refine S_id ?_; first
 | refine S_load rfl obQ rfl [Value.int .i64 l[k].1, Value.int .i64 l[k].2] (.past _ memQ _ _ hr.toS _ _ rfl rfl (idxS (f := fun x => [Value.int .i64 x.1, Value.int .i64 x.2]) (fun _ => rfl) hlt)) rfl (.inl ⟨rfl, rfl⟩) ?_
 | refine S_call rfl obQ he (fun W hW => hg l[k] (List.getElem_mem hlt) W hW.below) ?_
 | refine S_append rfl obQ rfl rfl rfl ⟨by decide, rfl⟩ rfl ⟨rfl, rfl, rfl, rfl⟩ [Value.int .i64 (g l[k]).1, Value.int .i64 (g l[k]).2] ⟨by decide, rfl⟩ (by simp [Value.oneCell']) (fun w hw => by first | exact hw.src (i := 0) rfl rfl | exact hw.src (i := 1) rfl rfl | exact hw.src (i := 2) rfl rfl | exact hw.src (i := 3) rfl rfl | exact hw.src (i := 4) rfl rfl | exact hw.src (i := 5) rfl rfl | exact hw.src (i := 6) rfl rfl | exact hw.src (i := 7) rfl rfl | exact hw.src (i := 8) rfl rfl) (by unfold maxLen; dsimp only; omega) (fun gb cap' => ⟨_, rfl, ?_⟩)
 | refine S_nil ?_
 | refine S_run rfl rfl obQ obQ ?_
 | refine S_box (fun b => ⟨_, _, rfl, obQ, ?_⟩)
 | refine S_slice (fun b => ⟨_, _, rfl, obQ, ?_⟩)
     )
 | (refine G_id ?_; first
 | refine G_loop (k + 1, some ⟨gb, 0, none⟩, cap') (by show k + 1 ≤ _; omega) (by show l.length - (k + 1) < l.length - k; omega) ⟨⟨_, rfl, obQ⟩, ⟨_, rfl⟩, (by dsimp only; rw [hmt]), pstQ⟩
 | refine G_then ?_
 | refine G_block ?_
     )
     )
  · obtain rfl : k = l.length := by omega
    repeat' (first
 | (refine C_id ?_; first
 | refine C_seq ?_
 | refine C_region rfl ?_
 | refine C_exit ?_
 | refine C_ret0 ?_
 | (refine C_cond rfl obQ (fun h => ?_) (fun h => ?_) <;> (try simp only [Bool.or_eq_true, Bool.and_eq_true, Bool.or_eq_false_iff, Bool.and_eq_false_iff, decide_eq_true_eq, decide_eq_false_iff_not, beq_iff_eq, bne_iff_ne, beq_eq_false_iff_ne, bne_eq_false_iff_eq, ne_eq, Decidable.not_not, List.cons.injEq, and_true, Bool.not_eq_true', Bool.not_eq_false', Int.not_lt, Int.not_le] at h) <;> (try (exfalso; omega)))
     )
 | (refine S_id ?_; first
 | refine S_nil ?_
 | refine S_run rfl rfl obQ obQ ?_
     )
 | (refine G_id ?_; first
 | refine G_then ?_
 | refine G_blockX ?_
 | refine G_thenX ?_
 | refine G_ret rfl obQ (fun w2 hw => ⟨_, rfl, hw.below, HW.rowSl (i := 0) hw rfl rfl rfl (by rw [List.take_length])⟩)
     )
     )

theorem invF_len (l : List Pt) : (invF l).length = l.length := by simp [invF]
theorem inv_cells (l : List Pt) : (l.flatMap fun x => [Value.int .i64 (swP x).1, .int .i64 (swP x).2]) = (invF l).flatMap ptC := by
  unfold invF
  rw [List.flatMap_map]
  rfl
theorem inverted_c (A : Option Addr) (c : Nat) (l : List Pt) (hl : l.length ≤ 1000000) (w : World) (hr : Rd w A (l.flatMap ptC)) : Calls Try.prog 46 #[.slice A l.length c, .func (.func 47) #[] #[]] w fun r w' => ∃ v, r = .returned v ∧ Below w.heap.size w w' ∧ Sl w w' v l.length ((invF l).flatMap ptC) := by
  have h := mappedPP_c 47 (g := swP) A c l hl (by kernel_rfl) w hr (fun x _ W _ => exchanged_c x W)
  rw [inv_cells] at h
  exact h
theorem value2_c (A : Option Addr) (c n : Nat) (l : List Pt) (hn : n = l.length) (z : Int) (hv : CvOk l) (w : World) (hr : Rd w A (l.flatMap ptC)) : Calls Try.prog 50 #[.slice A n c, .int .i64 z] w fun r w' => r = .returned (.int .i64 (valF l z)) ∧ Below w.heap.size w w' := by
  subst hn
  exact value_c A c l z hv w hr
/-- The error of a curve and a level. -/
def vE (l : List Pt) (n : Int) : Int := firstL [curveE l, lvE n]
theorem vE_ok {l : List Pt} {n : Int} (h : vE l n = 0) : CvOk l ∧ -16384 ≤ n ∧ n ≤ 16384 := by
  unfold vE at h
  rw [firstL_zero] at h
  simp only [List.mem_cons, List.mem_nil_iff, or_false, forall_eq_or_imp, forall_eq, curve_ok, lvE, wi_eq] at h
  exact h
def survF (l : List Pt) (n : Int) : Bool := decide (valF (invF l) (valF l n) = n)
def survR (l : List Pt) (n : Int) : Bool × Int := if vE l n = 0 then (survF l n, 0) else (false, vE l n)
def invR (l : List Pt) : List Pt × Int := if curveE l = 0 then (invF l, 0) else ([], curveE l)
theorem survR_1 {l : List Pt} {n : Int} (h : ¬ vE l n = 0) : (survR l n).1 = false ∧ (survR l n).2 = vE l n := by simp [survR, h]
theorem survR_2 {l : List Pt} {n : Int} (h : vE l n = 0) : (survR l n).1 = survF l n ∧ (survR l n).2 = 0 := by simp [survR, h]

-- Value

set_option maxHeartbeats 400000 in
/-- colour.Survives -/
theorem Survives_c (A : Option Addr) (c : Nat) (l : List Pt) (hl : l.length ≤ 1000000) (n : Int) (w : World) (hr : Rd w A (l.flatMap ptC)) : Calls Try.prog 21 #[.slice A l.length c, .int .i64 n] w fun r w' => r = .returned (.tuple #[.bool (survR l n).1, .int .i64 (survR l n).2]) ∧ Below w.heap.size w w' := by
  refine calls_of (args := [.slice A l.length c, .int .i64 n]) T_ok Try.func21 rfl Try.ntmps21 (Nat.le_of_ble_eq_true rfl) rfl ?_
  repeat' (first
 | (refine C_id ?_; first
 | refine C_seq ?_
 | refine C_region rfl ?_
 | refine C_skip ?_
 | refine C_ret0 ?_
 | (refine C_cond rfl obQ (fun h => ?_) (fun h => ?_) <;> (try simp only [Bool.or_eq_true, Bool.and_eq_true, Bool.or_eq_false_iff, Bool.and_eq_false_iff, decide_eq_true_eq, decide_eq_false_iff_not, beq_iff_eq, bne_iff_ne, beq_eq_false_iff_ne, bne_eq_false_iff_eq, ne_eq, Decidable.not_not, List.cons.injEq, and_true, Bool.not_eq_true', Bool.not_eq_false', Int.not_lt, Int.not_le] at h))
 )
 | (refine S_id ?_; first
 | refine S_nil ?_
 | refine S_run rfl rfl obQ obQ ?_
 | refine S_slice (fun b => ⟨_, _, rfl, obQ, ?_⟩)
 | refine S_call (f := 45) rfl obQ (by kernel_rfl) (fun w hw => checkCurve_c A c l hl w (hw.rdm hr.toS memQ)) ?_
 | refine S_call (f := 55) rfl obQ (by kernel_rfl) (fun w hw => ccheckLevel_c _ w) ?_
 | refine S_call (f := 31) rfl obQ (by kernel_rfl) (fun w hw => cfirst_c _ _ [curveE l, lvE n] (by simp) w (.inr ⟨_, rfl, hw.src (i := 0) rfl rfl⟩)) ?_
 | refine S_call (f := 50) rfl obQ (by kernel_rfl) (fun w hw => value_c A c l n (vE_ok h).1 w (hw.rdm hr.toS memQ)) ?_
 | refine S_call (f := 50) rfl obQ (by kernel_rfl) (fun w hw => value2_c _ _ _ (invF l) (invF_len l).symm _ (vE_ok h).1.inv w (hw.rdm hSI memQ)) ?_
 | (refine S_callM (f := 46) rfl obQ (by kernel_rfl) (fun w hw => inverted_c A c l hl w (hw.rdm hr.toS memQ)) (fun w1I w2I vI hw1I hbI hRI => ?_); obtain ⟨AI, cI, rfl, hSI⟩ := hRI)
 )
 | (refine G_id ?_; first
 | refine G_then ?_
 | refine G_thenR ?_
 | refine G_ret rfl obQ (fun w hw => ⟨?_, hw.below⟩)
 )
 )
  · exact rTB (survR_1 h).1.symm (survR_1 h).2.symm
  · exact rTB (survR_2 h).1.symm (survR_2 h).2.symm

set_option maxHeartbeats 400000 in
/-- colour.Inverse -/
theorem Inverse_c (A : Option Addr) (c : Nat) (l : List Pt) (hl : l.length ≤ 1000000) (w : World) (hr : Rd w A (l.flatMap ptC)) : Calls Try.prog 16 #[.slice A l.length c] w fun r w' => ∃ v, r = .returned v ∧ Below w.heap.size w w' ∧ Sl2 w w' v (invR l).1.length ((invR l).1.flatMap ptC) (.int .i64 (invR l).2) := by
  refine calls_of (args := [.slice A l.length c]) T_ok Try.func16 rfl Try.ntmps16 (Nat.le_of_ble_eq_true rfl) rfl ?_
  by_cases h0 : curveE l = 0
  · have e1 : invR l = (invF l, 0) := by simp [invR, h0]
    rw [e1]
    rw [show (invF l, (0 : Int)).1.length = l.length from invF_len l]
    repeat' (first
 | (refine C_id ?_; first
 | refine C_seq ?_
 | refine C_region rfl ?_
 | refine C_skip ?_
 | refine C_ret0 ?_
 | (refine C_cond rfl obQ (fun h => ?_) (fun h => ?_) <;> (try simp only [Bool.or_eq_true, Bool.and_eq_true, Bool.or_eq_false_iff, Bool.and_eq_false_iff, decide_eq_true_eq, decide_eq_false_iff_not, beq_iff_eq, bne_iff_ne, beq_eq_false_iff_ne, bne_eq_false_iff_eq, ne_eq, Decidable.not_not, List.cons.injEq, and_true, Bool.not_eq_true', Bool.not_eq_false', Int.not_lt, Int.not_le] at h) <;> (try (exfalso; omega)) <;> (try (exfalso; simp at h; done)) <;> (try (exfalso; simp only [not_true_eq_false, false_or, or_false] at h; omega)) <;> (try contradiction))
     )
 | (refine S_id ?_; first
 | refine S_nil ?_
 | refine S_run rfl rfl obQ obQ ?_
 | refine S_call (f := 45) rfl obQ (by kernel_rfl) (fun w hw => checkCurve_c A c l hl w (hw.rdm hr.toS memQ)) ?_
 | (refine S_callM (f := 46) rfl obQ (by kernel_rfl) (fun w hw => inverted_c A c l hl w (hw.rdm hr.toS memQ)) (fun w1I w2I vI hw1I hbI hRI => ?_); obtain ⟨AI, cI, rfl, hSI⟩ := hRI)
     )
 | (refine G_id ?_; first
 | refine G_then ?_
 | refine G_ret rfl obQ (fun w2 hw => ⟨_, rfl, hw.below, Sl.two (HW.callSl hw hSI memQ hw1I.bsize) rfl⟩)
     )
     )
  · have e1 : invR l = ([], curveE l) := by simp [invR, h0]
    rw [e1]
    repeat' (first
 | (refine C_id ?_; first
 | refine C_seq ?_
 | refine C_region rfl ?_
 | refine C_ret0 ?_
 | (refine C_cond rfl obQ (fun h => ?_) (fun h => ?_) <;> (try simp only [Bool.or_eq_true, Bool.and_eq_true, Bool.or_eq_false_iff, Bool.and_eq_false_iff, decide_eq_true_eq, decide_eq_false_iff_not, beq_iff_eq, bne_iff_ne, beq_eq_false_iff_ne, bne_eq_false_iff_eq, ne_eq, Decidable.not_not, List.cons.injEq, and_true, Bool.not_eq_true', Bool.not_eq_false', Int.not_lt, Int.not_le] at h) <;> (try (exfalso; omega)) <;> (try (exfalso; simp at h; done)) <;> (try (exfalso; simp only [not_true_eq_false, false_or, or_false] at h; omega)) <;> (try contradiction))
     )
 | (refine S_id ?_; first
 | refine S_nil ?_
 | refine S_run rfl rfl obQ obQ ?_
 | refine S_call (f := 45) rfl obQ (by kernel_rfl) (fun w hw => checkCurve_c A c l hl w (hw.rdm hr.toS memQ)) ?_
     )
 | (refine G_id ?_; first
 | refine G_then ?_
 | refine G_thenR ?_
 | refine G_ret rfl obQ (fun w2 hw => ⟨_, rfl, hw.below, Sl.two (v := .slice none 0 0) (Sl.nil_ _ _) rfl⟩)
     )
     )

-- Knee

end Go.Proofs.Ytedlaominconaaa
