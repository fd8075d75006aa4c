/- Flashes; broken limits: the program. -/
import Derived.Test.YtdbffbcobghbeaaGreatDoorColour20
namespace Go.Proofs.YtdbffbcobghbeaaGreatDoor
open Go.E Go.RowKit Go.Fl
attribute [local irreducible] G C S D Calls
set_option maxRecDepth 100000
set_option linter.unusedSimpArgs false
set_option linter.unusedVariables false

def fsL (l : List PV') (st k : Nat) : List Nat := (List.range k).filter (flB l st)
theorem fsL_t {l : List PV'} {st k : Nat} (h : flB l st k = true) : fsL l st (k + 1) = fsL l st k ++ [k] := by unfold fsL; rw [fl_succ, if_pos h]
theorem fsL_f {l : List PV'} {st k : Nat} (h : flB l st k = false) : fsL l st (k + 1) = fsL l st k := by unfold fsL; rw [fl_succ, if_neg (by simp [h])]; simp
theorem flB_0 (l : List PV') (st : Nat) : flB l st 0 = false := by simp [flB]
theorem flB_t {l : List PV'} {st k : Nat} (h0 : 0 < k) (h : lvl st * (gQ l k).p.s.length < max (chF l k) (0 - chF l k)) : flB l st k = true := by unfold flB; rw [decide_eq_true h0, decide_eq_true h]; rfl
theorem flB_f {l : List PV'} {st k : Nat} (h : ¬ lvl st * (gQ l k).p.s.length < max (chF l k) (0 - chF l k)) : flB l st k = false := by
  unfold flB
  rw [decide_eq_false h, Bool.and_false]
theorem natC_snoc (l : List Nat) (k : Nat) : natC (l ++ [k]) = natC l ++ [.int .i64 (k : Int)] := by simp [natC]
theorem gQ_F {l : List PV'} (hq : sqE l = 0) {k : Nat} (hk : k < l.length) : PicOk (gQ l k).p := ((sqE_ok hq).2 k hk).1

set_option maxHeartbeats 1000000 in
/-- colour.flashes -/
theorem flashes_c (A : Option Addr) (c : Nat) (l : List PV') (hs : ∀ x ∈ l, x.p.s.length ≤ 1000000) (st : Nat) (hq : sqE l = 0) (hst : stE st = 0) (w : World) (hr : Rd w A (l.flatMap pvC)) (hrs : ∀ x ∈ l, Rd w x.A (x.p.s.map (.float .f32))) : Calls Tryz.prog 151 #[.slice A l.length c, .float .f32 st] w fun r w' => ∃ v, r = .returned v ∧ Below w.heap.size w w' ∧ Sl w w' v (flF l st).length (natC (flF l st)) := by
  refine calls_of (args := [.slice A l.length c, .float .f32 st]) T_ok Tryz.func151 rfl Tryz.ntmps151 (Nat.le_of_ble_eq_true rfl) rfl ?_
  have hl := (sqE_ok hq).1
  obtain ⟨hss, hs0⟩ := stE_ok hst
  have hsl := hss.lv
  repeat' (first
 | (refine C_id ?_; first
 | refine C_seq ?_
 | refine C_region rfl ?_
 | refine C_block ?_
   )
 | (refine S_id ?_; first
 | refine S_nil ?_
 | refine S_run rfl rfl obQ obQ ?_
 | (refine S_callM (f := 186) rfl obQ (by kernel_rfl) (fun w hw => mappedPI_c 187 (g := fun v => totF v.p.s) A c l (by omega) (by kernel_rfl) w (hw.rdm hr.toS memQ) (fun x hx W hW => total_c x.p x.A x.c (hs x hx) (sq_all hq x hx).s W ((hw.rdm (hrs x hx).toS memQ).below hW))) (fun w1M w2M vM hw1M hbM hRM => ?_); obtain ⟨AM, cM, rfl, hSM⟩ := hRM)
   )
 | (refine G_id ?_; first
 | refine G_then ?_
   )
   )
  refine C_row0 6 3 1 rfl ?_
  refine C_loopS (fun i : Nat × Option Addr × Nat => ⟨[(6, .s (.r i.2.1 (fsL l st i.1).length i.2.2 0)), (13, .s (.v (.int .i64 i.1))), (12, .s (.v (.int .i64 l.length))), (0, .s (.v (.slice A l.length c))), (1, .s (.v (.float .f32 st))), (5, .s (.v (.slice AM l.length cM)))], [], [⟨3, 1, (fsL l st i.1).length, natC (fsL l st i.1), .slice i.2.1 (fsL l st i.1).length i.2.2⟩]⟩) (fun i => i.1 ≤ l.length) (fun i => l.length - i.1) (0, none, 0) (Nat.zero_le _) ?_ (fun i hi => ?_)
  · exact ⟨⟨_, rfl, obQ⟩, ⟨_, rfl⟩, rfl, pstQ⟩
  obtain ⟨k, A', c'⟩ := i
  have hi' : k ≤ l.length := hi
  dsimp only
  have hfl : (fsL l st k).length ≤ k := filter_len (flB l st) k
  by_cases hlt : k < l.length
  · obtain ⟨ad, rfl⟩ := hr.some (by rw [pv_len]; omega)
    obtain ⟨am, hAM⟩ : ∃ am, AM = some am := by
      rcases hSM with h | ⟨ad, h, _⟩
      · have hz := congrArg List.length h
        rw [List.length_map] at hz
        simp only [List.length_nil] at hz
        omega
      · exact ⟨ad, h⟩
    subst hAM
    rcases Nat.eq_zero_or_pos k with rfl | h0
    · have hsn := fsL_f (flB_0 l st)
      repeat' (first
 | (refine C_id ?_; first
 | refine C_seq ?_
 | refine C_region rfl ?_
 | refine C_block ?_
 | refine C_skip ?_
 | refine C_exit ?_
 | refine C_condT rfl obQ ?_
 | (refine C_cond rfl obQ (fun h => ?_) (fun h => ?_) <;> (try simp only [Bool.or_eq_true, Bool.and_eq_true, Bool.or_eq_false_iff, Bool.and_eq_false_iff, decide_eq_true_eq, decide_eq_false_iff_not, beq_iff_eq, bne_iff_ne, beq_eq_false_iff_ne, bne_eq_false_iff_eq, ne_eq, Decidable.not_not, List.cons.injEq, and_true, Bool.not_eq_true', Bool.not_eq_false', Int.not_lt, Int.not_le] at h) <;> (try (exfalso; omega)))
       )
 | (refine S_id ?_; first
 | refine S_nil ?_
 | refine S_run rfl rfl obQ obQ ?_
       )
 | (refine G_id ?_; first
 | refine G_loop (1, A', c') (show 1 ≤ l.length by omega) (by show l.length - 1 < l.length - 0; omega) (by dsimp only; rw [show (1 : Nat) = 0 + 1 from rfl, hsn]; exact ⟨⟨_, rfl, obQ⟩, ⟨_, rfl⟩, rfl, pstQ⟩)
 | refine G_then ?_
 | refine G_blockX ?_
 | refine G_thenX ?_
       )
       )
    · have hp := gQ_F hq hlt
      have hp1 := gQ_F hq (k := k - 1) (by omega)
      have hb := tot_bd hp.s
      have hb1 := tot_bd hp1.s
      have hn := pic_len hp
      have hn1 := pic_len hp1
      have hm := mul_ab (a := lvl st) (x := ((gQ l k).p.s.length : Int)) (A := 16384) (X := 4096) hsl (by omega)
      by_cases hc : lvl st * (gQ l k).p.s.length < max (chF l k) (0 - chF l k)
      · have hsn := fsL_t (flB_t h0 hc)
        unfold chF at hc
        repeat' (first
 | (refine C_id ?_; first
 | refine C_seq ?_
 | refine C_region rfl ?_
 | refine C_block ?_
 | refine C_skip ?_
 | refine C_draw (id := 7) rfl mixed (by kernel_rfl) ?_
 | refine C_draw (id := 8) rfl mixed (by kernel_rfl) ?_
 | (refine C_cond rfl obQ (fun h => ?_) (fun h => ?_) <;> (try simp only [Bool.or_eq_true, Bool.and_eq_true, Bool.or_eq_false_iff, Bool.and_eq_false_iff, decide_eq_true_eq, decide_eq_false_iff_not, beq_iff_eq, bne_iff_ne, beq_eq_false_iff_ne, bne_eq_false_iff_eq, ne_eq, Decidable.not_not, List.cons.injEq, and_true, Bool.not_eq_true', Bool.not_eq_false', Int.not_lt, Int.not_le] at h) <;> (try (exfalso; omega)) <;> (try (exfalso; simp at h; done)) <;> (try (exfalso; simp only [not_true_eq_false, false_or, or_false] at h; omega)) <;> (try (exfalso; omega)))
         )
 | (refine S_id ?_; first
 | refine S_append rfl obQ rfl rfl rfl ⟨by decide, rfl⟩ rfl ⟨rfl, rfl, rfl, rfl⟩ [.int .i64 (k : Int)] ⟨by decide, rfl⟩ (by simp [Value.oneCell']) (fun w hw => by first | exact hw.src (i := 0) rfl rfl | exact hw.src (i := 1) rfl rfl | exact hw.src (i := 2) rfl rfl | exact hw.src (i := 3) rfl rfl | exact hw.src (i := 4) rfl rfl | exact hw.src (i := 5) rfl rfl | exact hw.src (i := 6) rfl rfl | exact hw.src (i := 7) rfl rfl | exact hw.src (i := 8) rfl rfl) (by unfold maxLen; dsimp only; omega) (fun gb cap' => ⟨_, rfl, ?_⟩)
 | refine S_nil ?_
 | refine S_run rfl rfl obQ obQ ?_
 | refine S_slice (fun b => ⟨_, _, rfl, obQ, ?_⟩)
         )
 | (refine D_id ?_; first
 | refine D_load rfl obQ rfl [.int .i64 (totF (gQ l (k)).p.s)] (.past _ memQ _ _ hSM _ _ rfl rfl (tot_idx (k := k) rfl hlt)) rfl (.inr ⟨rfl, rfl⟩) ?_
 | refine D_load rfl obQ rfl [.int .i64 (totF (gQ l (k - 1)).p.s)] (.past _ memQ _ _ hSM _ _ rfl rfl (tot_idx (k := k - 1) (by omega) (by omega))) rfl (.inr ⟨rfl, rfl⟩) ?_
 | refine D_load rfl obQ rfl [.slice (gQ l k).A (gQ l k).p.s.length (gQ l k).c] (.past (w, fun b => b < w.heap.size) memQ _ _ hr.toS _ _ rfl (add_of_add _ _ _) (gQ_f (z := (k : Int)) (k := k) rfl hlt 3 rfl)) rfl (.inr ⟨rfl, rfl⟩) ?_
 | refine D_nil ?_
 | refine D_run rfl rfl obQ obQ ?_
 | refine D_call (f := 140) rfl obQ (by kernel_rfl) (fun w hw => level_c st hss.fin hss.bd w) ?_
         )
 | (refine G_id ?_; first
 | refine G_loop (k + 1, some ⟨gb, 0, none⟩, cap') (show k + 1 ≤ l.length by omega) (by show l.length - (k + 1) < l.length - k; omega) (by dsimp only; rw [hsn, natC_snoc, List.length_append]; exact ⟨⟨_, rfl, obQ⟩, ⟨_, rfl⟩, rfl, pstQ⟩)
 | refine G_then ?_
 | refine G_block ?_
         )
         )
      · have hsn := fsL_f (flB_f hc)
        unfold chF at hc
        repeat' (first
 | (refine C_id ?_; first
 | refine C_seq ?_
 | refine C_region rfl ?_
 | refine C_block ?_
 | refine C_skip ?_
 | refine C_draw (id := 7) rfl mixed (by kernel_rfl) ?_
 | refine C_draw (id := 8) rfl mixed (by kernel_rfl) ?_
 | (refine C_cond rfl obQ (fun h => ?_) (fun h => ?_) <;> (try simp only [Bool.or_eq_true, Bool.and_eq_true, Bool.or_eq_false_iff, Bool.and_eq_false_iff, decide_eq_true_eq, decide_eq_false_iff_not, beq_iff_eq, bne_iff_ne, beq_eq_false_iff_ne, bne_eq_false_iff_eq, ne_eq, Decidable.not_not, List.cons.injEq, and_true, Bool.not_eq_true', Bool.not_eq_false', Int.not_lt, Int.not_le] at h) <;> (try (exfalso; omega)) <;> (try (exfalso; simp at h; done)) <;> (try (exfalso; simp only [not_true_eq_false, false_or, or_false] at h; omega)) <;> (try (exfalso; omega)))
         )
 | (refine S_id ?_; first
 | refine S_nil ?_
 | refine S_run rfl rfl obQ obQ ?_
         )
 | (refine D_id ?_; first
 | refine D_load rfl obQ rfl [.int .i64 (totF (gQ l (k)).p.s)] (.past _ memQ _ _ hSM _ _ rfl rfl (tot_idx (k := k) rfl hlt)) rfl (.inr ⟨rfl, rfl⟩) ?_
 | refine D_load rfl obQ rfl [.int .i64 (totF (gQ l (k - 1)).p.s)] (.past _ memQ _ _ hSM _ _ rfl rfl (tot_idx (k := k - 1) (by omega) (by omega))) rfl (.inr ⟨rfl, rfl⟩) ?_
 | refine D_load rfl obQ rfl [.slice (gQ l k).A (gQ l k).p.s.length (gQ l k).c] (.past (w, fun b => b < w.heap.size) memQ _ _ hr.toS _ _ rfl (add_of_add _ _ _) (gQ_f (z := (k : Int)) (k := k) rfl hlt 3 rfl)) rfl (.inr ⟨rfl, rfl⟩) ?_
 | refine D_nil ?_
 | refine D_run rfl rfl obQ obQ ?_
 | refine D_call (f := 140) rfl obQ (by kernel_rfl) (fun w hw => level_c st hss.fin hss.bd w) ?_
         )
 | (refine G_id ?_; first
 | refine G_loop (k + 1, A', c') (show k + 1 ≤ l.length by omega) (by show l.length - (k + 1) < l.length - k; omega) (by dsimp only; rw [hsn]; exact ⟨⟨_, rfl, obQ⟩, ⟨_, rfl⟩, rfl, pstQ⟩)
 | refine G_then ?_
 | refine G_block ?_
         )
         )
  · obtain rfl : k = l.length := by omega
    repeat' (first
 | (refine C_id ?_; first
 | refine C_seq ?_
 | refine C_region rfl ?_
 | refine C_exit ?_
 | refine C_ret0 ?_
 | (refine C_cond rfl obQ (fun h => ?_) (fun h => ?_) <;> (try simp only [Bool.or_eq_true, Bool.and_eq_true, Bool.or_eq_false_iff, Bool.and_eq_false_iff, decide_eq_true_eq, decide_eq_false_iff_not, beq_iff_eq, bne_iff_ne, beq_eq_false_iff_ne, bne_eq_false_iff_eq, ne_eq, Decidable.not_not, List.cons.injEq, and_true, Bool.not_eq_true', Bool.not_eq_false', Int.not_lt, Int.not_le] at h) <;> (try (exfalso; omega)))
     )
 | (refine S_id ?_; first
 | refine S_nil ?_
 | refine S_run rfl rfl obQ obQ ?_
     )
 | (refine G_id ?_; first
 | refine G_then ?_
 | refine G_blockX ?_
 | refine G_thenX ?_
 | refine G_ret rfl obQ (fun w2 hw => ⟨_, rfl, hw.below, HW.rowSl (i := 0) hw rfl rfl rfl rfl⟩)
     )
     )

set_option maxHeartbeats 400000 in
/-- colour.Flashes -/
theorem Flashes_c (A : Option Addr) (c : Nat) (l : List PV') (hs : ∀ x ∈ l, x.p.s.length ≤ 1000000) (hl : l.length ≤ 1000000) (st : Nat) (w : World) (hr : Rd w A (l.flatMap pvC)) (hrs : ∀ x ∈ l, Rd w x.A (x.p.s.map (.float .f32))) : Calls Tryz.prog 67 #[.slice A l.length c, .float .f32 st] w fun r w' => ∃ v, r = .returned v ∧ Below w.heap.size w w' ∧ Sl2 w w' v (fsR l st).1.length (natC (fsR l st).1) (.int .i64 (fsR l st).2) := by
  refine calls_of (args := [.slice A l.length c, .float .f32 st]) T_ok Tryz.func67 rfl Tryz.ntmps67 (Nat.le_of_ble_eq_true rfl) rfl ?_
  by_cases hE : fsE l st = 0
  · obtain ⟨h1, h2⟩ := fsE_ok hE
    have e1 : fsR l st = (flF l st, 0) := if_pos hE
    rw [e1]
    repeat' (first
 | (refine C_id ?_; first
 | refine C_seq ?_
 | refine C_region rfl ?_
 | refine C_skip ?_
 | refine C_ret0 ?_
 | (refine C_cond rfl obQ (fun h => ?_) (fun h => ?_) <;> (try simp only [Bool.or_eq_true, Bool.and_eq_true, Bool.or_eq_false_iff, Bool.and_eq_false_iff, decide_eq_true_eq, decide_eq_false_iff_not, beq_iff_eq, bne_iff_ne, beq_eq_false_iff_ne, bne_eq_false_iff_eq, ne_eq, Decidable.not_not, List.cons.injEq, and_true, Bool.not_eq_true', Bool.not_eq_false', Int.not_lt, Int.not_le] at h) <;> (try (exfalso; omega)) <;> (try (exfalso; simp at h; done)) <;> (try (exfalso; simp only [not_true_eq_false, false_or, or_false] at h; omega)) <;> (try contradiction))
     )
 | (refine S_id ?_; first
 | refine S_nil ?_
 | refine S_run rfl rfl obQ obQ ?_
 | refine S_slice (fun b => ⟨_, _, rfl, obQ, ?_⟩)
 | refine S_call (f := 149) rfl obQ (by kernel_rfl) (fun w hw => checkSequence_c A c l hl hs w (hw.rdm hr.toS memQ) (fun x hx => hw.rdm (hrs x hx).toS memQ)) ?_
 | refine S_call (f := 150) rfl obQ (by kernel_rfl) (fun w hw => checkStep_c st w) ?_
 | refine S_call (f := 111) rfl obQ (by kernel_rfl) (fun w hw => cfirst_c _ _ [sqE l, stE st] (by simp) w (.inr ⟨_, rfl, hw.src (i := 0) rfl rfl⟩)) ?_
 | (refine S_callM (f := 151) rfl obQ (by kernel_rfl) (fun w hw => flashes_c A c l hs st h1 h2 w (hw.rdm hr.toS memQ) (fun x hx => hw.rdm (hrs x hx).toS memQ)) (fun w1F w2F vF hw1F hbF hRF => ?_); obtain ⟨AF, cF, rfl, hSF⟩ := hRF)
     )
 | (refine G_id ?_; first
 | refine G_then ?_
 | refine G_ret rfl obQ (fun w2 hw => ⟨_, rfl, hw.below, Sl.two (HW.callSl hw hSF memQ hw1F.bsize) rfl⟩)
     )
     )
  · have e1 : fsR l st = ([], fsE l st) := if_neg hE
    rw [e1]
    repeat' (first
 | (refine C_id ?_; first
 | refine C_seq ?_
 | refine C_region rfl ?_
 | refine C_ret0 ?_
 | (refine C_cond rfl obQ (fun h => ?_) (fun h => ?_) <;> (try simp only [Bool.or_eq_true, Bool.and_eq_true, Bool.or_eq_false_iff, Bool.and_eq_false_iff, decide_eq_true_eq, decide_eq_false_iff_not, beq_iff_eq, bne_iff_ne, beq_eq_false_iff_ne, bne_eq_false_iff_eq, ne_eq, Decidable.not_not, List.cons.injEq, and_true, Bool.not_eq_true', Bool.not_eq_false', Int.not_lt, Int.not_le] at h) <;> (try (exfalso; omega)) <;> (try (exfalso; simp at h; done)) <;> (try (exfalso; simp only [not_true_eq_false, false_or, or_false] at h; omega)) <;> (try contradiction))
     )
 | (refine S_id ?_; first
 | refine S_nil ?_
 | refine S_run rfl rfl obQ obQ ?_
 | refine S_slice (fun b => ⟨_, _, rfl, obQ, ?_⟩)
 | refine S_call (f := 149) rfl obQ (by kernel_rfl) (fun w hw => checkSequence_c A c l hl hs w (hw.rdm hr.toS memQ) (fun x hx => hw.rdm (hrs x hx).toS memQ)) ?_
 | refine S_call (f := 150) rfl obQ (by kernel_rfl) (fun w hw => checkStep_c st w) ?_
 | refine S_call (f := 111) rfl obQ (by kernel_rfl) (fun w hw => cfirst_c _ _ [sqE l, stE st] (by simp) w (.inr ⟨_, rfl, hw.src (i := 0) rfl rfl⟩)) ?_
     )
 | (refine G_id ?_; first
 | refine G_then ?_
 | refine G_thenR ?_
 | refine G_ret rfl obQ (fun w2 hw => ⟨_, rfl, hw.below, Sl.two (v := .slice none 0 0) (Sl.nil_ _ _) rfl⟩)
     )
     )

end Go.Proofs.YtdbffbcobghbeaaGreatDoor
