/- The lost colours: the walk of the program. -/
import Derived.Test.YtdbffbcobghbeaaGreatDoorColour12
namespace Go.Proofs.YtdbffbcobghbeaaGreatDoor
open Go.E Go.RowKit Go.Fl
attribute [local irreducible] G C S D Calls
set_option maxRecDepth 100000
set_option linter.unusedSimpArgs false
set_option linter.unusedVariables false

set_option maxHeartbeats 4000000 in
/-- colour.Lost -/
theorem Lost_c (m : Mat) (lo hi : Int) (w : World) : Calls Tryz.prog 48 #[.agg #[.int .i64 m.a, .int .i64 m.b, .int .i64 m.c, .int .i64 m.d, .int .i64 m.e, .int .i64 m.f, .int .i64 m.g, .int .i64 m.h, .int .i64 m.i, .int .i64 m.n], .agg #[.int .i64 lo, .int .i64 hi]] w fun r w' => ∃ v, r = .returned v ∧ Below w.heap.size w w' ∧ Sl2 w w' v (lostR m lo hi).1.length ((lostR m lo hi).1.flatMap coC) (.int .i64 (lostR m lo hi).2) := by
  refine calls_ofM (args := [.agg #[.int .i64 m.a, .int .i64 m.b, .int .i64 m.c, .int .i64 m.d, .int .i64 m.e, .int .i64 m.f, .int .i64 m.g, .int .i64 m.h, .int .i64 m.i, .int .i64 m.n], .agg #[.int .i64 lo, .int .i64 hi]]) T_ok Tryz.func48 rfl Tryz.ntmps48 (Nat.le_of_ble_eq_true rfl) rfl ?_
  by_cases hE : lsE m lo hi = 0
  · obtain ⟨hm, hI⟩ := lsE_ok hE
    have hi2 := ivE_ok hI
    by_cases h6 : 6 < hi - lo + 1
    · have e1 : lostR m lo hi = ([], 20) := by rw [lostR, if_pos hE, if_pos h6]
      rw [e1]
      repeat' (first
 | (refine C_id ?_; first
 | refine C_seq ?_
 | refine C_region rfl ?_
 | refine C_skip ?_
 | refine C_ret0 ?_
 | refine C_drawT (id := 1) 4 rfl mixed (by kernel_rfl) rfl rfl ?_
 | (refine C_cond rfl obQ (fun h => ?_) (fun h => ?_) <;> (try simp only [Bool.or_eq_true, Bool.and_eq_true, Bool.or_eq_false_iff, Bool.and_eq_false_iff, decide_eq_true_eq, decide_eq_false_iff_not, beq_iff_eq, bne_iff_ne, beq_eq_false_iff_ne, bne_eq_false_iff_eq, ne_eq, Decidable.not_not, List.cons.injEq, and_true, Bool.not_eq_true', Bool.not_eq_false', Int.not_lt, Int.not_le] at h) <;> (try (exfalso; omega)) <;> (try (exfalso; simp at h; done)) <;> (try (exfalso; simp only [not_true_eq_false, false_or, or_false] at h; omega)) <;> (try contradiction))
       )
 | (refine S_id ?_; first
 | refine S_nil ?_
 | refine S_run rfl rfl obQ obQ ?_
 | refine S_box (fun b => ⟨_, _, rfl, obQ, ?_⟩)
 | refine S_slice (fun b => ⟨_, _, rfl, obQ, ?_⟩)
 | refine S_call (f := 111) rfl obQ (by kernel_rfl) (fun w hw => cfirst_c _ _ [matE m, ivE lo hi] (by simp) w (.inr ⟨_, rfl, hw.src (i := 2) rfl rfl⟩)) ?_
       )
 | (refine D_id ?_; first
 | refine D_tail ?_
 | refine D_run rfl rfl obQ obQ ?_
 | refine D_call (f := 46) rfl obQ (by kernel_rfl) (fun w hw => checkMatrix_c m w) ?_
 | refine D_call (f := 133) rfl obQ (by kernel_rfl) (fun w hw => checkInterval_c lo hi w) ?_
       )
 | (refine G_id ?_; first
 | refine G_then ?_
 | refine G_thenR ?_
 | refine G_retD rfl obQ (DsP.nil _ _) (fun w2 hw => ⟨_, rfl, hw.below, Sl.two (v := .slice none 0 0) (Sl.nil_ _ _) rfl⟩)
       )
       )
    · have e1 : lostR m lo hi = (lostF m lo hi, 0) := by rw [lostR, if_pos hE, if_neg h6]
      have hc : CuOk lo hi := ⟨hi2.1.1, hi2.2.1.2, by omega⟩
      have hfin : lostO m lo hi ((cubeL lo hi).map toC) = lostF m lo hi := by unfold lostO lostF; rw [toC_map (cube_ok hc)]
      have hxl : ((cubeL lo hi).map toC).length ≤ 216 := by
        have := cube_bd hc
        simp only [List.length_map, cubeL, List.length_range, cubeN]
        omega
      rw [e1, ← hfin]
      repeat' (first
 | (refine C_id ?_; first
 | refine C_seq ?_
 | refine C_region rfl ?_
 | refine C_block ?_
 | refine C_skip ?_
 | refine C_drawT (id := 1) 4 rfl mixed (by kernel_rfl) rfl rfl ?_
 | (refine C_cond rfl obQ (fun h => ?_) (fun h => ?_) <;> (try simp only [Bool.or_eq_true, Bool.and_eq_true, Bool.or_eq_false_iff, Bool.and_eq_false_iff, decide_eq_true_eq, decide_eq_false_iff_not, beq_iff_eq, bne_iff_ne, beq_eq_false_iff_ne, bne_eq_false_iff_eq, ne_eq, Decidable.not_not, List.cons.injEq, and_true, Bool.not_eq_true', Bool.not_eq_false', Int.not_lt, Int.not_le] at h) <;> (try (exfalso; omega)) <;> (try (exfalso; simp at h; done)) <;> (try (exfalso; simp only [not_true_eq_false, false_or, or_false] at h; omega)) <;> (try contradiction))
       )
 | (refine S_id ?_; first
 | refine S_new rfl obQ (fun h => by obtain ⟨_, h⟩ := h; cases h) (fun k W hown hat => ?_)
 | (refine S_callM (f := 134) rfl obQ (by kernel_rfl) (fun w hw => colours_c lo hi w) (fun w1C w2C vC hw1C hbC hRC => ?_); obtain ⟨bC, rfl, hbC, hMC⟩ := hRC)
 | refine S_nil ?_
 | refine S_run rfl rfl obQ obQ ?_
 | refine S_box (fun b => ⟨_, _, rfl, obQ, ?_⟩)
 | refine S_slice (fun b => ⟨_, _, rfl, obQ, ?_⟩)
 | refine S_call (f := 111) rfl obQ (by kernel_rfl) (fun w hw => cfirst_c _ _ [matE m, ivE lo hi] (by simp) w (.inr ⟨_, rfl, hw.src (i := 2) rfl rfl⟩)) ?_
       )
 | (refine D_id ?_; first
 | refine D_tail ?_
 | refine D_run rfl rfl obQ obQ ?_
 | refine D_call (f := 46) rfl obQ (by kernel_rfl) (fun w hw => checkMatrix_c m w) ?_
 | refine D_call (f := 133) rfl obQ (by kernel_rfl) (fun w hw => checkInterval_c lo hi w) ?_
       )
 | (refine G_id ?_; first
 | refine G_then ?_
       )
       )
      rename_i b2 b3 bs hz hbC0
      obtain ⟨b7, rfl⟩ : ∃ z, z = b := ⟨b, rfl⟩
      have hkC : k < w1C.heap.size := (hw1C.past (Po W k) (by simp) k rfl).1.1
      have hno2 : ∀ p ∈ [(w2C, fun b => w1C.heap.size ≤ b ∧ b < w2C.heap.size), (w, fun b => b < w.heap.size)], ¬ p.2 k := fun p hp => by
        simp only [List.mem_cons, List.mem_nil_iff, or_false] at hp
        rcases hp with rfl | rfl
        · intro h; have := h.1; omega
        · exact hown.no _ (by simp)
      refine C_past (Ps' := [Po W k, (w2C, fun b => w1C.heap.size ≤ b ∧ b < w2C.heap.size), (w, fun b => b < w.heap.size)]) (by intro p hp; simp only [List.mem_cons, List.mem_nil_iff, or_false] at hp ⊢; rcases hp with rfl | rfl | rfl <;> simp) ?_
      refine C_rangeFuncO (k := k) (Φ := HitAt m k) (fun xs => setT_on _ _ _ _ _ _) (setT_new 50 4 hat) rfl rfl obQ (by kernel_rfl) (encs := encC) ((cubeL lo hi).map toC) (fun _ => rfl) (by intro t ht; simp at ht; subst ht; exact Nat.le_of_ble_eq_true rfl) (fun x => [(30, triV x.c)]) (fun x => by simp [encC]) (fun w3 hw3 => ?_) (fun pre : List OCol => ⟨[], [⟨b2, 56, [.v (.int .i64 m.a), .v (.int .i64 m.b), .v (.int .i64 m.c), .v (.int .i64 m.d), .v (.int .i64 m.e), .v (.int .i64 m.f), .v (.int .i64 m.g), .v (.int .i64 m.h), .v (.int .i64 m.i), .v (.int .i64 m.n)]⟩, ⟨b3, 73, [.v (.int .i64 lo), .v (.int .i64 hi)]⟩, ⟨bs, 26, [.v (.int .i64 (matE m)), .v (.int .i64 (ivE lo hi))]⟩, ⟨b7, 89, [.v (.map (some k))]⟩], []⟩) (fun w3 hw3 => HW.same hw3 rfl rfl) (fun l L W3 pre x hpre hkL hwp hF => ?_) (fun D WD hBD hWD hnD hDk hF => ?_)
      · exact colours_seq bC lo hi hc _ ⟨(w2C, fun b => w1C.heap.size ≤ b ∧ b < w2C.heap.size), by simp, hbC⟩ w3 (((hw3.past (w2C, fun b => w1C.heap.size ≤ b ∧ b < w2C.heap.size) (by simp) bC hbC).1.2).trans hMC)
      · try dsimp only
        repeat' (first
 | (refine C_id ?_; first
 | refine C_region rfl ?_
 | refine C_block ?_
 | refine C_drawT (id := 9) 4 rfl mixed (by kernel_rfl) rfl rfl ?_
         )
 | (refine S_id ?_; first
 | refine S_putT rfl obQ tri50 key50 rfl rfl hF4 (conv64 hm x.ok) (by unfold maxLen; omega) ⟨hown.lo, fun p hp => (List.mem_cons.1 hp).elim (fun e => by subst e; exact fun h => h.2 rfl) (hno2 p)⟩ (fun W5 hat5 => ?_)
 | refine S_nil ?_
 | refine S_run rfl rfl obQ obQ ?_
 | refine S_box (fun b => ⟨_, _, rfl, obQ, ?_⟩)
         )
 | (refine D_id ?_; first
 | refine D_tail ?_
 | refine D_run rfl rfl obQ obQ ?_
 | refine D_call (f := 123) rfl obQ (by kernel_rfl) (fun w hw => converted_c m x.c hm x.ok w) ?_
         )
 | (refine G_id ?_; first
 | refine G_assignO (Φ := HitAt m k) (fun xs => setT_on _ _ _ _ _ _) hkL hwp hF (fun W4 hw4 hF4 => ?_)
 | refine G_roundO (Φ := HitAt m k) (fun xs => setT_on _ _ _ _ _ _) hkL (hit_snoc hat5) ⟨⟨_, rfl, obQ⟩, ⟨_, rfl⟩, rfl, pstQ⟩ hw4
 | refine G_block ?_
         )
         )
      · have hF3 : SetT Tryz.prog 50 4 k ((cubeL lo hi).map toC).length (hitB m (cubeL lo hi)) WD := by
          have := hF
          unfold HitAt at this
          rw [toC_map (cube_ok hc)] at this
          exact this
        repeat' (first
 | (refine C_id ?_; first
 | refine C_seq ?_
 | refine C_region rfl ?_
 | refine C_block ?_
         )
 | (refine S_id ?_; first
 | (refine S_callM (f := 134) rfl obQ (by kernel_rfl) (fun w hw => colours_c lo hi w) (fun w1E w2E vE hw1E hbE hRE => ?_); obtain ⟨bE, rfl, hbE, hME⟩ := hRE)
 | refine S_nil ?_
 | refine S_run rfl rfl obQ obQ ?_
 | refine S_box (fun b => ⟨_, _, rfl, obQ, ?_⟩)
         )
 | (refine G_id ?_; first
 | refine G_then ?_
 | refine G_block ?_
         )
         )
        rename_i hbE0
        obtain ⟨b9, rfl⟩ : ∃ z, z = b := ⟨b, rfl⟩
        refine C_rowB 50 3 [⟨b2, 56, [.v (.int .i64 m.a), .v (.int .i64 m.b), .v (.int .i64 m.c), .v (.int .i64 m.d), .v (.int .i64 m.e), .v (.int .i64 m.f), .v (.int .i64 m.g), .v (.int .i64 m.h), .v (.int .i64 m.i), .v (.int .i64 m.n)]⟩, ⟨b3, 73, [.v (.int .i64 lo), .v (.int .i64 hi)]⟩, ⟨bs, 26, [.v (.int .i64 (matE m)), .v (.int .i64 (ivE lo hi))]⟩, ⟨b7, 89, [.v (.map (some k))]⟩, ⟨b9, 76, [.r none 0 0 0]⟩] rfl ?_
        refine C_rangeFuncE rfl rfl obQ (by kernel_rfl) (encs := encC) ((cubeL lo hi).map toC) (fun _ => rfl) (by intro t ht; simp at ht; subst ht; exact Nat.le_of_ble_eq_true rfl) (fun x => [(37, triV x.c)]) (fun x => by simp [encC]) (fun w3 hw3 => ?_) (fun (pre : List OCol) (i : Option Addr × Nat) => ⟨[], [⟨b2, 56, [.v (.int .i64 m.a), .v (.int .i64 m.b), .v (.int .i64 m.c), .v (.int .i64 m.d), .v (.int .i64 m.e), .v (.int .i64 m.f), .v (.int .i64 m.g), .v (.int .i64 m.h), .v (.int .i64 m.i), .v (.int .i64 m.n)]⟩, ⟨b3, 73, [.v (.int .i64 lo), .v (.int .i64 hi)]⟩, ⟨bs, 26, [.v (.int .i64 (matE m)), .v (.int .i64 (ivE lo hi))]⟩, ⟨b7, 89, [.v (.map (some k))]⟩, ⟨b9, 76, [.r i.1 (lostO m lo hi pre).length i.2 0]⟩], [⟨50, 3, (lostO m lo hi pre).length, (lostO m lo hi pre).flatMap coC, .slice i.1 (lostO m lo hi pre).length i.2⟩]⟩) (none, 0) (fun w3 hw3 => HW.same hw3 rfl rfl) (fun l L W3 pre x i hpre hwp => ?_) (fun D2 WD2 i hBD2 hWD2 hnD2 => ?_)
        · exact colours_seq bE lo hi hc _ ⟨(w2E, fun b => w1E.heap.size ≤ b ∧ b < w2E.heap.size), by simp, hbE⟩ w3 (((hw3.past (w2E, fun b => w1E.heap.size ≤ b ∧ b < w2E.heap.size) (by simp) bE hbE).1.2).trans hME)
        · have hsn := lostO_snoc m lo hi pre x
          have hll := lostO_len m lo hi pre
          cases hx : hitB m (cubeL lo hi) x.c
          · rw [hx] at hsn
            have hs : lostO m lo hi (pre ++ [x]) = lostO m lo hi pre ++ [x.c] := hsn
            try dsimp only
            repeat' (first
 | (refine C_id ?_; first
 | refine C_seq ?_
 | refine C_region rfl ?_
 | refine C_block ?_
 | (refine C_cond rfl obQ (fun h => ?_) (fun h => ?_) <;> (try simp only [Bool.or_eq_true, Bool.and_eq_true, Bool.or_eq_false_iff, Bool.and_eq_false_iff, decide_eq_true_eq, decide_eq_false_iff_not, beq_iff_eq, bne_iff_ne, beq_eq_false_iff_ne, bne_eq_false_iff_eq, ne_eq, Decidable.not_not, List.cons.injEq, and_true, Bool.not_eq_true', Bool.not_eq_false', Int.not_lt, Int.not_le] at h) <;> (try (exfalso; omega)) <;> (try (exfalso; simp at h; done)) <;> (try (exfalso; simp only [not_true_eq_false, false_or, or_false] at h; omega)) <;> (try (rw [hx] at h; cases h)))
             )
 | (refine S_id ?_; first
 | refine S_pure (lookT_pure rfl obQ tri50 key50 rfl rfl (fun _ => rfl) hF3 (col64 x.ok) (by simp)) ?_
 | refine S_append rfl obQ rfl rfl rfl ⟨by decide, rfl⟩ rfl ⟨rfl, rfl, rfl, rfl⟩ [.int .i64 x.c.1, .int .i64 x.c.2.1, .int .i64 x.c.2.2] ⟨by decide, rfl⟩ (by simp [Value.oneCell']) (fun w hw => by first | exact hw.src (i := 0) rfl rfl | exact hw.src (i := 1) rfl rfl | exact hw.src (i := 2) rfl rfl | exact hw.src (i := 3) rfl rfl | exact hw.src (i := 4) rfl rfl | exact hw.src (i := 5) rfl rfl | exact hw.src (i := 6) rfl rfl | exact hw.src (i := 7) rfl rfl | exact hw.src (i := 8) rfl rfl) (by unfold maxLen; dsimp only; omega) (fun gb cap' => ⟨_, rfl, ?_⟩)
 | refine S_nil ?_
 | refine S_run rfl rfl obQ obQ ?_
 | refine S_box (fun b8 => ⟨_, _, rfl, obQ, ?_⟩)
 | refine S_slice (fun b => ⟨_, _, rfl, obQ, ?_⟩)
             )
 | (refine G_id ?_; first
 | refine G_assignE hwp (fun W4 hw4 => ?_)
 | refine G_roundE (some ⟨gb, 0, none⟩, cap') (by dsimp only; rw [hs, List.length_append, List.flatMap_append]; exact ⟨⟨_, rfl, obQ⟩, ⟨_, rfl⟩, rfl, pstQ⟩) hw4
 | refine G_then ?_
 | refine G_block ?_
             )
             )
          · rw [hx] at hsn
            have hs : lostO m lo hi (pre ++ [x]) = lostO m lo hi pre := by rw [hsn]; simp
            try dsimp only
            repeat' (first
 | (refine C_id ?_; first
 | refine C_seq ?_
 | refine C_region rfl ?_
 | refine C_block ?_
 | refine C_skip ?_
 | (refine C_cond rfl obQ (fun h => ?_) (fun h => ?_) <;> (try simp only [Bool.or_eq_true, Bool.and_eq_true, Bool.or_eq_false_iff, Bool.and_eq_false_iff, decide_eq_true_eq, decide_eq_false_iff_not, beq_iff_eq, bne_iff_ne, beq_eq_false_iff_ne, bne_eq_false_iff_eq, ne_eq, Decidable.not_not, List.cons.injEq, and_true, Bool.not_eq_true', Bool.not_eq_false', Int.not_lt, Int.not_le] at h) <;> (try (exfalso; omega)) <;> (try (exfalso; simp at h; done)) <;> (try (exfalso; simp only [not_true_eq_false, false_or, or_false] at h; omega)) <;> (try (rw [hx] at h; cases h)))
             )
 | (refine S_id ?_; first
 | refine S_pure (lookT_pure rfl obQ tri50 key50 rfl rfl (fun _ => rfl) hF3 (col64 x.ok) (by simp)) ?_
 | refine S_nil ?_
 | refine S_run rfl rfl obQ obQ ?_
 | refine S_box (fun b8 => ⟨_, _, rfl, obQ, ?_⟩)
             )
 | (refine G_id ?_; first
 | refine G_assignE hwp (fun W4 hw4 => ?_)
 | refine G_roundE i (by dsimp only; rw [hs]; exact ⟨⟨_, rfl, obQ⟩, ⟨_, rfl⟩, rfl, pstQ⟩) hw4
 | refine G_then ?_
 | refine G_block ?_
             )
             )
        · repeat' (first
 | (refine C_id ?_; first
 | refine C_seq ?_
 | refine C_region rfl ?_
 | refine C_ret0 ?_
           )
 | (refine S_id ?_; first
 | refine S_nil ?_
 | refine S_run rfl rfl obQ obQ ?_
           )
 | (refine G_id ?_; first
 | refine G_then ?_
 | refine G_block ?_
 | refine G_retD rfl obQ ((((DsP.nil _ _).cons hBD hWD hnD).weak (by intro p hp; simp only [List.mem_cons, List.mem_nil_iff, or_false] at hp ⊢; rcases hp with rfl | rfl | rfl <;> simp)).cons hBD2 hWD2 hnD2) (fun w2 hw => ⟨_, rfl, hw.below, Sl.two (HW.rowSl (w0 := w) (i := 0) hw rfl rfl rfl rfl) rfl⟩)
           )
           )
  · have e1 : lostR m lo hi = ([], lsE m lo hi) := by rw [lostR, if_neg hE]
    rw [e1]
    repeat' (first
 | (refine C_id ?_; first
 | refine C_seq ?_
 | refine C_region rfl ?_
 | refine C_skip ?_
 | refine C_ret0 ?_
 | refine C_drawT (id := 1) 4 rfl mixed (by kernel_rfl) rfl rfl ?_
 | (refine C_cond rfl obQ (fun h => ?_) (fun h => ?_) <;> (try simp only [Bool.or_eq_true, Bool.and_eq_true, Bool.or_eq_false_iff, Bool.and_eq_false_iff, decide_eq_true_eq, decide_eq_false_iff_not, beq_iff_eq, bne_iff_ne, beq_eq_false_iff_ne, bne_eq_false_iff_eq, ne_eq, Decidable.not_not, List.cons.injEq, and_true, Bool.not_eq_true', Bool.not_eq_false', Int.not_lt, Int.not_le] at h) <;> (try (exfalso; omega)) <;> (try (exfalso; simp at h; done)) <;> (try (exfalso; simp only [not_true_eq_false, false_or, or_false] at h; omega)) <;> (try contradiction))
     )
 | (refine S_id ?_; first
 | refine S_nil ?_
 | refine S_run rfl rfl obQ obQ ?_
 | refine S_box (fun b => ⟨_, _, rfl, obQ, ?_⟩)
 | refine S_slice (fun b => ⟨_, _, rfl, obQ, ?_⟩)
 | refine S_call (f := 111) rfl obQ (by kernel_rfl) (fun w hw => cfirst_c _ _ [matE m, ivE lo hi] (by simp) w (.inr ⟨_, rfl, hw.src (i := 2) rfl rfl⟩)) ?_
     )
 | (refine D_id ?_; first
 | refine D_tail ?_
 | refine D_run rfl rfl obQ obQ ?_
 | refine D_call (f := 46) rfl obQ (by kernel_rfl) (fun w hw => checkMatrix_c m w) ?_
 | refine D_call (f := 133) rfl obQ (by kernel_rfl) (fun w hw => checkInterval_c lo hi w) ?_
     )
 | (refine G_id ?_; first
 | refine G_then ?_
 | refine G_thenR ?_
 | refine G_retD rfl obQ (DsP.nil _ _) (fun w2 hw => ⟨_, rfl, hw.below, Sl.two (v := .slice none 0 0) (Sl.nil_ _ _) rfl⟩)
     )
     )

end Go.Proofs.YtdbffbcobghbeaaGreatDoor
