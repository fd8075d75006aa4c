/- Broken limits of flashes: the program. -/
import Derived.Test.YtdbffbcobghbeaaGreatDoorColour21
namespace Go.Proofs.YtdbffbcobghbeaaGreatDoor
open Go.E Go.RowKit Go.Fl
attribute [local irreducible] G C S D Calls
set_option maxRecDepth 100000
set_option linter.unusedSimpArgs false
set_option linter.unusedVariables false

def inB (n : Nat) (win : Int) (k : Nat) : Bool := decide ((k : Int) ≤ n) && decide ((n : Int) - win < k)
/-- How many flashes there are in the window that ends at n. -/
def cntF (F : List Nat) (n : Nat) (win : Int) : Nat := (F.filter (inB n win)).length
def brB (F : List Nat) (most win : Int) (n : Nat) : Bool := decide (most < cntF F n win)
def brL (F : List Nat) (most win : Int) (k : Nat) : List Nat := (List.range k).filter (brB F most win)
/-- The frames at which a limit is broken. -/
def brF (l : List PV') (st : Nat) (most win : Int) : List Nat := brL (flF l st) most win l.length
def brE (l : List PV') (st : Nat) (most win : Int) : Int := firstL [sqE l, stE st, wi most 0 256, wi win 1 256]
theorem brE_ok {l : List PV'} {st : Nat} {most win : Int} (h : brE l st most win = 0) : sqE l = 0 ∧ stE st = 0 ∧ (0 ≤ most ∧ most ≤ 256) ∧ (1 ≤ win ∧ win ≤ 256) := by
  unfold brE at h
  rw [firstL_zero] at h
  simp only [List.mem_cons, List.mem_nil_iff, or_false, forall_eq_or_imp, forall_eq, wi_eq] at h
  exact h
def brR (l : List PV') (st : Nat) (most win : Int) : List Nat × Int := if brE l st most win = 0 then (brF l st most win, 0) else ([], brE l st most win)
theorem cnt_take {F : List Nat} {n k : Nat} {win : Int} (h : k < F.length) : cntF (F.take (k + 1)) n win = cntF (F.take k) n win + if inB n win F[k] then 1 else 0 := by
  unfold cntF
  rw [List.take_succ_eq_append_getElem h, List.filter_append, List.length_append]
  cases hh : inB n win F[k] <;> simp [hh]
theorem cnt_len (F : List Nat) (n : Nat) (win : Int) : cntF F n win ≤ F.length := List.length_filter_le _ _
theorem brL_t {F : List Nat} {most win : Int} {k : Nat} (h : brB F most win k = true) : brL F most win (k + 1) = brL F most win k ++ [k] := by
  unfold brL
  rw [List.range_succ, List.filter_append]
  simp [h]
theorem brL_f {F : List Nat} {most win : Int} {k : Nat} (h : brB F most win k = false) : brL F most win (k + 1) = brL F most win k := by
  unfold brL
  rw [List.range_succ, List.filter_append]
  simp [h]
theorem brL_len (F : List Nat) (most win : Int) (k : Nat) : (brL F most win k).length ≤ k := by
  have := List.length_filter_le (brB F most win) (List.range k)
  simpa [brL] using this
theorem natC_idx {l : List Nat} {k : Nat} (h : k < l.length) : ∀ (j : Nat) (u : Value), ([.int .i64 ((l[k] : Nat) : Int)] : List Value)[j]? = some u → (natC l)[((k : Int).toNat * 1 + j)]? = some u := idx1 (f := fun (k : Nat) => Value.int .i64 (k : Int)) h
theorem flF_mem {l : List PV'} {st : Nat} : ∀ k ∈ flF l st, k < l.length := by
  intro k hk
  simp only [flF, List.mem_filter, List.mem_range] at hk
  exact hk.1
theorem flF_len (l : List PV') (st : Nat) : (flF l st).length ≤ l.length := filter_len (flB l st) l.length

set_option maxHeartbeats 2000000 in
/-- colour.Broken -/
theorem Broken_c (A : Option Addr) (c : Nat) (l : List PV') (hs : ∀ x ∈ l, x.p.s.length ≤ 1000000) (hl : l.length ≤ 1000000) (st : Nat) (most win : Int) (w : World) (hr : Rd w A (l.flatMap pvC)) (hrs : ∀ x ∈ l, Rd w x.A (x.p.s.map (.float .f32))) : Calls Tryz.prog 69 #[.slice A l.length c, .float .f32 st, .int .i64 most, .int .i64 win] w fun r w' => ∃ v, r = .returned v ∧ Below w.heap.size w w' ∧ Sl2 w w' v (brR l st most win).1.length (natC (brR l st most win).1) (.int .i64 (brR l st most win).2) := by
  refine calls_of (args := [.slice A l.length c, .float .f32 st, .int .i64 most, .int .i64 win]) T_ok Tryz.func69 rfl Tryz.ntmps69 (Nat.le_of_ble_eq_true rfl) rfl ?_
  by_cases hE : brE l st most win = 0
  · obtain ⟨h1, h2, h3, h4⟩ := brE_ok hE
    have hl2 := (sqE_ok h1).1
    have e1 : brR l st most win = (brL (flF l st) most win l.length, 0) := if_pos hE
    rw [e1]
    repeat' (first
 | (refine C_id ?_; first
 | refine C_seq ?_
 | refine C_region rfl ?_
 | refine C_block ?_
 | refine C_skip ?_
 | (refine C_cond rfl obQ (fun h => ?_) (fun h => ?_) <;> (try simp only [Bool.or_eq_true, Bool.and_eq_true, Bool.or_eq_false_iff, Bool.and_eq_false_iff, decide_eq_true_eq, decide_eq_false_iff_not, beq_iff_eq, bne_iff_ne, beq_eq_false_iff_ne, bne_eq_false_iff_eq, ne_eq, Decidable.not_not, List.cons.injEq, and_true, Bool.not_eq_true', Bool.not_eq_false', Int.not_lt, Int.not_le] at h) <;> (try (exfalso; omega)) <;> (try (exfalso; simp at h; done)) <;> (try (exfalso; simp only [not_true_eq_false, false_or, or_false] at h; omega)) <;> (try contradiction))
     )
 | (refine S_id ?_; first
 | refine S_nil ?_
 | refine S_run rfl rfl obQ obQ ?_
 | refine S_slice (fun b => ⟨_, _, rfl, obQ, ?_⟩)
 | refine S_call (f := 149) rfl obQ (by kernel_rfl) (fun w hw => checkSequence_c A c l hl hs w (hw.rdm hr.toS memQ) (fun x hx => hw.rdm (hrs x hx).toS memQ)) ?_
 | refine S_call (f := 150) rfl obQ (by kernel_rfl) (fun w hw => checkStep_c st w) ?_
 | refine S_call (f := 116) rfl obQ (by kernel_rfl) (fun w hw => cwithin_c _ _ _ w) ?_
 | refine S_call (f := 111) rfl obQ (by kernel_rfl) (fun w hw => cfirst_c _ _ [sqE l, stE st, wi most 0 256, wi win 1 256] (by simp) w (.inr ⟨_, rfl, hw.src (i := 0) rfl rfl⟩)) ?_
 | (refine S_callM (f := 151) rfl obQ (by kernel_rfl) (fun w hw => flashes_c A c l hs st h1 h2 w (hw.rdm hr.toS memQ) (fun x hx => hw.rdm (hrs x hx).toS memQ)) (fun w1F w2F vF hw1F hbF hRF => ?_); obtain ⟨AF, cF, rfl, hSF⟩ := hRF)
     )
 | (refine G_id ?_; first
 | refine G_then ?_
     )
     )
    have hFm := flF_mem (l := l) (st := st)
    have hFl := flF_len l st
    generalize flF l st = F at *
    refine C_row0 12 3 1 rfl ?_
    refine C_loopS (fun i : Nat × Option Addr × Nat => ⟨[(12, .s (.r i.2.1 (brL F most win i.1).length i.2.2 0)), (35, .s (.v (.int .i64 i.1))), (34, .s (.v (.int .i64 l.length))), (2, .s (.v (.int .i64 most))), (3, .s (.v (.int .i64 win))), (11, .s (.v (.slice AF F.length cF))), (9, .s (.v (.int .i64 0)))], [], [⟨3, 1, (brL F most win i.1).length, natC (brL F most win i.1), .slice i.2.1 (brL F most win i.1).length i.2.2⟩]⟩) (fun i => i.1 ≤ l.length) (fun i => l.length - i.1) (0, none, 0) (Nat.zero_le _) ?_ (fun i hi => ?_)
    · exact ⟨⟨_, rfl, obQ⟩, ⟨_, rfl⟩, rfl, pstQ⟩
    obtain ⟨k, A', c'⟩ := i
    have hi' : k ≤ l.length := hi
    dsimp only
    have hbl := brL_len F most win k
    by_cases hlt : k < l.length
    · repeat' (first
 | (refine C_id ?_; first
 | refine C_seq ?_
 | refine C_region rfl ?_
 | refine C_block ?_
 | refine C_skip ?_
 | (refine C_cond rfl obQ (fun h => ?_) (fun h => ?_) <;> (try simp only [Bool.or_eq_true, Bool.and_eq_true, Bool.or_eq_false_iff, Bool.and_eq_false_iff, decide_eq_true_eq, decide_eq_false_iff_not, beq_iff_eq, bne_iff_ne, beq_eq_false_iff_ne, bne_eq_false_iff_eq, ne_eq, Decidable.not_not, List.cons.injEq, and_true, Bool.not_eq_true', Bool.not_eq_false', Int.not_lt, Int.not_le] at h) <;> (try (exfalso; omega)))
       )
 | (refine S_id ?_; first
 | refine S_nil ?_
 | refine S_run rfl rfl obQ obQ ?_
       )
 | (refine G_id ?_; first
 | refine G_then ?_
       )
       )
      refine C_loopS (fun m : Nat => ⟨[(12, .s (.r A' (brL F most win k).length c' 0)), (35, .s (.v (.int .i64 k))), (34, .s (.v (.int .i64 l.length))), (2, .s (.v (.int .i64 most))), (3, .s (.v (.int .i64 win))), (11, .s (.v (.slice AF F.length cF))), (9, .s (.v (.int .i64 0))), (13, .s (.v (.int .i64 k))), (14, .s (.v (.int .i64 (cntF (F.take m) k win)))), (38, .s (.v (.slice AF F.length cF))), (39, .s (.v (.int .i64 F.length))), (40, .s (.v (.int .i64 m)))], [], [⟨3, 1, (brL F most win k).length, natC (brL F most win k), .slice A' (brL F most win k).length c'⟩]⟩) (fun m => m ≤ F.length) (fun m => F.length - m) 0 (Nat.zero_le _) ?_ (fun m hm' => ?_)
      · exact ⟨⟨_, rfl, obQ⟩, ⟨_, rfl⟩, rfl, pstQ⟩
      have hm2 : m ≤ F.length := hm'
      have hcl := cnt_len (F.take m) k win
      have htl : (F.take m).length = m := by simp; omega
      by_cases hm : m < F.length
      · obtain ⟨af, rfl⟩ : ∃ af, AF = some af := by
          rcases hSF with h | ⟨ad, h, _⟩
          · have hz := congrArg List.length h
            simp only [natC, List.length_map, List.length_nil] at hz
            omega
          · exact ⟨ad, h⟩
        have hct := cnt_take (n := k) (win := win) hm
        have hfm := hFm _ (List.getElem_mem hm)
        cases hin : inB k win F[m]
        · rw [hin, if_neg (by simp), Nat.add_zero] at hct
          have hin' : ¬ (((F[m] : Nat) : Int) ≤ k ∧ (k : Int) - win < ((F[m] : Nat) : Int)) := by
            intro ⟨g1, g2⟩
            simp [inB, g1, g2] at hin
          repeat' (first
 | (refine C_id ?_; first
 | refine C_seq ?_
 | refine C_region rfl ?_
 | refine C_block ?_
 | refine C_skip ?_
 | (refine C_cond rfl obQ (fun h => ?_) (fun h => ?_) <;> (try simp only [Bool.or_eq_true, Bool.and_eq_true, Bool.or_eq_false_iff, Bool.and_eq_false_iff, decide_eq_true_eq, decide_eq_false_iff_not, beq_iff_eq, bne_iff_ne, beq_eq_false_iff_ne, bne_eq_false_iff_eq, ne_eq, Decidable.not_not, List.cons.injEq, and_true, Bool.not_eq_true', Bool.not_eq_false', Int.not_lt, Int.not_le] at h) <;> (try (exfalso; omega)) <;> (try (exfalso; simp at h; done)) <;> (try (exfalso; simp only [not_true_eq_false, false_or, or_false] at h; omega)) <;> (try (exfalso; omega)))
           )
 | (refine S_id ?_; first
 | refine S_load rfl obQ rfl [.int .i64 ((F[m] : Nat) : Int)] (.past (w2F, fun b => w1F.heap.size ≤ b ∧ b < w2F.heap.size) memQ _ _ hSF _ _ rfl rfl (natC_idx hm)) rfl (.inr ⟨rfl, rfl⟩) ?_
 | refine S_nil ?_
 | refine S_run rfl rfl obQ obQ ?_
           )
 | (refine G_id ?_; first
 | refine G_loop (m + 1) (show m + 1 ≤ F.length by omega) (by show F.length - (m + 1) < F.length - m; omega) (by rw [hct]; exact ⟨⟨_, rfl, obQ⟩, ⟨_, rfl⟩, rfl, pstQ⟩)
 | refine G_then ?_
 | refine G_block ?_
           )
           )
        · rw [hin, if_pos rfl] at hct
          simp only [inB, Bool.and_eq_true, decide_eq_true_eq] at hin
          repeat' (first
 | (refine C_id ?_; first
 | refine C_seq ?_
 | refine C_region rfl ?_
 | refine C_block ?_
 | refine C_skip ?_
 | (refine C_cond rfl obQ (fun h => ?_) (fun h => ?_) <;> (try simp only [Bool.or_eq_true, Bool.and_eq_true, Bool.or_eq_false_iff, Bool.and_eq_false_iff, decide_eq_true_eq, decide_eq_false_iff_not, beq_iff_eq, bne_iff_ne, beq_eq_false_iff_ne, bne_eq_false_iff_eq, ne_eq, Decidable.not_not, List.cons.injEq, and_true, Bool.not_eq_true', Bool.not_eq_false', Int.not_lt, Int.not_le] at h) <;> (try (exfalso; omega)) <;> (try (exfalso; simp at h; done)) <;> (try (exfalso; simp only [not_true_eq_false, false_or, or_false] at h; omega)) <;> (try (exfalso; omega)))
           )
 | (refine S_id ?_; first
 | refine S_load rfl obQ rfl [.int .i64 ((F[m] : Nat) : Int)] (.past (w2F, fun b => w1F.heap.size ≤ b ∧ b < w2F.heap.size) memQ _ _ hSF _ _ rfl rfl (natC_idx hm)) rfl (.inr ⟨rfl, rfl⟩) ?_
 | refine S_nil ?_
 | refine S_run rfl rfl obQ obQ ?_
           )
 | (refine G_id ?_; first
 | refine G_loop (m + 1) (show m + 1 ≤ F.length by omega) (by show F.length - (m + 1) < F.length - m; omega) (by rw [hct]; exact ⟨⟨_, rfl, obQ⟩, ⟨_, rfl⟩, rfl, pstQ⟩)
 | refine G_then ?_
 | refine G_block ?_
           )
           )
      · obtain rfl : m = F.length := by omega
        rw [List.take_length] at hcl
        cases hbr : brB F most win k
        · have hsn := brL_f hbr
          have hbr' : ¬ most < cntF F k win := of_decide_eq_false hbr
          repeat' (first
 | (refine C_id ?_; first
 | refine C_seq ?_
 | refine C_region rfl ?_
 | refine C_skip ?_
 | refine C_exit ?_
 | (refine C_cond rfl obQ (fun h => ?_) (fun h => ?_) <;> (try simp only [Bool.or_eq_true, Bool.and_eq_true, Bool.or_eq_false_iff, Bool.and_eq_false_iff, decide_eq_true_eq, decide_eq_false_iff_not, beq_iff_eq, bne_iff_ne, beq_eq_false_iff_ne, bne_eq_false_iff_eq, ne_eq, Decidable.not_not, List.cons.injEq, and_true, Bool.not_eq_true', Bool.not_eq_false', Int.not_lt, Int.not_le] at h) <;> (try (exfalso; omega)) <;> (try (exfalso; simp at h; done)) <;> (try (exfalso; simp only [not_true_eq_false, false_or, or_false] at h; omega)) <;> (try (exfalso; rw [List.take_length] at h; omega)))
           )
 | (refine S_id ?_; first
 | refine S_nil ?_
 | refine S_run rfl rfl obQ obQ ?_
           )
 | (refine G_id ?_; first
 | refine G_loop (k + 1, A', c') (show k + 1 ≤ l.length by omega) (by show l.length - (k + 1) < l.length - k; omega) (by dsimp only; rw [hsn]; exact ⟨⟨_, rfl, obQ⟩, ⟨_, rfl⟩, rfl, pstQ⟩)
 | refine G_then ?_
 | refine G_block ?_
 | refine G_blockX ?_
 | refine G_thenX ?_
           )
           )
        · have hsn := brL_t hbr
          have hbr' : most < cntF F k win := of_decide_eq_true hbr
          repeat' (first
 | (refine C_id ?_; first
 | refine C_seq ?_
 | refine C_region rfl ?_
 | refine C_exit ?_
 | (refine C_cond rfl obQ (fun h => ?_) (fun h => ?_) <;> (try simp only [Bool.or_eq_true, Bool.and_eq_true, Bool.or_eq_false_iff, Bool.and_eq_false_iff, decide_eq_true_eq, decide_eq_false_iff_not, beq_iff_eq, bne_iff_ne, beq_eq_false_iff_ne, bne_eq_false_iff_eq, ne_eq, Decidable.not_not, List.cons.injEq, and_true, Bool.not_eq_true', Bool.not_eq_false', Int.not_lt, Int.not_le] at h) <;> (try (exfalso; omega)) <;> (try (exfalso; simp at h; done)) <;> (try (exfalso; simp only [not_true_eq_false, false_or, or_false] at h; omega)) <;> (try (exfalso; rw [List.take_length] at h; omega)))
           )
 | (refine S_id ?_; first
 | refine S_append rfl obQ rfl rfl rfl ⟨by decide, rfl⟩ rfl ⟨rfl, rfl, rfl, rfl⟩ [.int .i64 (k : Int)] ⟨by decide, rfl⟩ (by simp [Value.oneCell']) (fun w hw => by first | exact hw.src (i := 0) rfl rfl | exact hw.src (i := 1) rfl rfl | exact hw.src (i := 2) rfl rfl | exact hw.src (i := 3) rfl rfl | exact hw.src (i := 4) rfl rfl | exact hw.src (i := 5) rfl rfl | exact hw.src (i := 6) rfl rfl | exact hw.src (i := 7) rfl rfl | exact hw.src (i := 8) rfl rfl) (by unfold maxLen; dsimp only; omega) (fun gb cap' => ⟨_, rfl, ?_⟩)
 | refine S_nil ?_
 | refine S_run rfl rfl obQ obQ ?_
 | refine S_slice (fun b => ⟨_, _, rfl, obQ, ?_⟩)
           )
 | (refine G_id ?_; first
 | refine G_loop (k + 1, some ⟨gb, 0, none⟩, cap') (show k + 1 ≤ l.length by omega) (by show l.length - (k + 1) < l.length - k; omega) (by dsimp only; rw [hsn, natC_snoc, List.length_append]; exact ⟨⟨_, rfl, obQ⟩, ⟨_, rfl⟩, rfl, pstQ⟩)
 | refine G_then ?_
 | refine G_block ?_
 | refine G_blockX ?_
 | refine G_thenX ?_
           )
           )
    · obtain rfl : k = l.length := by omega
      repeat' (first
 | (refine C_id ?_; first
 | refine C_seq ?_
 | refine C_region rfl ?_
 | refine C_exit ?_
 | refine C_ret0 ?_
 | (refine C_cond rfl obQ (fun h => ?_) (fun h => ?_) <;> (try simp only [Bool.or_eq_true, Bool.and_eq_true, Bool.or_eq_false_iff, Bool.and_eq_false_iff, decide_eq_true_eq, decide_eq_false_iff_not, beq_iff_eq, bne_iff_ne, beq_eq_false_iff_ne, bne_eq_false_iff_eq, ne_eq, Decidable.not_not, List.cons.injEq, and_true, Bool.not_eq_true', Bool.not_eq_false', Int.not_lt, Int.not_le] at h) <;> (try (exfalso; omega)))
       )
 | (refine S_id ?_; first
 | refine S_nil ?_
 | refine S_run rfl rfl obQ obQ ?_
       )
 | (refine G_id ?_; first
 | refine G_then ?_
 | refine G_blockX ?_
 | refine G_thenX ?_
 | refine G_ret rfl obQ (fun w2 hw => ⟨_, rfl, hw.below, Sl.two (HW.rowSl (i := 0) hw rfl rfl rfl rfl) rfl⟩)
       )
       )
  · have e1 : brR l st most win = ([], brE l st most win) := if_neg hE
    rw [e1]
    repeat' (first
 | (refine C_id ?_; first
 | refine C_seq ?_
 | refine C_region rfl ?_
 | refine C_ret0 ?_
 | (refine C_cond rfl obQ (fun h => ?_) (fun h => ?_) <;> (try simp only [Bool.or_eq_true, Bool.and_eq_true, Bool.or_eq_false_iff, Bool.and_eq_false_iff, decide_eq_true_eq, decide_eq_false_iff_not, beq_iff_eq, bne_iff_ne, beq_eq_false_iff_ne, bne_eq_false_iff_eq, ne_eq, Decidable.not_not, List.cons.injEq, and_true, Bool.not_eq_true', Bool.not_eq_false', Int.not_lt, Int.not_le] at h) <;> (try (exfalso; omega)) <;> (try (exfalso; simp at h; done)) <;> (try (exfalso; simp only [not_true_eq_false, false_or, or_false] at h; omega)) <;> (try contradiction))
     )
 | (refine S_id ?_; first
 | refine S_nil ?_
 | refine S_run rfl rfl obQ obQ ?_
 | refine S_slice (fun b => ⟨_, _, rfl, obQ, ?_⟩)
 | refine S_call (f := 149) rfl obQ (by kernel_rfl) (fun w hw => checkSequence_c A c l hl hs w (hw.rdm hr.toS memQ) (fun x hx => hw.rdm (hrs x hx).toS memQ)) ?_
 | refine S_call (f := 150) rfl obQ (by kernel_rfl) (fun w hw => checkStep_c st w) ?_
 | refine S_call (f := 116) rfl obQ (by kernel_rfl) (fun w hw => cwithin_c _ _ _ w) ?_
 | refine S_call (f := 111) rfl obQ (by kernel_rfl) (fun w hw => cfirst_c _ _ [sqE l, stE st, wi most 0 256, wi win 1 256] (by simp) w (.inr ⟨_, rfl, hw.src (i := 0) rfl rfl⟩)) ?_
     )
 | (refine G_id ?_; first
 | refine G_then ?_
 | refine G_thenR ?_
 | refine G_ret rfl obQ (fun w2 hw => ⟨_, rfl, hw.below, Sl.two (v := .slice none 0 0) (Sl.nil_ _ _) rfl⟩)
     )
     )

end Go.Proofs.YtdbffbcobghbeaaGreatDoor
