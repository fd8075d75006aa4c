/- Loudness: the program. -/
import Derived.Test.YtdbffbcobghbeaaGreatDoorColour23
import Derived.Test.YtdbffbcobghbeaaGreatDoorColour22
namespace Go.Proofs.YtdbffbcobghbeaaGreatDoor
open Go.E Go.RowKit Go.Fl
attribute [local irreducible] G C S D Calls
set_option maxRecDepth 100000
set_option linter.unusedSimpArgs false
set_option linter.unusedVariables false

theorem gB_idxZ {l : List Nat} {k : Nat} {z : Int} (e : z = k) (h : k < l.length) : ∀ (j : Nat) (u : Value), ([.float .f32 (gB l k)] : List Value)[j]? = some u → (l.map (Value.float .f32))[(z.toNat * 1 + j)]? = some u := by
  subst e
  exact gB_idx h
theorem setZ {ts : List Int} {z v : Int} (h : 0 ≤ z ∧ z < ts.length) : (ts.set z.toNat v).map (Value.int .i64) = (ts.map (Value.int .i64)).take (z.toNat * 1) ++ ([Value.int .i64 v] ++ (ts.map (Value.int .i64)).drop (z.toNat * 1 + 1)) := by
  have hk : z.toNat < (ts.map (Value.int .i64)).length := by rw [List.length_map]; omega
  rw [List.map_set, List.set_eq_take_append_cons_drop, if_pos hk, Nat.mul_one]
  rfl
/-- The sum of the first taps at a place. -/
def cv (s : List Nat) (t : List Int) (k : Nat) : Nat → Int
  | 0 => 0
  | j + 1 => cv s t k j + if j ≤ k then gI t j * lvl (gB s (k - j)) else 0
theorem cv_1 {s : List Nat} {t : List Int} {k j : Nat} (h : j ≤ k) : cv s t k (j + 1) = cv s t k j + gI t j * lvl (gB s (k - j)) := by rw [cv, if_pos h]
theorem cv_2 {s : List Nat} {t : List Int} {k j : Nat} (h : ¬ j ≤ k) : cv s t k (j + 1) = cv s t k j := by rw [cv, if_neg h, Int.add_zero]
theorem cv_bd {s : List Nat} {t : List Int} {b : Int} (h : SdOk s t b) {k : Nat} (hk : k < s.length) : ∀ {j : Nat}, j ≤ t.length → -(1638400 * (j : Int)) ≤ cv s t k j ∧ cv s t k j ≤ 1638400 * j
  | 0, _ => by simp [cv]
  | j + 1, hj => by
    have h1 := cv_bd h hk (j := j) (by omega)
    by_cases hjk : j ≤ k
    · have hm := mul_ab (h.t _ (gI_mem (l := t) (k := j) (by omega))) (h.s _ (gB_mem (l := s) (k := k - j) (by omega))).lv
      rw [cv_1 hjk]
      omega
    · rw [cv_2 hjk]
      omega
def sqN (s : List Nat) (t : List Int) (k : Nat) : Int := cv s t k t.length * cv s t k t.length
/-- The squares of a sound. -/
def sqI (s : List Nat) (t : List Int) : List Int := (List.range s.length).map (sqN s t)
theorem sq_len (s : List Nat) (t : List Int) : (sqI s t).length = s.length := by simp [sqI]
theorem sq_bd {s : List Nat} {t : List Int} {b : Int} (h : SdOk s t b) : ∀ x ∈ sqI s t, 0 ≤ x ∧ x ≤ 171798691840000 := by
  intro x hx
  obtain ⟨k, hk, rfl⟩ := List.mem_map.1 hx
  have h1 := cv_bd h (List.mem_range.1 hk) (Nat.le_refl _)
  have hm := h.m
  have h2 : -13107200 ≤ cv s t k t.length ∧ cv s t k t.length ≤ 13107200 := by omega
  have h3 := mul_ab (A := 13107200) (X := 13107200) h2 h2
  refine ⟨?_, by unfold sqN; omega⟩
  unfold sqN
  rcases Int.le_total 0 (cv s t k t.length) with h4 | h4
  · exact Int.mul_nonneg h4 h4
  · exact Int.mul_nonneg_of_nonpos_of_nonpos h4 h4
/-- The squares so far. -/
def sqX (s : List Nat) (t : List Int) (k : Nat) : List Int := (List.range s.length).map fun n => if n < k then sqN s t n else 0
theorem sqX_len (s : List Nat) (t : List Int) (k : Nat) : (sqX s t k).length = s.length := by simp [sqX]
theorem sqX_0 (s : List Nat) (t : List Int) : (sqX s t 0).map (Value.int .i64) = (List.replicate s.length [Value.int .i64 0]).flatten := by
  apply List.ext_getElem?
  intro i
  rw [show (List.replicate s.length [Value.int .i64 0]).flatten = List.replicate s.length (Value.int .i64 0) by
    induction s.length with
    | zero => rfl
    | succ n ih => rw [List.replicate_succ, List.flatten_cons, ih]; rfl]
  by_cases h : i < s.length <;> simp [sqX, h]
theorem sqX_end (s : List Nat) (t : List Int) : sqX s t s.length = sqI s t := by
  unfold sqX sqI
  exact List.map_congr_left fun n hn => if_pos (List.mem_range.1 hn)
theorem sqX_step {s : List Nat} {t : List Int} {k : Nat} (h : k < s.length) : (sqX s t k).set k (sqN s t k) = sqX s t (k + 1) := by
  apply List.ext_getElem?
  intro i
  rw [List.getElem?_set]
  by_cases hi : k = i
  · subst hi
    simp [sqX, h]
  · rw [if_neg hi]
    by_cases h2 : i < s.length
    · simp only [sqX, List.getElem?_map, List.getElem?_range h2, Option.map_some]
      by_cases h3 : i < k
      · rw [if_pos h3, if_pos (by omega)]
      · rw [if_neg h3, if_neg (by omega)]
    · simp [sqX, h2]
def pS (L : List Int) (p n : Nat) : Int := ((L.drop p).take n).sum
theorem pS_step {L : List Int} {p n : Nat} (h : p + n < L.length) : pS L p (n + 1) = pS L p n + gI L (p + n) := by
  unfold pS
  have hl : n < (L.drop p).length := by simp; omega
  rw [List.take_succ_eq_append_getElem hl, List.sum_append, List.getElem_drop, gI_at h]
  simp
theorem pS_bd {L : List Int} (hL : ∀ x ∈ L, 0 ≤ x ∧ x ≤ 171798691840000) {p : Nat} : ∀ {n : Nat}, p + n ≤ L.length → 0 ≤ pS L p n ∧ pS L p n ≤ 171798691840000 * (n : Int)
  | 0, _ => by simp [pS]
  | n + 1, h => by
    have h1 := pS_bd hL (p := p) (n := n) (by omega)
    have h2 := hL _ (gI_mem (l := L) (k := p + n) (by omega))
    rw [pS_step (by omega)]
    omega
def fuB (N blk m : Nat) : Bool := decide (chM N blk m = blk)
/-- The sums of the whole ones of some blocks. -/
def lsF (L : List Int) (blk : Nat) (pre : List Nat) : List Int := (pre.filter (fuB L.length blk)).map fun m => pS L (m * blk) blk
theorem lsF_1 {L : List Int} {blk : Nat} {pre : List Nat} {m : Nat} (h : chM L.length blk m = blk) : lsF L blk (pre ++ [m]) = lsF L blk pre ++ [pS L (m * blk) blk] := by
  unfold lsF
  rw [List.filter_append, List.map_append]
  simp [fuB, h]
theorem lsF_2 {L : List Int} {blk : Nat} {pre : List Nat} {m : Nat} (h : ¬ chM L.length blk m = blk) : lsF L blk (pre ++ [m]) = lsF L blk pre := by
  unfold lsF
  rw [List.filter_append]
  simp [fuB, h]
theorem lsF_len (L : List Int) (blk : Nat) (pre : List Nat) : (lsF L blk pre).length ≤ pre.length := by
  unfold lsF
  rw [List.length_map]
  exact List.length_filter_le _ _
theorem chN_le {N blk : Nat} (hb : 0 < blk) : chN N blk ≤ N := by
  rcases Nat.lt_or_ge N (chN N blk) with h | h
  · have h1 := (ch_lt hb).1 h
    have h2 := Nat.le_mul_of_pos_right N hb
    omega
  · exact h
/-- The sums of the whole blocks. -/
def lsR (s : List Nat) (t : List Int) (blk : Nat) : List Int := lsF (sqI s t) blk (chL s.length blk)
theorem lsR_len (s : List Nat) (t : List Int) {blk : Nat} (hb : 0 < blk) : (lsR s t blk).length ≤ s.length := by
  have h := lsF_len (sqI s t) blk (chL s.length blk)
  have h2 := chN_le (N := s.length) hb
  have h3 : (chL s.length blk).length = chN s.length blk := by simp [chL]
  unfold lsR
  omega
theorem sq_idx {L : List Int} {p n : Nat} (h : p + n < L.length) : ∀ (j : Nat) (u : Value), ([.int .i64 (gI L (p + n))] : List Value)[j]? = some u → (L.map (Value.int .i64))[(p * 1 + ((n : Nat) : Int).toNat * 1) + j]? = some u := by
  have := gI_idxZ (l := L) (k := p + n) (z := ((p + n : Nat) : Int)) rfl h
  intro j u hu
  have h2 := this j u hu
  rw [← h2]
  congr 1
  omega

set_option maxHeartbeats 4000000 in
/-- colour.loudness -/
theorem loudness_c (A : Option Addr) (c : Nat) (s : List Nat) (A2 : Option Addr) (c2 : Nat) (t : List Int) (blk : Nat) (hSD : SdOk s t blk) (w : World) (hr : Rd w A (s.map (.float .f32))) (hr2 : Rd w A2 (t.map (.int .i64))) : Calls Tryz.prog 154 #[.slice A s.length c, .slice A2 t.length c2, .int .i64 blk] w fun r w' => ∃ v, r = .returned v ∧ Below w.heap.size w w' ∧ Sl w w' v (lsR s t blk).length ((lsR s t blk).map (.int .i64)) := by
  refine calls_ofM (args := [.slice A s.length c, .slice A2 t.length c2, .int .i64 blk]) T_ok Tryz.func154 rfl Tryz.ntmps154 (Nat.le_of_ble_eq_true rfl) rfl ?_
  have hsn := hSD.n
  have hbb := hSD.b
  have hmm := hSD.m
  repeat' (first
 | (refine C_id ?_; first
 | refine C_seq ?_
 | refine C_region rfl ?_
 | refine C_block ?_
   )
 | (refine S_id ?_; first
 | refine S_make s.length rfl obQ rfl rfl rfl rfl rfl (by unfold maxLen; dsimp only; omega) (fun g => ?_)
 | refine S_nil ?_
 | refine S_run rfl rfl obQ obQ ?_
 | refine S_box (fun b => ⟨_, _, rfl, obQ, ?_⟩)
   )
 | (refine G_id ?_; first
 | refine G_then ?_
   )
   )
  obtain ⟨b5, rfl⟩ : ∃ z, z = b := ⟨b, rfl⟩
  rw [← sqX_0 s t]
  refine C_loopS (fun k : Nat => ⟨[(22, .s (.v (.int .i64 k))), (21, .s (.v (.int .i64 s.length))), (0, .s (.v (.slice A s.length c))), (1, .s (.v (.slice A2 t.length c2))), (5, .s (.p b5 0 0)), (7, .s (.r (some ⟨g, 0, none⟩) s.length s.length 0))], [⟨b5, 3, [.v (.int .i64 blk)]⟩], [⟨3, 1, s.length, (sqX s t k).map (.int .i64), .slice (some ⟨g, 0, none⟩) s.length s.length⟩]⟩) (fun k => k ≤ s.length) (fun k => s.length - k) 0 (Nat.zero_le _) ?_ (fun k hk => ?_)
  · exact ⟨⟨_, rfl, obQ⟩, ⟨_, rfl⟩, rfl, pstQ⟩
  have hk' : k ≤ s.length := hk
  by_cases hlt : k < s.length
  · obtain ⟨ad, rfl⟩ := hr.some (by simp; omega)
    obtain ⟨ad2, rfl⟩ := hr2.some (by simp; omega)
    repeat' (first
 | (refine C_id ?_; first
 | refine C_seq ?_
 | refine C_region rfl ?_
 | refine C_block ?_
 | refine C_skip ?_
 | (refine C_cond rfl obQ (fun h => ?_) (fun h => ?_) <;> (try simp only [Bool.or_eq_true, Bool.and_eq_true, Bool.or_eq_false_iff, Bool.and_eq_false_iff, decide_eq_true_eq, decide_eq_false_iff_not, beq_iff_eq, bne_iff_ne, beq_eq_false_iff_ne, bne_eq_false_iff_eq, ne_eq, Decidable.not_not, List.cons.injEq, and_true, Bool.not_eq_true', Bool.not_eq_false', Int.not_lt, Int.not_le] at h) <;> (try (exfalso; omega)))
     )
 | (refine S_id ?_; first
 | refine S_nil ?_
 | refine S_run rfl rfl obQ obQ ?_
     )
 | (refine G_id ?_; first
 | refine G_then ?_
     )
     )
    refine C_loopS (fun j : Nat => ⟨[(27, .s (.v (.int .i64 j))), (26, .s (.v (.int .i64 t.length))), (25, .s (.v (.slice (some ad2) t.length c2))), (9, .s (.v (.int .i64 (cv s t k j)))), (8, .s (.v (.int .i64 k))), (22, .s (.v (.int .i64 k))), (21, .s (.v (.int .i64 s.length))), (0, .s (.v (.slice (some ad) s.length c))), (1, .s (.v (.slice (some ad2) t.length c2))), (5, .s (.p b5 0 0)), (7, .s (.r (some ⟨g, 0, none⟩) s.length s.length 0))], [⟨b5, 3, [.v (.int .i64 blk)]⟩], [⟨3, 1, s.length, (sqX s t k).map (.int .i64), .slice (some ⟨g, 0, none⟩) s.length s.length⟩]⟩) (fun j => j ≤ t.length) (fun j => t.length - j) 0 (Nat.zero_le _) ?_ (fun j hj' => ?_)
    · exact ⟨⟨_, rfl, obQ⟩, ⟨_, rfl⟩, rfl, pstQ⟩
    have hj2 : j ≤ t.length := hj'
    have hcb := cv_bd hSD hlt hj2
    by_cases hj : j < t.length
    · by_cases hjk : j ≤ k
      · have hsm := hSD.s _ (gB_mem (l := s) (k := k - j) (by omega))
        have hml := mul_ab (hSD.t _ (gI_mem (l := t) (k := j) (by omega))) hsm.lv
        have hc1 := cv_1 (s := s) (t := t) hjk
        repeat' (first
 | (refine C_id ?_; first
 | refine C_seq ?_
 | refine C_region rfl ?_
 | refine C_block ?_
 | refine C_skip ?_
 | (refine C_cond rfl obQ (fun h => ?_) (fun h => ?_) <;> (try simp only [Bool.or_eq_true, Bool.and_eq_true, Bool.or_eq_false_iff, Bool.and_eq_false_iff, decide_eq_true_eq, decide_eq_false_iff_not, beq_iff_eq, bne_iff_ne, beq_eq_false_iff_ne, bne_eq_false_iff_eq, ne_eq, Decidable.not_not, List.cons.injEq, and_true, Bool.not_eq_true', Bool.not_eq_false', Int.not_lt, Int.not_le] at h) <;> (try (exfalso; omega)) <;> (try (exfalso; simp at h; done)) <;> (try (exfalso; simp only [not_true_eq_false, false_or, or_false] at h; omega)) <;> (try (exfalso; omega)))
         )
 | (refine S_id ?_; first
 | refine S_load rfl obQ rfl [.int .i64 (gI t j)] (.past _ memQ _ _ hr2.toS _ _ rfl rfl (gI_idxZ (k := j) rfl hj)) rfl (.inr ⟨rfl, rfl⟩) ?_
 | refine S_load rfl obQ rfl [.float .f32 (gB s (k - j))] (.past _ memQ _ _ hr.toS _ _ rfl rfl (gB_idxZ (k := k - j) (by omega) (by omega))) rfl (.inr ⟨rfl, rfl⟩) ?_
 | refine S_nil ?_
 | refine S_run rfl rfl obQ obQ ?_
 | refine S_call (f := 140) rfl obQ (by kernel_rfl) (fun w hw => level_c (gB s (k - j)) hsm.fin hsm.bd w) ?_
         )
 | (refine G_id ?_; first
 | refine G_loop (j + 1) (show j + 1 ≤ t.length by omega) (by show t.length - (j + 1) < t.length - j; omega) (by rw [hc1]; exact ⟨⟨_, rfl, obQ⟩, ⟨_, rfl⟩, rfl, pstQ⟩)
 | refine G_then ?_
 | refine G_block ?_
         )
         )
      · have hc1 := cv_2 (s := s) (t := t) hjk
        repeat' (first
 | (refine C_id ?_; first
 | refine C_seq ?_
 | refine C_region rfl ?_
 | refine C_block ?_
 | refine C_skip ?_
 | (refine C_cond rfl obQ (fun h => ?_) (fun h => ?_) <;> (try simp only [Bool.or_eq_true, Bool.and_eq_true, Bool.or_eq_false_iff, Bool.and_eq_false_iff, decide_eq_true_eq, decide_eq_false_iff_not, beq_iff_eq, bne_iff_ne, beq_eq_false_iff_ne, bne_eq_false_iff_eq, ne_eq, Decidable.not_not, List.cons.injEq, and_true, Bool.not_eq_true', Bool.not_eq_false', Int.not_lt, Int.not_le] at h) <;> (try (exfalso; omega)) <;> (try (exfalso; simp at h; done)) <;> (try (exfalso; simp only [not_true_eq_false, false_or, or_false] at h; omega)) <;> (try (exfalso; omega)))
         )
 | (refine S_id ?_; first
 | refine S_load rfl obQ rfl [.int .i64 (gI t j)] (.past _ memQ _ _ hr2.toS _ _ rfl rfl (gI_idxZ (k := j) rfl hj)) rfl (.inr ⟨rfl, rfl⟩) ?_
 | refine S_nil ?_
 | refine S_run rfl rfl obQ obQ ?_
         )
 | (refine G_id ?_; first
 | refine G_loop (j + 1) (show j + 1 ≤ t.length by omega) (by show t.length - (j + 1) < t.length - j; omega) (by rw [hc1]; exact ⟨⟨_, rfl, obQ⟩, ⟨_, rfl⟩, rfl, pstQ⟩)
 | refine G_then ?_
 | refine G_block ?_
         )
         )
    · obtain rfl : j = t.length := by omega
      have hsq := mul_ab (a := cv s t k t.length) (x := cv s t k t.length) (A := 13107200) (X := 13107200) (by omega) (by omega)
      have hst := setZ (ts := sqX s t k) (z := (k : Int)) (v := sqN s t k) (by rw [sqX_len]; omega)
      rw [show ((k : Int)).toNat = k by omega, sqX_step hlt] at hst
      repeat' (first
 | (refine C_id ?_; first
 | refine C_seq ?_
 | refine C_region rfl ?_
 | refine C_exit ?_
 | (refine C_cond rfl obQ (fun h => ?_) (fun h => ?_) <;> (try simp only [Bool.or_eq_true, Bool.and_eq_true, Bool.or_eq_false_iff, Bool.and_eq_false_iff, decide_eq_true_eq, decide_eq_false_iff_not, beq_iff_eq, bne_iff_ne, beq_eq_false_iff_ne, bne_eq_false_iff_eq, ne_eq, Decidable.not_not, List.cons.injEq, and_true, Bool.not_eq_true', Bool.not_eq_false', Int.not_lt, Int.not_le] at h) <;> (try (exfalso; omega)) <;> (try (exfalso; simp at h; done)) <;> (try (exfalso; simp only [not_true_eq_false, false_or, or_false] at h; omega)) <;> (try (exfalso; omega)))
       )
 | (refine S_id ?_; first
 | refine S_storeRow rfl obQ rfl rfl rfl 0 rfl rfl ((k : Int).toNat * 1) rfl (by dsimp only; rw [List.length_map, sqX_len]; omega) (xs' := (sqX s t (k + 1)).map (.int .i64)) hst rfl ?_
 | refine S_nil ?_
 | refine S_run rfl rfl obQ obQ ?_
       )
 | (refine G_id ?_; first
 | refine G_loop (k + 1) (show k + 1 ≤ s.length by omega) (by show s.length - (k + 1) < s.length - k; omega) ⟨⟨_, rfl, obQ⟩, ⟨_, rfl⟩, rfl, pstQ⟩
 | refine G_then ?_
 | refine G_block ?_
 | refine G_blockX ?_
 | refine G_thenX ?_
       )
       )
  · obtain rfl : k = s.length := by omega
    repeat' (first
 | (refine C_id ?_; first
 | refine C_seq ?_
 | refine C_regionNe 14 rfl rfl ?_
 | refine C_exit ?_
 | (refine C_cond rfl obQ (fun h => ?_) (fun h => ?_) <;> (try simp only [Bool.or_eq_true, Bool.and_eq_true, Bool.or_eq_false_iff, Bool.and_eq_false_iff, decide_eq_true_eq, decide_eq_false_iff_not, beq_iff_eq, bne_iff_ne, beq_eq_false_iff_ne, bne_eq_false_iff_eq, ne_eq, Decidable.not_not, List.cons.injEq, and_true, Bool.not_eq_true', Bool.not_eq_false', Int.not_lt, Int.not_le] at h) <;> (try (exfalso; omega)))
     )
 | (refine S_id ?_; first
 | refine S_nil ?_
 | refine S_run rfl rfl obQ obQ ?_
     )
 | (refine G_id ?_; first
 | refine G_then ?_
 | refine G_blockX ?_
 | refine G_thenX ?_
     )
     )
    refine C_trim [0, 1, 5, 7] 1 rfl rfl ?_
    refine C_freeze (g := g) (n := s.length) (cap := s.length) rfl [(7, .s (.v (.slice (some ⟨g, 0, none⟩) s.length s.length))), (5, .s (.p b5 0 0)), (1, .s (.v (.slice A2 t.length c2))), (0, .s (.v (.slice A s.length c)))] rfl (fun Wg hBg hgl hRd => ?_)
    rw [show (sqX s t s.length).map (Value.int .i64) = (sqI s t).map (.int .i64) by rw [sqX_end]] at hRd
    have hRg : RdS (fun b => b = g) Wg (some ⟨g, 0, none⟩) ((sqI s t).map (.int .i64)) := by
      rcases hRd with e | ⟨ad, e1, e2⟩
      · exact .inl e
      · cases e1
        exact .inr ⟨_, rfl, rfl, e2⟩
    repeat' (first
 | (refine C_id ?_; first
 | refine C_seq ?_
 | refine C_region rfl ?_
 | refine C_block ?_
     )
 | (refine S_id ?_; first
 | (refine S_callM (f := 190) rfl obQ (by kernel_rfl) (fun w hw => chunk_c ⟨g, 0, none⟩ s.length blk (by omega) w) (fun w1C w2C vC hw1C hbC hRC => ?_); obtain ⟨bC1, bC2, rfl, hbC1, hbC2, hMC⟩ := hRC)
 | refine S_nil ?_
 | refine S_run rfl rfl obQ obQ ?_
 | refine S_box (fun b => ⟨_, _, rfl, obQ, ?_⟩)
     )
 | (refine G_id ?_; first
 | refine G_then ?_
     )
     )
    obtain ⟨b12, rfl⟩ : ∃ z, z = b := ⟨b, rfl⟩
    refine C_rowB 3 1 [⟨b5, 3, [.v (.int .i64 blk)]⟩, ⟨b12, 94, [.r none 0 0 0]⟩] rfl ?_
    refine C_rangeFuncE rfl rfl obQ (by kernel_rfl) (encs := encH ⟨g, 0, none⟩ s.length blk) (chL s.length blk) (fun _ => rfl) (by intro t ht; simp at ht; subst ht; exact Nat.le_of_ble_eq_true rfl) (fun m => [(57, (.slice (some ((⟨g, 0, none⟩ : Addr).add (m * blk * 1))) (chM s.length blk m) (chM s.length blk m)))]) (fun m => by simp [encH]) (fun w3 hw3 => ?_) (fun (pre : List Nat) (i : Option Addr × Nat) => ⟨[], [⟨b5, 3, [.v (.int .i64 blk)]⟩, ⟨b12, 94, [.r i.1 (lsF (sqI s t) blk pre).length i.2 0]⟩], [⟨3, 1, (lsF (sqI s t) blk pre).length, (lsF (sqI s t) blk pre).map (.int .i64), .slice i.1 (lsF (sqI s t) blk pre).length i.2⟩]⟩) (none, 0) (fun w3 hw3 => HW.same hw3 rfl rfl) (fun l L W3 pre m i hpre hwp => ?_) (fun D WD i hBD hWD hnD => ?_)
    · exact chunk_seq bC1 bC2 ⟨g, 0, none⟩ s.length blk (by omega) hsn _ ⟨(w2C, fun b => w1C.heap.size ≤ b ∧ b < w2C.heap.size), by simp, hbC1⟩ ⟨(w2C, fun b => w1C.heap.size ≤ b ∧ b < w2C.heap.size), by simp, hbC2⟩ w3 ⟨((hw3.past (w2C, fun b => w1C.heap.size ≤ b ∧ b < w2C.heap.size) (by simp) bC1 hbC1).1.2).trans hMC.m1, ((hw3.past (w2C, fun b => w1C.heap.size ≤ b ∧ b < w2C.heap.size) (by simp) bC2 hbC2).1.2).trans hMC.m2⟩
    · try dsimp only
      have hcn := chN_le (N := s.length) (blk := blk) (by omega)
      have hpl : pre.length ≤ 4096 := by simp [chL] at hpre; omega
      have hll := lsF_len (sqI s t) blk pre
      repeat' (first
 | (refine C_id ?_; first
 | refine C_seq ?_
 | refine C_region rfl ?_
 | refine C_block ?_
       )
 | (refine S_id ?_; first
 | refine S_nil ?_
 | refine S_run rfl rfl obQ obQ ?_
       )
 | (refine G_id ?_; first
 | refine G_assignE hwp (fun W4 hw4 => ?_)
 | refine G_then ?_
       )
       )
      refine C_loopS (fun n : Nat => ⟨[(60, .s (.v (.int .i64 n))), (59, .s (.v (.int .i64 (chM s.length blk m)))), (58, .s (.v (.slice (some ((⟨g, 0, none⟩ : Addr).add (m * blk * 1))) (chM s.length blk m) (chM s.length blk m)))), (13, .s (.v (.slice (some ((⟨g, 0, none⟩ : Addr).add (m * blk * 1))) (chM s.length blk m) (chM s.length blk m)))), (14, .s (.v (.int .i64 (pS (sqI s t) (m * blk) n)))), (5, .s (.p b5 0 0)), (12, .s (.p b12 1 0))], [⟨b5, 3, [.v (.int .i64 blk)]⟩, ⟨b12, 94, [.r i.1 (lsF (sqI s t) blk pre).length i.2 0]⟩], [⟨3, 1, (lsF (sqI s t) blk pre).length, (lsF (sqI s t) blk pre).map (.int .i64), .slice i.1 (lsF (sqI s t) blk pre).length i.2⟩]⟩) (fun n => n ≤ chM s.length blk m) (fun n => chM s.length blk m - n) 0 (Nat.zero_le _) ?_ (fun n hn => ?_)
      · exact ⟨⟨_, rfl, obQ⟩, ⟨_, rfl⟩, rfl, pstQ⟩
      have hn2 : n ≤ chM s.length blk m := hn
      have hcm : chM s.length blk m ≤ s.length - m * blk ∧ chM s.length blk m ≤ blk := by unfold chM; omega
      by_cases hnl : n < chM s.length blk m
      · have hpb := pS_bd (sq_bd hSD) (p := m * blk) (n := n) (by rw [sq_len]; omega)
        have hqb := sq_bd hSD _ (gI_mem (l := sqI s t) (k := m * blk + n) (by rw [sq_len]; omega))
        have hps := pS_step (L := sqI s t) (p := m * blk) (n := n) (by rw [sq_len]; omega)
        repeat' (first
 | (refine C_id ?_; first
 | refine C_seq ?_
 | refine C_region rfl ?_
 | refine C_block ?_
 | refine C_skip ?_
 | (refine C_cond rfl obQ (fun h => ?_) (fun h => ?_) <;> (try simp only [Bool.or_eq_true, Bool.and_eq_true, Bool.or_eq_false_iff, Bool.and_eq_false_iff, decide_eq_true_eq, decide_eq_false_iff_not, beq_iff_eq, bne_iff_ne, beq_eq_false_iff_ne, bne_eq_false_iff_eq, ne_eq, Decidable.not_not, List.cons.injEq, and_true, Bool.not_eq_true', Bool.not_eq_false', Int.not_lt, Int.not_le] at h) <;> (try (exfalso; omega)) <;> (try (exfalso; simp at h; done)) <;> (try (exfalso; simp only [not_true_eq_false, false_or, or_false] at h; omega)) <;> (try (exfalso; omega)))
         )
 | (refine S_id ?_; first
 | refine S_load rfl obQ rfl [.int .i64 (gI (sqI s t) (m * blk + n))] (.past (Wg, fun b => b = g) memQ _ _ hRg (m * blk * 1 + ((n : Nat) : Int).toNat * 1) ⟨g, 0, none⟩ rfl (add_of_add _ _ _) (sq_idx (by rw [sq_len]; omega))) rfl (.inr ⟨rfl, rfl⟩) ?_
 | refine S_nil ?_
 | refine S_run rfl rfl obQ obQ ?_
         )
 | (refine G_id ?_; first
 | refine G_loop (n + 1) (show n + 1 ≤ _ by omega) (by show _ - (n + 1) < _ - n; omega) (by rw [hps]; exact ⟨⟨_, rfl, obQ⟩, ⟨_, rfl⟩, rfl, pstQ⟩)
 | refine G_then ?_
 | refine G_block ?_
         )
         )
      · obtain rfl : n = chM s.length blk m := by omega
        by_cases hfu : chM s.length blk m = blk
        · have hl1 : lsF (sqI s t) blk (pre ++ [m]) = lsF (sqI s t) blk pre ++ [pS (sqI s t) (m * blk) (chM s.length blk m)] := by
            rw [hfu]
            exact lsF_1 (by rw [sq_len]; exact hfu)
          repeat' (first
 | (refine C_id ?_; first
 | refine C_seq ?_
 | refine C_region rfl ?_
 | refine C_exit ?_
 | (refine C_cond rfl obQ (fun h => ?_) (fun h => ?_) <;> (try simp only [Bool.or_eq_true, Bool.and_eq_true, Bool.or_eq_false_iff, Bool.and_eq_false_iff, decide_eq_true_eq, decide_eq_false_iff_not, beq_iff_eq, bne_iff_ne, beq_eq_false_iff_ne, bne_eq_false_iff_eq, ne_eq, Decidable.not_not, List.cons.injEq, and_true, Bool.not_eq_true', Bool.not_eq_false', Int.not_lt, Int.not_le] at h) <;> (try (exfalso; omega)) <;> (try (exfalso; simp at h; done)) <;> (try (exfalso; simp only [not_true_eq_false, false_or, or_false] at h; omega)) <;> (try (exfalso; omega)))
           )
 | (refine S_id ?_; first
 | refine S_append rfl obQ rfl rfl rfl ⟨by decide, rfl⟩ rfl ⟨rfl, rfl, rfl, rfl⟩ [.int .i64 (pS (sqI s t) (m * blk) (chM s.length blk m))] ⟨by decide, rfl⟩ (by simp [Value.oneCell']) (fun w hw => by first | exact hw.src (i := 0) rfl rfl | exact hw.src (i := 1) rfl rfl | exact hw.src (i := 2) rfl rfl | exact hw.src (i := 3) rfl rfl | exact hw.src (i := 4) rfl rfl | exact hw.src (i := 5) rfl rfl | exact hw.src (i := 6) rfl rfl | exact hw.src (i := 7) rfl rfl | exact hw.src (i := 8) rfl rfl) (by unfold maxLen; dsimp only; omega) (fun gb cap' => ⟨_, rfl, ?_⟩)
 | refine S_nil ?_
 | refine S_run rfl rfl obQ obQ ?_
 | refine S_slice (fun b => ⟨_, _, rfl, obQ, ?_⟩)
           )
 | (refine G_id ?_; first
 | refine G_roundE (some ⟨gb, 0, none⟩, cap') (by dsimp only; rw [hl1, List.length_append, List.map_append]; exact ⟨⟨_, rfl, obQ⟩, ⟨_, rfl⟩, rfl, pstQ⟩) hw4
 | refine G_then ?_
 | refine G_block ?_
 | refine G_blockX ?_
 | refine G_thenX ?_
           )
           )
        · have hl1 := lsF_2 (L := sqI s t) (pre := pre) (m := m) (blk := blk) (by rw [sq_len]; exact hfu)
          repeat' (first
 | (refine C_id ?_; first
 | refine C_seq ?_
 | refine C_region rfl ?_
 | refine C_skip ?_
 | refine C_exit ?_
 | (refine C_cond rfl obQ (fun h => ?_) (fun h => ?_) <;> (try simp only [Bool.or_eq_true, Bool.and_eq_true, Bool.or_eq_false_iff, Bool.and_eq_false_iff, decide_eq_true_eq, decide_eq_false_iff_not, beq_iff_eq, bne_iff_ne, beq_eq_false_iff_ne, bne_eq_false_iff_eq, ne_eq, Decidable.not_not, List.cons.injEq, and_true, Bool.not_eq_true', Bool.not_eq_false', Int.not_lt, Int.not_le] at h) <;> (try (exfalso; omega)) <;> (try (exfalso; simp at h; done)) <;> (try (exfalso; simp only [not_true_eq_false, false_or, or_false] at h; omega)) <;> (try (exfalso; omega)))
           )
 | (refine S_id ?_; first
 | refine S_nil ?_
 | refine S_run rfl rfl obQ obQ ?_
           )
 | (refine G_id ?_; first
 | refine G_roundE i (by dsimp only; rw [hl1]; exact ⟨⟨_, rfl, obQ⟩, ⟨_, rfl⟩, rfl, pstQ⟩) hw4
 | refine G_then ?_
 | refine G_block ?_
 | refine G_blockX ?_
 | refine G_thenX ?_
           )
           )
    · repeat' (first
 | (refine C_id ?_; first
 | refine C_seq ?_
 | refine C_region rfl ?_
 | refine C_ret0 ?_
       )
 | (refine S_id ?_; first
 | refine S_nil ?_
 | refine S_run rfl rfl obQ obQ ?_
       )
 | (refine G_id ?_; first
 | refine G_then ?_
 | refine G_block ?_
 | refine G_retD rfl obQ ((DsP.nil _ _).cons hBD hWD hnD) (fun w2 hw => ⟨_, rfl, hw.below, HW.rowSl (w0 := w) (i := 0) hw rfl rfl rfl rfl⟩)
       )
       )

/-- The sums and the error. -/
def loR (s : List Nat) (t : List Int) (blk : Int) : List Int × Int := if sdE s t blk = 0 then (lsR s t blk.toNat, 0) else ([], sdE s t blk)
def ldE (s : List Nat) (t : List Int) (blk lim : Int) : Int := firstL [sdE s t blk, wi lim 0 1152921504606846976]
theorem ldE_ok {s : List Nat} {t : List Int} {blk lim : Int} (h : ldE s t blk lim = 0) : sdE s t blk = 0 ∧ 0 ≤ lim ∧ lim ≤ 1152921504606846976 := by
  unfold ldE at h
  rw [firstL_zero] at h
  simp only [List.mem_cons, List.mem_nil_iff, or_false, forall_eq_or_imp, forall_eq, wi_eq] at h
  exact h
def ldB (L : List Int) (lim : Int) (k : Nat) : Bool := decide (lim < gI L k)
/-- The indices of the sums that are above a limit. -/
def ldF (L : List Int) (lim : Int) (k : Nat) : List Nat := (List.range k).filter (ldB L lim)
def ldR (s : List Nat) (t : List Int) (blk lim : Int) : List Nat × Int := if ldE s t blk lim = 0 then (ldF (lsR s t blk.toNat) lim (lsR s t blk.toNat).length, 0) else ([], ldE s t blk lim)
theorem ldF_t {L : List Int} {lim : Int} {k : Nat} (h : lim < gI L k) : ldF L lim (k + 1) = ldF L lim k ++ [k] := by
  unfold ldF
  rw [List.range_succ, List.filter_append]
  simp [ldB, h]
theorem ldF_f {L : List Int} {lim : Int} {k : Nat} (h : ¬ lim < gI L k) : ldF L lim (k + 1) = ldF L lim k := by
  unfold ldF
  rw [List.range_succ, List.filter_append]
  simp [ldB, h]
theorem ldF_len (L : List Int) (lim : Int) (k : Nat) : (ldF L lim k).length ≤ k := filter_len (ldB L lim) k

set_option maxHeartbeats 1000000 in
/-- colour.Loudness -/
theorem Loudness_c (A : Option Addr) (c : Nat) (s : List Nat) (hs : s.length ≤ 1000000) (A2 : Option Addr) (c2 : Nat) (t : List Int) (ht : t.length ≤ 1000000) (blk : Int) (w : World) (hr : Rd w A (s.map (.float .f32))) (hr2 : Rd w A2 (t.map (.int .i64))) : Calls Tryz.prog 77 #[.slice A s.length c, .slice A2 t.length c2, .int .i64 blk] w fun r w' => ∃ v, r = .returned v ∧ Below w.heap.size w w' ∧ Sl2 w w' v (loR s t blk).1.length ((loR s t blk).1.map (.int .i64)) (.int .i64 (loR s t blk).2) := by
  refine calls_of (args := [.slice A s.length c, .slice A2 t.length c2, .int .i64 blk]) T_ok Tryz.func77 rfl Tryz.ntmps77 (Nat.le_of_ble_eq_true rfl) rfl ?_
  by_cases hE : sdE s t blk = 0
  · have hSD := sd_ok.1 hE
    have e1 : loR s t blk = (lsR s t blk.toNat, 0) := if_pos hE
    obtain ⟨nb, rfl⟩ := Int.eq_ofNat_of_zero_le (show 0 ≤ blk by have := hSD.b; omega)
    rw [e1, Int.toNat_natCast]
    repeat' (first
 | (refine C_id ?_; first
 | refine C_seq ?_
 | refine C_region rfl ?_
 | refine C_skip ?_
 | refine C_ret0 ?_
 | (refine C_cond rfl obQ (fun h => ?_) (fun h => ?_) <;> (try simp only [Bool.or_eq_true, Bool.and_eq_true, Bool.or_eq_false_iff, Bool.and_eq_false_iff, decide_eq_true_eq, decide_eq_false_iff_not, beq_iff_eq, bne_iff_ne, beq_eq_false_iff_ne, bne_eq_false_iff_eq, ne_eq, Decidable.not_not, List.cons.injEq, and_true, Bool.not_eq_true', Bool.not_eq_false', Int.not_lt, Int.not_le] at h) <;> (try (exfalso; omega)) <;> (try (exfalso; simp at h; done)) <;> (try (exfalso; simp only [not_true_eq_false, false_or, or_false] at h; omega)) <;> (try contradiction))
     )
 | (refine S_id ?_; first
 | refine S_nil ?_
 | refine S_run rfl rfl obQ obQ ?_
 | refine S_call (f := 153) rfl obQ (by kernel_rfl) (fun w hw => checkSound_c A c s hs A2 c2 t ht _ w (hw.rdm hr.toS memQ) (hw.rdm hr2.toS memQ)) ?_
 | (refine S_callM (f := 154) rfl obQ (by kernel_rfl) (fun w hw => loudness_c A c s A2 c2 t nb hSD w (hw.rdm hr.toS memQ) (hw.rdm hr2.toS memQ)) (fun w1L w2L vL hw1L hbL hRL => ?_); obtain ⟨AL, cL, rfl, hSL⟩ := hRL)
     )
 | (refine G_id ?_; first
 | refine G_then ?_
 | refine G_ret rfl obQ (fun w2 hw => ⟨_, rfl, hw.below, Sl.two (HW.callSl hw hSL memQ hw1L.bsize) rfl⟩)
     )
     )
  · have e1 : loR s t blk = ([], sdE s t blk) := if_neg hE
    rw [e1]
    repeat' (first
 | (refine C_id ?_; first
 | refine C_seq ?_
 | refine C_region rfl ?_
 | refine C_ret0 ?_
 | (refine C_cond rfl obQ (fun h => ?_) (fun h => ?_) <;> (try simp only [Bool.or_eq_true, Bool.and_eq_true, Bool.or_eq_false_iff, Bool.and_eq_false_iff, decide_eq_true_eq, decide_eq_false_iff_not, beq_iff_eq, bne_iff_ne, beq_eq_false_iff_ne, bne_eq_false_iff_eq, ne_eq, Decidable.not_not, List.cons.injEq, and_true, Bool.not_eq_true', Bool.not_eq_false', Int.not_lt, Int.not_le] at h) <;> (try (exfalso; omega)) <;> (try (exfalso; simp at h; done)) <;> (try (exfalso; simp only [not_true_eq_false, false_or, or_false] at h; omega)) <;> (try contradiction))
     )
 | (refine S_id ?_; first
 | refine S_nil ?_
 | refine S_run rfl rfl obQ obQ ?_
 | refine S_call (f := 153) rfl obQ (by kernel_rfl) (fun w hw => checkSound_c A c s hs A2 c2 t ht _ w (hw.rdm hr.toS memQ) (hw.rdm hr2.toS memQ)) ?_
     )
 | (refine G_id ?_; first
 | refine G_then ?_
 | refine G_thenR ?_
 | refine G_ret rfl obQ (fun w2 hw => ⟨_, rfl, hw.below, Sl.two (v := .slice none 0 0) (Sl.nil_ _ _) rfl⟩)
     )
     )

set_option maxHeartbeats 1000000 in
/-- colour.Loud -/
theorem Loud_c (A : Option Addr) (c : Nat) (s : List Nat) (hs : s.length ≤ 1000000) (A2 : Option Addr) (c2 : Nat) (t : List Int) (ht : t.length ≤ 1000000) (blk : Int) (lim : Int) (w : World) (hr : Rd w A (s.map (.float .f32))) (hr2 : Rd w A2 (t.map (.int .i64))) : Calls Tryz.prog 78 #[.slice A s.length c, .slice A2 t.length c2, .int .i64 blk, .int .i64 lim] w fun r w' => ∃ v, r = .returned v ∧ Below w.heap.size w w' ∧ Sl2 w w' v (ldR s t blk lim).1.length (natC (ldR s t blk lim).1) (.int .i64 (ldR s t blk lim).2) := by
  refine calls_of (args := [.slice A s.length c, .slice A2 t.length c2, .int .i64 blk, .int .i64 lim]) T_ok Tryz.func78 rfl Tryz.ntmps78 (Nat.le_of_ble_eq_true rfl) rfl ?_
  by_cases hE : ldE s t blk lim = 0
  · obtain ⟨h1, h2⟩ := ldE_ok hE
    have hSD := sd_ok.1 h1
    have e1 : ldR s t blk lim = (ldF (lsR s t blk.toNat) lim (lsR s t blk.toNat).length, 0) := if_pos hE
    obtain ⟨nb, rfl⟩ := Int.eq_ofNat_of_zero_le (show 0 ≤ blk by have := hSD.b; omega)
    rw [e1, Int.toNat_natCast]
    have hll := lsR_len s t (blk := nb) (by have := hSD.b; omega)
    have hsn := hSD.n
    repeat' (first
 | (refine C_id ?_; first
 | refine C_seq ?_
 | refine C_region rfl ?_
 | refine C_block ?_
 | refine C_skip ?_
 | (refine C_cond rfl obQ (fun h => ?_) (fun h => ?_) <;> (try simp only [Bool.or_eq_true, Bool.and_eq_true, Bool.or_eq_false_iff, Bool.and_eq_false_iff, decide_eq_true_eq, decide_eq_false_iff_not, beq_iff_eq, bne_iff_ne, beq_eq_false_iff_ne, bne_eq_false_iff_eq, ne_eq, Decidable.not_not, List.cons.injEq, and_true, Bool.not_eq_true', Bool.not_eq_false', Int.not_lt, Int.not_le] at h) <;> (try (exfalso; omega)) <;> (try (exfalso; simp at h; done)) <;> (try (exfalso; simp only [not_true_eq_false, false_or, or_false] at h; omega)) <;> (try contradiction))
     )
 | (refine S_id ?_; first
 | refine S_nil ?_
 | refine S_run rfl rfl obQ obQ ?_
 | refine S_slice (fun b => ⟨_, _, rfl, obQ, ?_⟩)
 | refine S_call (f := 153) rfl obQ (by kernel_rfl) (fun w hw => checkSound_c A c s hs A2 c2 t ht _ w (hw.rdm hr.toS memQ) (hw.rdm hr2.toS memQ)) ?_
 | refine S_call (f := 116) rfl obQ (by kernel_rfl) (fun w hw => cwithin_c _ _ _ w) ?_
 | refine S_call (f := 111) rfl obQ (by kernel_rfl) (fun w hw => cfirst_c _ _ [sdE s t _, wi lim 0 1152921504606846976] (by simp) w (.inr ⟨_, rfl, hw.src (i := 0) rfl rfl⟩)) ?_
 | (refine S_callM (f := 154) rfl obQ (by kernel_rfl) (fun w hw => loudness_c A c s A2 c2 t nb hSD w (hw.rdm hr.toS memQ) (hw.rdm hr2.toS memQ)) (fun w1L w2L vL hw1L hbL hRL => ?_); obtain ⟨AL, cL, rfl, hSL⟩ := hRL)
     )
 | (refine G_id ?_; first
 | refine G_then ?_
     )
     )
    generalize lsR s t nb = L at *
    refine C_row0 11 3 1 rfl ?_
    refine C_loopS (fun i : Nat × Option Addr × Nat => ⟨[(11, .s (.r i.2.1 (ldF L lim i.1).length i.2.2 0)), (30, .s (.v (.int .i64 i.1))), (29, .s (.v (.int .i64 L.length))), (28, .s (.v (.slice AL L.length cL))), (3, .s (.v (.int .i64 lim)))], [], [⟨3, 1, (ldF L lim i.1).length, natC (ldF L lim i.1), .slice i.2.1 (ldF L lim i.1).length i.2.2⟩]⟩) (fun i => i.1 ≤ L.length) (fun i => L.length - i.1) (0, none, 0) (Nat.zero_le _) ?_ (fun i hi => ?_)
    · exact ⟨⟨_, rfl, obQ⟩, ⟨_, rfl⟩, rfl, pstQ⟩
    obtain ⟨k, A', c'⟩ := i
    have hi' : k ≤ L.length := hi
    dsimp only
    have hfl := ldF_len L lim k
    by_cases hlt : k < L.length
    · obtain ⟨am, hAM⟩ : ∃ am, AL = some am := by
        rcases hSL with h | ⟨ad, h, _⟩
        · have hz := congrArg List.length h
          rw [List.length_map] at hz
          simp only [List.length_nil] at hz
          omega
        · exact ⟨ad, h⟩
      subst hAM
      by_cases hc : lim < gI L k
      · have hsn := ldF_t hc
        repeat' (first
 | (refine C_id ?_; first
 | refine C_seq ?_
 | refine C_region rfl ?_
 | refine C_block ?_
 | refine C_skip ?_
 | (refine C_cond rfl obQ (fun h => ?_) (fun h => ?_) <;> (try simp only [Bool.or_eq_true, Bool.and_eq_true, Bool.or_eq_false_iff, Bool.and_eq_false_iff, decide_eq_true_eq, decide_eq_false_iff_not, beq_iff_eq, bne_iff_ne, beq_eq_false_iff_ne, bne_eq_false_iff_eq, ne_eq, Decidable.not_not, List.cons.injEq, and_true, Bool.not_eq_true', Bool.not_eq_false', Int.not_lt, Int.not_le] at h) <;> (try (exfalso; omega)) <;> (try (exfalso; simp at h; done)) <;> (try (exfalso; simp only [not_true_eq_false, false_or, or_false] at h; omega)) <;> (try (exfalso; omega)))
         )
 | (refine S_id ?_; first
 | refine S_load rfl obQ rfl [.int .i64 (gI L k)] (.past (w2L, fun b => w1L.heap.size ≤ b ∧ b < w2L.heap.size) memQ _ _ hSL _ _ rfl rfl (gI_idxZ (k := k) rfl hlt)) rfl (.inr ⟨rfl, rfl⟩) ?_
 | refine S_append rfl obQ rfl rfl rfl ⟨by decide, rfl⟩ rfl ⟨rfl, rfl, rfl, rfl⟩ [.int .i64 (k : Int)] ⟨by decide, rfl⟩ (by simp [Value.oneCell']) (fun w hw => by first | exact hw.src (i := 0) rfl rfl | exact hw.src (i := 1) rfl rfl | exact hw.src (i := 2) rfl rfl | exact hw.src (i := 3) rfl rfl | exact hw.src (i := 4) rfl rfl | exact hw.src (i := 5) rfl rfl | exact hw.src (i := 6) rfl rfl | exact hw.src (i := 7) rfl rfl | exact hw.src (i := 8) rfl rfl) (by unfold maxLen; dsimp only; omega) (fun gb cap' => ⟨_, rfl, ?_⟩)
 | refine S_nil ?_
 | refine S_run rfl rfl obQ obQ ?_
 | refine S_slice (fun b => ⟨_, _, rfl, obQ, ?_⟩)
         )
 | (refine G_id ?_; first
 | refine G_loop (k + 1, some ⟨gb, 0, none⟩, cap') (show k + 1 ≤ L.length by omega) (by show L.length - (k + 1) < L.length - k; omega) (by dsimp only; rw [hsn, natC_snoc, List.length_append]; exact ⟨⟨_, rfl, obQ⟩, ⟨_, rfl⟩, rfl, pstQ⟩)
 | refine G_then ?_
 | refine G_block ?_
         )
         )
      · have hsn := ldF_f hc
        repeat' (first
 | (refine C_id ?_; first
 | refine C_seq ?_
 | refine C_region rfl ?_
 | refine C_block ?_
 | refine C_skip ?_
 | (refine C_cond rfl obQ (fun h => ?_) (fun h => ?_) <;> (try simp only [Bool.or_eq_true, Bool.and_eq_true, Bool.or_eq_false_iff, Bool.and_eq_false_iff, decide_eq_true_eq, decide_eq_false_iff_not, beq_iff_eq, bne_iff_ne, beq_eq_false_iff_ne, bne_eq_false_iff_eq, ne_eq, Decidable.not_not, List.cons.injEq, and_true, Bool.not_eq_true', Bool.not_eq_false', Int.not_lt, Int.not_le] at h) <;> (try (exfalso; omega)) <;> (try (exfalso; simp at h; done)) <;> (try (exfalso; simp only [not_true_eq_false, false_or, or_false] at h; omega)) <;> (try (exfalso; omega)))
         )
 | (refine S_id ?_; first
 | refine S_load rfl obQ rfl [.int .i64 (gI L k)] (.past (w2L, fun b => w1L.heap.size ≤ b ∧ b < w2L.heap.size) memQ _ _ hSL _ _ rfl rfl (gI_idxZ (k := k) rfl hlt)) rfl (.inr ⟨rfl, rfl⟩) ?_
 | refine S_nil ?_
 | refine S_run rfl rfl obQ obQ ?_
         )
 | (refine G_id ?_; first
 | refine G_loop (k + 1, A', c') (show k + 1 ≤ L.length by omega) (by show L.length - (k + 1) < L.length - k; omega) (by dsimp only; rw [hsn]; exact ⟨⟨_, rfl, obQ⟩, ⟨_, rfl⟩, rfl, pstQ⟩)
 | refine G_then ?_
 | refine G_block ?_
         )
         )
    · obtain rfl : k = L.length := by omega
      repeat' (first
 | (refine C_id ?_; first
 | refine C_seq ?_
 | refine C_region rfl ?_
 | refine C_exit ?_
 | refine C_ret0 ?_
 | (refine C_cond rfl obQ (fun h => ?_) (fun h => ?_) <;> (try simp only [Bool.or_eq_true, Bool.and_eq_true, Bool.or_eq_false_iff, Bool.and_eq_false_iff, decide_eq_true_eq, decide_eq_false_iff_not, beq_iff_eq, bne_iff_ne, beq_eq_false_iff_ne, bne_eq_false_iff_eq, ne_eq, Decidable.not_not, List.cons.injEq, and_true, Bool.not_eq_true', Bool.not_eq_false', Int.not_lt, Int.not_le] at h) <;> (try (exfalso; omega)))
       )
 | (refine S_id ?_; first
 | refine S_nil ?_
 | refine S_run rfl rfl obQ obQ ?_
       )
 | (refine G_id ?_; first
 | refine G_then ?_
 | refine G_blockX ?_
 | refine G_thenX ?_
 | refine G_ret rfl obQ (fun w2 hw => ⟨_, rfl, hw.below, Sl.two (HW.rowSl (i := 0) hw rfl rfl rfl rfl) rfl⟩)
       )
       )
  · have e1 : ldR s t blk lim = ([], ldE s t blk lim) := if_neg hE
    rw [e1]
    repeat' (first
 | (refine C_id ?_; first
 | refine C_seq ?_
 | refine C_region rfl ?_
 | refine C_ret0 ?_
 | (refine C_cond rfl obQ (fun h => ?_) (fun h => ?_) <;> (try simp only [Bool.or_eq_true, Bool.and_eq_true, Bool.or_eq_false_iff, Bool.and_eq_false_iff, decide_eq_true_eq, decide_eq_false_iff_not, beq_iff_eq, bne_iff_ne, beq_eq_false_iff_ne, bne_eq_false_iff_eq, ne_eq, Decidable.not_not, List.cons.injEq, and_true, Bool.not_eq_true', Bool.not_eq_false', Int.not_lt, Int.not_le] at h) <;> (try (exfalso; omega)) <;> (try (exfalso; simp at h; done)) <;> (try (exfalso; simp only [not_true_eq_false, false_or, or_false] at h; omega)) <;> (try contradiction))
     )
 | (refine S_id ?_; first
 | refine S_nil ?_
 | refine S_run rfl rfl obQ obQ ?_
 | refine S_slice (fun b => ⟨_, _, rfl, obQ, ?_⟩)
 | refine S_call (f := 153) rfl obQ (by kernel_rfl) (fun w hw => checkSound_c A c s hs A2 c2 t ht _ w (hw.rdm hr.toS memQ) (hw.rdm hr2.toS memQ)) ?_
 | refine S_call (f := 116) rfl obQ (by kernel_rfl) (fun w hw => cwithin_c _ _ _ w) ?_
 | refine S_call (f := 111) rfl obQ (by kernel_rfl) (fun w hw => cfirst_c _ _ [sdE s t _, wi lim 0 1152921504606846976] (by simp) w (.inr ⟨_, rfl, hw.src (i := 0) rfl rfl⟩)) ?_
     )
 | (refine G_id ?_; first
 | refine G_then ?_
 | refine G_thenR ?_
 | refine G_ret rfl obQ (fun w2 hw => ⟨_, rfl, hw.below, Sl.two (v := .slice none 0 0) (Sl.nil_ _ _) rfl⟩)
     )
     )

end Go.Proofs.YtdbffbcobghbeaaGreatDoor
