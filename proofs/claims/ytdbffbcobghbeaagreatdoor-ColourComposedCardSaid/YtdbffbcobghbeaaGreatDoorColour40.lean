/- The lost colours: the reference. -/
import Derived.Test.YtdbffbcobghbeaaGreatDoorColour26
import Derived.Test.YtdbffbcobghbeaaGreatDoorColour39
import Derived.Test.YtdbffbcobghbeaaGreatDoorEngZ
namespace Go.Proofs.YtdbffbcobghbeaaGreatDoor
open Go.E Go.RowKit Go.Fl
attribute [local irreducible] G C S D DY DS V VT Yl QV QT Calls
set_option maxRecDepth 100000
set_option linter.unusedSimpArgs false
set_option linter.unusedVariables false

/-- Whether a colour is reached from one of these by a legal conversion. -/
def hit2 (m : Mat) (l : List Col) (x : Col) : Bool := l.any fun d => decide (ColOk (convF m d)) && decide (convF m d = x)
theorem hit2_1 {m : Mat} {l : List Col} {d : Col} (h : ColOk (convF m d)) : hit2 m (l ++ [d]) = fun x => if x = convF m d then true else hit2 m l x := by
  funext x
  unfold hit2
  rw [List.any_append]
  simp only [List.any_cons, List.any_nil, Bool.or_false, decide_eq_true h, Bool.true_and]
  by_cases e : x = convF m d
  · subst e; simp
  · simp [e, Ne.symm e]
theorem hit2_2 {m : Mat} {l : List Col} {d : Col} (h : ¬ ColOk (convF m d)) : hit2 m (l ++ [d]) = hit2 m l := by
  funext x
  unfold hit2
  rw [List.any_append]
  simp [h]
theorem hit2_eq {m : Mat} {l : List Col} {x : Col} (h : ColOk x) : hit2 m l x = hitB m l x := by
  unfold hit2 hitB
  congr 1
  funext d
  by_cases e : convF m d = x
  · subst e; simp [h]
  · simp [e]
def Ph (m : Mat) (k : Nat) (l : List Col) (i : Nat) (W : World) : Prop := ∃ n, n ≤ i ∧ SetT Tryz.prog 50 4 k n (hit2 m (l.take i)) W
theorem ph_on (m : Mat) (k : Nat) (l : List Col) : ∀ i, OnBlock k (Ph m k l i) := fun i W W' h ⟨n, hn, hs⟩ => ⟨n, hn, setT_on _ _ _ _ _ _ _ _ h hs⟩
theorem take_snoc {l : List Col} {k : Nat} (h : k < l.length) : l.take (k + 1) = l.take k ++ [gC l k] := by
  rw [List.take_succ_eq_append_getElem h, gC_at h]
def loF (m : Mat) (l : List Col) (k : Nat) : List Col := (l.take k).filter fun c => !hit2 m l c
theorem loF_1 {m : Mat} {l : List Col} {k : Nat} (h : k < l.length) (hx : hit2 m l (gC l k) = false) : loF m l (k + 1) = loF m l k ++ [gC l k] := by
  unfold loF
  rw [take_snoc h, List.filter_append]
  simp [hx]
theorem loF_2 {m : Mat} {l : List Col} {k : Nat} (h : k < l.length) (hx : hit2 m l (gC l k) = true) : loF m l (k + 1) = loF m l k := by
  unfold loF
  rw [take_snoc h, List.filter_append]
  simp [hx]
theorem loF_len (m : Mat) (l : List Col) (k : Nat) : (loF m l k).length ≤ k := by
  have h1 := List.length_filter_le (fun c => !hit2 m l c) (l.take k)
  rw [List.length_take] at h1
  unfold loF
  omega
theorem loF_end {m : Mat} {l : List Col} (h : ∀ c ∈ l, ColOk c) : loF m l l.length = l.filter fun c => !hitB m l c := by
  unfold loF
  rw [List.take_length]
  exact List.filter_congr fun c hc => by rw [hit2_eq (h c hc)]
theorem gC_mem {l : List Col} {k : Nat} (h : k < l.length) : gC l k ∈ l := by rw [gC_at h]; exact List.getElem_mem h
/-- What the reference loses, and its error. -/
def lost2 (m : Mat) (lo hi : Int) : List Col × Int := if 6 < hi - lo + 1 then ([], 20) else (lostF m lo hi, 0)
theorem rconv_as {m : Mat} {c q : Col} {e : Int} (h : cv2 m c = (q, e)) (hm : MatOk m) (hc : ColOk c) (w : World) : Calls Tryz.prog 43 #[.agg #[.int .i64 m.a, .int .i64 m.b, .int .i64 m.c, .int .i64 m.d, .int .i64 m.e, .int .i64 m.f, .int .i64 m.g, .int .i64 m.h, .int .i64 m.i, .int .i64 m.n], .agg #[.int .i64 c.1, .int .i64 c.2.1, .int .i64 c.2.2]] w fun r w' => r = .returned (.tuple #[.agg #[.int .i64 q.1, .int .i64 q.2.1, .int .i64 q.2.2], .int .i64 e]) ∧ Below w.heap.size w w' := by
  have := rConverted_c m c hm hc w
  rw [h] at this
  exact this
theorem lostR_eq (m : Mat) (lo hi : Int) : lostR m lo hi = if lsE m lo hi = 0 then lost2 m lo hi else ([], lsE m lo hi) := rfl

set_option maxHeartbeats 4000000 in
/-- genlockref02.Lost -/
theorem rLost_c (m : Mat) (lo hi : Int) (hm : MatOk m) (hI : ivE lo hi = 0) (w : World) : Calls Tryz.prog 51 #[.agg #[.int .i64 m.a, .int .i64 m.b, .int .i64 m.c, .int .i64 m.d, .int .i64 m.e, .int .i64 m.f, .int .i64 m.g, .int .i64 m.h, .int .i64 m.i, .int .i64 m.n], .agg #[.int .i64 lo, .int .i64 hi]] w fun r w' => ∃ v, r = .returned v ∧ Below w.heap.size w w' ∧ Sl2 w w' v (lost2 m lo hi).1.length ((lost2 m lo hi).1.flatMap coC) (.int .i64 (lost2 m lo hi).2) := by
  refine calls_of (args := [.agg #[.int .i64 m.a, .int .i64 m.b, .int .i64 m.c, .int .i64 m.d, .int .i64 m.e, .int .i64 m.f, .int .i64 m.g, .int .i64 m.h, .int .i64 m.i, .int .i64 m.n], .agg #[.int .i64 lo, .int .i64 hi]]) T_ok Tryz.func51 rfl Tryz.ntmps51 (Nat.le_of_ble_eq_true rfl) rfl ?_
  have hi2 := ivE_ok hI
  by_cases h6 : 6 < hi - lo + 1
  · have e1 : lost2 m lo hi = ([], 20) := if_pos h6
    rw [e1]
    repeat' (first
 | (refine C_id ?_; first
 | refine C_seq ?_
 | refine C_region rfl ?_
 | refine C_ret0 ?_
 | (refine C_cond rfl obQ (fun h => ?_) (fun h => ?_) <;> (try simp only [Bool.or_eq_true, Bool.and_eq_true, Bool.or_eq_false_iff, Bool.and_eq_false_iff, decide_eq_true_eq, decide_eq_false_iff_not, beq_iff_eq, bne_iff_ne, beq_eq_false_iff_ne, bne_eq_false_iff_eq, ne_eq, Decidable.not_not, List.cons.injEq, and_true, Bool.not_eq_true', Bool.not_eq_false', Int.not_lt, Int.not_le] at h) <;> (try (exfalso; omega)))
     )
 | (refine S_id ?_; first
 | refine S_nil ?_
 | refine S_run rfl rfl obQ obQ ?_
 | refine S_box (fun b => ⟨_, _, rfl, obQ, ?_⟩)
     )
 | (refine G_id ?_; first
 | refine G_then ?_
 | refine G_thenR ?_
 | refine G_ret rfl obQ (fun w2 hw => ⟨_, rfl, hw.below, Sl.two (v := .slice none 0 0) (Sl.nil_ _ _) rfl⟩)
     )
     )
  · have e1 : lost2 m lo hi = (lostF m lo hi, 0) := if_neg h6
    have hc : CuOk lo hi := ⟨hi2.1.1, hi2.2.1.2, by omega⟩
    have hok := cube_ok hc
    have hxl : (cubeL lo hi).length ≤ 216 := by
      have := cube_bd hc
      simp only [cubeL, List.length_map, List.length_range, cubeN]
      omega
    rw [e1, show lostF m lo hi = loF m (cubeL lo hi) (cubeL lo hi).length from (loF_end hok).symm]
    repeat' (first
 | (refine C_id ?_; first
 | refine C_seq ?_
 | refine C_region rfl ?_
 | refine C_block ?_
 | refine C_skip ?_
 | (refine C_cond rfl obQ (fun h => ?_) (fun h => ?_) <;> (try simp only [Bool.or_eq_true, Bool.and_eq_true, Bool.or_eq_false_iff, Bool.and_eq_false_iff, decide_eq_true_eq, decide_eq_false_iff_not, beq_iff_eq, bne_iff_ne, beq_eq_false_iff_ne, bne_eq_false_iff_eq, ne_eq, Decidable.not_not, List.cons.injEq, and_true, Bool.not_eq_true', Bool.not_eq_false', Int.not_lt, Int.not_le] at h) <;> (try (exfalso; omega)))
     )
 | (refine S_id ?_; first
 | refine S_new rfl obQ (fun h => by obtain ⟨_, h⟩ := h; cases h) (fun k W hown hat => ?_)
 | (refine S_callM (f := 136) rfl obQ (by kernel_rfl) (fun w hw => rColours_c lo hi hc w) (fun w1O w2O vO hw1O hbO hRO => ?_); obtain ⟨AO, cO, rfl, hSO⟩ := hRO)
 | refine S_nil ?_
 | refine S_run rfl rfl obQ obQ ?_
 | refine S_box (fun b => ⟨_, _, rfl, obQ, ?_⟩)
     )
 | (refine G_id ?_; first
 | refine G_then ?_
     )
     )
    rename_i b2
    generalize cubeL lo hi = cl at *
    refine C_loopO (k := k) (fun i : Nat => ⟨[(8, .s (.v (.int .i64 i))), (7, .s (.v (.map (some k)))), (6, .s (.v (.slice AO cl.length cO))), (2, .s (.p b2 0 0))], [⟨b2, 53, [.v (.int .i64 m.a), .v (.int .i64 m.b), .v (.int .i64 m.c), .v (.int .i64 m.d), .v (.int .i64 m.e), .v (.int .i64 m.f), .v (.int .i64 m.g), .v (.int .i64 m.h), .v (.int .i64 m.i), .v (.int .i64 m.n)]⟩], []⟩) (fun i => i ≤ cl.length) (Ph m k cl) (fun i => cl.length - i) 0 (Nat.zero_le _) (ph_on m k cl) ⟨0, Nat.le_refl _, setT_new 50 4 hat⟩ ?_ (fun i W hi0 hph => ?_)
    · exact ⟨⟨_, rfl, obQ⟩, ⟨_, rfl⟩, rfl, pstQ⟩
    have hi1 : i ≤ cl.length := hi0
    obtain ⟨n, hn, hset⟩ := hph
    by_cases hlt : i < cl.length
    · have hcx := hok _ (gC_mem hlt)
      obtain ⟨ao, hAO⟩ : ∃ ao, AO = some ao := by
        rcases hSO with h | ⟨ad, h, _⟩
        · have hz := congrArg List.length h
          rw [co_len] at hz
          simp only [List.length_nil] at hz
          omega
        · exact ⟨ad, h⟩
      subst hAO
      have hts := take_snoc hlt
      by_cases hl : colE (convF m (gC cl i)) = 0
      · have hcv : cv2 m (gC cl i) = (convF m (gC cl i), 0) := cv2_2 hl
        have h1 := hit2_1 (l := cl.take i) (col_ok.1 hl)
        repeat' (first
 | (refine C_id ?_; first
 | refine C_seq ?_
 | refine C_region rfl ?_
 | refine C_block ?_
 | refine C_skip ?_
 | refine C_drawTr (id := 8) 11 (.q 0 (.q 1 (.q 2 (.q 3 (.q 4 (.two 5 9 (.q 6 (.q 7 (.q 8 (.n 9 (.n 10 .nil))))) (.n 5 (.q 6 (.q 7 (.q 8 (.n 10 .nil))))))))))) rfl mixed (by kernel_rfl) rfl ?_
 | refine C_condT rfl obQ ?_
 | (refine C_cond rfl obQ (fun h => ?_) (fun h => ?_) <;> (try simp only [Bool.or_eq_true, Bool.and_eq_true, Bool.or_eq_false_iff, Bool.and_eq_false_iff, decide_eq_true_eq, decide_eq_false_iff_not, beq_iff_eq, bne_iff_ne, beq_eq_false_iff_ne, bne_eq_false_iff_eq, ne_eq, Decidable.not_not, List.cons.injEq, and_true, Bool.not_eq_true', Bool.not_eq_false', Int.not_lt, Int.not_le] at h) <;> (try (exfalso; omega)) <;> (try (exfalso; simp at h; done)) <;> (try (exfalso; simp only [not_true_eq_false, false_or, or_false] at h; omega)) <;> (try contradiction))
         )
 | (refine S_id ?_; first
 | refine S_putT rfl obQ tri50 key50 rfl rfl hset (conv64 hm hcx) (by unfold maxLen; omega) hown (fun W5 hat5 => ?_)
 | refine S_nil ?_
 | refine S_run rfl rfl obQ obQ ?_
 | refine S_box (fun b => ⟨_, _, rfl, obQ, ?_⟩)
 | refine S_call (f := 43) rfl obQ (by kernel_rfl) (fun w hw => rconv_as hcv hm hcx w) ?_
         )
 | (refine VT_id ?_; first
 | refine VT_nil ?_
 | refine VT_q rfl (Yl_load rfl obQ rfl [.int .i64 (gC cl i).1, .int .i64 (gC cl i).2.1, .int .i64 (gC cl i).2.2] (.past (w2O, fun b => w1O.heap.size ≤ b ∧ b < w2O.heap.size) memQ _ _ hSO _ _ rfl rfl (gC_idx hlt)) rfl (.inl ⟨rfl, rfl⟩)) ?_
 | refine VT_q rfl (Yl_step rfl obQ) ?_
 | refine VT_n rfl ?_
 | refine VT_two rfl rfl ?_ ?_
         )
 | (refine G_id ?_; first
 | refine G_VT2 ⟨_, rfl⟩ ⟨_, rfl⟩ pstQ rfl ?_
 | refine G_loopO (ph_on m k cl) (i + 1) (show i + 1 ≤ cl.length by omega) ⟨n + 1, by omega, by rw [hts, h1]; exact hat5⟩ (by show cl.length - (i + 1) < cl.length - i; omega) ⟨⟨_, rfl, obQ⟩, ⟨_, rfl⟩, rfl, pstQ⟩
 | refine G_then ?_
 | refine G_block ?_
         )
         )
      · have hcv : cv2 m (gC cl i) = ((0, 0, 0), 4) := cv2_1 hl
        have h1 := hit2_2 (m := m) (l := cl.take i) (fun h => hl (col_ok.2 h))
        repeat' (first
 | (refine C_id ?_; first
 | refine C_seq ?_
 | refine C_region rfl ?_
 | refine C_block ?_
 | refine C_skip ?_
 | refine C_drawTr (id := 8) 11 (.q 0 (.q 1 (.q 2 (.q 3 (.q 4 (.two 5 9 (.q 6 (.q 7 (.q 8 (.n 9 (.n 10 .nil))))) (.n 5 (.q 6 (.q 7 (.q 8 (.n 10 .nil))))))))))) rfl mixed (by kernel_rfl) rfl ?_
 | refine C_condF rfl obQ ?_
 | (refine C_cond rfl obQ (fun h => ?_) (fun h => ?_) <;> (try simp only [Bool.or_eq_true, Bool.and_eq_true, Bool.or_eq_false_iff, Bool.and_eq_false_iff, decide_eq_true_eq, decide_eq_false_iff_not, beq_iff_eq, bne_iff_ne, beq_eq_false_iff_ne, bne_eq_false_iff_eq, ne_eq, Decidable.not_not, List.cons.injEq, and_true, Bool.not_eq_true', Bool.not_eq_false', Int.not_lt, Int.not_le] at h) <;> (try (exfalso; omega)) <;> (try (exfalso; simp at h; done)) <;> (try (exfalso; simp only [not_true_eq_false, false_or, or_false] at h; omega)) <;> (try contradiction))
         )
 | (refine S_id ?_; first
 | refine S_nil ?_
 | refine S_run rfl rfl obQ obQ ?_
 | refine S_box (fun b => ⟨_, _, rfl, obQ, ?_⟩)
 | refine S_call (f := 43) rfl obQ (by kernel_rfl) (fun w hw => rconv_as hcv hm hcx w) ?_
         )
 | (refine VT_id ?_; first
 | refine VT_nil ?_
 | refine VT_q rfl (Yl_load rfl obQ rfl [.int .i64 (gC cl i).1, .int .i64 (gC cl i).2.1, .int .i64 (gC cl i).2.2] (.past (w2O, fun b => w1O.heap.size ≤ b ∧ b < w2O.heap.size) memQ _ _ hSO _ _ rfl rfl (gC_idx hlt)) rfl (.inl ⟨rfl, rfl⟩)) ?_
 | refine VT_q rfl (Yl_step rfl obQ) ?_
 | refine VT_n rfl ?_
 | refine VT_two rfl rfl ?_ ?_
         )
 | (refine G_id ?_; first
 | refine G_VT2 ⟨_, rfl⟩ ⟨_, rfl⟩ pstQ rfl ?_
 | refine G_loopO (ph_on m k cl) (i + 1) (show i + 1 ≤ cl.length by omega) ⟨n, by omega, by rw [hts, h1]; exact hset⟩ (by show cl.length - (i + 1) < cl.length - i; omega) ⟨⟨_, rfl, obQ⟩, ⟨_, rfl⟩, rfl, pstQ⟩
 | refine G_then ?_
 | refine G_block ?_
         )
         )
    · obtain rfl : i = cl.length := by omega
      rw [List.take_length] at hset
      repeat' (first
 | (refine C_id ?_; first
 | refine C_seq ?_
 | refine C_regionNe 12 rfl rfl ?_
 | refine C_exit ?_
 | (refine C_cond rfl obQ (fun h => ?_) (fun h => ?_) <;> (try simp only [Bool.or_eq_true, Bool.and_eq_true, Bool.or_eq_false_iff, Bool.and_eq_false_iff, decide_eq_true_eq, decide_eq_false_iff_not, beq_iff_eq, bne_iff_ne, beq_eq_false_iff_ne, bne_eq_false_iff_eq, ne_eq, Decidable.not_not, List.cons.injEq, and_true, Bool.not_eq_true', Bool.not_eq_false', Int.not_lt, Int.not_le] at h) <;> (try (exfalso; omega)))
       )
 | (refine S_id ?_; first
 | refine S_nil ?_
 | refine S_run rfl rfl obQ obQ ?_
       )
 | (refine G_id ?_; first
 | refine G_then ?_
 | refine G_blockX ?_
 | refine G_thenX ?_
       )
       )
      refine C_row0 11 50 3 rfl ?_
      repeat' (first
 | (refine C_id ?_; first
 | refine C_region rfl ?_
 | refine C_block ?_
       )
 | (refine S_id ?_; first
 | refine S_nil ?_
 | refine S_run rfl rfl obQ obQ ?_
       )
 | (refine G_id ?_; first
 | refine G_then ?_
       )
       )
      refine C_loopS (fun i : Nat × Option Addr × Nat => ⟨[(12, .s (.v (.int .i64 i.1))), (11, .s (.r i.2.1 (loF m cl i.1).length i.2.2 0)), (7, .s (.v (.map (some k)))), (6, .s (.v (.slice AO cl.length cO)))], [], [⟨50, 3, (loF m cl i.1).length, (loF m cl i.1).flatMap coC, .slice i.2.1 (loF m cl i.1).length i.2.2⟩]⟩) (fun i => i.1 ≤ cl.length) (fun i => cl.length - i.1) (0, none, 0) (Nat.zero_le _) ?_ (fun i hi0 => ?_)
      · exact ⟨⟨_, rfl, obQ⟩, ⟨_, rfl⟩, rfl, pstQ⟩
      obtain ⟨i, A1, c1⟩ := i
      have hi1 : i ≤ cl.length := hi0
      dsimp only
      have hll := loF_len m cl i
      by_cases hlt : i < cl.length
      · have hcx := hok _ (gC_mem hlt)
        obtain ⟨ao, hAO⟩ : ∃ ao, AO = some ao := by
          rcases hSO with h | ⟨ad, h, _⟩
          · have hz := congrArg List.length h
            rw [co_len] at hz
            simp only [List.length_nil] at hz
            omega
          · exact ⟨ad, h⟩
        subst hAO
        cases hx : hit2 m cl (gC cl i)
        · have hs := loF_1 hlt hx
          repeat' (first
 | (refine C_id ?_; first
 | refine C_seq ?_
 | refine C_region rfl ?_
 | refine C_block ?_
 | refine C_skip ?_
 | (refine C_cond rfl obQ (fun h => ?_) (fun h => ?_) <;> (try simp only [Bool.or_eq_true, Bool.and_eq_true, Bool.or_eq_false_iff, Bool.and_eq_false_iff, decide_eq_true_eq, decide_eq_false_iff_not, beq_iff_eq, bne_iff_ne, beq_eq_false_iff_ne, bne_eq_false_iff_eq, ne_eq, Decidable.not_not, List.cons.injEq, and_true, Bool.not_eq_true', Bool.not_eq_false', Int.not_lt, Int.not_le] at h) <;> (try (exfalso; omega)) <;> (try (exfalso; simp at h; done)) <;> (try (exfalso; simp only [not_true_eq_false, false_or, or_false] at h; omega)) <;> (try (rw [hx] at h; cases h)))
           )
 | (refine S_id ?_; first
 | refine S_pure (lookT_pure rfl obQ tri50 key50 rfl rfl (fun _ => rfl) hset (col64 hcx) (by simp)) ?_
 | refine S_load rfl obQ rfl [.int .i64 (gC cl i).1, .int .i64 (gC cl i).2.1, .int .i64 (gC cl i).2.2] (.past (w2O, fun b => w1O.heap.size ≤ b ∧ b < w2O.heap.size) memQ _ _ hSO _ _ rfl rfl (gC_idx hlt)) rfl (.inl ⟨rfl, rfl⟩) ?_
 | refine S_append rfl obQ rfl rfl rfl ⟨by decide, rfl⟩ rfl ⟨rfl, rfl, rfl, rfl⟩ [.int .i64 (gC cl i).1, .int .i64 (gC cl i).2.1, .int .i64 (gC cl i).2.2] ⟨by decide, rfl⟩ (by simp [Value.oneCell']) (fun w hw => by first | exact hw.src (i := 0) rfl rfl | exact hw.src (i := 1) rfl rfl | exact hw.src (i := 2) rfl rfl | exact hw.src (i := 3) rfl rfl | exact hw.src (i := 4) rfl rfl | exact hw.src (i := 5) rfl rfl | exact hw.src (i := 6) rfl rfl | exact hw.src (i := 7) rfl rfl | exact hw.src (i := 8) rfl rfl) (by unfold maxLen; dsimp only; omega) (fun gb cap' => ⟨_, rfl, ?_⟩)
 | refine S_nil ?_
 | refine S_run rfl rfl obQ obQ ?_
 | refine S_slice (fun b => ⟨_, _, rfl, obQ, ?_⟩)
           )
 | (refine G_id ?_; first
 | refine G_loop (i + 1, some ⟨gb, 0, none⟩, cap') (show i + 1 ≤ cl.length by omega) (by show cl.length - (i + 1) < cl.length - i; omega) (by dsimp only; rw [hs, List.length_append, List.flatMap_append]; exact ⟨⟨_, rfl, obQ⟩, ⟨_, rfl⟩, rfl, pstQ⟩)
 | refine G_then ?_
 | refine G_block ?_
           )
           )
        · have hs := loF_2 hlt hx
          repeat' (first
 | (refine C_id ?_; first
 | refine C_seq ?_
 | refine C_region rfl ?_
 | refine C_block ?_
 | refine C_skip ?_
 | (refine C_cond rfl obQ (fun h => ?_) (fun h => ?_) <;> (try simp only [Bool.or_eq_true, Bool.and_eq_true, Bool.or_eq_false_iff, Bool.and_eq_false_iff, decide_eq_true_eq, decide_eq_false_iff_not, beq_iff_eq, bne_iff_ne, beq_eq_false_iff_ne, bne_eq_false_iff_eq, ne_eq, Decidable.not_not, List.cons.injEq, and_true, Bool.not_eq_true', Bool.not_eq_false', Int.not_lt, Int.not_le] at h) <;> (try (exfalso; omega)) <;> (try (exfalso; simp at h; done)) <;> (try (exfalso; simp only [not_true_eq_false, false_or, or_false] at h; omega)) <;> (try (rw [hx] at h; cases h)))
           )
 | (refine S_id ?_; first
 | refine S_pure (lookT_pure rfl obQ tri50 key50 rfl rfl (fun _ => rfl) hset (col64 hcx) (by simp)) ?_
 | refine S_load rfl obQ rfl [.int .i64 (gC cl i).1, .int .i64 (gC cl i).2.1, .int .i64 (gC cl i).2.2] (.past (w2O, fun b => w1O.heap.size ≤ b ∧ b < w2O.heap.size) memQ _ _ hSO _ _ rfl rfl (gC_idx hlt)) rfl (.inl ⟨rfl, rfl⟩) ?_
 | refine S_nil ?_
 | refine S_run rfl rfl obQ obQ ?_
           )
 | (refine G_id ?_; first
 | refine G_loop (i + 1, A1, c1) (show i + 1 ≤ cl.length by omega) (by show cl.length - (i + 1) < cl.length - i; omega) (by dsimp only; rw [hs]; exact ⟨⟨_, rfl, obQ⟩, ⟨_, rfl⟩, rfl, pstQ⟩)
 | refine G_then ?_
 | refine G_block ?_
           )
           )
      · obtain rfl : i = cl.length := by omega
        repeat' (first
 | (refine C_id ?_; first
 | refine C_seq ?_
 | refine C_region rfl ?_
 | refine C_exit ?_
 | refine C_ret0 ?_
 | (refine C_cond rfl obQ (fun h => ?_) (fun h => ?_) <;> (try simp only [Bool.or_eq_true, Bool.and_eq_true, Bool.or_eq_false_iff, Bool.and_eq_false_iff, decide_eq_true_eq, decide_eq_false_iff_not, beq_iff_eq, bne_iff_ne, beq_eq_false_iff_ne, bne_eq_false_iff_eq, ne_eq, Decidable.not_not, List.cons.injEq, and_true, Bool.not_eq_true', Bool.not_eq_false', Int.not_lt, Int.not_le] at h) <;> (try (exfalso; omega)))
         )
 | (refine S_id ?_; first
 | refine S_nil ?_
 | refine S_run rfl rfl obQ obQ ?_
         )
 | (refine G_id ?_; first
 | refine G_then ?_
 | refine G_blockX ?_
 | refine G_thenX ?_
 | refine G_ret rfl obQ (fun w2 hw => ⟨_, rfl, hw.below, Sl.two (HW.rowSl (i := 0) hw rfl rfl rfl rfl) rfl⟩)
         )
         )

end Go.Proofs.YtdbffbcobghbeaaGreatDoor
