/- Composite signals: sums, samples, signals encoded. -/
import Derived.Test.YtedlaominconaaaTops3
namespace Go.Proofs.Ytedlaominconaaa
open Go.E Go.RowKit Go.Fl
attribute [local irreducible] G C S D Calls
set_option maxRecDepth 100000
set_option linter.unusedSimpArgs false
set_option linter.unusedVariables false

set_option maxHeartbeats 1000000 in
/-- composite.combined -/
theorem dcombined_c (q : FuncId) (g : Int → Int → Int) (A B : Option Addr) (c c2 : Nat) (a b : List Int) (hl : a.length ≤ 1000000) (hab : a.length = b.length) (he : entB Try.prog q = true) (w : World) (hr : Rd w A (a.map (.int .i64))) (hr2 : Rd w B (b.map (.int .i64))) (hg : ∀ k, k < a.length → ∀ W, Below w.heap.size w W → Calls Try.prog q #[.int .i64 (gI a k), .int .i64 (gI b k)] W fun e w' => e = .returned (.int .i64 (g (gI a k) (gI b k))) ∧ Below W.heap.size W w') : Calls Try.prog 70 #[.slice A a.length c, .slice B a.length c2, .func (.func q) #[] #[]] w fun r w' => ∃ v, r = .returned v ∧ Below w.heap.size w w' ∧ Sl w w' v a.length (((List.range a.length).map (fun k => g (gI a k) (gI b k))).map (.int .i64)) := by
  refine calls_of (args := [.slice A a.length c, .slice B a.length c2, .func (.func q) #[] #[]]) T_ok Try.func70 rfl Try.ntmps70 (Nat.le_of_ble_eq_true rfl) rfl ?_
  repeat' (first
   | (refine C_id ?_; first
   | refine C_seq ?_
   | refine C_region rfl ?_
   | refine C_block ?_
   )
   | (refine S_id ?_; first
   | refine S_make a.length rfl obQ rfl rfl rfl rfl rfl (by unfold maxLen; dsimp only; omega) (fun g0 => ?_)
   | refine S_nil ?_
   | refine S_run rfl rfl obQ obQ ?_
   )
   | (refine G_id ?_; first
   | refine G_then ?_
   )
   )
  rw [cbX_0 (fun k => g (gI a k) (gI b k))]
  refine C_loopS (fun k : Nat => ⟨[(0, .s (.v (.slice A a.length c))), (1, .s (.v (.slice B a.length c2))), (2, .s (.v (.func (.func q) #[] #[]))), (7, .s (.r (some ⟨g0, 0, none⟩) a.length a.length 0)), (13, .s (.v (.int .i64 a.length))), (14, .s (.v (.int .i64 k)))], [], [⟨3, 1, a.length, (cbX (fun k => g (gI a k) (gI b k)) a.length k).map (.int .i64), .slice (some ⟨g0, 0, none⟩) a.length a.length⟩]⟩) (fun k => k ≤ a.length) (fun k => a.length - k) 0 (Nat.zero_le _) ?_ (fun k hk => ?_)
  · exact ⟨⟨_, rfl, obQ⟩, ⟨_, rfl⟩, rfl, pstQ⟩
  have hk' : k ≤ a.length := hk
  dsimp only
  by_cases hlt : k < a.length
  · have hltb : k < b.length := by omega
    obtain ⟨ad, rfl⟩ := hr.some (by simp; omega)
    obtain ⟨ad2, rfl⟩ := hr2.some (by simp; omega)
    repeat' (first
     | (refine C_id ?_; first
     | refine C_seq ?_
     | refine C_region rfl ?_
     | refine C_block ?_
     | refine C_skip ?_
     | refine C_drawT (id := 5) 13 rfl mixed (by kernel_rfl) rfl rfl ?_
     | (refine C_cond rfl obQ (fun h => ?_) (fun h => ?_) <;> (try simp only [Bool.or_eq_true, Bool.and_eq_true, Bool.or_eq_false_iff, Bool.and_eq_false_iff, decide_eq_true_eq, decide_eq_false_iff_not, beq_iff_eq, bne_iff_ne, beq_eq_false_iff_ne, bne_eq_false_iff_eq, ne_eq, Decidable.not_not, List.cons.injEq, and_true, Bool.not_eq_true', Bool.not_eq_false', Int.not_lt, Int.not_le] at h) <;> (try (exfalso; omega)))
     )
     | (refine S_id ?_; first
     | refine S_storeRow rfl obQ rfl rfl rfl 0 rfl rfl ((k : Int).toNat * 1) rfl (by dsimp only; rw [List.length_map, cbX_len]; omega) (xs' := (cbX (fun k => g (gI a k) (gI b k)) a.length (k + 1)).map (.int .i64)) (cbX_put hlt) rfl ?_
     | refine S_nil ?_
     | refine S_run rfl rfl obQ obQ ?_
     )
     | (refine D_id ?_; first
     | refine D_load rfl obQ rfl [.int .i64 (gI a k)] (.past (w, fun b => b < w.heap.size) memQ _ _ hr.toS _ _ rfl rfl (gI_idxZ rfl hlt)) rfl (.inr ⟨rfl, rfl⟩) ?_
     | refine D_load rfl obQ rfl [.int .i64 (gI b k)] (.past (w, fun b => b < w.heap.size) memQ _ _ hr2.toS _ _ rfl rfl (gI_idxZ rfl hltb)) rfl (.inr ⟨rfl, rfl⟩) ?_
     | refine D_call rfl obQ he (fun W hW => hg k hlt W hW.below) ?_
     | refine D_tail ?_
     | refine D_run rfl rfl obQ obQ ?_
     )
     | (refine G_id ?_; first
     | refine G_loop (k + 1) (by show k + 1 ≤ a.length; omega) (by show a.length - (k + 1) < a.length - k; omega) ⟨⟨_, rfl, obQ⟩, ⟨_, rfl⟩, rfl, pstQ⟩
     | refine G_then ?_
     | refine G_block ?_
     )
     )
  · have hke : k = a.length := by omega
    subst hke
    rw [cbX_n]
    repeat' (first
     | (refine C_id ?_; first
     | refine C_seq ?_
     | refine C_region rfl ?_
     | refine C_exit ?_
     | refine C_ret0 ?_
     | (refine C_cond rfl obQ (fun h => ?_) (fun h => ?_) <;> (try simp only [Bool.or_eq_true, Bool.and_eq_true, Bool.or_eq_false_iff, Bool.and_eq_false_iff, decide_eq_true_eq, decide_eq_false_iff_not, beq_iff_eq, bne_iff_ne, beq_eq_false_iff_ne, bne_eq_false_iff_eq, ne_eq, Decidable.not_not, List.cons.injEq, and_true, Bool.not_eq_true', Bool.not_eq_false', Int.not_lt, Int.not_le] at h) <;> (try (exfalso; omega)))
     )
     | (refine S_id ?_; first
     | refine S_nil ?_
     | refine S_run rfl rfl obQ obQ ?_
     )
     | (refine G_id ?_; first
     | refine G_then ?_
     | refine G_blockX ?_
     | refine G_thenX ?_
     | refine G_ret rfl obQ (fun w2 hw => ⟨_, rfl, hw.below, HW.rowSl (i := 0) hw rfl rfl rfl rfl⟩)
     )
     )


theorem dlargeF_c {n : Int} (h : -16384 ≤ n ∧ n ≤ 16384) (w : World) : Calls Try.prog 102 #[.int .i64 n] w fun r w' => r = .returned (.bool false) ∧ Below w.heap.size w w' := by
  have := dlarge_c n w
  rw [decide_eq_false (show ¬ n < -16384 by omega), decide_eq_false (show ¬ 16384 < n by omega)] at this
  exact this

set_option maxHeartbeats 400000 in
/-- slices.IndexFunc[[]int,int] -/
theorem dindexF_c (A : Option Addr) (c : Nat) (l : List Int) (hl : l.length ≤ 1000000) (hn : ∀ x ∈ l, -16384 ≤ x ∧ x ≤ 16384) (w : World) (hr : Rd w A (l.map (.int .i64))) : Calls Try.prog 119 #[.slice A l.length c, .func (.func 102) #[] #[]] w fun r w' => r = .returned (.int .i64 (-1)) ∧ Below w.heap.size w w' := by
  refine calls_of (args := [.slice A l.length c, .func (.func 102) #[] #[]]) T_ok Try.func119 rfl Try.ntmps119 (Nat.le_of_ble_eq_true rfl) rfl ?_
  repeat' (first
   | (refine C_id ?_; first
   | refine C_seq ?_
   | refine C_region rfl ?_
   | refine C_block ?_
   | refine C_skip ?_
   | refine C_ret0 ?_
   | (refine C_cond rfl obQ (fun h => ?_) (fun h => ?_) <;> (try simp only [Bool.or_eq_true, Bool.and_eq_true, Bool.or_eq_false_iff, Bool.and_eq_false_iff, decide_eq_true_eq, decide_eq_false_iff_not, beq_iff_eq, bne_iff_ne, beq_eq_false_iff_ne, bne_eq_false_iff_eq, ne_eq, Decidable.not_not, List.cons.injEq, and_true, Bool.not_eq_true', Bool.not_eq_false', Int.not_lt, Int.not_le] at h))
   )
   | (refine S_id ?_; first
   | refine S_nil ?_
   | refine S_run rfl rfl obQ obQ ?_
   )
   | (refine G_id ?_; first
   | refine G_then ?_
   | refine G_thenR ?_
   | refine G_ret rfl obQ (fun w hw => ⟨?_, hw.below⟩)
   )
   )
  refine C_loopS (fun k : Nat => ⟨[(0, .s (.v (.slice A l.length c))), (1, .s (.v (.func (.func 102) #[] #[]))), (7, .s (.v (.int .i64 l.length))), (8, .s (.v (.int .i64 k)))], [], []⟩) (fun k => k ≤ l.length) (fun k => l.length - k) 0 (Nat.zero_le _) ?_ (fun k hk => ?_)
  · exact ⟨⟨_, rfl, obQ⟩, ⟨_, rfl⟩, rfl, pstQ⟩
  have hk' : k ≤ l.length := hk
  dsimp only
  by_cases hlt : k < l.length
  · obtain ⟨ad, rfl⟩ := hr.some (by simp; omega)
    have hb := hn _ (gI_mem hlt)
    repeat' (first
     | (refine C_id ?_; first
     | refine C_seq ?_
     | refine C_region rfl ?_
     | refine C_block ?_
     | refine C_skip ?_
     | refine C_condF rfl obQ ?_
     | (refine C_cond rfl obQ (fun h => ?_) (fun h => ?_) <;> (try simp only [Bool.or_eq_true, Bool.and_eq_true, Bool.or_eq_false_iff, Bool.and_eq_false_iff, decide_eq_true_eq, decide_eq_false_iff_not, beq_iff_eq, bne_iff_ne, beq_eq_false_iff_ne, bne_eq_false_iff_eq, ne_eq, Decidable.not_not, List.cons.injEq, and_true, Bool.not_eq_true', Bool.not_eq_false', Int.not_lt, Int.not_le] at h) <;> (try (exfalso; omega)) <;> (try (exfalso; simp at h; done)) <;> (try (exfalso; simp only [not_true_eq_false, false_or, or_false] at h; omega)) <;> (try contradiction))
     )
     | (refine S_id ?_; first
     | refine S_load rfl obQ rfl [.int .i64 (gI l k)] (.past (w, fun b => b < w.heap.size) memQ _ _ hr.toS _ _ rfl rfl (gI_idxZ rfl hlt)) rfl (.inr ⟨rfl, rfl⟩) ?_
     | refine S_nil ?_
     | refine S_run rfl rfl obQ obQ ?_
     | refine S_call (f := 102) rfl obQ (by kernel_rfl) (fun w hw => dlargeF_c hb w) ?_
     )
     | (refine G_id ?_; first
     | refine G_loop (k + 1) (by show k + 1 ≤ l.length; omega) (by show l.length - (k + 1) < l.length - k; omega) ⟨⟨_, rfl, obQ⟩, ⟨_, rfl⟩, rfl, pstQ⟩
     | refine G_then ?_
     | refine G_block ?_
     )
     )
  · repeat' (first
     | (refine C_id ?_; first
     | refine C_seq ?_
     | refine C_region rfl ?_
     | refine C_exit ?_
     | refine C_ret0 ?_
     | (refine C_cond rfl obQ (fun h => ?_) (fun h => ?_) <;> (try simp only [Bool.or_eq_true, Bool.and_eq_true, Bool.or_eq_false_iff, Bool.and_eq_false_iff, decide_eq_true_eq, decide_eq_false_iff_not, beq_iff_eq, bne_iff_ne, beq_eq_false_iff_ne, bne_eq_false_iff_eq, ne_eq, Decidable.not_not, List.cons.injEq, and_true, Bool.not_eq_true', Bool.not_eq_false', Int.not_lt, Int.not_le] at h) <;> (try (exfalso; omega)))
     )
     | (refine S_id ?_; first
     | refine S_nil ?_
     | refine S_run rfl rfl obQ obQ ?_
     )
     | (refine G_id ?_; first
     | refine G_then ?_
     | refine G_blockX ?_
     | refine G_thenX ?_
     | refine G_ret rfl obQ (fun w hw => ⟨?_, hw.below⟩)
     )
     )
    all_goals rfl

set_option maxHeartbeats 400000 in
/-- slices.ContainsFunc[[]int,int] -/
theorem dcontainsF_c (A : Option Addr) (c : Nat) (l : List Int) (hl : l.length ≤ 1000000) (hn : ∀ x ∈ l, -16384 ≤ x ∧ x ≤ 16384) (w : World) (hr : Rd w A (l.map (.int .i64))) : Calls Try.prog 101 #[.slice A l.length c, .func (.func 102) #[] #[]] w fun r w' => r = .returned (.bool false) ∧ Below w.heap.size w w' := by
  refine calls_of (args := [.slice A l.length c, .func (.func 102) #[] #[]]) T_ok Try.func101 rfl Try.ntmps101 (Nat.le_of_ble_eq_true rfl) rfl ?_
  repeat' (first
 | (refine C_id ?_; first
 | refine C_seq ?_
 | refine C_region rfl ?_
 | refine C_ret0 ?_
 )
 | (refine S_id ?_; first
 | refine S_nil ?_
 | refine S_run rfl rfl obQ obQ ?_
 | refine S_call (f := 119) rfl obQ (by kernel_rfl) (fun w hw => dindexF_c A c l hl hn w (hw.rdm hr.toS memQ)) ?_
 )
 | (refine G_id ?_; first
 | refine G_then ?_
 | refine G_ret rfl obQ (fun w hw => ⟨?_, hw.below⟩)
 )
 )
  rfl

set_option maxHeartbeats 400000 in
/-- composite.samples -/
theorem dsamples_c (A : Option Addr) (c : Nat) (l : List Int) (hl : l.length ≤ 1000000) (hn : ∀ x ∈ l, -16384 ≤ x ∧ x ≤ 16384) (w : World) (hr : Rd w A (l.map (.int .i64))) : Calls Try.prog 69 #[.slice A l.length c] w fun r w' => ∃ v, r = .returned v ∧ Below w.heap.size w w' ∧ Sl2 w w' v l.length (l.map fun x => .float .f32 (smp x)) (.int .i64 0) := by
  refine calls_of (args := [.slice A l.length c]) T_ok Try.func69 rfl Try.ntmps69 (Nat.le_of_ble_eq_true rfl) rfl ?_
  repeat' (first
 | (refine C_id ?_; first
 | refine C_seq ?_
 | refine C_region rfl ?_
 | refine C_skip ?_
 | refine C_ret0 ?_
 | refine C_condF rfl obQ ?_
 )
 | (refine S_id ?_; first
 | refine S_nil ?_
 | refine S_run rfl rfl obQ obQ ?_
 | refine S_call (f := 101) rfl obQ (by kernel_rfl) (fun w hw => dcontainsF_c A c l hl hn w (hw.rdm hr.toS memQ)) ?_
 | (refine S_callM (f := 103) rfl obQ (by kernel_rfl) (fun w hw => dmappedIF_c 104 (g := smp) A c l hl (by kernel_rfl) w (hw.rdm hr.toS memQ) (fun x hx W _ => dsample_c x (hn x hx) W)) (fun w1M w2M vM hw1M hbM hRM => ?_); obtain ⟨AM, cM, rfl, hSM⟩ := hRM)
 )
 | (refine G_id ?_; first
 | refine G_then ?_
 | refine G_ret rfl obQ (fun w2 hw => ⟨_, rfl, hw.below, Sl.two (HW.callSl hw hSM memQ hw1M.below.size) rfl⟩)
 )
 )

end Go.Proofs.Ytedlaominconaaa
