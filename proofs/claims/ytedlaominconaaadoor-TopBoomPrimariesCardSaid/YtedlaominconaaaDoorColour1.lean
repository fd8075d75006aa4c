/- Contracts of the small functions of the packages colour and picture and of their references. -/
import Derived.Test.YtedlaominconaaaDoorTab
import Derived.Test.YtedlaominconaaaDoorEng2
import Derived.Test.YtedlaominconaaaDoorFl
namespace Go.Proofs.YtedlaominconaaaDoor
open Go.E Go.RowKit Go.Fl
attribute [local irreducible] G C S D Calls
set_option maxRecDepth 100000
set_option linter.unusedSimpArgs false
set_option linter.unusedVariables false

def wi (n l m : Int) : Int := if n < l ∨ m < n then 3 else 0
def wh (b : Bool) (e : Int) : Int := if b then e else 0
theorem wi_eq (n l m : Int) : wi n l m = 0 ↔ l ≤ n ∧ n ≤ m := by unfold wi; split <;> omega
theorem wh_zero {b : Bool} {e : Int} (he : e ≠ 0) : wh b e = 0 ↔ b = false := by unfold wh; cases b <;> simp [he]
def firstL : List Int → Int
  | [] => 0
  | e :: r => if e = 0 then firstL r else e
theorem firstL_drop {es : List Int} {k : Nat} (h : k < es.length) : firstL (es.drop k) = if es[k] = 0 then firstL (es.drop (k + 1)) else es[k] := by
  rw [List.drop_eq_getElem_cons h]
  rfl
theorem firstL_zero : ∀ (l : List Int), firstL l = 0 ↔ ∀ x ∈ l, x = 0
  | [] => by simp [firstL]
  | e :: r => by
    unfold firstL
    rw [List.forall_mem_cons, ← firstL_zero r]
    split <;> simp_all
theorem firstL_append : ∀ (a b : List Int), firstL (a ++ b) = if firstL a = 0 then firstL b else firstL a
  | [], b => by simp [firstL]
  | e :: r, b => by
    by_cases h : e = 0
    · subst h; simp [firstL, firstL_append r b]
    · simp [firstL, h]
/-- The error of a level. -/
def lvE (n : Int) : Int := wi n (-16384) 16384
/-- A quotient rounded down; one rounded to the nearest integer. -/
theorem ediv_of {a b q : Int} (hb : 0 < b) (h1 : q * b ≤ a) (h2 : a < (q + 1) * b) : a / b = q := by
  have g1 := (Int.le_ediv_iff_mul_le hb).2 h1
  have g2 := (Int.ediv_lt_iff_lt_mul hb).2 h2
  omega
theorem floor_eq {a b : Int} (hb : 0 < b) : a / b = if a < a.tdiv b * b then a.tdiv b - 1 else a.tdiv b := by
  have h1 := Int.mul_tdiv_add_tmod a b
  have h2 := Int.tmod_lt_of_pos a hb
  have h3 : -b < a.tmod b := Int.lt_tmod_of_pos a hb
  rw [Int.mul_comm] at h1
  split
  · exact ediv_of hb (by rw [Int.sub_mul, Int.one_mul]; omega) (by rw [Int.sub_add_cancel]; omega)
  · exact ediv_of hb (by omega) (by rw [Int.add_mul, Int.one_mul]; omega)
theorem tdiv_mul_bd {a b : Int} (hb : 0 < b) : (a.tdiv b * b ≤ max a 0 ∧ min a 0 ≤ a.tdiv b * b) ∧ (a.tdiv b ≤ max a 0 ∧ min a 0 ≤ a.tdiv b) := by
  rcases Int.le_total 0 a with h | h
  · rw [Int.tdiv_eq_ediv_of_nonneg h, Int.max_eq_left h, Int.min_eq_right h]
    have h1 := Int.ediv_mul_le a (show b ≠ 0 by omega)
    have h2 := Int.ediv_nonneg h (Int.le_of_lt hb)
    have h3 := Int.ediv_le_self b h
    have h4 := Int.mul_nonneg h2 (Int.le_of_lt hb)
    omega
  · obtain ⟨c, rfl⟩ : ∃ c, a = -c := ⟨-a, by omega⟩
    have hc : 0 ≤ c := by omega
    rw [Int.neg_tdiv, Int.tdiv_eq_ediv_of_nonneg hc, Int.max_eq_right h, Int.min_eq_left h, Int.neg_mul]
    have h1 := Int.ediv_mul_le c (show b ≠ 0 by omega)
    have h2 := Int.ediv_nonneg hc (Int.le_of_lt hb)
    have h3 := Int.ediv_le_self b hc
    have h4 := Int.mul_nonneg h2 (Int.le_of_lt hb)
    omega
/-- A quotient rounded to the nearest integer. -/
def rnd (a b : Int) : Int := (2 * a + b) / (2 * b)

set_option maxHeartbeats 400000 in
/-- colour.when -/
theorem cwhen_c (b : Bool) (e : Int) (w : World) : Calls Tryd.prog 33 #[.bool b, .int .i64 e] w fun r w' => r = .returned (.int .i64 (wh b e)) ∧ Below w.heap.size w w' := by
  refine calls_of (args := [.bool b, .int .i64 e]) T_ok Tryd.func33 rfl Tryd.ntmps33 (Nat.le_of_ble_eq_true rfl) rfl ?_
  repeat' (first
 | (refine C_id ?_; first
 | refine C_seq ?_
 | refine C_region rfl ?_
 | refine C_block ?_
 | refine C_skip ?_
 | refine C_ret0 ?_
 | (refine C_cond rfl obQ (fun h => ?_) (fun h => ?_) <;> (try simp only [Bool.or_eq_true, Bool.and_eq_true, Bool.or_eq_false_iff, Bool.and_eq_false_iff, decide_eq_true_eq, decide_eq_false_iff_not, beq_iff_eq, bne_iff_ne, beq_eq_false_iff_ne, bne_eq_false_iff_eq, ne_eq, Decidable.not_not, List.cons.injEq, and_true, Bool.not_eq_true', Bool.not_eq_false', Int.not_lt, Int.not_le] at h))
 )
 | (refine S_id ?_; first
 | refine S_nil ?_
 | refine S_run rfl rfl obQ obQ ?_
 )
 | (refine G_id ?_; first
 | refine G_then ?_
 | refine G_thenR ?_
 | refine G_ret rfl obQ (fun w hw => ⟨?_, hw.below⟩)
 )
 )
  all_goals simp [wh, h]

set_option maxHeartbeats 400000 in
/-- colour.within -/
theorem cwithin_c (n l m : Int) (w : World) : Calls Tryd.prog 32 #[.int .i64 n, .int .i64 l, .int .i64 m] w fun r w' => r = .returned (.int .i64 (wi n l m)) ∧ Below w.heap.size w w' := by
  refine calls_of (args := [.int .i64 n, .int .i64 l, .int .i64 m]) T_ok Tryd.func32 rfl Tryd.ntmps32 (Nat.le_of_ble_eq_true rfl) rfl ?_
  repeat' (first
 | (refine C_id ?_; first
 | refine C_seq ?_
 | refine C_region rfl ?_
 | refine C_block ?_
 | refine C_skip ?_
 | refine C_exit ?_
 | refine C_ret0 ?_
 | refine C_condT rfl obQ ?_
 | refine C_condF rfl obQ ?_
 | (refine C_cond rfl obQ (fun h => ?_) (fun h => ?_) <;> (try simp only [Bool.or_eq_true, Bool.and_eq_true, Bool.or_eq_false_iff, Bool.and_eq_false_iff, decide_eq_true_eq, decide_eq_false_iff_not, beq_iff_eq, bne_iff_ne, beq_eq_false_iff_ne, bne_eq_false_iff_eq, ne_eq, Decidable.not_not, List.cons.injEq, and_true, Bool.not_eq_true', Bool.not_eq_false', Int.not_lt, Int.not_le] at h))
 )
 | (refine S_id ?_; first
 | refine S_nil ?_
 | refine S_run rfl rfl obQ obQ ?_
 | refine S_call (f := 33) rfl obQ (by kernel_rfl) (fun w hw => cwhen_c _ _ _) ?_
 )
 | (refine G_id ?_; first
 | refine G_then ?_
 | refine G_block ?_
 | refine G_blockX ?_
 | refine G_blockN rfl ?_
 | refine G_blockR ?_
 | refine G_thenR ?_
 | refine G_thenX ?_
 | refine G_ret rfl obQ (fun w hw => ⟨?_, hw.below⟩)
 )
 )
  simp [wi, wh]

set_option maxHeartbeats 400000 in
/-- colour.first -/
theorem cfirst_c (A : Option Addr) (c : Nat) (es : List Int) (hl : es.length ≤ 1000000) (w : World) (hr : Rd w A (es.map (.int .i64))) : Calls Tryd.prog 21 #[.slice A es.length c] w fun r w' => r = .returned (.int .i64 (firstL es)) ∧ Below w.heap.size w w' := by
  refine calls_of (args := [.slice A es.length c]) T_ok Tryd.func21 rfl Tryd.ntmps21 (Nat.le_of_ble_eq_true rfl) rfl ?_
  repeat' (first
 | (refine C_id ?_; first
 | refine C_seq ?_
 | refine C_region rfl ?_
 | refine C_block ?_
 | refine C_skip ?_
 | refine C_ret0 ?_
 | (refine C_cond rfl obQ (fun h => ?_) (fun h => ?_) <;> (try simp only [Bool.or_eq_true, Bool.and_eq_true, Bool.or_eq_false_iff, Bool.and_eq_false_iff, decide_eq_true_eq, decide_eq_false_iff_not, beq_iff_eq, bne_iff_ne, beq_eq_false_iff_ne, bne_eq_false_iff_eq, ne_eq, Decidable.not_not, List.cons.injEq, and_true, Bool.not_eq_true', Bool.not_eq_false', Int.not_lt, Int.not_le] at h))
 )
 | (refine S_id ?_; first
 | refine S_nil ?_
 | refine S_run rfl rfl obQ obQ ?_
 )
 | (refine G_id ?_; first
 | refine G_then ?_
 | refine G_thenR ?_
 | refine G_ret rfl obQ (fun w hw => ⟨?_, hw.below⟩)
 )
 )
  refine C_loopS (fun k : Nat => ⟨[(7, .s (.v (.int .i64 k))), (6, .s (.v (.int .i64 es.length))), (5, .s (.v (.slice A es.length c)))], [], []⟩) (fun k => k ≤ es.length ∧ firstL es = firstL (es.drop k)) (fun k => es.length - k) 0 ⟨Nat.zero_le _, rfl⟩ ?_ (fun k hk => ?_)
  · exact ⟨⟨_, rfl, obQ⟩, ⟨_, rfl⟩, rfl, pstQ⟩
  by_cases hlt : k < es.length
  · obtain ⟨ad, rfl⟩ := hr.some (by simp; omega)
    have hfd := firstL_drop hlt
    repeat' (first
 | (refine C_id ?_; first
 | refine C_seq ?_
 | refine C_region rfl ?_
 | refine C_block ?_
 | refine C_skip ?_
 | refine C_ret0 ?_
 | (refine C_cond rfl obQ (fun h => ?_) (fun h => ?_) <;> (try simp only [Bool.or_eq_true, Bool.and_eq_true, Bool.or_eq_false_iff, Bool.and_eq_false_iff, decide_eq_true_eq, decide_eq_false_iff_not, beq_iff_eq, bne_iff_ne, beq_eq_false_iff_ne, bne_eq_false_iff_eq, ne_eq, Decidable.not_not, List.cons.injEq, and_true, Bool.not_eq_true', Bool.not_eq_false', Int.not_lt, Int.not_le] at h) <;> (try (exfalso; omega)))
     )
 | (refine S_id ?_; first
 | refine S_load rfl obQ rfl [.int .i64 es[k]] (.past _ memQ _ _ hr.toS _ _ rfl rfl (idx1 hlt)) rfl (.inr ⟨rfl, rfl⟩) ?_
 | refine S_nil ?_
 | refine S_run rfl rfl obQ obQ ?_
     )
 | (refine G_id ?_; first
 | refine G_loop (k + 1) ?_ (by omega) ⟨⟨_, rfl, obQ⟩, ⟨_, rfl⟩, rfl, pstQ⟩
 | refine G_then ?_
 | refine G_block ?_
 | refine G_blockR ?_
 | refine G_thenR ?_
 | refine G_ret rfl obQ (fun w hw => ⟨?_, hw.below⟩)
     )
     )
    · rw [hk.2, hfd, if_neg h]
    · exact ⟨by omega, by rw [hk.2, hfd, if_pos h]⟩
  · repeat' (first
 | (refine C_id ?_; first
 | refine C_seq ?_
 | refine C_region rfl ?_
 | refine C_exit ?_
 | refine C_ret0 ?_
 | (refine C_cond rfl obQ (fun h => ?_) (fun h => ?_) <;> (try simp only [Bool.or_eq_true, Bool.and_eq_true, Bool.or_eq_false_iff, Bool.and_eq_false_iff, decide_eq_true_eq, decide_eq_false_iff_not, beq_iff_eq, bne_iff_ne, beq_eq_false_iff_ne, bne_eq_false_iff_eq, ne_eq, Decidable.not_not, List.cons.injEq, and_true, Bool.not_eq_true', Bool.not_eq_false', Int.not_lt, Int.not_le] at h) <;> (try (exfalso; omega)))
     )
 | (refine S_id ?_; first
 | refine S_nil ?_
 | refine S_run rfl rfl obQ obQ ?_
     )
 | (refine G_id ?_; first
 | refine G_then ?_
 | refine G_blockX ?_
 | refine G_thenX ?_
 | refine G_ret rfl obQ (fun w hw => ⟨?_, hw.below⟩)
     )
     )
    rw [hk.2, List.drop_of_length_le (by omega)]
    rfl

set_option maxHeartbeats 400000 in
/-- picture.when -/
theorem pwhen_c (b : Bool) (e : Int) (w : World) : Calls Tryd.prog 45 #[.bool b, .int .i64 e] w fun r w' => r = .returned (.int .i64 (wh b e)) ∧ Below w.heap.size w w' := by
  refine calls_of (args := [.bool b, .int .i64 e]) T_ok Tryd.func45 rfl Tryd.ntmps45 (Nat.le_of_ble_eq_true rfl) rfl ?_
  repeat' (first
 | (refine C_id ?_; first
 | refine C_seq ?_
 | refine C_region rfl ?_
 | refine C_block ?_
 | refine C_skip ?_
 | refine C_ret0 ?_
 | (refine C_cond rfl obQ (fun h => ?_) (fun h => ?_) <;> (try simp only [Bool.or_eq_true, Bool.and_eq_true, Bool.or_eq_false_iff, Bool.and_eq_false_iff, decide_eq_true_eq, decide_eq_false_iff_not, beq_iff_eq, bne_iff_ne, beq_eq_false_iff_ne, bne_eq_false_iff_eq, ne_eq, Decidable.not_not, List.cons.injEq, and_true, Bool.not_eq_true', Bool.not_eq_false', Int.not_lt, Int.not_le] at h))
 )
 | (refine S_id ?_; first
 | refine S_nil ?_
 | refine S_run rfl rfl obQ obQ ?_
 )
 | (refine G_id ?_; first
 | refine G_then ?_
 | refine G_thenR ?_
 | refine G_ret rfl obQ (fun w hw => ⟨?_, hw.below⟩)
 )
 )
  all_goals simp [wh, h]

set_option maxHeartbeats 400000 in
/-- picture.within -/
theorem pwithin_c (n l m : Int) (w : World) : Calls Tryd.prog 65 #[.int .i64 n, .int .i64 l, .int .i64 m] w fun r w' => r = .returned (.int .i64 (wi n l m)) ∧ Below w.heap.size w w' := by
  refine calls_of (args := [.int .i64 n, .int .i64 l, .int .i64 m]) T_ok Tryd.func65 rfl Tryd.ntmps65 (Nat.le_of_ble_eq_true rfl) rfl ?_
  repeat' (first
 | (refine C_id ?_; first
 | refine C_seq ?_
 | refine C_region rfl ?_
 | refine C_block ?_
 | refine C_skip ?_
 | refine C_exit ?_
 | refine C_ret0 ?_
 | refine C_condT rfl obQ ?_
 | refine C_condF rfl obQ ?_
 | (refine C_cond rfl obQ (fun h => ?_) (fun h => ?_) <;> (try simp only [Bool.or_eq_true, Bool.and_eq_true, Bool.or_eq_false_iff, Bool.and_eq_false_iff, decide_eq_true_eq, decide_eq_false_iff_not, beq_iff_eq, bne_iff_ne, beq_eq_false_iff_ne, bne_eq_false_iff_eq, ne_eq, Decidable.not_not, List.cons.injEq, and_true, Bool.not_eq_true', Bool.not_eq_false', Int.not_lt, Int.not_le] at h))
 )
 | (refine S_id ?_; first
 | refine S_nil ?_
 | refine S_run rfl rfl obQ obQ ?_
 | refine S_call (f := 45) rfl obQ (by kernel_rfl) (fun w hw => pwhen_c _ _ _) ?_
 )
 | (refine G_id ?_; first
 | refine G_then ?_
 | refine G_block ?_
 | refine G_blockX ?_
 | refine G_blockN rfl ?_
 | refine G_blockR ?_
 | refine G_thenR ?_
 | refine G_thenX ?_
 | refine G_ret rfl obQ (fun w hw => ⟨?_, hw.below⟩)
 )
 )
  simp [wi, wh]

set_option maxHeartbeats 400000 in
/-- picture.first -/
theorem pfirst_c (A : Option Addr) (c : Nat) (es : List Int) (hl : es.length ≤ 1000000) (w : World) (hr : Rd w A (es.map (.int .i64))) : Calls Tryd.prog 43 #[.slice A es.length c] w fun r w' => r = .returned (.int .i64 (firstL es)) ∧ Below w.heap.size w w' := by
  refine calls_of (args := [.slice A es.length c]) T_ok Tryd.func43 rfl Tryd.ntmps43 (Nat.le_of_ble_eq_true rfl) rfl ?_
  repeat' (first
 | (refine C_id ?_; first
 | refine C_seq ?_
 | refine C_region rfl ?_
 | refine C_block ?_
 | refine C_skip ?_
 | refine C_ret0 ?_
 | (refine C_cond rfl obQ (fun h => ?_) (fun h => ?_) <;> (try simp only [Bool.or_eq_true, Bool.and_eq_true, Bool.or_eq_false_iff, Bool.and_eq_false_iff, decide_eq_true_eq, decide_eq_false_iff_not, beq_iff_eq, bne_iff_ne, beq_eq_false_iff_ne, bne_eq_false_iff_eq, ne_eq, Decidable.not_not, List.cons.injEq, and_true, Bool.not_eq_true', Bool.not_eq_false', Int.not_lt, Int.not_le] at h))
 )
 | (refine S_id ?_; first
 | refine S_nil ?_
 | refine S_run rfl rfl obQ obQ ?_
 )
 | (refine G_id ?_; first
 | refine G_then ?_
 | refine G_thenR ?_
 | refine G_ret rfl obQ (fun w hw => ⟨?_, hw.below⟩)
 )
 )
  refine C_loopS (fun k : Nat => ⟨[(7, .s (.v (.int .i64 k))), (6, .s (.v (.int .i64 es.length))), (5, .s (.v (.slice A es.length c)))], [], []⟩) (fun k => k ≤ es.length ∧ firstL es = firstL (es.drop k)) (fun k => es.length - k) 0 ⟨Nat.zero_le _, rfl⟩ ?_ (fun k hk => ?_)
  · exact ⟨⟨_, rfl, obQ⟩, ⟨_, rfl⟩, rfl, pstQ⟩
  by_cases hlt : k < es.length
  · obtain ⟨ad, rfl⟩ := hr.some (by simp; omega)
    have hfd := firstL_drop hlt
    repeat' (first
 | (refine C_id ?_; first
 | refine C_seq ?_
 | refine C_region rfl ?_
 | refine C_block ?_
 | refine C_skip ?_
 | refine C_ret0 ?_
 | (refine C_cond rfl obQ (fun h => ?_) (fun h => ?_) <;> (try simp only [Bool.or_eq_true, Bool.and_eq_true, Bool.or_eq_false_iff, Bool.and_eq_false_iff, decide_eq_true_eq, decide_eq_false_iff_not, beq_iff_eq, bne_iff_ne, beq_eq_false_iff_ne, bne_eq_false_iff_eq, ne_eq, Decidable.not_not, List.cons.injEq, and_true, Bool.not_eq_true', Bool.not_eq_false', Int.not_lt, Int.not_le] at h) <;> (try (exfalso; omega)))
     )
 | (refine S_id ?_; first
 | refine S_load rfl obQ rfl [.int .i64 es[k]] (.past _ memQ _ _ hr.toS _ _ rfl rfl (idx1 hlt)) rfl (.inr ⟨rfl, rfl⟩) ?_
 | refine S_nil ?_
 | refine S_run rfl rfl obQ obQ ?_
     )
 | (refine G_id ?_; first
 | refine G_loop (k + 1) ?_ (by omega) ⟨⟨_, rfl, obQ⟩, ⟨_, rfl⟩, rfl, pstQ⟩
 | refine G_then ?_
 | refine G_block ?_
 | refine G_blockR ?_
 | refine G_thenR ?_
 | refine G_ret rfl obQ (fun w hw => ⟨?_, hw.below⟩)
     )
     )
    · rw [hk.2, hfd, if_neg h]
    · exact ⟨by omega, by rw [hk.2, hfd, if_pos h]⟩
  · repeat' (first
 | (refine C_id ?_; first
 | refine C_seq ?_
 | refine C_region rfl ?_
 | refine C_exit ?_
 | refine C_ret0 ?_
 | (refine C_cond rfl obQ (fun h => ?_) (fun h => ?_) <;> (try simp only [Bool.or_eq_true, Bool.and_eq_true, Bool.or_eq_false_iff, Bool.and_eq_false_iff, decide_eq_true_eq, decide_eq_false_iff_not, beq_iff_eq, bne_iff_ne, beq_eq_false_iff_ne, bne_eq_false_iff_eq, ne_eq, Decidable.not_not, List.cons.injEq, and_true, Bool.not_eq_true', Bool.not_eq_false', Int.not_lt, Int.not_le] at h) <;> (try (exfalso; omega)))
     )
 | (refine S_id ?_; first
 | refine S_nil ?_
 | refine S_run rfl rfl obQ obQ ?_
     )
 | (refine G_id ?_; first
 | refine G_then ?_
 | refine G_blockX ?_
 | refine G_thenX ?_
 | refine G_ret rfl obQ (fun w hw => ⟨?_, hw.below⟩)
     )
     )
    rw [hk.2, List.drop_of_length_le (by omega)]
    rfl

set_option maxHeartbeats 400000 in
/-- colour.checkLevel -/
theorem ccheckLevel_c (n : Int) (w : World) : Calls Tryd.prog 63 #[.int .i64 n] w fun r w' => r = .returned (.int .i64 (lvE n)) ∧ Below w.heap.size w w' := by
  refine calls_of (args := [.int .i64 n]) T_ok Tryd.func63 rfl Tryd.ntmps63 (Nat.le_of_ble_eq_true rfl) rfl ?_
  repeat' (first
 | (refine C_id ?_; first
 | refine C_seq ?_
 | refine C_region rfl ?_
 | refine C_block ?_
 | refine C_skip ?_
 | refine C_exit ?_
 | refine C_ret0 ?_
 | refine C_condT rfl obQ ?_
 | refine C_condF rfl obQ ?_
 | (refine C_cond rfl obQ (fun h => ?_) (fun h => ?_) <;> (try simp only [Bool.or_eq_true, Bool.and_eq_true, Bool.or_eq_false_iff, Bool.and_eq_false_iff, decide_eq_true_eq, decide_eq_false_iff_not, beq_iff_eq, bne_iff_ne, beq_eq_false_iff_ne, bne_eq_false_iff_eq, ne_eq, Decidable.not_not, List.cons.injEq, and_true, Bool.not_eq_true', Bool.not_eq_false', Int.not_lt, Int.not_le] at h))
 )
 | (refine S_id ?_; first
 | refine S_nil ?_
 | refine S_run rfl rfl obQ obQ ?_
 | refine S_call (f := 32) rfl obQ (by kernel_rfl) (fun w hw => cwithin_c _ _ _ w) ?_
 )
 | (refine G_id ?_; first
 | refine G_then ?_
 | refine G_block ?_
 | refine G_blockX ?_
 | refine G_blockN rfl ?_
 | refine G_blockR ?_
 | refine G_thenR ?_
 | refine G_thenX ?_
 | refine G_ret rfl obQ (fun w hw => ⟨?_, hw.below⟩)
 )
 )
  rfl

end Go.Proofs.YtedlaominconaaaDoor
