/- Texts: the reference: digits, signed integers, parts of strings, the texts of curves written and read. -/
import Derived.Test.YtdbffbcobghbeaaGreatDoorColour53
import Derived.Test.YtdbffbcobghbeaaGreatDoorColour25
import Derived.Test.YtdbffbcobghbeaaGreatDoorEng3
import Derived.Test.YtdbffbcobghbeaaGreatDoorEng4
import Derived.Laws.IdiomStrings
import Derived.Test.YtdbffbcobghbeaaGreatDoorColour5
import Derived.Test.YtdbffbcobghbeaaGreatDoorEng2
namespace Go.Proofs.YtdbffbcobghbeaaGreatDoor
open Go.E Go.RowKit Go.Fl
attribute [local irreducible] G C S D Calls
set_option maxRecDepth 100000
set_option linter.unusedSimpArgs false
set_option linter.unusedVariables false

/-- A string from a place on. -/
theorem sl_from {X : Cx} {t : TypeId} {ti : TI} (hl : Go.E.look X.T t = some ti) (hk : ti.k = .str) (s : ByteArray) (k : IntKind) (z : Int) (i : Nat) (hz : z = (i : Int)) (h1 : i ≤ s.size) (w : World) :
    (Instr.sliceAt t (.string s) (some (.int k z)) none none).run X.P w = .ok (.string (s.extract i s.size)) w := by
  subst hz
  obtain ⟨i', dd, z, hi, hu, hz, rfl⟩ := X.hT.row hl
  have hd := kOf_str hk
  subst hd
  have := run_slice_string_l (P := X.P) (w := w) t s hu k (i : Int) (by omega) (by omega)
  rw [run_sliceAt_string w t _ _ _ _ hu, this, Int.toNat_natCast]
/-- The integer of the first digits. -/
def digN (s : ByteArray) : Nat → Int
  | 0 => 0
  | k + 1 => 10 * digN s k + ((byteAt s k : Int) - 48)
def allD (s : ByteArray) (k : Nat) : Bool := (List.range k).all fun i => digB (byteAt s i)
theorem allD_s (s : ByteArray) (k : Nat) : allD s (k + 1) = (allD s k && digB (byteAt s k)) := by
  unfold allD
  rw [List.range_succ, List.all_append]
  simp
theorem dig_c {c : Nat} (h : digB c = true) : 48 ≤ c ∧ c ≤ 57 := by
  unfold digB at h
  rw [Bool.and_eq_true, decide_eq_true_eq, decide_eq_true_eq] at h
  omega
theorem allD_at {s : ByteArray} {n k : Nat} (h : allD s n = true) (hk : k < n) : digB (byteAt s k) = true := by
  unfold allD at h
  rw [List.all_eq_true] at h
  exact h k (List.mem_range.2 hk)
theorem digN_bd {s : ByteArray} : ∀ {k : Nat}, allD s k = true → 0 ≤ digN s k ∧ digN s k ≤ 10 ^ k - 1
  | 0, _ => by simp [digN]
  | k + 1, h => by
    rw [allD_s, Bool.and_eq_true] at h
    have h1 := digN_bd h.1
    have h2 := dig_c h.2
    have e : (10 : Int) ^ (k + 1) = 10 ^ k * 10 := Int.pow_succ ..
    rw [digN, e]
    omega
theorem digN_9 {s : ByteArray} {k : Nat} (h : allD s k = true) (hk : k ≤ 9) : 0 ≤ digN s k ∧ digN s k ≤ 999999999 := by
  have h1 := digN_bd h
  have : k = 0 ∨ k = 1 ∨ k = 2 ∨ k = 3 ∨ k = 4 ∨ k = 5 ∨ k = 6 ∨ k = 7 ∨ k = 8 ∨ k = 9 := by omega
  rcases this with rfl | rfl | rfl | rfl | rfl | rfl | rfl | rfl | rfl | rfl <;> omega
/-- The form of digits: neither none nor more than nine, and no leading zero. -/
def digF (s : ByteArray) : Bool := !(s.size == 0) && decide (s.size ≤ 9) && !(decide (1 < s.size) && byteAt s 0 == 48)
def digR (s : ByteArray) : Int × Bool := if digF s && allD s s.size then (digN s s.size, true) else (0, false)
theorem digR_no {s : ByteArray} (h : digF s = false) : digR s = (0, false) := by
  unfold digR
  rw [h]
  rfl
theorem digR_bad {s : ByteArray} {k : Nat} (hk : k < s.size) (h : digB (byteAt s k) = false) : digR s = (0, false) := by
  have : allD s s.size = false := by
    cases ha : allD s s.size
    · rfl
    · rw [allD_at ha hk] at h
      cases h
  unfold digR
  rw [this, Bool.and_false]
  rfl
theorem digR_yes {s : ByteArray} (h : digF s = true) (h2 : allD s s.size = true) : digR s = (digN s s.size, true) := by
  unfold digR
  rw [h, h2]
  rfl
/-- A signed integer. -/
def sgnR (s : ByteArray) : Int × Bool := if 0 < s.size ∧ byteAt s 0 = 45 then (0 - (digR (s.extract 1 s.size)).1, (digR (s.extract 1 s.size)).2 && decide (0 < (digR (s.extract 1 s.size)).1)) else digR s
theorem digR_bd (s : ByteArray) : 0 ≤ (digR s).1 ∧ (digR s).1 ≤ 999999999 := by
  unfold digR
  split
  · rename_i h
    rw [Bool.and_eq_true] at h
    refine digN_9 h.2 ?_
    have := h.1
    unfold digF at this
    simp only [Bool.and_eq_true, decide_eq_true_eq] at this
    exact this.1.2
  · decide

set_option maxHeartbeats 1000000 in
/-- genlockref01.Digits -/
theorem rDigits_c (s : ByteArray) (hs : s.size ≤ maxLen) (w : World) : Calls Tryz.prog 227 #[.string s] w fun r w' => r = .returned (.tuple #[.int .i64 (digR s).1, .bool (digR s).2]) ∧ Below w.heap.size w w' := by
  refine calls_of (args := [.string s]) T_ok Tryz.func227 rfl Tryz.ntmps227 (Nat.le_of_ble_eq_true rfl) rfl ?_
  unfold maxLen at hs
  by_cases h0 : s.size = 0
  · have hF : digF s = false := by unfold digF; rw [h0]; rfl
    rw [digR_no hF]
    repeat' (first
 | (refine C_id ?_; first
 | refine C_seq ?_
 | refine C_region rfl ?_
 | refine C_block ?_
 | refine C_skip ?_
 | refine C_ret0 ?_
 | refine C_condT rfl obQ ?_
 | refine C_condF rfl obQ ?_
     )
 | (refine S_id ?_; first
 | ((with_reducible (first | refine S_falseN ?_ ?_ | refine S_falseB ?_ ?_ | refine S_falseL ?_ ?_ | refine S_falseD ?_ ?_ | refine S_falseE ?_ ?_)); · (first | rfl | omega | exact decide_eq_false (by omega) | (rw [beq_eq_false_iff_ne]; omega) | (rw [bne_eq_false_iff_eq]; omega)))
 | ((with_reducible refine S_falseO ?_ ?_ ?_); (· rfl); (· first | rfl | (first | rfl | omega | exact decide_eq_false (by omega) | (rw [beq_eq_false_iff_ne]; omega) | (rw [bne_eq_false_iff_eq]; omega))))
 | ((with_reducible (first | refine S_trueE ?_ ?_ | refine S_trueB ?_ ?_ | refine S_trueL ?_ ?_ | refine S_trueD ?_ ?_ | refine S_trueN ?_ ?_)); · (first | rfl | omega | exact decide_eq_true (by omega) | (rw [beq_iff_eq]; omega) | (rw [bne_iff_ne]; omega)))
 | refine S_unG rfl rfl rfl rfl ?_
 | refine S_offG (.v (.bool false)) rfl rfl rfl rfl rfl ?_
 | ((with_reducible refine S_trueO ?_ ?_); · first | rfl | (simp only [Bool.or_eq_true, decide_eq_true_eq, beq_iff_eq, bne_iff_ne]; omega))
 | refine S_nil ?_
 | refine S_runN rfl rfl obQ obQ ?_
     )
 | (refine G_id ?_; first
 | refine G_then ?_
 | refine G_thenR ?_
 | refine G_ret rfl obQ (fun w hw => ⟨?_, hw.below⟩)
     )
     )
    all_goals rfl
  by_cases h9 : 9 < s.size
  · have hF : digF s = false := by unfold digF; rw [decide_eq_false (show ¬ s.size ≤ 9 by omega), Bool.and_false, Bool.false_and]
    rw [digR_no hF]
    repeat' (first
 | (refine C_id ?_; first
 | refine C_seq ?_
 | refine C_region rfl ?_
 | refine C_block ?_
 | refine C_skip ?_
 | refine C_ret0 ?_
 | refine C_condT rfl obQ ?_
 | refine C_condF rfl obQ ?_
     )
 | (refine S_id ?_; first
 | ((with_reducible (first | refine S_falseN ?_ ?_ | refine S_falseB ?_ ?_ | refine S_falseL ?_ ?_ | refine S_falseD ?_ ?_ | refine S_falseE ?_ ?_)); · (first | rfl | omega | exact decide_eq_false (by omega) | (rw [beq_eq_false_iff_ne]; omega) | (rw [bne_eq_false_iff_eq]; omega)))
 | ((with_reducible refine S_falseO ?_ ?_ ?_); (· rfl); (· first | rfl | (first | rfl | omega | exact decide_eq_false (by omega) | (rw [beq_eq_false_iff_ne]; omega) | (rw [bne_eq_false_iff_eq]; omega))))
 | ((with_reducible (first | refine S_trueE ?_ ?_ | refine S_trueB ?_ ?_ | refine S_trueL ?_ ?_ | refine S_trueD ?_ ?_ | refine S_trueN ?_ ?_)); · (first | rfl | omega | exact decide_eq_true (by omega) | (rw [beq_iff_eq]; omega) | (rw [bne_iff_ne]; omega)))
 | refine S_unG rfl rfl rfl rfl ?_
 | refine S_offG (.v (.bool false)) rfl rfl rfl rfl rfl ?_
 | ((with_reducible refine S_trueO ?_ ?_); · first | rfl | (simp only [Bool.or_eq_true, decide_eq_true_eq, beq_iff_eq, bne_iff_ne]; omega))
 | refine S_nil ?_
 | refine S_runN rfl rfl obQ obQ ?_
     )
 | (refine G_id ?_; first
 | refine G_then ?_
 | refine G_thenR ?_
 | refine G_ret rfl obQ (fun w hw => ⟨?_, hw.below⟩)
     )
     )
    all_goals rfl
  by_cases hz : 1 < s.size ∧ byteAt s 0 = 48
  · obtain ⟨hz1, hz2⟩ := hz
    have hF : digF s = false := by unfold digF; rw [decide_eq_true hz1, hz2]; simp
    rw [digR_no hF]
    repeat' (first
 | (refine C_id ?_; first
 | refine C_seq ?_
 | refine C_region rfl ?_
 | refine C_block ?_
 | refine C_skip ?_
 | refine C_ret0 ?_
 | refine C_condT rfl obQ ?_
 | refine C_condF rfl obQ ?_
     )
 | (refine S_id ?_; first
 | ((with_reducible (first | refine S_falseN ?_ ?_ | refine S_falseB ?_ ?_ | refine S_falseL ?_ ?_ | refine S_falseD ?_ ?_ | refine S_falseE ?_ ?_)); · (first | rfl | omega | exact decide_eq_false (by omega) | (rw [beq_eq_false_iff_ne]; omega) | (rw [bne_eq_false_iff_eq]; omega)))
 | ((with_reducible refine S_falseO ?_ ?_ ?_); (· rfl); (· first | rfl | (first | rfl | omega | exact decide_eq_false (by omega) | (rw [beq_eq_false_iff_ne]; omega) | (rw [bne_eq_false_iff_eq]; omega))))
 | ((with_reducible (first | refine S_trueE ?_ ?_ | refine S_trueB ?_ ?_ | refine S_trueL ?_ ?_ | refine S_trueD ?_ ?_ | refine S_trueN ?_ ?_)); · (first | rfl | omega | exact decide_eq_true (by omega) | (rw [beq_iff_eq]; omega) | (rw [bne_iff_ne]; omega)))
 | refine S_unG rfl rfl rfl rfl ?_
 | ((with_reducible refine S_trueO ?_ ?_); · first | rfl | (simp only [Bool.or_eq_true, decide_eq_true_eq, beq_iff_eq, bne_iff_ne]; omega))
 | refine S_pure (idxB (j := 0) rfl obQ rfl rfl rfl (by omega)) ?_
 | refine S_nil ?_
 | refine S_runN rfl rfl obQ obQ ?_
     )
 | (refine G_id ?_; first
 | refine G_then ?_
 | refine G_thenR ?_
 | refine G_ret rfl obQ (fun w hw => ⟨?_, hw.below⟩)
     )
     )
    all_goals rfl
  have hF : digF s = true := by
    unfold digF
    have a1 : (s.size == 0) = false := by rw [beq_eq_false_iff_ne]; exact h0
    rw [a1, decide_eq_true (show s.size ≤ 9 by omega)]
    simp only [Bool.not_false, Bool.true_and, Bool.not_eq_true', Bool.and_eq_false_iff, decide_eq_false_iff_not, beq_eq_false_iff_ne]
    omega
  have hlp : ∀ (hq : allD s s.size = allD s s.size), True := fun _ => trivial
  by_cases h1 : 1 < s.size
  · have hb0 : ¬ byteAt s 0 = 48 := fun e => hz ⟨h1, e⟩
    repeat' (first
 | (refine C_id ?_; first
 | refine C_seq ?_
 | refine C_region rfl ?_
 | refine C_block ?_
 | refine C_skip ?_
 | refine C_ret0 ?_
 | refine C_condT rfl obQ ?_
 | refine C_condF rfl obQ ?_
     )
 | (refine S_id ?_; first
 | ((with_reducible (first | refine S_falseN ?_ ?_ | refine S_falseB ?_ ?_ | refine S_falseL ?_ ?_ | refine S_falseD ?_ ?_ | refine S_falseE ?_ ?_)); · (first | rfl | omega | exact decide_eq_false (by omega) | (rw [beq_eq_false_iff_ne]; omega) | (rw [bne_eq_false_iff_eq]; omega)))
 | ((with_reducible refine S_falseO ?_ ?_ ?_); (· rfl); (· first | rfl | (first | rfl | omega | exact decide_eq_false (by omega) | (rw [beq_eq_false_iff_ne]; omega) | (rw [bne_eq_false_iff_eq]; omega))))
 | ((with_reducible (first | refine S_trueE ?_ ?_ | refine S_trueB ?_ ?_ | refine S_trueL ?_ ?_ | refine S_trueD ?_ ?_ | refine S_trueN ?_ ?_)); · (first | rfl | omega | exact decide_eq_true (by omega) | (rw [beq_iff_eq]; omega) | (rw [bne_iff_ne]; omega)))
 | refine S_unG rfl rfl rfl rfl ?_
 | ((with_reducible refine S_trueO ?_ ?_); · first | rfl | (simp only [Bool.or_eq_true, decide_eq_true_eq, beq_iff_eq, bne_iff_ne]; omega))
 | refine S_pure (idxB (j := 0) rfl obQ rfl rfl rfl (by omega)) ?_
 | refine S_nil ?_
 | refine S_runN rfl rfl obQ obQ ?_
     )
 | (refine G_id ?_; first
 | refine G_then ?_
 | refine G_thenR ?_
 | refine G_ret rfl obQ (fun w hw => ⟨?_, hw.below⟩)
     )
     )
    refine C_loopS (fun k : Nat => ⟨[(0, .s (.v (.string s))), (4, .s (.v (.int .i64 (digN s k)))), (5, .s (.v (.int .i64 k)))], [], []⟩) (fun k => k ≤ s.size ∧ allD s k = true) (fun k => s.size - k) 0 ⟨Nat.zero_le _, rfl⟩ ?_ (fun k hk => ?_)
    · exact ⟨⟨_, rfl, obQ⟩, ⟨_, rfl⟩, rfl, pstQ⟩
    obtain ⟨hk1, hk2⟩ := hk
    dsimp only
    have hbd := digN_9 hk2 (by omega)
    by_cases hlt : k < s.size
    · cases hd : digB (byteAt s k)
      · rw [digR_bad hlt hd]
        repeat' (first
 | (refine C_id ?_; first
 | refine C_seq ?_
 | refine C_region rfl ?_
 | refine C_block ?_
 | refine C_skip ?_
 | refine C_ret0 ?_
 | refine C_condT rfl obQ ?_
         )
 | (refine S_id ?_; first
 | ((with_reducible (first | refine S_trueE ?_ ?_ | refine S_trueB ?_ ?_ | refine S_trueL ?_ ?_ | refine S_trueD ?_ ?_ | refine S_trueN ?_ ?_)); · (first | rfl | omega | exact decide_eq_true (by omega) | (rw [beq_iff_eq]; omega) | (rw [bne_iff_ne]; omega)))
 | refine S_pure (idxB (j := k) rfl obQ rfl rfl rfl hlt) ?_
 | refine S_nil ?_
 | refine S_runN rfl rfl obQ obQ ?_
 | refine S_call (f := 213) rfl obQ (by kernel_rfl) (fun w hw => rDigK_c hd w) ?_
         )
 | (refine G_id ?_; first
 | refine G_then ?_
 | refine G_blockR ?_
 | refine G_thenR ?_
 | refine G_ret rfl obQ (fun w hw => ⟨?_, hw.below⟩)
         )
         )
        all_goals rfl
      · have hc := dig_c hd
        have hal : allD s (k + 1) = true := by rw [allD_s, hk2, hd]; rfl
        have hst : digN s (k + 1) = 10 * digN s k + ((byteAt s k : Int) - 48) := rfl
        repeat' (first
 | (refine C_id ?_; first
 | refine C_seq ?_
 | refine C_region rfl ?_
 | refine C_block ?_
 | refine C_skip ?_
 | refine C_condT rfl obQ ?_
 | refine C_condF rfl obQ ?_
         )
 | (refine S_id ?_; first
 | ((with_reducible (first | refine S_trueE ?_ ?_ | refine S_trueB ?_ ?_ | refine S_trueL ?_ ?_ | refine S_trueD ?_ ?_ | refine S_trueN ?_ ?_)); · (first | rfl | omega | exact decide_eq_true (by omega) | (rw [beq_iff_eq]; omega) | (rw [bne_iff_ne]; omega)))
 | refine S_pure (idxB (j := k) rfl obQ rfl rfl rfl hlt) ?_
 | refine S_nil ?_
 | refine S_runN rfl rfl obQ obQ ?_
 | refine S_call (f := 213) rfl obQ (by kernel_rfl) (fun w hw => rDigK_c hd w) ?_
         )
 | (refine G_id ?_; first
 | refine G_loop (k + 1) ⟨by omega, hal⟩ (by show s.size - (k + 1) < s.size - k; omega) (by rw [hst]; exact ⟨⟨_, rfl, obQ⟩, ⟨_, rfl⟩, rfl, pstQ⟩)
 | refine G_then ?_
 | refine G_block ?_
         )
         )
    · have hke : k = s.size := by omega
      subst hke
      rw [digR_yes hF hk2]
      repeat' (first
 | (refine C_id ?_; first
 | refine C_seq ?_
 | refine C_region rfl ?_
 | refine C_exit ?_
 | refine C_ret0 ?_
 | refine C_condF rfl obQ ?_
       )
 | (refine S_id ?_; first
 | ((with_reducible (first | refine S_falseN ?_ ?_ | refine S_falseB ?_ ?_ | refine S_falseL ?_ ?_ | refine S_falseD ?_ ?_ | refine S_falseE ?_ ?_)); · (first | rfl | omega | exact decide_eq_false (by omega) | (rw [beq_eq_false_iff_ne]; omega) | (rw [bne_eq_false_iff_eq]; omega)))
 | refine S_nil ?_
 | refine S_runN rfl rfl obQ obQ ?_
       )
 | (refine G_id ?_; first
 | refine G_then ?_
 | refine G_blockX ?_
 | refine G_thenX ?_
 | refine G_ret rfl obQ (fun w hw => ⟨?_, hw.below⟩)
       )
       )
      all_goals rfl
  · repeat' (first
 | (refine C_id ?_; first
 | refine C_seq ?_
 | refine C_region rfl ?_
 | refine C_block ?_
 | refine C_skip ?_
 | refine C_ret0 ?_
 | refine C_condT rfl obQ ?_
 | refine C_condF rfl obQ ?_
     )
 | (refine S_id ?_; first
 | ((with_reducible (first | refine S_falseN ?_ ?_ | refine S_falseB ?_ ?_ | refine S_falseL ?_ ?_ | refine S_falseD ?_ ?_ | refine S_falseE ?_ ?_)); · (first | rfl | omega | exact decide_eq_false (by omega) | (rw [beq_eq_false_iff_ne]; omega) | (rw [bne_eq_false_iff_eq]; omega)))
 | ((with_reducible refine S_falseO ?_ ?_ ?_); (· rfl); (· first | rfl | (first | rfl | omega | exact decide_eq_false (by omega) | (rw [beq_eq_false_iff_ne]; omega) | (rw [bne_eq_false_iff_eq]; omega))))
 | ((with_reducible (first | refine S_trueE ?_ ?_ | refine S_trueB ?_ ?_ | refine S_trueL ?_ ?_ | refine S_trueD ?_ ?_ | refine S_trueN ?_ ?_)); · (first | rfl | omega | exact decide_eq_true (by omega) | (rw [beq_iff_eq]; omega) | (rw [bne_iff_ne]; omega)))
 | refine S_unG rfl rfl rfl rfl ?_
 | refine S_offG (.v (.bool false)) rfl rfl rfl rfl rfl ?_
 | ((with_reducible refine S_trueO ?_ ?_); · first | rfl | (simp only [Bool.or_eq_true, decide_eq_true_eq, beq_iff_eq, bne_iff_ne]; omega))
 | refine S_nil ?_
 | refine S_runN rfl rfl obQ obQ ?_
     )
 | (refine G_id ?_; first
 | refine G_then ?_
 | refine G_thenR ?_
 | refine G_ret rfl obQ (fun w hw => ⟨?_, hw.below⟩)
     )
     )
    refine C_loopS (fun k : Nat => ⟨[(0, .s (.v (.string s))), (4, .s (.v (.int .i64 (digN s k)))), (5, .s (.v (.int .i64 k)))], [], []⟩) (fun k => k ≤ s.size ∧ allD s k = true) (fun k => s.size - k) 0 ⟨Nat.zero_le _, rfl⟩ ?_ (fun k hk => ?_)
    · exact ⟨⟨_, rfl, obQ⟩, ⟨_, rfl⟩, rfl, pstQ⟩
    obtain ⟨hk1, hk2⟩ := hk
    dsimp only
    have hbd := digN_9 hk2 (by omega)
    by_cases hlt : k < s.size
    · cases hd : digB (byteAt s k)
      · rw [digR_bad hlt hd]
        repeat' (first
 | (refine C_id ?_; first
 | refine C_seq ?_
 | refine C_region rfl ?_
 | refine C_block ?_
 | refine C_skip ?_
 | refine C_ret0 ?_
 | refine C_condT rfl obQ ?_
         )
 | (refine S_id ?_; first
 | ((with_reducible (first | refine S_trueE ?_ ?_ | refine S_trueB ?_ ?_ | refine S_trueL ?_ ?_ | refine S_trueD ?_ ?_ | refine S_trueN ?_ ?_)); · (first | rfl | omega | exact decide_eq_true (by omega) | (rw [beq_iff_eq]; omega) | (rw [bne_iff_ne]; omega)))
 | refine S_pure (idxB (j := k) rfl obQ rfl rfl rfl hlt) ?_
 | refine S_nil ?_
 | refine S_runN rfl rfl obQ obQ ?_
 | refine S_call (f := 213) rfl obQ (by kernel_rfl) (fun w hw => rDigK_c hd w) ?_
         )
 | (refine G_id ?_; first
 | refine G_then ?_
 | refine G_blockR ?_
 | refine G_thenR ?_
 | refine G_ret rfl obQ (fun w hw => ⟨?_, hw.below⟩)
         )
         )
        all_goals rfl
      · have hc := dig_c hd
        have hal : allD s (k + 1) = true := by rw [allD_s, hk2, hd]; rfl
        have hst : digN s (k + 1) = 10 * digN s k + ((byteAt s k : Int) - 48) := rfl
        repeat' (first
 | (refine C_id ?_; first
 | refine C_seq ?_
 | refine C_region rfl ?_
 | refine C_block ?_
 | refine C_skip ?_
 | refine C_condT rfl obQ ?_
 | refine C_condF rfl obQ ?_
         )
 | (refine S_id ?_; first
 | ((with_reducible (first | refine S_trueE ?_ ?_ | refine S_trueB ?_ ?_ | refine S_trueL ?_ ?_ | refine S_trueD ?_ ?_ | refine S_trueN ?_ ?_)); · (first | rfl | omega | exact decide_eq_true (by omega) | (rw [beq_iff_eq]; omega) | (rw [bne_iff_ne]; omega)))
 | refine S_pure (idxB (j := k) rfl obQ rfl rfl rfl hlt) ?_
 | refine S_nil ?_
 | refine S_runN rfl rfl obQ obQ ?_
 | refine S_call (f := 213) rfl obQ (by kernel_rfl) (fun w hw => rDigK_c hd w) ?_
         )
 | (refine G_id ?_; first
 | refine G_loop (k + 1) ⟨by omega, hal⟩ (by show s.size - (k + 1) < s.size - k; omega) (by rw [hst]; exact ⟨⟨_, rfl, obQ⟩, ⟨_, rfl⟩, rfl, pstQ⟩)
 | refine G_then ?_
 | refine G_block ?_
         )
         )
    · have hke : k = s.size := by omega
      subst hke
      rw [digR_yes hF hk2]
      repeat' (first
 | (refine C_id ?_; first
 | refine C_seq ?_
 | refine C_region rfl ?_
 | refine C_exit ?_
 | refine C_ret0 ?_
 | refine C_condF rfl obQ ?_
       )
 | (refine S_id ?_; first
 | ((with_reducible (first | refine S_falseN ?_ ?_ | refine S_falseB ?_ ?_ | refine S_falseL ?_ ?_ | refine S_falseD ?_ ?_ | refine S_falseE ?_ ?_)); · (first | rfl | omega | exact decide_eq_false (by omega) | (rw [beq_eq_false_iff_ne]; omega) | (rw [bne_eq_false_iff_eq]; omega)))
 | refine S_nil ?_
 | refine S_runN rfl rfl obQ obQ ?_
       )
 | (refine G_id ?_; first
 | refine G_then ?_
 | refine G_blockX ?_
 | refine G_thenX ?_
 | refine G_ret rfl obQ (fun w hw => ⟨?_, hw.below⟩)
       )
       )
      all_goals rfl

set_option maxHeartbeats 1000000 in
/-- genlockref01.Signed -/
theorem rSigned_c (s : ByteArray) (hs : s.size ≤ maxLen) (w : World) : Calls Tryz.prog 210 #[.string s] w fun r w' => r = .returned (.tuple #[.int .i64 (sgnR s).1, .bool (sgnR s).2]) ∧ Below w.heap.size w w' := by
  refine calls_of (args := [.string s]) T_ok Tryz.func210 rfl Tryz.ntmps210 (Nat.le_of_ble_eq_true rfl) rfl ?_
  unfold maxLen at hs
  have hbd := digR_bd (s.extract 1 s.size)
  have hse : (s.extract 1 s.size).size ≤ maxLen := by rw [ByteArray.size_extract]; unfold maxLen; omega
  by_cases h0 : s.size = 0
  · have e : sgnR s = digR s := if_neg (by omega)
    rw [e]
    repeat' (first
 | (refine C_id ?_; first
 | refine C_seq ?_
 | refine C_region rfl ?_
 | refine C_skip ?_
 | refine C_ret0 ?_
 | refine C_condF rfl obQ ?_
     )
 | (refine S_id ?_; first
 | ((with_reducible (first | refine S_falseN ?_ ?_ | refine S_falseB ?_ ?_ | refine S_falseL ?_ ?_ | refine S_falseD ?_ ?_ | refine S_falseE ?_ ?_)); · (first | rfl | omega | exact decide_eq_false (by omega) | (rw [beq_eq_false_iff_ne]; omega) | (rw [bne_eq_false_iff_eq]; omega)))
 | refine S_offG (.v (.bool false)) rfl rfl rfl rfl rfl ?_
 | ((with_reducible refine S_falseA ?_ ?_); · first | rfl | (simp only [Bool.and_eq_false_iff, decide_eq_false_iff_not, beq_eq_false_iff_ne, bne_eq_false_iff_eq]; omega))
 | refine S_nil ?_
 | refine S_runN rfl rfl obQ obQ ?_
 | refine S_call (f := 227) rfl obQ (by kernel_rfl) (fun w hw => rDigits_c s (by unfold maxLen; omega) w) ?_
     )
 | (refine G_id ?_; first
 | refine G_then ?_
 | refine G_ret rfl obQ (fun w hw => ⟨?_, hw.below⟩)
     )
     )
    all_goals rfl
  by_cases h1 : byteAt s 0 = 45
  · have e : sgnR s = (0 - (digR (s.extract 1 s.size)).1, (digR (s.extract 1 s.size)).2 && decide (0 < (digR (s.extract 1 s.size)).1)) := if_pos ⟨by omega, h1⟩
    rw [e]
    repeat' (first
 | (refine C_id ?_; first
 | refine C_seq ?_
 | refine C_region rfl ?_
 | refine C_ret0 ?_
 | refine C_condT rfl obQ ?_
     )
 | (refine S_id ?_; first
 | ((with_reducible (first | refine S_trueE ?_ ?_ | refine S_trueB ?_ ?_ | refine S_trueL ?_ ?_ | refine S_trueD ?_ ?_ | refine S_trueN ?_ ?_)); · (first | rfl | omega | exact decide_eq_true (by omega) | (rw [beq_iff_eq]; omega) | (rw [bne_iff_ne]; omega)))
 | ((with_reducible refine S_trueA ?_ ?_ ?_); (· rfl); (· first | rfl | (first | rfl | omega | exact decide_eq_true (by omega) | (rw [beq_iff_eq]; omega) | (rw [bne_iff_ne]; omega))))
 | refine S_unG rfl rfl rfl rfl ?_
 | refine S_pure (idxB (j := 0) rfl obQ rfl rfl rfl (by omega)) ?_
 | refine S_pure (sliceX_pure rfl obQ (fun w => sl_from rfl rfl s _ _ 1 rfl (by omega) w)) ?_
 | refine S_nil ?_
 | refine S_runN rfl rfl obQ obQ ?_
 | refine S_call (f := 227) rfl obQ (by kernel_rfl) (fun w hw => rDigits_c _ hse w) ?_
     )
 | (refine G_id ?_; first
 | refine G_then ?_
 | refine G_thenR ?_
 | refine G_ret rfl obQ (fun w hw => ⟨?_, hw.below⟩)
     )
     )
    all_goals rfl
  · have e : sgnR s = digR s := if_neg (by omega)
    rw [e]
    repeat' (first
 | (refine C_id ?_; first
 | refine C_seq ?_
 | refine C_region rfl ?_
 | refine C_skip ?_
 | refine C_ret0 ?_
 | refine C_condF rfl obQ ?_
     )
 | (refine S_id ?_; first
 | ((with_reducible (first | refine S_trueE ?_ ?_ | refine S_trueB ?_ ?_ | refine S_trueL ?_ ?_ | refine S_trueD ?_ ?_ | refine S_trueN ?_ ?_)); · (first | rfl | omega | exact decide_eq_true (by omega) | (rw [beq_iff_eq]; omega) | (rw [bne_iff_ne]; omega)))
 | refine S_unG rfl rfl rfl rfl ?_
 | ((with_reducible refine S_falseA ?_ ?_); · first | rfl | (simp only [Bool.and_eq_false_iff, decide_eq_false_iff_not, beq_eq_false_iff_ne, bne_eq_false_iff_eq]; omega))
 | refine S_pure (idxB (j := 0) rfl obQ rfl rfl rfl (by omega)) ?_
 | refine S_nil ?_
 | refine S_runN rfl rfl obQ obQ ?_
 | refine S_call (f := 227) rfl obQ (by kernel_rfl) (fun w hw => rDigits_c s (by unfold maxLen; omega) w) ?_
     )
 | (refine G_id ?_; first
 | refine G_then ?_
 | refine G_ret rfl obQ (fun w hw => ⟨?_, hw.below⟩)
     )
     )
    all_goals rfl

end Go.Proofs.YtdbffbcobghbeaaGreatDoor
namespace Go.Proofs.YtdbffbcobghbeaaGreatDoor
open Go.E Go.RowKit Go.Fl
attribute [local irreducible] G C S D Calls
set_option maxRecDepth 100000
set_option linter.unusedSimpArgs false
set_option linter.unusedVariables false

/-- A string between two places. -/
theorem sl_mid {X : Cx} {t : TypeId} {ti : TI} (hl : Go.E.look X.T t = some ti) (hk : ti.k = .str) (s : ByteArray) (k k' : IntKind) (z y : Int) (i j : Nat) (hz : z = (i : Int)) (hy : y = (j : Int)) (h1 : i ≤ j) (h2 : j ≤ s.size) (w : World) :
    (Instr.sliceAt t (.string s) (some (.int k z)) (some (.int k' y)) none).run X.P w = .ok (.string (s.extract i j)) w := by
  subst hz hy
  obtain ⟨i', dd, z, hi, hu, hz, rfl⟩ := X.hT.row hl
  have hd := kOf_str hk
  subst hd
  have := run_slice_string (P := X.P) (w := w) t s k k' (i : Int) (j : Int) hu (by omega) (by omega) (by omega)
  rw [run_sliceAt_string w t _ _ _ _ hu, this, Int.toNat_natCast, Int.toNat_natCast]
/-- The parts of the first bytes, and the last of them. -/
def splS (s : ByteArray) (c : Nat) : Nat → List ByteArray × ByteArray
  | 0 => ([], ByteArray.empty)
  | k + 1 => if byteAt s k = c then ((splS s c k).1 ++ [(splS s c k).2], ByteArray.empty) else ((splS s c k).1, (splS s c k).2 ++ s.extract k (k + 1))
def splR (s : ByteArray) (c : Nat) : List ByteArray := (splS s c s.size).1 ++ [(splS s c s.size).2]
theorem spl_at {pre : List ByteArray} {a : ByteArray} {m : Nat} (h : m = pre.length) : ((pre ++ [a]).map Value.string)[m]? = some (.string a) := by
  subst h
  simp
theorem spl_ld {pre : List ByteArray} {a : ByteArray} {m : Nat} (h : m = pre.length) : ∀ (j : Nat) (u : Value), ([.string a] : List Value)[j]? = some u → ((pre ++ [a]).map Value.string)[m + j]? = some u := by
  intro j u hu
  cases j with
  | succ j => simp at hu
  | zero =>
    cases hu
    exact spl_at h
theorem spl_put {pre : List ByteArray} {a b : ByteArray} {m : Nat} (h : m = pre.length) : (pre ++ [b]).map Value.string = ((pre ++ [a]).map Value.string).take m ++ ([Value.string b] ++ ((pre ++ [a]).map Value.string).drop (m + 1)) := by
  subst h
  simp [List.take_append, List.drop_append]

set_option maxHeartbeats 1000000 in
/-- genlockref01.Split -/
theorem rSplit_c (s : ByteArray) (hs : s.size ≤ 1000000) (c : Nat) (hc : c ≤ 255) (w : World) : Calls Tryz.prog 106 #[.string s, .int .u8 (c : Int)] w fun r w' => ∃ v, r = .returned v ∧ Below w.heap.size w w' ∧ Sl w w' v (splR s c).length ((splR s c).map .string) := by
  refine calls_of (args := [.string s, .int .u8 (c : Int)]) T_ok Tryz.func106 rfl Tryz.ntmps106 (Nat.le_of_ble_eq_true rfl) rfl ?_
  repeat' (first
 | (refine C_id ?_; first
 | refine C_seq ?_
 | refine C_region rfl ?_
 | refine C_block ?_
 )
 | (refine S_id ?_; first
 | refine S_nil ?_
 | refine S_run rfl rfl obQ obQ ?_
 | refine S_slice (fun b => ⟨_, _, rfl, obQ, ?_⟩)
 )
 | (refine G_id ?_; first
 | refine G_then ?_
 )
 )
  refine C_boxRow 5 1 1 (bx' := []) rfl rfl (xs := ([ByteArray.empty] : List ByteArray).map .string) rfl rfl (by unfold maxLen; omega) ?_
  refine C_loopS (fun i : Nat × Nat × List ByteArray × ByteArray × Nat × Nat => ⟨[(0, .s (.v (.string s))), (1, .s (.v (.int .u8 (c : Int)))), (5, .s (.r (some ⟨i.2.2.2.2.1, 0, none⟩) i.2.1 i.2.2.2.2.2 0)), (6, .s (.v (.int .i64 i.1)))], [], [⟨9, 1, i.2.1, (i.2.2.1 ++ [i.2.2.2.1]).map .string, .slice (some ⟨i.2.2.2.2.1, 0, none⟩) i.2.1 i.2.2.2.2.2⟩]⟩) (fun i => i.1 ≤ s.size ∧ splS s c i.1 = (i.2.2.1, i.2.2.2.1) ∧ i.2.1 = i.2.2.1.length + 1 ∧ i.2.2.1.length ≤ i.1 ∧ i.2.2.2.1.size ≤ i.1) (fun i => s.size - i.1) (0, 1, [], ByteArray.empty, b, 1) ⟨Nat.zero_le _, rfl, rfl, Nat.le_refl _, Nat.le_refl _⟩ ?_ (fun i hi => ?_)
  · exact ⟨⟨_, rfl, obQ⟩, ⟨_, rfl⟩, rfl, pstQ⟩
  obtain ⟨k, nn, pre, last, g, cap⟩ := i
  obtain ⟨hk, hsp, hn, hpl, hll⟩ := hi
  dsimp only at hk hsp hn hpl hll ⊢
  subst hn
  by_cases hlt : k < s.size
  · by_cases he : byteAt s k = c
    · have h2 : splS s c (k + 1) = (pre ++ [last], ByteArray.empty) := by
        rw [splS, if_pos he, hsp]
      repeat' (first
 | (refine C_id ?_; first
 | refine C_seq ?_
 | refine C_region rfl ?_
 | refine C_block ?_
 | refine C_skip ?_
 | refine C_exit ?_
 | refine C_condT rfl obQ ?_
       )
 | (refine S_id ?_; first
 | ((with_reducible (first | refine S_trueE ?_ ?_ | refine S_trueB ?_ ?_ | refine S_trueL ?_ ?_ | refine S_trueD ?_ ?_ | refine S_trueN ?_ ?_)); · (first | rfl | omega | exact decide_eq_true (by omega) | (rw [beq_iff_eq]; omega)))
 | refine S_pure (idxB (j := k) rfl obQ rfl rfl rfl hlt) ?_
 | refine S_append rfl obQ rfl rfl rfl ⟨by decide, rfl⟩ rfl ⟨rfl, rfl, rfl, rfl⟩ [.string ByteArray.empty] ⟨by decide, rfl⟩ (by simp [Value.oneCell']) (fun w hw => by first | exact hw.src (i := 0) rfl rfl | exact hw.src (i := 1) rfl rfl | exact hw.src (i := 2) rfl rfl | exact hw.src (i := 3) rfl rfl | exact hw.src (i := 4) rfl rfl | exact hw.src (i := 5) rfl rfl | exact hw.src (i := 6) rfl rfl | exact hw.src (i := 7) rfl rfl | exact hw.src (i := 8) rfl rfl) (by unfold maxLen; dsimp only; omega) (fun gb cap' => ⟨_, rfl, ?_⟩)
 | refine S_nil ?_
 | refine S_run rfl rfl obQ obQ ?_
 | refine S_slice (fun b => ⟨_, _, rfl, obQ, ?_⟩)
       )
 | (refine G_id ?_; first
 | refine G_loop (k + 1, pre.length + 1 + 1, pre ++ [last], ByteArray.empty, gb, cap') ⟨by omega, h2, by simp, by simp; omega, Nat.zero_le _⟩ (by show s.size - (k + 1) < s.size - k; omega) ⟨⟨_, rfl, obQ⟩, ⟨_, rfl⟩, (by dsimp only; simp), pstQ⟩
 | refine G_then ?_
 | refine G_blockX ?_
 | refine G_thenX ?_
       )
       )
    · have h2 : splS s c (k + 1) = (pre, last ++ s.extract k (k + 1)) := by
        rw [splS, if_neg he, hsp]
      have hsz : (last ++ s.extract k (k + 1)).size ≤ k + 1 := by rw [ByteArray.size_append, ByteArray.size_extract]; omega
      repeat' (first
 | (refine C_id ?_; first
 | refine C_seq ?_
 | refine C_region rfl ?_
 | refine C_block ?_
 | refine C_skip ?_
 | refine C_drawT (id := 7) 17 rfl mixed (by kernel_rfl) rfl rfl ?_
 | refine C_condT rfl obQ ?_
 | refine C_condF rfl obQ ?_
       )
 | (refine S_id ?_; first
 | ((with_reducible (first | refine S_falseN ?_ ?_ | refine S_falseB ?_ ?_ | refine S_falseL ?_ ?_ | refine S_falseD ?_ ?_ | refine S_falseE ?_ ?_)); · (first | rfl | omega | exact decide_eq_false (by omega) | (rw [beq_eq_false_iff_ne]; omega)))
 | ((with_reducible (first | refine S_trueE ?_ ?_ | refine S_trueB ?_ ?_ | refine S_trueL ?_ ?_ | refine S_trueD ?_ ?_ | refine S_trueN ?_ ?_)); · (first | rfl | omega | exact decide_eq_true (by omega) | (rw [beq_iff_eq]; omega)))
 | refine S_pure (idxB (j := k) rfl obQ rfl rfl rfl hlt) ?_
 | refine S_storeRow rfl obQ rfl rfl rfl 0 rfl rfl ((((pre.length + 1 : Nat) : Int) - 1).toNat * 1) rfl (by dsimp only; simp) (xs' := (pre ++ [last ++ s.extract k (k + 1)]).map .string) (spl_put (by omega)) rfl ?_
 | refine S_nil ?_
 | refine S_run rfl rfl obQ obQ ?_
       )
 | (refine D_id ?_; first
 | refine D_load rfl obQ rfl [.string last] (.row 0 _ rfl g (pre.length + 1) cap ((((pre.length + 1 : Nat) : Int) - 1).toNat * 1) rfl rfl (spl_ld (by omega))) rfl (.inr ⟨rfl, rfl⟩) ?_
 | refine D_pure (sliceX_pure rfl obQ (fun w => sl_mid rfl rfl s _ _ _ _ k (k + 1) rfl (by omega) (by omega) (by omega) w)) ?_
 | refine D_pure (binX_pure rfl obQ (fun w => cat_str _ _ _ _ _ (by rw [ByteArray.size_extract]; omega) w)) ?_
 | refine D_tail ?_
 | refine D_run rfl rfl obQ obQ ?_
       )
 | (refine G_id ?_; first
 | refine G_loop (k + 1, pre.length + 1, pre, last ++ s.extract k (k + 1), g, cap) ⟨by omega, h2, rfl, by show pre.length ≤ k + 1; omega, hsz⟩ (by show s.size - (k + 1) < s.size - k; omega) ⟨⟨_, rfl, obQ⟩, ⟨_, rfl⟩, rfl, pstQ⟩
 | refine G_then ?_
 | refine G_block ?_
       )
       )
  · have hke : k = s.size := by omega
    subst hke
    have hR : splR s c = pre ++ [last] := by unfold splR; rw [hsp]
    rw [hR]
    repeat' (first
 | (refine C_id ?_; first
 | refine C_seq ?_
 | refine C_region rfl ?_
 | refine C_exit ?_
 | refine C_ret0 ?_
 | (refine C_cond rfl obQ (fun h => ?_) (fun h => ?_) <;> (try simp only [Bool.or_eq_true, Bool.and_eq_true, Bool.or_eq_false_iff, Bool.and_eq_false_iff, decide_eq_true_eq, decide_eq_false_iff_not, beq_iff_eq, bne_iff_ne, beq_eq_false_iff_ne, bne_eq_false_iff_eq, ne_eq, Decidable.not_not, List.cons.injEq, and_true, Bool.not_eq_true', Bool.not_eq_false', Int.not_lt, Int.not_le] at h) <;> (try (exfalso; omega)) <;> (try (exfalso; simp at h; done)) <;> (try (exfalso; simp only [not_true_eq_false, false_or, or_false] at h; omega)) <;> (try contradiction))
     )
 | (refine S_id ?_; first
 | refine S_nil ?_
 | refine S_run rfl rfl obQ obQ ?_
     )
 | (refine G_id ?_; first
 | refine G_then ?_
 | refine G_blockX ?_
 | refine G_thenX ?_
 | refine G_ret rfl obQ (fun w2 hw => ⟨_, rfl, hw.below, HW.rowSl (i := 0) hw rfl rfl (by simp) rfl⟩)
     )
     )

end Go.Proofs.YtdbffbcobghbeaaGreatDoor
namespace Go.Proofs.YtdbffbcobghbeaaGreatDoor
open Go.E Go.RowKit Go.Fl
attribute [local irreducible] G C S D DY DS V VT Yl QV QT Calls
set_option maxRecDepth 100000
set_option linter.unusedSimpArgs false
set_option linter.unusedVariables false

/-- A conversion that reads the memory. -/
theorem convM_pure {X : Cx} {Ps : Past} {σ : St} {o : Oper} {s t : TypeId} {a : Value} {d : Nat} {ob : List Prop} (h : oneX X.N o σ = some (.conv s t, a, d, ob)) (hob : AllP ob) {v : Value} (hr : ∀ w, HW X.B X.w0 Ps ⟨[], σ.bx, σ.rw⟩ w → (convert s t a).run X.P w = .ok v w) : Pure X Ps σ o (.v v) d := by
  obtain ⟨hg, hd, hlt, hx⟩ := oneX_exec h hob
  exact ⟨hg, hd, hlt, fun a w ha hw => hx ha (hr w hw)⟩
/-- A string of one byte. -/
def oneB (z : Int) : ByteArray := ⟨#[UInt8.ofNat z.toNat]⟩
theorem cv_one {P : Program} {w : World} {s t e : TypeId} (hs : P.underlying s = some (.slice e)) (he : P.underlying e = some (.int .u8)) (hd : P.underlying t = some .string) {b : Nat} {z : Int} (h : 0 ≤ z ∧ z ≤ 255)
    (hc : ∀ (j : Nat) (u : Value), ([.int .u8 z] : List Value)[j]? = some u → w.cell? ((⟨b, 0, none⟩ : Addr).add j) = some u) : (convert s t (.slice (some ⟨b, 0, none⟩) 1 1)).run P w = .ok (.string (oneB z)) w := by
  refine run_convert_bytes_back (P := P) w s t e ⟨b, 0, none⟩ 1 [UInt8.ofNat z.toNat] hs he hd (fun j hj => ?_)
  have : j = 0 := by simpa using hj
  subst this
  refine hc 0 _ ?_
  have h2 : z.toNat % 256 = z.toNat := Nat.mod_eq_of_lt (by omega)
  simp [h2]
  omega
theorem it_dig {n : Int} (h : 0 ≤ n ∧ n < 10) : itB n = oneB (48 + n) := by
  unfold itB Lib.itoa oneB
  rw [if_neg (by omega)]
  unfold Lib.decDigits
  rw [dif_pos (show n.toNat < 10 by omega), show (48 + n).toNat = 48 + n.toNat by omega]
theorem it_pos {n : Int} (h : 10 ≤ n) : itB n = itB (n / 10) ++ oneB (48 + n % 10) := by
  unfold itB Lib.itoa oneB
  rw [if_neg (by omega), if_neg (by omega), Lib.decDigits, dif_neg (by omega), show (n / 10).toNat = n.toNat / 10 by omega, show (48 + n % 10).toNat = 48 + n.toNat % 10 by omega]
  ext1
  simp
theorem it_neg1 {n : Int} (h : -10 < n ∧ n < 0) : itB n = (⟨#[45]⟩ : ByteArray) ++ itB (0 - n) := by
  unfold itB Lib.itoa
  rw [if_pos h.2, if_neg (by omega), show (0 - n).toNat = n.natAbs by omega]
  ext1
  simp
theorem td_neg {n : Int} (h : n ≤ 0) : n.tdiv 10 = -((n.natAbs / 10 : Nat) : Int) ∧ n.tmod 10 = -((n.natAbs % 10 : Nat) : Int) := by
  have e : n = -((n.natAbs : Nat) : Int) := by omega
  generalize n.natAbs = m at e
  subst e
  exact ⟨by rw [Int.neg_tdiv]; rfl, by rw [Int.neg_tmod]; rfl⟩
theorem it_neg {n : Int} (h : n ≤ -10) : itB n = itB (n.tdiv 10) ++ itB (0 - n.tmod 10) := by
  obtain ⟨h1, h2⟩ := td_neg (show n ≤ 0 by omega)
  rw [h1, h2]
  generalize hm : n.natAbs = m
  unfold itB Lib.itoa
  rw [if_pos (by omega), if_pos (by omega), if_neg (by omega), show (0 - -((m % 10 : Nat) : Int)).toNat = m % 10 by omega, Int.natAbs_neg, Int.natAbs_natCast, hm, Lib.decDigits, dif_neg (by omega)]
  have h3 : Lib.decDigits (m % 10) = [UInt8.ofNat (48 + m % 10)] := by rw [Lib.decDigits, dif_pos (by omega)]
  rw [h3]
  ext1
  simp
theorem quo_i {P : Program} (t : TypeId) (x y : Operand) {a : Int} (h : -9223372036854775808 ≤ a ∧ a ≤ 0) (w : World) : (do eqGuard .quo t x y (.int .i64 a) (.int .i64 10); binOp .quo t (.int .i64 a) (.int .i64 10) : Sem Value).run P w = .ok (.int .i64 (a.tdiv 10)) w := by
  have hr : inR .i64 (a.tdiv 10) := by
    have h1 := (td_neg h.2).1
    simp only [inR]
    omega
  simp [eqGuard_int, binOp, Op.intDiv, inR_wrap hr]
theorem rem_i {P : Program} (t : TypeId) (x y : Operand) {a : Int} (w : World) : (do eqGuard .rem t x y (.int .i64 a) (.int .i64 10); binOp .rem t (.int .i64 a) (.int .i64 10) : Sem Value).run P w = .ok (.int .i64 (a.tmod 10)) w := by
  have h1 := Int.tmod_lt_of_pos a (show 0 < 10 by omega)
  have h2 := Int.lt_tmod_of_pos a (show 0 < 10 by omega)
  have hr : inR .i64 (a.tmod 10) := by
    simp only [inR]
    omega
  simp [eqGuard_int, binOp, Op.intDiv, inR_wrap hr]
theorem it_size (n : Int) (h : -9223372036854775808 ≤ n ∧ n ≤ 9223372036854775807) : (itB n).size ≤ 21 := itB_size n h.1 h.2
/-- What the recursion measures. -/
def txM (n : Int) : Nat := 2 * n.natAbs + (if n < 0 then 1 else 0)

set_option maxHeartbeats 1000000 in
/-- genlockref01.Text -/
theorem rTextS_c (n : Int) (hn : -9223372036854775808 ≤ n ∧ n ≤ 9223372036854775807) (IH : ∀ m : Int, txM m < txM n → -9223372036854775808 ≤ m ∧ m ≤ 9223372036854775807 → ∀ W : World, Calls Tryz.prog 170 #[.int .i64 m] W fun r w' => r = .returned (.string (itB m)) ∧ Below W.heap.size W w') (w : World) : Calls Tryz.prog 170 #[.int .i64 n] w fun r w' => r = .returned (.string (itB n)) ∧ Below w.heap.size w w' := by
  refine calls_of (args := [.int .i64 n]) T_ok Tryz.func170 rfl Tryz.ntmps170 (Nat.le_of_ble_eq_true rfl) rfl ?_
  by_cases h0 : n < 0
  · by_cases h1 : -10 < n
    · rw [it_neg1 ⟨h1, h0⟩]
      repeat' (first
 | (refine C_id ?_; first
 | refine C_seq ?_
 | refine C_region rfl ?_
 | refine C_ret0 ?_
 | refine C_condT rfl obQ ?_
       )
 | (refine S_id ?_; first
 | ((with_reducible (first | refine S_trueE ?_ ?_ | refine S_trueB ?_ ?_ | refine S_trueL ?_ ?_ | refine S_trueD ?_ ?_ | refine S_trueN ?_ ?_)); · (first | rfl | omega | exact decide_eq_true (by omega)))
 | refine S_pure (binX_pure rfl obQ (fun w => cat_str _ _ _ _ _ (by have := it_size (0 - n) (by omega); show 1 + _ ≤ _; omega) w)) ?_
 | refine S_nil ?_
 | refine S_run rfl rfl obQ obQ ?_
 | refine S_call (f := 170) rfl obQ (by kernel_rfl) (fun w hw => (IH (0 - n) (by unfold txM; (repeat' split) <;> omega) (by omega) w)) ?_
       )
 | (refine G_id ?_; first
 | refine G_then ?_
 | refine G_thenR ?_
 | refine G_ret rfl obQ (fun w hw => ⟨?_, hw.below⟩)
       )
       )
      all_goals rfl
    · rw [it_neg (show n ≤ -10 by omega)]
      obtain ⟨ht1, ht2⟩ := td_neg (show n ≤ 0 by omega)
      repeat' (first
 | (refine C_id ?_; first
 | refine C_seq ?_
 | refine C_region rfl ?_
 | refine C_skip ?_
 | refine C_ret0 ?_
 | refine C_condT rfl obQ ?_
 | refine C_condF rfl obQ ?_
       )
 | (refine S_id ?_; first
 | ((with_reducible (first | refine S_falseN ?_ ?_ | refine S_falseB ?_ ?_ | refine S_falseL ?_ ?_ | refine S_falseD ?_ ?_ | refine S_falseE ?_ ?_)); · (first | rfl | omega | exact decide_eq_false (by omega)))
 | ((with_reducible (first | refine S_trueE ?_ ?_ | refine S_trueB ?_ ?_ | refine S_trueL ?_ ?_ | refine S_trueD ?_ ?_ | refine S_trueN ?_ ?_)); · (first | rfl | omega | exact decide_eq_true (by omega)))
 | refine S_pure (binX_pure rfl obQ (fun w => quo_i _ _ _ (by omega) w)) ?_
 | refine S_pure (binX_pure rfl obQ (fun w => rem_i _ _ _ w)) ?_
 | refine S_pure (binX_pure rfl obQ (fun w => cat_str _ _ _ _ _ (by have := it_size (n.tdiv 10) (by omega); have := it_size (0 - n.tmod 10) (by omega); omega) w)) ?_
 | refine S_nil ?_
 | refine S_run rfl rfl obQ obQ ?_
 | refine S_one rfl obQ ?_
 | refine S_call (f := 170) rfl obQ (by kernel_rfl) (fun w hw => (IH (n.tdiv 10) (by unfold txM; (repeat' split) <;> omega) (by omega) w)) ?_
 | refine S_call (f := 170) rfl obQ (by kernel_rfl) (fun w hw => (IH (0 - n.tmod 10) (by unfold txM; (repeat' split) <;> omega) (by omega) w)) ?_
       )
 | (refine G_id ?_; first
 | refine G_then ?_
 | refine G_thenR ?_
 | refine G_ret rfl obQ (fun w hw => ⟨?_, hw.below⟩)
       )
       )
      all_goals rfl
  · by_cases h1 : n < 10
    · rw [it_dig ⟨by omega, h1⟩]
      repeat' (first
 | (refine C_id ?_; first
 | refine C_seq ?_
 | refine C_region rfl ?_
 | refine C_skip ?_
 | refine C_ret0 ?_
 | refine C_condT rfl obQ ?_
 | refine C_condF rfl obQ ?_
       )
 | (refine S_id ?_; first
 | ((with_reducible (first | refine S_falseN ?_ ?_ | refine S_falseB ?_ ?_ | refine S_falseL ?_ ?_ | refine S_falseD ?_ ?_ | refine S_falseE ?_ ?_)); · (first | rfl | omega | exact decide_eq_false (by omega)))
 | ((with_reducible (first | refine S_trueE ?_ ?_ | refine S_trueB ?_ ?_ | refine S_trueL ?_ ?_ | refine S_trueD ?_ ?_ | refine S_trueN ?_ ?_)); · (first | rfl | omega | exact decide_eq_true (by omega)))
 | refine S_pure (convM_pure rfl obQ (fun w hw => cv_one (e := 5) (by kernel_rfl) (by kernel_rfl) (by kernel_rfl) (z := 48 + n) (by omega) (hw.src (i := 0) rfl rfl))) ?_
 | refine S_nil ?_
 | refine S_run rfl rfl obQ obQ ?_
 | refine S_slice (fun b => ⟨_, _, rfl, obQ, ?_⟩)
       )
 | (refine G_id ?_; first
 | refine G_then ?_
 | refine G_thenR ?_
 | refine G_ret rfl obQ (fun w hw => ⟨?_, hw.below⟩)
       )
       )
      all_goals rfl
    · rw [it_pos (show 10 ≤ n by omega)]
      repeat' (first
 | (refine C_id ?_; first
 | refine C_seq ?_
 | refine C_region rfl ?_
 | refine C_skip ?_
 | refine C_ret0 ?_
 | refine C_drawTr0 (id := 7) 9 (.q 0 (.q 1 (.q 3 (.q 4 (.q 5 (.q 6 (.two 2 7 (.n 7 (.n 8 .nil)) (.two 2 8 (.n 8 .nil) (.n 2 .nil))))))))) rfl mixed (by kernel_rfl) rfl ?_
 | refine C_condF rfl obQ ?_
       )
 | (refine S_id ?_; first
 | ((with_reducible (first | refine S_falseN ?_ ?_ | refine S_falseB ?_ ?_ | refine S_falseL ?_ ?_ | refine S_falseD ?_ ?_ | refine S_falseE ?_ ?_)); · (first | rfl | omega | exact decide_eq_false (by omega)))
 | refine S_pure (convM_pure rfl obQ (fun w hw => cv_one (e := 5) (by kernel_rfl) (by kernel_rfl) (by kernel_rfl) (z := 48 + n % 10) (by omega) (hw.src (i := 0) rfl rfl))) ?_
 | refine S_pure (binX_pure rfl obQ (fun w => cat_str _ _ _ _ _ (by have := it_size (n / 10) (by omega); show _ + 1 ≤ _; omega) w)) ?_
 | refine S_nil ?_
 | refine S_run rfl rfl obQ obQ ?_
 | refine S_slice (fun b => ⟨_, _, rfl, obQ, ?_⟩)
 | refine S_call (f := 170) rfl obQ (by kernel_rfl) (fun w hw => (IH (n / 10) (by unfold txM; (repeat' split) <;> omega) (by omega) w)) ?_
       )
 | (refine VT_id ?_; first
 | refine VT_nil ?_
 | refine VT_q rfl (Yl_step rfl obQ) ?_
 | refine VT_n rfl ?_
 | refine VT_two rfl rfl ?_ ?_
       )
 | (refine G_id ?_; first
 | refine G_VT2 ⟨_, rfl⟩ ⟨_, rfl⟩ pstQ rfl ?_
 | refine G_then ?_
 | refine G_ret rfl obQ (fun w hw => ⟨?_, hw.below⟩)
       )
       )
      all_goals rfl

theorem rText_c (n : Int) (hn : -9223372036854775808 ≤ n ∧ n ≤ 9223372036854775807) (w : World) : Calls Tryz.prog 170 #[.int .i64 n] w fun r w' => r = .returned (.string (itB n)) ∧ Below w.heap.size w w' := by
  suffices h : ∀ (k : Nat) (m : Int), txM m < k → -9223372036854775808 ≤ m ∧ m ≤ 9223372036854775807 → ∀ W : World, Calls Tryz.prog 170 #[.int .i64 m] W fun r w' => r = .returned (.string (itB m)) ∧ Below W.heap.size W w' from h (txM n + 1) n (Nat.lt_succ_self _) hn w
  intro k
  induction k with
  | zero => intro m h; omega
  | succ k ih => exact fun m h hm W => rTextS_c m hm (fun m' h' hm' W' => ih m' (by omega) hm' W') W

end Go.Proofs.YtdbffbcobghbeaaGreatDoor
namespace Go.Proofs.YtdbffbcobghbeaaGreatDoor
open Go.E Go.RowKit Go.Fl
attribute [local irreducible] G C S D Calls
set_option maxRecDepth 100000
set_option linter.unusedSimpArgs false
set_option linter.unusedVariables false

def sCurveS : ByteArray := ⟨#[99, 117, 114, 118, 101, 32]⟩
def sPointS : ByteArray := ⟨#[112, 111, 105, 110, 116, 32]⟩
/-- The text of the first points. -/
def prP (l : List Pt) : Nat → ByteArray
  | 0 => (sCurveS ++ itB (l.length : Int)) ++ sNl
  | k + 1 => ((((prP l k ++ sPointS) ++ itB (gP l k).1) ++ sSp) ++ itB (gP l k).2) ++ sNl
abbrev PtIn (l : List Pt) : Prop := ∀ p ∈ l, (-16384 ≤ p.1 ∧ p.1 ≤ 16384) ∧ -16384 ≤ p.2 ∧ p.2 ≤ 16384
theorem gP_in {l : List Pt} {k : Nat} (h : PtIn l) (hk : k < l.length) : (-16384 ≤ (gP l k).1 ∧ (gP l k).1 ≤ 16384) ∧ -16384 ≤ (gP l k).2 ∧ (gP l k).2 ≤ 16384 := by
  have e : gP l k = l[k] := by simp [gP, hk]
  rw [e]
  exact h _ (List.getElem_mem hk)
theorem prP_size {l : List Pt} (h : PtIn l) (hl : l.length ≤ 1000) : ∀ k, k ≤ l.length → (prP l k).size ≤ 100 + 60 * k
  | 0, _ => by
    have h1 := it_size (l.length : Int) (by omega)
    rw [prP, ByteArray.size_append, ByteArray.size_append]
    have : sCurveS.size = 6 := rfl
    have : sNl.size = 1 := rfl
    omega
  | k + 1, hk => by
    have h0 := prP_size h hl k (by omega)
    have hp := gP_in h (show k < l.length by omega)
    have h1 := it_size (gP l k).1 (by omega)
    have h2 := it_size (gP l k).2 (by omega)
    rw [prP, ByteArray.size_append, ByteArray.size_append, ByteArray.size_append, ByteArray.size_append, ByteArray.size_append]
    have : sPointS.size = 6 := rfl
    have : sSp.size = 1 := rfl
    have : sNl.size = 1 := rfl
    omega

set_option maxHeartbeats 1000000 in
/-- genlockref02.Print -/
theorem rPrint_c (A : Option Addr) (c : Nat) (l : List Pt) (hl : l.length ≤ 1000) (hb : PtIn l) (w : World) (hr : Rd w A (l.flatMap ptC)) : Calls Tryz.prog 104 #[.slice A l.length c] w fun r w' => r = .returned (.string (prP l l.length)) ∧ Below w.heap.size w w' := by
  refine calls_of (args := [.slice A l.length c]) T_ok Tryz.func104 rfl Tryz.ntmps104 (Nat.le_of_ble_eq_true rfl) rfl ?_
  have hz0 := it_size (l.length : Int) (by omega)
  repeat' (first
 | (refine C_id ?_; first
 | refine C_seq ?_
 | refine C_region rfl ?_
 | refine C_block ?_
 )
 | (refine S_id ?_; first
 | refine S_pure (binX_pure rfl obQ (fun w => cat_str _ _ _ _ _ (by (try simp only [ByteArray.size_append]); have z1 : (⟨#[99, 117, 114, 118, 101, 32]⟩ : ByteArray).size = 6 := rfl; have z2 : (⟨#[112, 111, 105, 110, 116, 32]⟩ : ByteArray).size = 6 := rfl; have z3 : (⟨#[32]⟩ : ByteArray).size = 1 := rfl; have z4 : (⟨#[10]⟩ : ByteArray).size = 1 := rfl; omega) w)) ?_
 | refine S_nil ?_
 | refine S_run rfl rfl obQ obQ ?_
 | refine S_call (f := 170) rfl obQ (by kernel_rfl) (fun w hw => rText_c (l.length : Int) (by omega) w) ?_
 )
 | (refine G_id ?_; first
 | refine G_then ?_
 )
 )
  refine C_loopS (fun k : Nat => ⟨[(0, .s (.v (.slice A l.length c))), (3, .s (.v (.string (prP l k)))), (4, .s (.v (.int .i64 k)))], [], []⟩) (fun k => k ≤ l.length) (fun k => l.length - k) 0 (Nat.zero_le _) ?_ (fun k hk => ?_)
  · exact ⟨⟨_, rfl, obQ⟩, ⟨_, rfl⟩, rfl, pstQ⟩
  dsimp only
  have hk' : k ≤ l.length := hk
  have hz := prP_size hb hl k hk'
  by_cases hlt : k < l.length
  · obtain ⟨ad, rfl⟩ := hr.some (by rw [pt_len]; omega)
    have hp := gP_in hb hlt
    have h1 := it_size (gP l k).1 (by omega)
    have h2 := it_size (gP l k).2 (by omega)
    repeat' (first
 | (refine C_id ?_; first
 | refine C_seq ?_
 | refine C_region rfl ?_
 | refine C_block ?_
 | refine C_skip ?_
 | refine C_draw (id := 5) rfl mixed (by kernel_rfl) ?_
 | refine C_condT rfl obQ ?_
     )
 | (refine S_id ?_; first
 | ((with_reducible (first | refine S_trueE ?_ ?_ | refine S_trueB ?_ ?_ | refine S_trueL ?_ ?_ | refine S_trueD ?_ ?_ | refine S_trueN ?_ ?_)); · (first | rfl | omega | exact decide_eq_true (by omega)))
 | refine S_nil ?_
 | refine S_run rfl rfl obQ obQ ?_
     )
 | (refine D_id ?_; first
 | refine D_pure (binX_pure rfl obQ (fun w => cat_str _ _ _ _ _ (by (try simp only [ByteArray.size_append]); have z1 : (⟨#[99, 117, 114, 118, 101, 32]⟩ : ByteArray).size = 6 := rfl; have z2 : (⟨#[112, 111, 105, 110, 116, 32]⟩ : ByteArray).size = 6 := rfl; have z3 : (⟨#[32]⟩ : ByteArray).size = 1 := rfl; have z4 : (⟨#[10]⟩ : ByteArray).size = 1 := rfl; omega) w)) ?_
 | refine D_load rfl obQ rfl [.int .i64 (gP l k).1] (.past _ memQ _ _ hr.toS _ _ rfl (add_of_add _ _ _) (gP_1 (k := k) rfl hlt)) rfl (.inr ⟨rfl, rfl⟩) ?_
 | refine D_load rfl obQ rfl [.int .i64 (gP l k).2] (.past _ memQ _ _ hr.toS _ _ rfl (add_of_add _ _ _) (gP_2 (k := k) rfl hlt)) rfl (.inr ⟨rfl, rfl⟩) ?_
 | refine D_nil ?_
 | refine D_run rfl rfl obQ obQ ?_
 | refine D_call (f := 170) rfl obQ (by kernel_rfl) (fun w hw => rText_c (gP l k).1 (by omega) w) ?_
 | refine D_call (f := 170) rfl obQ (by kernel_rfl) (fun w hw => rText_c (gP l k).2 (by omega) w) ?_
     )
 | (refine G_id ?_; first
 | refine G_loop (k + 1) (by show k + 1 ≤ l.length; omega) (by show l.length - (k + 1) < l.length - k; omega) ⟨⟨_, rfl, obQ⟩, ⟨_, rfl⟩, rfl, pstQ⟩
 | refine G_then ?_
 | refine G_block ?_
     )
     )
  · have hke : k = l.length := by omega
    rw [hke]
    repeat' (first
 | (refine C_id ?_; first
 | refine C_seq ?_
 | refine C_region rfl ?_
 | refine C_exit ?_
 | refine C_ret0 ?_
 | refine C_condF rfl obQ ?_
     )
 | (refine S_id ?_; first
 | ((with_reducible (first | refine S_falseN ?_ ?_ | refine S_falseB ?_ ?_ | refine S_falseL ?_ ?_ | refine S_falseD ?_ ?_ | refine S_falseE ?_ ?_)); · (first | rfl | omega | exact decide_eq_false (by omega)))
 | refine S_nil ?_
 | refine S_run rfl rfl obQ obQ ?_
     )
 | (refine G_id ?_; first
 | refine G_then ?_
 | refine G_blockX ?_
 | refine G_thenX ?_
 | refine G_ret rfl obQ (fun w hw => ⟨?_, hw.below⟩)
     )
     )
    all_goals rfl

end Go.Proofs.YtdbffbcobghbeaaGreatDoor
namespace Go.Proofs.YtdbffbcobghbeaaGreatDoor
open Go.E Go.RowKit Go.Fl
attribute [local irreducible] G C S D Calls
set_option maxRecDepth 100000
set_option linter.unusedSimpArgs false
set_option linter.unusedVariables false

theorem rdS_some {S : Nat → Prop} {W : World} {A : Option Addr} {xs : List Value} (h : RdS S W A xs) (h0 : 0 < xs.length) : ∃ a, A = some a := by
  rcases h with h | ⟨ad, h, _⟩
  · rw [h] at h0; simp at h0
  · exact ⟨ad, h⟩
theorem spl_size (s : ByteArray) (c : Nat) : ∀ k, k ≤ s.size → (∀ x ∈ (splS s c k).1, x.size ≤ k) ∧ (splS s c k).2.size ≤ k ∧ (splS s c k).1.length ≤ k
  | 0, _ => by simp [splS]
  | k + 1, h => by
    obtain ⟨h1, h2, h3⟩ := spl_size s c k (by omega)
    rw [splS]
    split
    · refine ⟨fun x hx => ?_, Nat.zero_le _, by simp; omega⟩
      simp only [List.mem_append, List.mem_singleton] at hx
      rcases hx with hx | rfl
      · have := h1 x hx; omega
      · omega
    · refine ⟨fun x hx => ?_, ?_, by dsimp only; omega⟩
      · have := h1 x hx; omega
      · dsimp only
        rw [ByteArray.size_append, ByteArray.size_extract]
        omega
theorem splR_size (s : ByteArray) (c : Nat) : ∀ x ∈ splR s c, x.size ≤ s.size := by
  obtain ⟨h1, h2, h3⟩ := spl_size s c s.size (Nat.le_refl _)
  intro x hx
  simp only [splR, List.mem_append, List.mem_singleton] at hx
  rcases hx with hx | rfl
  · exact h1 x hx
  · exact h2
theorem splR_len (s : ByteArray) (c : Nat) : (splR s c).length ≤ s.size + 1 := by
  obtain ⟨h1, h2, h3⟩ := spl_size s c s.size (Nat.le_refl _)
  simp [splR]
  omega
theorem splR_cons (s : ByteArray) (c : Nat) : ∃ hd tl, splR s c = hd :: tl := by
  cases h : splR s c with
  | nil => simp [splR] at h
  | cons a l => exact ⟨a, l, rfl⟩
def sN (l : List ByteArray) (k : Nat) : ByteArray := l.getD k ByteArray.empty
theorem sN_at {l : List ByteArray} {k : Nat} (h : k < l.length) : sN l k = l[k] := by simp [sN, h]
theorem sN_mem {l : List ByteArray} {k : Nat} (h : k < l.length) : sN l k ∈ l := by rw [sN_at h]; exact List.getElem_mem h
theorem sN_ld {l : List ByteArray} {k m : Nat} (hm : m = k) (h : k < l.length) : ∀ (j : Nat) (u : Value), ([.string (sN l k)] : List Value)[j]? = some u → (l.map Value.string)[m + j]? = some u := by
  subst hm
  intro j u hu
  cases j with
  | succ j => simp at hu
  | zero =>
    cases hu
    rw [sN_at h]
    simp [h]
theorem sN_cons (a : ByteArray) (l : List ByteArray) (k : Nat) : sN (a :: l) (k + 1) = sN l k := by simp [sN]
def psW (i : Nat) : ByteArray × Nat := if i = 0 then (sCurve, 2) else (sPoint, 3)
/-- The integers of a line with an index. -/
def psR (s : ByteArray) (i : Nat) : List Int × Bool :=
  if (splR s 32).headD ByteArray.empty = (psW i).1 ∧ (splR s 32).length = (psW i).2 ∧ ((splR s 32).tail.all fun x => (sgnR x).2) = true then ((splR s 32).tail.map fun x => (sgnR x).1, true) else ([], false)
theorem psR_word {s : ByteArray} {i : Nat} {hd : ByteArray} {tl : List ByteArray} (h : splR s 32 = hd :: tl) (hn : hd ≠ (psW i).1) : psR s i = ([], false) := by
  unfold psR
  rw [h, if_neg]
  rintro ⟨e, _⟩
  exact hn e
theorem psR_len {s : ByteArray} {i : Nat} {hd : ByteArray} {tl : List ByteArray} (h : splR s 32 = hd :: tl) (hn : tl.length + 1 ≠ (psW i).2) : psR s i = ([], false) := by
  unfold psR
  rw [h, if_neg]
  rintro ⟨_, e, _⟩
  exact hn e
theorem psR_bad {s : ByteArray} {i : Nat} {hd : ByteArray} {tl : List ByteArray} {k : Nat} {z : Int} (h : splR s 32 = hd :: tl) (hk : k < tl.length) (hz : sgnR (sN tl k) = (z, false)) : psR s i = ([], false) := by
  unfold psR
  rw [h, if_neg]
  rintro ⟨_, _, e⟩
  rw [List.tail_cons, List.all_eq_true] at e
  have := e _ (sN_mem hk)
  rw [hz] at this
  cases this
theorem psR_yes {s : ByteArray} {i : Nat} {hd : ByteArray} {tl : List ByteArray} (h : splR s 32 = hd :: tl) (hw : hd = (psW i).1) (hn : tl.length + 1 = (psW i).2) (ha : (tl.all fun x => (sgnR x).2) = true) : psR s i = (tl.map fun x => (sgnR x).1, true) := by
  unfold psR
  rw [h, if_pos ⟨hw, hn, ha⟩]
  rfl
theorem rSplit_as {s : ByteArray} {c : Nat} {hd : ByteArray} {tl : List ByteArray} (h : splR s c = hd :: tl) (hs : s.size ≤ 1000000) (hc : c ≤ 255) (w : World) :
    Calls Tryz.prog 106 #[.string s, .int .u8 (c : Int)] w fun r w' => ∃ v, r = .returned v ∧ Below w.heap.size w w' ∧ Sl w w' v (tl.length + 1) ((hd :: tl).map Value.string) := by
  have := rSplit_c s hs c hc w
  rw [h] at this
  exact this
theorem rSigned_as {s : ByteArray} {z : Int} {b : Bool} (h : sgnR s = (z, b)) (hs : s.size ≤ maxLen) (w : World) : Calls Tryz.prog 210 #[.string s] w fun r w' => r = .returned (.tuple #[.int .i64 z, .bool b]) ∧ Below w.heap.size w w' := by
  have := rSigned_c s hs w
  rw [h] at this
  exact this

section
variable {X : Cx} {Ps : Past} {l0 l rest : List Oper} {Q : Exit → Act → World → Prop} {sl : List (Nat × AV)} {bx : List Bx} {rw : List Rw}
/-- Two strings that are known to be equal, or not. -/
theorem S_strNe {x y : List UInt8} {b : Bool} {d : Nat} (h : (!(x == y)) = b) (k : S X Ps l0 Q rest ⟨(d, .s (.v (.bool b))) :: sl, bx, rw⟩) : S X Ps l0 Q rest ⟨(d, .s (.v (.bool (!(x == y))))) :: sl, bx, rw⟩ := by rw [h]; exact k
end
theorem toL_ne {a b : ByteArray} (h : a ≠ b) : (!(a.toList == b.toList)) = true := by
  have e : (a.toList == b.toList) = false := by
    rw [beq_eq_false_iff_ne]
    intro e
    exact h (ByteArray.ext (Array.ext' (by simpa [ByteArray.toList_eq] using e)))
  rw [e]
  rfl
theorem toL_eq {a b : ByteArray} (h : a = b) : (!(a.toList == b.toList)) = false := by subst h; simp

set_option maxHeartbeats 2000000 in
/-- genlockref02.parsed -/
theorem rParsed_c (s : ByteArray) (hs : s.size ≤ 1000000) (i : Nat) (hi : i ≤ 1000000) (w : World) : Calls Tryz.prog 171 #[.string s, .int .i64 (i : Int)] w fun r w' => ∃ v, r = .returned v ∧ Below w.heap.size w w' ∧ Sl2 w w' v (psR s i).1.length ((psR s i).1.map (.int .i64)) (.bool (psR s i).2) := by
  refine calls_of (args := [.string s, .int .i64 (i : Int)]) T_ok Tryz.func171 rfl Tryz.ntmps171 (Nat.le_of_ble_eq_true rfl) rfl ?_
  obtain ⟨hd, tl, hE⟩ := splR_cons s 32
  have hsz := splR_size s 32
  have hln0 := splR_len s 32
  rw [hE] at hsz hln0
  rw [List.length_cons] at hln0
  by_cases h0 : i = 0
  · have hW : psW i = (sCurve, 2) := by unfold psW; rw [if_pos h0]
    by_cases hw1 : hd = sCurve
    · by_cases hln : tl.length + 1 = 2
      · have hw1' : hd = (⟨#[99]⟩ : ByteArray) ∨ True := .inr trivial
        repeat' (first
 | (refine C_id ?_; first
 | refine C_seq ?_
 | refine C_regionNe 8 rfl rfl ?_
 | refine C_skip ?_
 | refine C_condT rfl obQ ?_
 | refine C_condF rfl obQ ?_
         )
 | (refine S_id ?_; first
 | ((with_reducible (first | refine S_falseN ?_ ?_ | refine S_falseB ?_ ?_ | refine S_falseL ?_ ?_ | refine S_falseD ?_ ?_ | refine S_falseE ?_ ?_)); · (first | rfl | omega | exact decide_eq_false (by omega) | (rw [beq_eq_false_iff_ne]; omega) | (rw [bne_eq_false_iff_eq]; first | exact hw1 | assumption | omega)))
 | ((with_reducible refine S_falseO ?_ ?_ ?_); (· rfl); (· first | rfl | (first | rfl | omega | exact decide_eq_false (by omega) | (rw [beq_eq_false_iff_ne]; omega) | (rw [bne_eq_false_iff_eq]; first | exact hw1 | assumption | omega))))
 | ((with_reducible (first | refine S_trueE ?_ ?_ | refine S_trueB ?_ ?_ | refine S_trueL ?_ ?_ | refine S_trueD ?_ ?_ | refine S_trueN ?_ ?_)); · (first | rfl | assumption | omega | exact decide_eq_true (by omega) | (rw [beq_iff_eq]; omega) | (rw [bne_iff_ne]; first | exact hw1 | exact hw2 | assumption | omega)))
 | refine S_unG rfl rfl rfl rfl ?_
 | ((with_reducible refine S_strNe (b := false) ?_ ?_); · first | exact toL_eq hw1 | (fail))
 | (refine S_callM (f := 106) rfl obQ (by kernel_rfl) (fun w hw => rSplit_as hE hs (by decide) w) (fun w1T w2T vT hw1T hbT hRT => ?_); obtain ⟨AT, cT, rfl, hST⟩ := hRT; obtain ⟨aT, rfl⟩ := rdS_some hST (by simp))
 | refine S_load rfl obQ rfl [.string hd] (.past (w2T, fun b => w1T.heap.size ≤ b ∧ b < w2T.heap.size) memQ _ _ hST _ _ rfl rfl (sN_ld (l := hd :: tl) (k := 0) rfl (by simp))) rfl (.inr ⟨rfl, rfl⟩) ?_
 | refine S_nil ?_
 | refine S_runN rfl rfl obQ obQ ?_
         )
 | (refine G_id ?_; first
 | refine G_then ?_
         )
         )
        refine C_row0 9 3 1 rfl ?_
        repeat' (first
 | (refine C_id ?_; first
 | refine C_region rfl ?_
 | refine C_block ?_
         )
 | (refine S_id ?_; first
 | refine S_nil ?_
 | refine S_runN rfl rfl obQ obQ ?_
         )
 | (refine G_id ?_; first
 | refine G_then ?_
         )
         )
        refine C_loopS (fun i : Nat × Option Addr × Nat => ⟨[(6, .s (.v (.slice (some aT) (tl.length + 1) cT))), (8, .s (.v (.int .i64 2))), (9, .s (.r i.2.1 i.1 i.2.2 0)), (10, .s (.v (.int .i64 ((i.1 : Int) + 1))))], [], [⟨3, 1, i.1, (tl.take i.1).map fun x => .int .i64 (sgnR x).1, .slice i.2.1 i.1 i.2.2⟩]⟩) (fun i => i.1 ≤ tl.length ∧ ((tl.take i.1).all fun x => (sgnR x).2) = true) (fun i => tl.length - i.1) (0, none, 0) ⟨Nat.zero_le _, rfl⟩ ?_ (fun i hi => ?_)
        · exact ⟨⟨_, rfl, obQ⟩, ⟨_, rfl⟩, rfl, pstQ⟩
        obtain ⟨k, A', c'⟩ := i
        obtain ⟨hk, hal⟩ := hi
        dsimp only at hk hal ⊢
        by_cases hlt : k < tl.length
        · have hxs := hsz _ (List.mem_cons_of_mem _ (sN_mem hlt))
          have hta : tl.take (k + 1) = tl.take k ++ [sN tl k] := by rw [List.take_succ_eq_append_getElem hlt, sN_at hlt]
          rcases hsg : sgnR (sN tl k) with ⟨z, b⟩
          cases b
          · rw [psR_bad hE hlt hsg]
            repeat' (first
 | (refine C_id ?_; first
 | refine C_seq ?_
 | refine C_region rfl ?_
 | refine C_block ?_
 | refine C_skip ?_
 | refine C_ret0 ?_
 | refine C_condT rfl obQ ?_
             )
 | (refine S_id ?_; first
 | ((with_reducible (first | refine S_trueE ?_ ?_ | refine S_trueB ?_ ?_ | refine S_trueL ?_ ?_ | refine S_trueD ?_ ?_ | refine S_trueN ?_ ?_)); · (first | rfl | assumption | omega | exact decide_eq_true (by omega) | (rw [beq_iff_eq]; omega) | (rw [bne_iff_ne]; first | exact hw1 | exact hw2 | assumption | omega)))
 | refine S_load rfl obQ rfl [.string (sN tl k)] (.past (w2T, fun b => w1T.heap.size ≤ b ∧ b < w2T.heap.size) memQ _ _ hST _ _ rfl rfl (by have := sN_ld (l := hd :: tl) (k := k + 1) (m := (((k : Nat) : Int) + 1).toNat * 1) (by omega) (by simp; omega); rw [sN_cons] at this; exact this)) rfl (.inr ⟨rfl, rfl⟩) ?_
 | refine S_nil ?_
 | refine S_runN rfl rfl obQ obQ ?_
 | refine S_call (f := 210) rfl obQ (by kernel_rfl) (fun w hw => rSigned_as hsg (by unfold maxLen; omega) w) ?_
             )
 | (refine G_id ?_; first
 | refine G_then ?_
 | refine G_blockR ?_
 | refine G_thenR ?_
 | refine G_ret rfl obQ (fun w2 hw => ⟨_, rfl, hw.below, none, 0, rfl, .inl rfl⟩)
             )
             )
          · have hal2 : ((tl.take (k + 1)).all fun x => (sgnR x).2) = true := by rw [hta, List.all_append, hal]; simp [hsg]
            have hmp : ((tl.take (k + 1)).map fun x => Value.int .i64 (sgnR x).1) = ((tl.take k).map fun x => Value.int .i64 (sgnR x).1) ++ [.int .i64 z] := by rw [hta, List.map_append]; simp [hsg]
            repeat' (first
 | (refine C_id ?_; first
 | refine C_seq ?_
 | refine C_region rfl ?_
 | refine C_block ?_
 | refine C_skip ?_
 | refine C_condT rfl obQ ?_
 | refine C_condF rfl obQ ?_
             )
 | (refine S_id ?_; first
 | ((with_reducible (first | refine S_trueE ?_ ?_ | refine S_trueB ?_ ?_ | refine S_trueL ?_ ?_ | refine S_trueD ?_ ?_ | refine S_trueN ?_ ?_)); · (first | rfl | assumption | omega | exact decide_eq_true (by omega) | (rw [beq_iff_eq]; omega) | (rw [bne_iff_ne]; first | exact hw1 | exact hw2 | assumption | omega)))
 | refine S_load rfl obQ rfl [.string (sN tl k)] (.past (w2T, fun b => w1T.heap.size ≤ b ∧ b < w2T.heap.size) memQ _ _ hST _ _ rfl rfl (by have := sN_ld (l := hd :: tl) (k := k + 1) (m := (((k : Nat) : Int) + 1).toNat * 1) (by omega) (by simp; omega); rw [sN_cons] at this; exact this)) rfl (.inr ⟨rfl, rfl⟩) ?_
 | refine S_append rfl obQ rfl rfl rfl ⟨by decide, rfl⟩ rfl ⟨rfl, rfl, rfl, rfl⟩ [.int .i64 z] ⟨by decide, rfl⟩ (by simp [Value.oneCell']) (fun w hw => by first | exact hw.src (i := 0) rfl rfl | exact hw.src (i := 1) rfl rfl | exact hw.src (i := 2) rfl rfl | exact hw.src (i := 3) rfl rfl | exact hw.src (i := 4) rfl rfl | exact hw.src (i := 5) rfl rfl | exact hw.src (i := 6) rfl rfl | exact hw.src (i := 7) rfl rfl | exact hw.src (i := 8) rfl rfl) (by unfold maxLen; dsimp only; omega) (fun gb cap' => ⟨_, rfl, ?_⟩)
 | refine S_nil ?_
 | refine S_runN rfl rfl obQ obQ ?_
 | refine S_slice (fun b => ⟨_, _, rfl, obQ, ?_⟩)
 | refine S_call (f := 210) rfl obQ (by kernel_rfl) (fun w hw => rSigned_as hsg (by unfold maxLen; omega) w) ?_
             )
 | (refine G_id ?_; first
 | refine G_loop (k + 1, some ⟨gb, 0, none⟩, cap') ⟨by show k + 1 ≤ _; omega, hal2⟩ (by show tl.length - (k + 1) < tl.length - k; omega) ⟨⟨_, rfl, obQ⟩, ⟨_, rfl⟩, (by dsimp only; rw [hmp]), pstQ⟩
 | refine G_then ?_
 | refine G_block ?_
             )
             )
        · obtain rfl : k = tl.length := by omega
          rw [List.take_length] at hal
          rw [psR_yes hE (by rw [hW]; exact hw1) (by rw [hW]; exact hln) hal]
          repeat' (first
 | (refine C_id ?_; first
 | refine C_seq ?_
 | refine C_region rfl ?_
 | refine C_exit ?_
 | refine C_ret0 ?_
 | refine C_condF rfl obQ ?_
           )
 | (refine S_id ?_; first
 | ((with_reducible (first | refine S_falseN ?_ ?_ | refine S_falseB ?_ ?_ | refine S_falseL ?_ ?_ | refine S_falseD ?_ ?_ | refine S_falseE ?_ ?_)); · (first | rfl | omega | exact decide_eq_false (by omega) | (rw [beq_eq_false_iff_ne]; omega) | (rw [bne_eq_false_iff_eq]; first | exact hw1 | assumption | omega)))
 | refine S_nil ?_
 | refine S_runN rfl rfl obQ obQ ?_
           )
 | (refine G_id ?_; first
 | refine G_then ?_
 | refine G_blockX ?_
 | refine G_thenX ?_
 | refine G_ret rfl obQ (fun w2 hw => ⟨_, rfl, hw.below, (HW.rowSl (i := 0) hw rfl rfl (by simp) (by rw [List.take_length]; dsimp only; rw [List.map_map]; rfl)).two rfl⟩)
           )
           )
      · rw [psR_len hE (by rw [hW]; exact hln)]
        repeat' (first
 | (refine C_id ?_; first
 | refine C_seq ?_
 | refine C_region rfl ?_
 | refine C_skip ?_
 | refine C_ret0 ?_
 | refine C_condT rfl obQ ?_
 | refine C_condF rfl obQ ?_
         )
 | (refine S_id ?_; first
 | ((with_reducible (first | refine S_falseN ?_ ?_ | refine S_falseB ?_ ?_ | refine S_falseL ?_ ?_ | refine S_falseD ?_ ?_ | refine S_falseE ?_ ?_)); · (first | rfl | omega | exact decide_eq_false (by omega) | (rw [beq_eq_false_iff_ne]; omega) | (rw [bne_eq_false_iff_eq]; first | exact hw1 | assumption | omega)))
 | ((with_reducible (first | refine S_trueE ?_ ?_ | refine S_trueB ?_ ?_ | refine S_trueL ?_ ?_ | refine S_trueD ?_ ?_ | refine S_trueN ?_ ?_)); · (first | rfl | assumption | omega | exact decide_eq_true (by omega) | (rw [beq_iff_eq]; omega) | (rw [bne_iff_ne]; first | exact hw1 | exact hw2 | assumption | omega)))
 | refine S_unG rfl rfl rfl rfl ?_
 | refine S_offG (.v (.bool false)) rfl rfl rfl rfl rfl ?_
 | ((with_reducible refine S_strNe (b := true) ?_ ?_); · first | exact toL_ne hw2 | (fail))
 | ((with_reducible refine S_strNe (b := false) ?_ ?_); · first | exact toL_eq hw1 | (fail))
 | ((with_reducible refine S_trueO ?_ ?_); · first | rfl | (simp only [Bool.or_eq_true, decide_eq_true_eq, beq_iff_eq, bne_iff_ne]; first | assumption | omega))
 | (refine S_callM (f := 106) rfl obQ (by kernel_rfl) (fun w hw => rSplit_as hE hs (by decide) w) (fun w1T w2T vT hw1T hbT hRT => ?_); obtain ⟨AT, cT, rfl, hST⟩ := hRT; obtain ⟨aT, rfl⟩ := rdS_some hST (by simp))
 | refine S_load rfl obQ rfl [.string hd] (.past (w2T, fun b => w1T.heap.size ≤ b ∧ b < w2T.heap.size) memQ _ _ hST _ _ rfl rfl (sN_ld (l := hd :: tl) (k := 0) rfl (by simp))) rfl (.inr ⟨rfl, rfl⟩) ?_
 | refine S_nil ?_
 | refine S_runN rfl rfl obQ obQ ?_
         )
 | (refine G_id ?_; first
 | refine G_then ?_
 | refine G_thenR ?_
 | refine G_ret rfl obQ (fun w2 hw => ⟨_, rfl, hw.below, none, 0, rfl, .inl rfl⟩)
         )
         )
    · rw [psR_word hE (by rw [hW]; exact hw1)]
      have hw2 : hd ≠ (⟨#[99, 117, 114, 118, 101]⟩ : ByteArray) := hw1
      repeat' (first
 | (refine C_id ?_; first
 | refine C_seq ?_
 | refine C_region rfl ?_
 | refine C_skip ?_
 | refine C_ret0 ?_
 | refine C_condT rfl obQ ?_
 | refine C_condF rfl obQ ?_
       )
 | (refine S_id ?_; first
 | ((with_reducible (first | refine S_falseN ?_ ?_ | refine S_falseB ?_ ?_ | refine S_falseL ?_ ?_ | refine S_falseD ?_ ?_ | refine S_falseE ?_ ?_)); · (first | rfl | omega | exact decide_eq_false (by omega) | (rw [beq_eq_false_iff_ne]; omega) | (rw [bne_eq_false_iff_eq]; first | exact hw1 | assumption | omega)))
 | ((with_reducible (first | refine S_trueE ?_ ?_ | refine S_trueB ?_ ?_ | refine S_trueL ?_ ?_ | refine S_trueD ?_ ?_ | refine S_trueN ?_ ?_)); · (first | rfl | assumption | omega | exact decide_eq_true (by omega) | (rw [beq_iff_eq]; omega) | (rw [bne_iff_ne]; first | exact hw1 | exact hw2 | assumption | omega)))
 | refine S_unG rfl rfl rfl rfl ?_
 | refine S_offG (.v (.bool false)) rfl rfl rfl rfl rfl ?_
 | ((with_reducible refine S_strNe (b := true) ?_ ?_); · first | exact toL_ne hw2 | (fail))
 | ((with_reducible refine S_strNe (b := false) ?_ ?_); · first | exact toL_eq hw1 | (fail))
 | ((with_reducible refine S_trueO ?_ ?_); · first | rfl | (simp only [Bool.or_eq_true, decide_eq_true_eq, beq_iff_eq, bne_iff_ne]; first | assumption | omega))
 | (refine S_callM (f := 106) rfl obQ (by kernel_rfl) (fun w hw => rSplit_as hE hs (by decide) w) (fun w1T w2T vT hw1T hbT hRT => ?_); obtain ⟨AT, cT, rfl, hST⟩ := hRT; obtain ⟨aT, rfl⟩ := rdS_some hST (by simp))
 | refine S_load rfl obQ rfl [.string hd] (.past (w2T, fun b => w1T.heap.size ≤ b ∧ b < w2T.heap.size) memQ _ _ hST _ _ rfl rfl (sN_ld (l := hd :: tl) (k := 0) rfl (by simp))) rfl (.inr ⟨rfl, rfl⟩) ?_
 | refine S_nil ?_
 | refine S_runN rfl rfl obQ obQ ?_
       )
 | (refine G_id ?_; first
 | refine G_then ?_
 | refine G_thenR ?_
 | refine G_ret rfl obQ (fun w2 hw => ⟨_, rfl, hw.below, none, 0, rfl, .inl rfl⟩)
       )
       )
    
  · have hW : psW i = (sPoint, 3) := by unfold psW; rw [if_neg h0]
    by_cases hw1 : hd = sPoint
    · by_cases hln : tl.length + 1 = 3
      · have hw1' : hd = (⟨#[99]⟩ : ByteArray) ∨ True := .inr trivial
        repeat' (first
 | (refine C_id ?_; first
 | refine C_seq ?_
 | refine C_regionNe 8 rfl rfl ?_
 | refine C_skip ?_
 | refine C_condT rfl obQ ?_
 | refine C_condF rfl obQ ?_
         )
 | (refine S_id ?_; first
 | ((with_reducible (first | refine S_falseN ?_ ?_ | refine S_falseB ?_ ?_ | refine S_falseL ?_ ?_ | refine S_falseD ?_ ?_ | refine S_falseE ?_ ?_)); · (first | rfl | omega | exact decide_eq_false (by omega) | (rw [beq_eq_false_iff_ne]; omega) | (rw [bne_eq_false_iff_eq]; first | exact hw1 | assumption | omega)))
 | ((with_reducible refine S_falseO ?_ ?_ ?_); (· rfl); (· first | rfl | (first | rfl | omega | exact decide_eq_false (by omega) | (rw [beq_eq_false_iff_ne]; omega) | (rw [bne_eq_false_iff_eq]; first | exact hw1 | assumption | omega))))
 | ((with_reducible (first | refine S_trueE ?_ ?_ | refine S_trueB ?_ ?_ | refine S_trueL ?_ ?_ | refine S_trueD ?_ ?_ | refine S_trueN ?_ ?_)); · (first | rfl | assumption | omega | exact decide_eq_true (by omega) | (rw [beq_iff_eq]; omega) | (rw [bne_iff_ne]; first | exact hw1 | exact hw2 | assumption | omega)))
 | refine S_unG rfl rfl rfl rfl ?_
 | ((with_reducible refine S_strNe (b := false) ?_ ?_); · first | exact toL_eq hw1 | (fail))
 | (refine S_callM (f := 106) rfl obQ (by kernel_rfl) (fun w hw => rSplit_as hE hs (by decide) w) (fun w1T w2T vT hw1T hbT hRT => ?_); obtain ⟨AT, cT, rfl, hST⟩ := hRT; obtain ⟨aT, rfl⟩ := rdS_some hST (by simp))
 | refine S_load rfl obQ rfl [.string hd] (.past (w2T, fun b => w1T.heap.size ≤ b ∧ b < w2T.heap.size) memQ _ _ hST _ _ rfl rfl (sN_ld (l := hd :: tl) (k := 0) rfl (by simp))) rfl (.inr ⟨rfl, rfl⟩) ?_
 | refine S_nil ?_
 | refine S_runN rfl rfl obQ obQ ?_
         )
 | (refine G_id ?_; first
 | refine G_then ?_
         )
         )
        refine C_row0 9 3 1 rfl ?_
        repeat' (first
 | (refine C_id ?_; first
 | refine C_region rfl ?_
 | refine C_block ?_
         )
 | (refine S_id ?_; first
 | refine S_nil ?_
 | refine S_runN rfl rfl obQ obQ ?_
         )
 | (refine G_id ?_; first
 | refine G_then ?_
         )
         )
        refine C_loopS (fun i : Nat × Option Addr × Nat => ⟨[(6, .s (.v (.slice (some aT) (tl.length + 1) cT))), (8, .s (.v (.int .i64 3))), (9, .s (.r i.2.1 i.1 i.2.2 0)), (10, .s (.v (.int .i64 ((i.1 : Int) + 1))))], [], [⟨3, 1, i.1, (tl.take i.1).map fun x => .int .i64 (sgnR x).1, .slice i.2.1 i.1 i.2.2⟩]⟩) (fun i => i.1 ≤ tl.length ∧ ((tl.take i.1).all fun x => (sgnR x).2) = true) (fun i => tl.length - i.1) (0, none, 0) ⟨Nat.zero_le _, rfl⟩ ?_ (fun i hi => ?_)
        · exact ⟨⟨_, rfl, obQ⟩, ⟨_, rfl⟩, rfl, pstQ⟩
        obtain ⟨k, A', c'⟩ := i
        obtain ⟨hk, hal⟩ := hi
        dsimp only at hk hal ⊢
        by_cases hlt : k < tl.length
        · have hxs := hsz _ (List.mem_cons_of_mem _ (sN_mem hlt))
          have hta : tl.take (k + 1) = tl.take k ++ [sN tl k] := by rw [List.take_succ_eq_append_getElem hlt, sN_at hlt]
          rcases hsg : sgnR (sN tl k) with ⟨z, b⟩
          cases b
          · rw [psR_bad hE hlt hsg]
            repeat' (first
 | (refine C_id ?_; first
 | refine C_seq ?_
 | refine C_region rfl ?_
 | refine C_block ?_
 | refine C_skip ?_
 | refine C_ret0 ?_
 | refine C_condT rfl obQ ?_
             )
 | (refine S_id ?_; first
 | ((with_reducible (first | refine S_trueE ?_ ?_ | refine S_trueB ?_ ?_ | refine S_trueL ?_ ?_ | refine S_trueD ?_ ?_ | refine S_trueN ?_ ?_)); · (first | rfl | assumption | omega | exact decide_eq_true (by omega) | (rw [beq_iff_eq]; omega) | (rw [bne_iff_ne]; first | exact hw1 | exact hw2 | assumption | omega)))
 | refine S_load rfl obQ rfl [.string (sN tl k)] (.past (w2T, fun b => w1T.heap.size ≤ b ∧ b < w2T.heap.size) memQ _ _ hST _ _ rfl rfl (by have := sN_ld (l := hd :: tl) (k := k + 1) (m := (((k : Nat) : Int) + 1).toNat * 1) (by omega) (by simp; omega); rw [sN_cons] at this; exact this)) rfl (.inr ⟨rfl, rfl⟩) ?_
 | refine S_nil ?_
 | refine S_runN rfl rfl obQ obQ ?_
 | refine S_call (f := 210) rfl obQ (by kernel_rfl) (fun w hw => rSigned_as hsg (by unfold maxLen; omega) w) ?_
             )
 | (refine G_id ?_; first
 | refine G_then ?_
 | refine G_blockR ?_
 | refine G_thenR ?_
 | refine G_ret rfl obQ (fun w2 hw => ⟨_, rfl, hw.below, none, 0, rfl, .inl rfl⟩)
             )
             )
          · have hal2 : ((tl.take (k + 1)).all fun x => (sgnR x).2) = true := by rw [hta, List.all_append, hal]; simp [hsg]
            have hmp : ((tl.take (k + 1)).map fun x => Value.int .i64 (sgnR x).1) = ((tl.take k).map fun x => Value.int .i64 (sgnR x).1) ++ [.int .i64 z] := by rw [hta, List.map_append]; simp [hsg]
            repeat' (first
 | (refine C_id ?_; first
 | refine C_seq ?_
 | refine C_region rfl ?_
 | refine C_block ?_
 | refine C_skip ?_
 | refine C_condT rfl obQ ?_
 | refine C_condF rfl obQ ?_
             )
 | (refine S_id ?_; first
 | ((with_reducible (first | refine S_trueE ?_ ?_ | refine S_trueB ?_ ?_ | refine S_trueL ?_ ?_ | refine S_trueD ?_ ?_ | refine S_trueN ?_ ?_)); · (first | rfl | assumption | omega | exact decide_eq_true (by omega) | (rw [beq_iff_eq]; omega) | (rw [bne_iff_ne]; first | exact hw1 | exact hw2 | assumption | omega)))
 | refine S_load rfl obQ rfl [.string (sN tl k)] (.past (w2T, fun b => w1T.heap.size ≤ b ∧ b < w2T.heap.size) memQ _ _ hST _ _ rfl rfl (by have := sN_ld (l := hd :: tl) (k := k + 1) (m := (((k : Nat) : Int) + 1).toNat * 1) (by omega) (by simp; omega); rw [sN_cons] at this; exact this)) rfl (.inr ⟨rfl, rfl⟩) ?_
 | refine S_append rfl obQ rfl rfl rfl ⟨by decide, rfl⟩ rfl ⟨rfl, rfl, rfl, rfl⟩ [.int .i64 z] ⟨by decide, rfl⟩ (by simp [Value.oneCell']) (fun w hw => by first | exact hw.src (i := 0) rfl rfl | exact hw.src (i := 1) rfl rfl | exact hw.src (i := 2) rfl rfl | exact hw.src (i := 3) rfl rfl | exact hw.src (i := 4) rfl rfl | exact hw.src (i := 5) rfl rfl | exact hw.src (i := 6) rfl rfl | exact hw.src (i := 7) rfl rfl | exact hw.src (i := 8) rfl rfl) (by unfold maxLen; dsimp only; omega) (fun gb cap' => ⟨_, rfl, ?_⟩)
 | refine S_nil ?_
 | refine S_runN rfl rfl obQ obQ ?_
 | refine S_slice (fun b => ⟨_, _, rfl, obQ, ?_⟩)
 | refine S_call (f := 210) rfl obQ (by kernel_rfl) (fun w hw => rSigned_as hsg (by unfold maxLen; omega) w) ?_
             )
 | (refine G_id ?_; first
 | refine G_loop (k + 1, some ⟨gb, 0, none⟩, cap') ⟨by show k + 1 ≤ _; omega, hal2⟩ (by show tl.length - (k + 1) < tl.length - k; omega) ⟨⟨_, rfl, obQ⟩, ⟨_, rfl⟩, (by dsimp only; rw [hmp]), pstQ⟩
 | refine G_then ?_
 | refine G_block ?_
             )
             )
        · obtain rfl : k = tl.length := by omega
          rw [List.take_length] at hal
          rw [psR_yes hE (by rw [hW]; exact hw1) (by rw [hW]; exact hln) hal]
          repeat' (first
 | (refine C_id ?_; first
 | refine C_seq ?_
 | refine C_region rfl ?_
 | refine C_exit ?_
 | refine C_ret0 ?_
 | refine C_condF rfl obQ ?_
           )
 | (refine S_id ?_; first
 | ((with_reducible (first | refine S_falseN ?_ ?_ | refine S_falseB ?_ ?_ | refine S_falseL ?_ ?_ | refine S_falseD ?_ ?_ | refine S_falseE ?_ ?_)); · (first | rfl | omega | exact decide_eq_false (by omega) | (rw [beq_eq_false_iff_ne]; omega) | (rw [bne_eq_false_iff_eq]; first | exact hw1 | assumption | omega)))
 | refine S_nil ?_
 | refine S_runN rfl rfl obQ obQ ?_
           )
 | (refine G_id ?_; first
 | refine G_then ?_
 | refine G_blockX ?_
 | refine G_thenX ?_
 | refine G_ret rfl obQ (fun w2 hw => ⟨_, rfl, hw.below, (HW.rowSl (i := 0) hw rfl rfl (by simp) (by rw [List.take_length]; dsimp only; rw [List.map_map]; rfl)).two rfl⟩)
           )
           )
      · rw [psR_len hE (by rw [hW]; exact hln)]
        repeat' (first
 | (refine C_id ?_; first
 | refine C_seq ?_
 | refine C_region rfl ?_
 | refine C_skip ?_
 | refine C_ret0 ?_
 | refine C_condT rfl obQ ?_
 | refine C_condF rfl obQ ?_
         )
 | (refine S_id ?_; first
 | ((with_reducible (first | refine S_falseN ?_ ?_ | refine S_falseB ?_ ?_ | refine S_falseL ?_ ?_ | refine S_falseD ?_ ?_ | refine S_falseE ?_ ?_)); · (first | rfl | omega | exact decide_eq_false (by omega) | (rw [beq_eq_false_iff_ne]; omega) | (rw [bne_eq_false_iff_eq]; first | exact hw1 | assumption | omega)))
 | ((with_reducible (first | refine S_trueE ?_ ?_ | refine S_trueB ?_ ?_ | refine S_trueL ?_ ?_ | refine S_trueD ?_ ?_ | refine S_trueN ?_ ?_)); · (first | rfl | assumption | omega | exact decide_eq_true (by omega) | (rw [beq_iff_eq]; omega) | (rw [bne_iff_ne]; first | exact hw1 | exact hw2 | assumption | omega)))
 | refine S_unG rfl rfl rfl rfl ?_
 | refine S_offG (.v (.bool false)) rfl rfl rfl rfl rfl ?_
 | ((with_reducible refine S_strNe (b := true) ?_ ?_); · first | exact toL_ne hw2 | (fail))
 | ((with_reducible refine S_strNe (b := false) ?_ ?_); · first | exact toL_eq hw1 | (fail))
 | ((with_reducible refine S_trueO ?_ ?_); · first | rfl | (simp only [Bool.or_eq_true, decide_eq_true_eq, beq_iff_eq, bne_iff_ne]; first | assumption | omega))
 | (refine S_callM (f := 106) rfl obQ (by kernel_rfl) (fun w hw => rSplit_as hE hs (by decide) w) (fun w1T w2T vT hw1T hbT hRT => ?_); obtain ⟨AT, cT, rfl, hST⟩ := hRT; obtain ⟨aT, rfl⟩ := rdS_some hST (by simp))
 | refine S_load rfl obQ rfl [.string hd] (.past (w2T, fun b => w1T.heap.size ≤ b ∧ b < w2T.heap.size) memQ _ _ hST _ _ rfl rfl (sN_ld (l := hd :: tl) (k := 0) rfl (by simp))) rfl (.inr ⟨rfl, rfl⟩) ?_
 | refine S_nil ?_
 | refine S_runN rfl rfl obQ obQ ?_
         )
 | (refine G_id ?_; first
 | refine G_then ?_
 | refine G_thenR ?_
 | refine G_ret rfl obQ (fun w2 hw => ⟨_, rfl, hw.below, none, 0, rfl, .inl rfl⟩)
         )
         )
    · rw [psR_word hE (by rw [hW]; exact hw1)]
      have hw2 : hd ≠ (⟨#[112, 111, 105, 110, 116]⟩ : ByteArray) := hw1
      repeat' (first
 | (refine C_id ?_; first
 | refine C_seq ?_
 | refine C_region rfl ?_
 | refine C_skip ?_
 | refine C_ret0 ?_
 | refine C_condT rfl obQ ?_
 | refine C_condF rfl obQ ?_
       )
 | (refine S_id ?_; first
 | ((with_reducible (first | refine S_falseN ?_ ?_ | refine S_falseB ?_ ?_ | refine S_falseL ?_ ?_ | refine S_falseD ?_ ?_ | refine S_falseE ?_ ?_)); · (first | rfl | omega | exact decide_eq_false (by omega) | (rw [beq_eq_false_iff_ne]; omega) | (rw [bne_eq_false_iff_eq]; first | exact hw1 | assumption | omega)))
 | ((with_reducible (first | refine S_trueE ?_ ?_ | refine S_trueB ?_ ?_ | refine S_trueL ?_ ?_ | refine S_trueD ?_ ?_ | refine S_trueN ?_ ?_)); · (first | rfl | assumption | omega | exact decide_eq_true (by omega) | (rw [beq_iff_eq]; omega) | (rw [bne_iff_ne]; first | exact hw1 | exact hw2 | assumption | omega)))
 | refine S_unG rfl rfl rfl rfl ?_
 | refine S_offG (.v (.bool false)) rfl rfl rfl rfl rfl ?_
 | ((with_reducible refine S_strNe (b := true) ?_ ?_); · first | exact toL_ne hw2 | (fail))
 | ((with_reducible refine S_strNe (b := false) ?_ ?_); · first | exact toL_eq hw1 | (fail))
 | ((with_reducible refine S_trueO ?_ ?_); · first | rfl | (simp only [Bool.or_eq_true, decide_eq_true_eq, beq_iff_eq, bne_iff_ne]; first | assumption | omega))
 | (refine S_callM (f := 106) rfl obQ (by kernel_rfl) (fun w hw => rSplit_as hE hs (by decide) w) (fun w1T w2T vT hw1T hbT hRT => ?_); obtain ⟨AT, cT, rfl, hST⟩ := hRT; obtain ⟨aT, rfl⟩ := rdS_some hST (by simp))
 | refine S_load rfl obQ rfl [.string hd] (.past (w2T, fun b => w1T.heap.size ≤ b ∧ b < w2T.heap.size) memQ _ _ hST _ _ rfl rfl (sN_ld (l := hd :: tl) (k := 0) rfl (by simp))) rfl (.inr ⟨rfl, rfl⟩) ?_
 | refine S_nil ?_
 | refine S_runN rfl rfl obQ obQ ?_
       )
 | (refine G_id ?_; first
 | refine G_then ?_
 | refine G_thenR ?_
 | refine G_ret rfl obQ (fun w2 hw => ⟨_, rfl, hw.below, none, 0, rfl, .inl rfl⟩)
       )
       )
    

end Go.Proofs.YtdbffbcobghbeaaGreatDoor
namespace Go.Proofs.YtdbffbcobghbeaaGreatDoor
open Go.E Go.RowKit Go.Fl
attribute [local irreducible] G C S D DY DS V Yl QV Calls
set_option maxRecDepth 100000
set_option linter.unusedSimpArgs false
set_option linter.unusedVariables false

theorem psR_len_of {s : ByteArray} {i : Nat} {xs : List Int} (h : psR s i = (xs, true)) : xs.length + 1 = (psW i).2 := by
  unfold psR at h
  split at h
  · rename_i hc
    obtain ⟨_, h2, _⟩ := hc
    simp only [Prod.mk.injEq, and_true] at h
    subst h
    obtain ⟨hd, tl, e⟩ := splR_cons s 32
    rw [e] at h2 ⊢
    simpa using h2
  · simp at h
/-- The first lines: how many points are asked for, and the points. -/
def rpS (ls : List ByteArray) : Nat → Int × List Pt
  | 0 => (0, [])
  | k + 1 => if k = 0 then ((psR (sN ls k) k).1.getD 0 0, (rpS ls k).2) else ((rpS ls k).1, (rpS ls k).2 ++ [((psR (sN ls k) k).1.getD 0 0, (psR (sN ls k) k).1.getD 1 0)])
def rpX (s : ByteArray) (ls : List ByteArray) (m : Nat) : List Pt × Nat × Int :=
  match (List.range m).find? fun j => !(psR (sN ls j) j).2 with
  | some i => ([], i, 25)
  | none => if sN ls m ≠ ByteArray.empty ∨ m = 0 then ([], m, 25) else if ((rpS ls m).2.length : Int) ≠ (rpS ls m).1 then ([], m, 2) else if curveE (rpS ls m).2 ≠ 0 then ([], m, curveE (rpS ls m).2) else ((rpS ls m).2, 0, 0)
/-- The reference's reading: the points, a line's index, an error. -/
def rpR (s : ByteArray) : List Pt × Nat × Int := if 4096 < s.size then ([], 0, 26) else rpX s (splR s 10) ((splR s 10).length - 1)
abbrev rpOk (ls : List ByteArray) (k : Nat) : Prop := ∀ j, j < k → (psR (sN ls j) j).2 = true
theorem rpOk_s {ls : List ByteArray} {k : Nat} (h : rpOk ls k) (h2 : (psR (sN ls k) k).2 = true) : rpOk ls (k + 1) := by
  intro j hj
  by_cases e : j = k
  · rw [e]; exact h2
  · exact h j (by omega)
theorem rpX_bad {s : ByteArray} {ls : List ByteArray} {m k : Nat} (h : rpOk ls k) (hk : k < m) (h2 : (psR (sN ls k) k).2 = false) : rpX s ls m = ([], k, 25) := by
  have e : (List.range m).find? (fun j => !(psR (sN ls j) j).2) = some k := by
    rw [List.find?_range_eq_some]
    exact ⟨by rw [h2]; rfl, List.mem_range.2 hk, fun j hj => by rw [h j hj]; rfl⟩
  unfold rpX
  rw [e]
theorem rpX_ok {s : ByteArray} {ls : List ByteArray} {m : Nat} (h : rpOk ls m) : rpX s ls m = if sN ls m ≠ ByteArray.empty ∨ m = 0 then ([], m, 25) else if ((rpS ls m).2.length : Int) ≠ (rpS ls m).1 then ([], m, 2) else if curveE (rpS ls m).2 ≠ 0 then ([], m, curveE (rpS ls m).2) else ((rpS ls m).2, 0, 0) := by
  have e : (List.range m).find? (fun j => !(psR (sN ls j) j).2) = none := by
    rw [List.find?_eq_none]
    intro j hj
    rw [h j (List.mem_range.1 hj)]
    decide
  unfold rpX
  rw [e]
theorem rSplit_as2 {s : ByteArray} {c n : Nat} {ls : List ByteArray} (h : splR s c = ls) (hn : ls.length = n) (hs : s.size ≤ 1000000) (hc : c ≤ 255) (w : World) :
    Calls Tryz.prog 106 #[.string s, .int .u8 (c : Int)] w fun r w' => ∃ v, r = .returned v ∧ Below w.heap.size w w' ∧ Sl w w' v n (ls.map Value.string) := by
  have := rSplit_c s hs c hc w
  rw [h, hn] at this
  exact this
theorem rParsed_as {s : ByteArray} {i n : Nat} {xs : List Int} {b : Bool} (h : psR s i = (xs, b)) (hn : xs.length = n) (hs : s.size ≤ 1000000) (hi : i ≤ 1000000) (w : World) :
    Calls Tryz.prog 171 #[.string s, .int .i64 (i : Int)] w fun r w' => ∃ v, r = .returned v ∧ Below w.heap.size w w' ∧ Sl2 w w' v n (xs.map (.int .i64)) (.bool b) := by
  have := rParsed_c s hs i hi w
  rw [h, hn] at this
  exact this
theorem i_ld {xs : List Int} {k m : Nat} (hm : m = k) (h : k < xs.length) : ∀ (j : Nat) (u : Value), ([.int .i64 (xs.getD k 0)] : List Value)[j]? = some u → (xs.map (Value.int .i64))[m + j]? = some u := by
  subst hm
  intro j u hu
  cases j with
  | succ j => simp at hu
  | zero =>
    cases hu
    simp [h]
def Sl3 (w w' : World) (v : Value) (n : Nat) (xs : List Value) (a e : Value) : Prop := ∃ A c, v = .tuple #[.slice A n c, a, e] ∧ RdS (fun b => w.heap.size ≤ b ∧ b < w'.heap.size) w' A xs
theorem rpS_len {ls : List ByteArray} : ∀ k, (rpS ls k).2.length ≤ k
  | 0 => Nat.le_refl _
  | k + 1 => by
    have := rpS_len (ls := ls) k
    rw [rpS]
    split
    · dsimp only; omega
    · simp; omega

set_option maxHeartbeats 2000000 in
/-- genlockref02.Parse -/
theorem rParse_c (s : ByteArray) (hs : s.size ≤ 1000000) (w : World) : Calls Tryz.prog 105 #[.string s] w fun r w' => ∃ v, r = .returned v ∧ Below w.heap.size w w' ∧ Sl3 w w' v (rpR s).1.length ((rpR s).1.flatMap ptC) (.int .i64 ((rpR s).2.1 : Int)) (.int .i64 (rpR s).2.2) := by
  refine calls_of (args := [.string s]) T_ok Tryz.func105 rfl Tryz.ntmps105 (Nat.le_of_ble_eq_true rfl) rfl ?_
  by_cases h0 : 4096 < s.size
  · have hR : rpR s = ([], 0, 26) := if_pos h0
    rw [hR]
    repeat' (first
 | (refine C_id ?_; first
 | refine C_seq ?_
 | refine C_region rfl ?_
 | refine C_ret0 ?_
 | refine C_condT rfl obQ ?_
     )
 | (refine S_id ?_; first
 | ((with_reducible (first | refine S_trueE ?_ ?_ | refine S_trueB ?_ ?_ | refine S_trueL ?_ ?_ | refine S_trueD ?_ ?_ | refine S_trueN ?_ ?_)); · (first | rfl | assumption | omega | exact decide_eq_true (by omega) | (rw [beq_iff_eq]; omega) | (rw [bne_iff_ne]; first | assumption | omega)))
 | refine S_nil ?_
 | refine S_runN rfl rfl obQ obQ ?_
     )
 | (refine G_id ?_; first
 | refine G_then ?_
 | refine G_thenR ?_
 | refine G_ret rfl obQ (fun w2 hw => ⟨_, rfl, hw.below, none, 0, rfl, .inl rfl⟩)
     )
     )
  obtain ⟨hd, tl, hE0⟩ := splR_cons s 10
  obtain ⟨m, hm0⟩ : ∃ m, (hd :: tl).length = m + 1 := ⟨tl.length, by simp⟩
  have hsz := splR_size s 10
  have hln0 := splR_len s 10
  have hR : rpR s = rpX s (hd :: tl) m := by unfold rpR; rw [if_neg h0, hE0, hm0]; rfl
  rw [hE0] at hsz hln0
  rw [hR]
  clear hR
  obtain ⟨ls, hE, hm, hls⟩ : ∃ ls, splR s 10 = ls ∧ ls.length = m + 1 ∧ hd :: tl = ls := ⟨_, hE0, hm0, rfl⟩
  rw [hls] at hsz hln0 ⊢
  rw [hm] at hln0
  clear hE0 hm0 hls
  repeat' (first
 | (refine C_id ?_; first
 | refine C_seq ?_
 | refine C_regionNe 7 rfl rfl ?_
 | refine C_skip ?_
 | refine C_condF rfl obQ ?_
   )
 | (refine S_id ?_; first
 | ((with_reducible (first | refine S_falseN ?_ ?_ | refine S_falseB ?_ ?_ | refine S_falseL ?_ ?_ | refine S_falseD ?_ ?_ | refine S_falseE ?_ ?_)); · (first | rfl | omega | exact decide_eq_false (by omega) | (rw [beq_eq_false_iff_ne]; omega) | (rw [bne_eq_false_iff_eq]; first | assumption | omega)))
 | (refine S_callM (f := 106) rfl obQ (by kernel_rfl) (fun w hw => rSplit_as2 hE hm (by omega) (by decide) w) (fun w1T w2T vT hw1T hbT hRT => ?_); obtain ⟨AT, cT, rfl, hST⟩ := hRT; obtain ⟨aT, rfl⟩ := rdS_some hST (by simp; omega))
 | refine S_nil ?_
 | refine S_runN rfl rfl obQ obQ ?_
   )
 | (refine G_id ?_; first
 | refine G_then ?_
   )
   )
  refine C_row0 8 163 2 rfl ?_
  repeat' (first
 | (refine C_id ?_; first
 | refine C_region rfl ?_
 | refine C_block ?_
   )
 | (refine S_id ?_; first
 | refine S_nil ?_
 | refine S_runN rfl rfl obQ obQ ?_
   )
 | (refine G_id ?_; first
 | refine G_then ?_
   )
   )
  refine C_loopS (fun i : Nat × Nat × Int × List Pt × Option Addr × Nat => ⟨[(5, .s (.v (.slice (some aT) (m + 1) cT))), (6, .s (.v (.int .i64 (((m + 1 : Nat) : Int) - 1)))), (7, .s (.v (.int .i64 i.2.2.1))), (8, .s (.r i.2.2.2.2.1 i.2.1 i.2.2.2.2.2 0)), (9, .s (.v (.int .i64 i.1)))], [], [⟨163, 2, i.2.1, i.2.2.2.1.flatMap ptC, .slice i.2.2.2.2.1 i.2.1 i.2.2.2.2.2⟩]⟩) (fun i => i.1 ≤ m ∧ rpOk ls i.1 ∧ rpS ls i.1 = (i.2.2.1, i.2.2.2.1) ∧ i.2.1 = i.2.2.2.1.length ∧ i.2.2.2.1.length ≤ i.1) (fun i => m - i.1) (0, 0, 0, [], none, 0) ⟨Nat.zero_le _, (fun j hj => absurd hj (Nat.not_lt_zero _)), rfl, rfl, Nat.le_refl _⟩ ?_ (fun i hi => ?_)
  · exact ⟨⟨_, rfl, obQ⟩, ⟨_, rfl⟩, rfl, pstQ⟩
  obtain ⟨k, nn, pts, out, A', c'⟩ := i
  obtain ⟨hk, hok, hrp, hn, hol⟩ := hi
  dsimp only at hk hok hrp hn hol ⊢
  by_cases hlt : k < m
  · have hxs := hsz _ (sN_mem (l := ls) (k := k) (by omega))
    rcases hps : psR (sN ls k) k with ⟨xs, b⟩
    cases b
    · rw [rpX_bad hok hlt (by rw [hps])]
      repeat' (first
 | (refine C_id ?_; first
 | refine C_seq ?_
 | refine C_region rfl ?_
 | refine C_block ?_
 | refine C_skip ?_
 | refine C_ret0 ?_
 | refine C_condT rfl obQ ?_
       )
 | (refine S_id ?_; first
 | ((with_reducible (first | refine S_trueE ?_ ?_ | refine S_trueB ?_ ?_ | refine S_trueL ?_ ?_ | refine S_trueD ?_ ?_ | refine S_trueN ?_ ?_)); · (first | rfl | assumption | omega | exact decide_eq_true (by omega) | (rw [beq_iff_eq]; omega) | (rw [bne_iff_ne]; first | assumption | omega)))
 | refine S_load rfl obQ rfl [.string (sN ls k)] (.past (w2T, fun b => w1T.heap.size ≤ b ∧ b < w2T.heap.size) memQ _ _ hST _ _ rfl rfl (sN_ld (k := k) (m := (((k : Nat) : Int)).toNat * 1) (by omega) (by omega))) rfl (.inr ⟨rfl, rfl⟩) ?_
 | (refine S_callM (f := 171) rfl obQ (by kernel_rfl) (fun w hw => rParsed_as hps rfl (by omega) (by omega) w) (fun w1P w2P vP hw1P hbP hRP => ?_); obtain ⟨AP, cP, rfl, hSP⟩ := hRP)
 | refine S_nil ?_
 | refine S_runN rfl rfl obQ obQ ?_
       )
 | (refine G_id ?_; first
 | refine G_then ?_
 | refine G_blockR ?_
 | refine G_thenR ?_
 | refine G_ret rfl obQ (fun w2 hw => ⟨_, rfl, hw.below, none, 0, rfl, .inl rfl⟩)
       )
       )
    · have hok2 := rpOk_s hok (by rw [hps])
      have hxl := psR_len_of hps
      by_cases hk0 : k = 0
      · have hx1 : xs.length = 1 := by unfold psW at hxl; rw [if_pos hk0] at hxl; dsimp only at hxl; omega
        have hr2 : rpS ls (k + 1) = (xs.getD 0 0, out) := by rw [rpS, if_pos hk0, hps, hrp]
        repeat' (first
 | (refine C_id ?_; first
 | refine C_seq ?_
 | refine C_region rfl ?_
 | refine C_block ?_
 | refine C_skip ?_
 | refine C_condT rfl obQ ?_
 | refine C_condF rfl obQ ?_
         )
 | (refine S_id ?_; first
 | ((with_reducible (first | refine S_trueE ?_ ?_ | refine S_trueB ?_ ?_ | refine S_trueL ?_ ?_ | refine S_trueD ?_ ?_ | refine S_trueN ?_ ?_)); · (first | rfl | assumption | omega | exact decide_eq_true (by omega) | (rw [beq_iff_eq]; omega) | (rw [bne_iff_ne]; first | assumption | omega)))
 | refine S_load rfl obQ rfl [.string (sN ls k)] (.past (w2T, fun b => w1T.heap.size ≤ b ∧ b < w2T.heap.size) memQ _ _ hST _ _ rfl rfl (sN_ld (k := k) (m := (((k : Nat) : Int)).toNat * 1) (by omega) (by omega))) rfl (.inr ⟨rfl, rfl⟩) ?_
 | (refine S_callM (f := 171) rfl obQ (by kernel_rfl) (fun w hw => rParsed_as hps rfl (by omega) (by omega) w) (fun w1P w2P vP hw1P hbP hRP => ?_); obtain ⟨AP, cP, rfl, hSP⟩ := hRP; obtain ⟨aP, rfl⟩ := rdS_some hSP (by simp; omega))
 | refine S_load rfl obQ rfl [.int .i64 (xs.getD 0 0)] (.past (w2P, fun b => w1P.heap.size ≤ b ∧ b < w2P.heap.size) memQ _ _ hSP _ _ rfl rfl (i_ld (k := 0) rfl (by omega))) rfl (.inr ⟨rfl, rfl⟩) ?_
 | refine S_nil ?_
 | refine S_runN rfl rfl obQ obQ ?_
         )
 | (refine G_id ?_; first
 | refine G_loop (k + 1, nn, xs.getD 0 0, out, A', c') ⟨by show k + 1 ≤ m; omega, hok2, hr2, hn, by show out.length ≤ k + 1; omega⟩ (by show m - (k + 1) < m - k; omega) ⟨⟨_, rfl, obQ⟩, ⟨_, rfl⟩, rfl, pstQ⟩
 | refine G_then ?_
 | refine G_block ?_
         )
         )
      · have hx1 : xs.length = 2 := by unfold psW at hxl; rw [if_neg hk0] at hxl; dsimp only at hxl; omega
        have hr2 : rpS ls (k + 1) = (pts, out ++ [(xs.getD 0 0, xs.getD 1 0)]) := by rw [rpS, if_neg hk0, hps, hrp]
        repeat' (first
 | (refine C_id ?_; first
 | refine C_seq ?_
 | refine C_region rfl ?_
 | refine C_block ?_
 | refine C_skip ?_
 | refine C_drawV (id := 15) 9 [(0, true), (1, true), (2, true), (3, true), (4, true), (5, true), (6, true), (7, true), (8, false)] rfl mixed (by kernel_rfl) rfl ?_
 | refine C_condT rfl obQ ?_
 | refine C_condF rfl obQ ?_
         )
 | (refine S_id ?_; first
 | ((with_reducible (first | refine S_falseN ?_ ?_ | refine S_falseB ?_ ?_ | refine S_falseL ?_ ?_ | refine S_falseD ?_ ?_ | refine S_falseE ?_ ?_)); · (first | rfl | omega | exact decide_eq_false (by omega) | (rw [beq_eq_false_iff_ne]; omega) | (rw [bne_eq_false_iff_eq]; first | assumption | omega)))
 | ((with_reducible (first | refine S_trueE ?_ ?_ | refine S_trueB ?_ ?_ | refine S_trueL ?_ ?_ | refine S_trueD ?_ ?_ | refine S_trueN ?_ ?_)); · (first | rfl | assumption | omega | exact decide_eq_true (by omega) | (rw [beq_iff_eq]; omega) | (rw [bne_iff_ne]; first | assumption | omega)))
 | refine S_load rfl obQ rfl [.string (sN ls k)] (.past (w2T, fun b => w1T.heap.size ≤ b ∧ b < w2T.heap.size) memQ _ _ hST _ _ rfl rfl (sN_ld (k := k) (m := (((k : Nat) : Int)).toNat * 1) (by omega) (by omega))) rfl (.inr ⟨rfl, rfl⟩) ?_
 | (refine S_callM (f := 171) rfl obQ (by kernel_rfl) (fun w hw => rParsed_as hps rfl (by omega) (by omega) w) (fun w1P w2P vP hw1P hbP hRP => ?_); obtain ⟨AP, cP, rfl, hSP⟩ := hRP; obtain ⟨aP, rfl⟩ := rdS_some hSP (by simp; omega))
 | refine S_append rfl obQ rfl rfl rfl ⟨by decide, rfl⟩ rfl ⟨rfl, rfl, rfl, rfl⟩ [.int .i64 (xs.getD 0 0), .int .i64 (xs.getD 1 0)] ⟨by decide, rfl⟩ (by simp [Value.oneCell']) (fun w hw => by first | exact hw.src (i := 0) rfl rfl | exact hw.src (i := 1) rfl rfl | exact hw.src (i := 2) rfl rfl | exact hw.src (i := 3) rfl rfl | exact hw.src (i := 4) rfl rfl | exact hw.src (i := 5) rfl rfl | exact hw.src (i := 6) rfl rfl | exact hw.src (i := 7) rfl rfl | exact hw.src (i := 8) rfl rfl) (by unfold maxLen; dsimp only; omega) (fun gb cap' => ⟨_, rfl, ?_⟩)
 | refine S_nil ?_
 | refine S_runN rfl rfl obQ obQ ?_
 | refine S_slice (fun b => ⟨_, _, rfl, obQ, ?_⟩)
         )
 | (refine V_id ?_; first
 | refine V_nil ?_
 | refine V_q rfl (Yl_load rfl obQ rfl [.int .i64 (xs.getD 0 0)] (.past (w2P, fun b => w1P.heap.size ≤ b ∧ b < w2P.heap.size) memQ _ _ hSP _ _ rfl rfl (i_ld (k := 0) rfl (by omega))) rfl (.inr ⟨rfl, rfl⟩)) ?_
 | refine V_q rfl (Yl_load rfl obQ rfl [.int .i64 (xs.getD 1 0)] (.past (w2P, fun b => w1P.heap.size ≤ b ∧ b < w2P.heap.size) memQ _ _ hSP _ _ rfl rfl (i_ld (k := 1) rfl (by omega))) rfl (.inr ⟨rfl, rfl⟩)) ?_
 | refine V_q rfl (Yl_step rfl obQ) ?_
 | refine V_n rfl ?_
         )
 | (refine G_id ?_; first
 | refine G_V ⟨⟨_, rfl, trivial⟩, ⟨_, rfl⟩, rfl, pstQ⟩ rfl ?_
 | refine G_loop (k + 1, nn + 1, pts, out ++ [(xs.getD 0 0, xs.getD 1 0)], some ⟨gb, 0, none⟩, cap') ⟨by show k + 1 ≤ m; omega, hok2, hr2, by show nn + 1 = _; simp; omega, by simp; omega⟩ (by show m - (k + 1) < m - k; omega) ⟨⟨_, rfl, obQ⟩, ⟨_, rfl⟩, (by dsimp only; rw [List.flatMap_append]; simp [ptC]), pstQ⟩
 | refine G_then ?_
 | refine G_block ?_
         )
         )
  · have hkm : k = m := by omega
    subst hkm
    subst hn
    have hkz : ((k + 1 : Nat) : Int) - 1 = (k : Int) := by omega
    rw [rpX_ok hok, hrp]
    dsimp only
    by_cases hw1 : sN ls k = ByteArray.empty
    · by_cases hk0 : k = 0
      · rw [if_pos (.inr hk0)]
        repeat' (first
 | (refine C_id ?_; first
 | refine C_seq ?_
 | refine C_region rfl ?_
 | refine C_skip ?_
 | refine C_exit ?_
 | refine C_ret0 ?_
 | refine C_condT rfl obQ ?_
 | refine C_condF rfl obQ ?_
         )
 | (refine S_id ?_; first
 | ((with_reducible (first | refine S_falseN ?_ ?_ | refine S_falseB ?_ ?_ | refine S_falseL ?_ ?_ | refine S_falseD ?_ ?_ | refine S_falseE ?_ ?_)); · (first | rfl | omega | exact decide_eq_false (by omega) | (rw [beq_eq_false_iff_ne]; omega) | (rw [bne_eq_false_iff_eq]; first | assumption | omega)))
 | ((with_reducible refine S_falseO ?_ ?_ ?_); (· rfl); (· first | rfl | (first | rfl | omega | exact decide_eq_false (by omega) | (rw [beq_eq_false_iff_ne]; omega) | (rw [bne_eq_false_iff_eq]; first | assumption | omega))))
 | ((with_reducible (first | refine S_trueE ?_ ?_ | refine S_trueB ?_ ?_ | refine S_trueL ?_ ?_ | refine S_trueD ?_ ?_ | refine S_trueN ?_ ?_)); · (first | rfl | assumption | omega | exact decide_eq_true (by omega) | (rw [beq_iff_eq]; omega) | (rw [bne_iff_ne]; first | assumption | omega)))
 | refine S_unG rfl rfl rfl rfl ?_
 | ((with_reducible refine S_strNe (b := true) ?_ ?_); · exact toL_ne hw2)
 | ((with_reducible refine S_strNe (b := false) ?_ ?_); · exact toL_eq hw1)
 | ((with_reducible refine S_trueO ?_ ?_); · first | rfl | (simp only [Bool.or_eq_true, decide_eq_true_eq, beq_iff_eq, bne_iff_ne]; first | assumption | omega))
 | refine S_offG (.v (.bool false)) rfl rfl rfl rfl rfl ?_
 | refine S_load rfl obQ rfl [.string (sN ls k)] (.past (w2T, fun b => w1T.heap.size ≤ b ∧ b < w2T.heap.size) memQ _ _ hST _ _ rfl rfl (sN_ld (k := k) (m := ((((k + 1 : Nat) : Int) - 1)).toNat * 1) (by omega) (by omega))) rfl (.inr ⟨rfl, rfl⟩) ?_
 | refine S_nil ?_
 | refine S_runN rfl rfl obQ obQ ?_
         )
 | (refine G_id ?_; first
 | refine G_then ?_
 | refine G_blockX ?_
 | refine G_thenR ?_
 | refine G_thenX ?_
 | refine G_ret rfl obQ (fun w2 hw => ⟨_, rfl, hw.below, none, 0, congrArg (fun z => Value.tuple #[.slice none 0 0, .int .i64 z, .int .i64 _]) hkz, .inl rfl⟩)
         )
         )
      · rw [if_neg (by rintro (h | h); exact h hw1; exact hk0 h)]
        by_cases hpt : (out.length : Int) = pts
        · rw [if_neg (by simpa using hpt)]
          by_cases hce : curveE out = 0
          · rw [if_neg (by simpa using hce)]
            repeat' (first
 | (refine C_id ?_; first
 | refine C_seq ?_
 | refine C_region rfl ?_
 | refine C_skip ?_
 | refine C_exit ?_
 | refine C_ret0 ?_
 | refine C_condF rfl obQ ?_
             )
 | (refine S_id ?_; first
 | ((with_reducible (first | refine S_falseN ?_ ?_ | refine S_falseB ?_ ?_ | refine S_falseL ?_ ?_ | refine S_falseD ?_ ?_ | refine S_falseE ?_ ?_)); · (first | rfl | omega | exact decide_eq_false (by omega) | (rw [beq_eq_false_iff_ne]; omega) | (rw [bne_eq_false_iff_eq]; first | assumption | omega)))
 | ((with_reducible refine S_falseO ?_ ?_ ?_); (· rfl); (· first | rfl | (first | rfl | omega | exact decide_eq_false (by omega) | (rw [beq_eq_false_iff_ne]; omega) | (rw [bne_eq_false_iff_eq]; first | assumption | omega))))
 | refine S_unG rfl rfl rfl rfl ?_
 | ((with_reducible refine S_strNe (b := false) ?_ ?_); · exact toL_eq hw1)
 | refine S_load rfl obQ rfl [.string (sN ls k)] (.past (w2T, fun b => w1T.heap.size ≤ b ∧ b < w2T.heap.size) memQ _ _ hST _ _ rfl rfl (sN_ld (k := k) (m := ((((k + 1 : Nat) : Int) - 1)).toNat * 1) (by omega) (by omega))) rfl (.inr ⟨rfl, rfl⟩) ?_
 | refine S_nil ?_
 | refine S_runN rfl rfl obQ obQ ?_
 | refine S_call (f := 26) rfl obQ (by kernel_rfl) (fun w hw => rCheckCurve_c A' c' out (by omega) w (hw.rdRow (i := 0) rfl rfl)) ?_
             )
 | (refine G_id ?_; first
 | refine G_then ?_
 | refine G_blockX ?_
 | refine G_thenX ?_
 | refine G_ret rfl obQ (fun w2 hw => ⟨_, rfl, hw.below, by obtain ⟨A2, c2, e2, h2⟩ := HW.rowSl (i := 0) hw rfl rfl rfl rfl; injection e2 with e3 e4 e5; subst e3; subst e5; exact ⟨_, _, rfl, h2⟩⟩)
             )
             )
          · rw [if_pos hce]
            repeat' (first
 | (refine C_id ?_; first
 | refine C_seq ?_
 | refine C_region rfl ?_
 | refine C_skip ?_
 | refine C_exit ?_
 | refine C_ret0 ?_
 | refine C_condT rfl obQ ?_
 | refine C_condF rfl obQ ?_
             )
 | (refine S_id ?_; first
 | ((with_reducible (first | refine S_falseN ?_ ?_ | refine S_falseB ?_ ?_ | refine S_falseL ?_ ?_ | refine S_falseD ?_ ?_ | refine S_falseE ?_ ?_)); · (first | rfl | omega | exact decide_eq_false (by omega) | (rw [beq_eq_false_iff_ne]; omega) | (rw [bne_eq_false_iff_eq]; first | assumption | omega)))
 | ((with_reducible refine S_falseO ?_ ?_ ?_); (· rfl); (· first | rfl | (first | rfl | omega | exact decide_eq_false (by omega) | (rw [beq_eq_false_iff_ne]; omega) | (rw [bne_eq_false_iff_eq]; first | assumption | omega))))
 | ((with_reducible (first | refine S_trueE ?_ ?_ | refine S_trueB ?_ ?_ | refine S_trueL ?_ ?_ | refine S_trueD ?_ ?_ | refine S_trueN ?_ ?_)); · (first | rfl | assumption | omega | exact decide_eq_true (by omega) | (rw [beq_iff_eq]; omega) | (rw [bne_iff_ne]; first | assumption | omega)))
 | refine S_unG rfl rfl rfl rfl ?_
 | ((with_reducible refine S_strNe (b := false) ?_ ?_); · exact toL_eq hw1)
 | refine S_load rfl obQ rfl [.string (sN ls k)] (.past (w2T, fun b => w1T.heap.size ≤ b ∧ b < w2T.heap.size) memQ _ _ hST _ _ rfl rfl (sN_ld (k := k) (m := ((((k + 1 : Nat) : Int) - 1)).toNat * 1) (by omega) (by omega))) rfl (.inr ⟨rfl, rfl⟩) ?_
 | refine S_nil ?_
 | refine S_runN rfl rfl obQ obQ ?_
 | refine S_call (f := 26) rfl obQ (by kernel_rfl) (fun w hw => rCheckCurve_c A' c' out (by omega) w (hw.rdRow (i := 0) rfl rfl)) ?_
             )
 | (refine G_id ?_; first
 | refine G_then ?_
 | refine G_blockX ?_
 | refine G_thenR ?_
 | refine G_thenX ?_
 | refine G_ret rfl obQ (fun w2 hw => ⟨_, rfl, hw.below, none, 0, congrArg (fun z => Value.tuple #[.slice none 0 0, .int .i64 z, .int .i64 _]) hkz, .inl rfl⟩)
             )
             )
        · rw [if_pos hpt]
          repeat' (first
 | (refine C_id ?_; first
 | refine C_seq ?_
 | refine C_region rfl ?_
 | refine C_skip ?_
 | refine C_exit ?_
 | refine C_ret0 ?_
 | refine C_condT rfl obQ ?_
 | refine C_condF rfl obQ ?_
           )
 | (refine S_id ?_; first
 | ((with_reducible (first | refine S_falseN ?_ ?_ | refine S_falseB ?_ ?_ | refine S_falseL ?_ ?_ | refine S_falseD ?_ ?_ | refine S_falseE ?_ ?_)); · (first | rfl | omega | exact decide_eq_false (by omega) | (rw [beq_eq_false_iff_ne]; omega) | (rw [bne_eq_false_iff_eq]; first | assumption | omega)))
 | ((with_reducible refine S_falseO ?_ ?_ ?_); (· rfl); (· first | rfl | (first | rfl | omega | exact decide_eq_false (by omega) | (rw [beq_eq_false_iff_ne]; omega) | (rw [bne_eq_false_iff_eq]; first | assumption | omega))))
 | ((with_reducible (first | refine S_trueE ?_ ?_ | refine S_trueB ?_ ?_ | refine S_trueL ?_ ?_ | refine S_trueD ?_ ?_ | refine S_trueN ?_ ?_)); · (first | rfl | assumption | omega | exact decide_eq_true (by omega) | (rw [beq_iff_eq]; omega) | (rw [bne_iff_ne]; first | assumption | omega)))
 | refine S_unG rfl rfl rfl rfl ?_
 | ((with_reducible refine S_strNe (b := true) ?_ ?_); · exact toL_ne hw2)
 | ((with_reducible refine S_strNe (b := false) ?_ ?_); · exact toL_eq hw1)
 | ((with_reducible refine S_trueO ?_ ?_); · first | rfl | (simp only [Bool.or_eq_true, decide_eq_true_eq, beq_iff_eq, bne_iff_ne]; first | assumption | omega))
 | refine S_offG (.v (.bool false)) rfl rfl rfl rfl rfl ?_
 | refine S_load rfl obQ rfl [.string (sN ls k)] (.past (w2T, fun b => w1T.heap.size ≤ b ∧ b < w2T.heap.size) memQ _ _ hST _ _ rfl rfl (sN_ld (k := k) (m := ((((k + 1 : Nat) : Int) - 1)).toNat * 1) (by omega) (by omega))) rfl (.inr ⟨rfl, rfl⟩) ?_
 | refine S_nil ?_
 | refine S_runN rfl rfl obQ obQ ?_
           )
 | (refine G_id ?_; first
 | refine G_then ?_
 | refine G_blockX ?_
 | refine G_thenR ?_
 | refine G_thenX ?_
 | refine G_ret rfl obQ (fun w2 hw => ⟨_, rfl, hw.below, none, 0, congrArg (fun z => Value.tuple #[.slice none 0 0, .int .i64 z, .int .i64 _]) hkz, .inl rfl⟩)
           )
           )
    · have hw2 : sN ls k ≠ ByteArray.empty := hw1
      rw [if_pos (.inl hw2)]
      repeat' (first
 | (refine C_id ?_; first
 | refine C_seq ?_
 | refine C_region rfl ?_
 | refine C_skip ?_
 | refine C_exit ?_
 | refine C_ret0 ?_
 | refine C_condT rfl obQ ?_
 | refine C_condF rfl obQ ?_
       )
 | (refine S_id ?_; first
 | ((with_reducible (first | refine S_falseN ?_ ?_ | refine S_falseB ?_ ?_ | refine S_falseL ?_ ?_ | refine S_falseD ?_ ?_ | refine S_falseE ?_ ?_)); · (first | rfl | omega | exact decide_eq_false (by omega) | (rw [beq_eq_false_iff_ne]; omega) | (rw [bne_eq_false_iff_eq]; first | assumption | omega)))
 | ((with_reducible refine S_falseO ?_ ?_ ?_); (· rfl); (· first | rfl | (first | rfl | omega | exact decide_eq_false (by omega) | (rw [beq_eq_false_iff_ne]; omega) | (rw [bne_eq_false_iff_eq]; first | assumption | omega))))
 | ((with_reducible (first | refine S_trueE ?_ ?_ | refine S_trueB ?_ ?_ | refine S_trueL ?_ ?_ | refine S_trueD ?_ ?_ | refine S_trueN ?_ ?_)); · (first | rfl | assumption | omega | exact decide_eq_true (by omega) | (rw [beq_iff_eq]; omega) | (rw [bne_iff_ne]; first | assumption | omega)))
 | refine S_unG rfl rfl rfl rfl ?_
 | ((with_reducible refine S_strNe (b := true) ?_ ?_); · exact toL_ne hw2)
 | ((with_reducible refine S_strNe (b := false) ?_ ?_); · exact toL_eq hw1)
 | ((with_reducible refine S_trueO ?_ ?_); · first | rfl | (simp only [Bool.or_eq_true, decide_eq_true_eq, beq_iff_eq, bne_iff_ne]; first | assumption | omega))
 | refine S_offG (.v (.bool false)) rfl rfl rfl rfl rfl ?_
 | refine S_load rfl obQ rfl [.string (sN ls k)] (.past (w2T, fun b => w1T.heap.size ≤ b ∧ b < w2T.heap.size) memQ _ _ hST _ _ rfl rfl (sN_ld (k := k) (m := ((((k + 1 : Nat) : Int) - 1)).toNat * 1) (by omega) (by omega))) rfl (.inr ⟨rfl, rfl⟩) ?_
 | refine S_nil ?_
 | refine S_runN rfl rfl obQ obQ ?_
       )
 | (refine G_id ?_; first
 | refine G_then ?_
 | refine G_blockX ?_
 | refine G_thenR ?_
 | refine G_thenX ?_
 | refine G_ret rfl obQ (fun w2 hw => ⟨_, rfl, hw.below, none, 0, congrArg (fun z => Value.tuple #[.slice none 0 0, .int .i64 z, .int .i64 _]) hkz, .inl rfl⟩)
       )
       )

end Go.Proofs.YtdbffbcobghbeaaGreatDoor
