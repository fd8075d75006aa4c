/- Texts: the reference of words and integers, the texts of nets; the program of words. -/
import Derived.Test.YtmfophoejjcnlaaGreatDoorTiming55
import Derived.Test.YtmfophoejjcnlaaGreatDoorTiming34
import Derived.Test.YtmfophoejjcnlaaGreatDoorEng4
import Derived.Test.YtmfophoejjcnlaaGreatDoorEng3
import Derived.Laws.IdiomStrings
import Derived.Test.YtmfophoejjcnlaaGreatDoorShelfT
namespace Go.Proofs.YtmfophoejjcnlaaGreatDoor
open Go.E Go.RowKit
attribute [local irreducible] G C S D Calls
set_option maxRecDepth 100000
set_option linter.unusedSimpArgs false
set_option linter.unusedVariables false

/-- A string from a place on. -/
theorem sl_from {X : Cx} {t : TypeId} {ti : TI} (hl : Go.E.look X.T t = some ti) (hk : ti.k = .str) (s : ByteArray) (k : IntKind) (z : Int) (i : Nat) (hz : z = (i : Int)) (h1 : i ≤ s.size) (w : World) :
    (Instr.sliceAt t (.string s) (some (.int k z)) none none).run X.P w = .ok (.string (s.extract i s.size)) w := by
  subst hz
  obtain ⟨i', dd, z, hi, hu, hz, rfl⟩ := X.hT.row hl
  have hd := kOf_str hk
  subst hd
  have := run_slice_string_l (P := X.P) (w := w) t s hu k (i : Int) (by omega) (by omega)
  rw [run_sliceAt_string w t _ _ _ _ hu, this, Int.toNat_natCast]
/-- The integer of the first digits. -/
def digN (s : ByteArray) : Nat → Int
  | 0 => 0
  | k + 1 => 10 * digN s k + ((byteAt s k : Int) - 48)
def allD (s : ByteArray) (k : Nat) : Bool := (List.range k).all fun i => digB (byteAt s i)
theorem allD_s (s : ByteArray) (k : Nat) : allD s (k + 1) = (allD s k && digB (byteAt s k)) := by
  unfold allD
  rw [List.range_succ, List.all_append]
  simp
theorem dig_c {c : Nat} (h : digB c = true) : 48 ≤ c ∧ c ≤ 57 := by
  unfold digB at h
  rw [Bool.and_eq_true, decide_eq_true_eq, decide_eq_true_eq] at h
  omega
theorem allD_at {s : ByteArray} {n k : Nat} (h : allD s n = true) (hk : k < n) : digB (byteAt s k) = true := by
  unfold allD at h
  rw [List.all_eq_true] at h
  exact h k (List.mem_range.2 hk)
theorem digN_bd {s : ByteArray} : ∀ {k : Nat}, allD s k = true → 0 ≤ digN s k ∧ digN s k ≤ 10 ^ k - 1
  | 0, _ => by simp [digN]
  | k + 1, h => by
    rw [allD_s, Bool.and_eq_true] at h
    have h1 := digN_bd h.1
    have h2 := dig_c h.2
    have e : (10 : Int) ^ (k + 1) = 10 ^ k * 10 := Int.pow_succ ..
    rw [digN, e]
    omega
theorem digN_9 {s : ByteArray} {k : Nat} (h : allD s k = true) (hk : k ≤ 9) : 0 ≤ digN s k ∧ digN s k ≤ 999999999 := by
  have h1 := digN_bd h
  have : k = 0 ∨ k = 1 ∨ k = 2 ∨ k = 3 ∨ k = 4 ∨ k = 5 ∨ k = 6 ∨ k = 7 ∨ k = 8 ∨ k = 9 := by omega
  rcases this with rfl | rfl | rfl | rfl | rfl | rfl | rfl | rfl | rfl | rfl <;> omega
/-- The form of digits: neither none nor more than nine, and no leading zero. -/
def digF (s : ByteArray) : Bool := !(s.size == 0) && decide (s.size ≤ 9) && !(decide (1 < s.size) && byteAt s 0 == 48)
def digR (s : ByteArray) : Int × Bool := if digF s && allD s s.size then (digN s s.size, true) else (0, false)
theorem digR_no {s : ByteArray} (h : digF s = false) : digR s = (0, false) := by
  unfold digR
  rw [h]
  rfl
theorem digR_bad {s : ByteArray} {k : Nat} (hk : k < s.size) (h : digB (byteAt s k) = false) : digR s = (0, false) := by
  have : allD s s.size = false := by
    cases ha : allD s s.size
    · rfl
    · rw [allD_at ha hk] at h
      cases h
  unfold digR
  rw [this, Bool.and_false]
  rfl
theorem digR_yes {s : ByteArray} (h : digF s = true) (h2 : allD s s.size = true) : digR s = (digN s s.size, true) := by
  unfold digR
  rw [h, h2]
  rfl
set_option maxHeartbeats 1000000 in
/-- genlockref01.Digits -/
theorem rDigits_c (s : ByteArray) (hs : s.size ≤ maxLen) (w : World) : Calls Tryz.prog 134 #[.string s] w fun r w' => r = .returned (.tuple #[.int .i64 (digR s).1, .bool (digR s).2]) ∧ Below w.heap.size w w' := by
  refine calls_of (args := [.string s]) T_ok Tryz.func134 rfl Tryz.ntmps134 (Nat.le_of_ble_eq_true rfl) rfl ?_
  unfold maxLen at hs
  by_cases h0 : s.size = 0
  · have hF : digF s = false := by unfold digF; rw [h0]; rfl
    rw [digR_no hF]
    repeat' (first
 | (refine C_id ?_; first
 | refine C_seq ?_
 | refine C_region rfl ?_
 | refine C_block ?_
 | refine C_skip ?_
 | refine C_ret0 ?_
 | refine C_condT rfl obQ ?_
 | refine C_condF rfl obQ ?_
     )
 | (refine S_id ?_; first
 | ((with_reducible (first | refine S_falseN ?_ ?_ | refine S_falseB ?_ ?_ | refine S_falseL ?_ ?_ | refine S_falseD ?_ ?_ | refine S_falseE ?_ ?_)); · (first | rfl | omega | exact decide_eq_false (by omega) | (rw [beq_eq_false_iff_ne]; omega) | (rw [bne_eq_false_iff_eq]; omega)))
 | ((with_reducible refine S_falseO ?_ ?_ ?_); (· rfl); (· first | rfl | (first | rfl | omega | exact decide_eq_false (by omega) | (rw [beq_eq_false_iff_ne]; omega) | (rw [bne_eq_false_iff_eq]; omega))))
 | ((with_reducible (first | refine S_trueE ?_ ?_ | refine S_trueB ?_ ?_ | refine S_trueL ?_ ?_ | refine S_trueD ?_ ?_ | refine S_trueN ?_ ?_)); · (first | rfl | omega | exact decide_eq_true (by omega) | (rw [beq_iff_eq]; omega) | (rw [bne_iff_ne]; omega)))
 | refine S_unG rfl rfl rfl rfl ?_
 | refine S_offG (.v (.bool false)) rfl rfl rfl rfl rfl ?_
 | ((with_reducible refine S_trueO ?_ ?_); · first | rfl | (simp only [Bool.or_eq_true, decide_eq_true_eq, beq_iff_eq, bne_iff_ne]; omega))
 | refine S_nil ?_
 | refine S_runN rfl rfl obQ obQ ?_
     )
 | (refine G_id ?_; first
 | refine G_then ?_
 | refine G_thenR ?_
 | refine G_ret rfl obQ (fun w hw => ⟨?_, hw.below⟩)
     )
     )
    all_goals rfl
  by_cases h9 : 9 < s.size
  · have hF : digF s = false := by unfold digF; rw [decide_eq_false (show ¬ s.size ≤ 9 by omega), Bool.and_false, Bool.false_and]
    rw [digR_no hF]
    repeat' (first
 | (refine C_id ?_; first
 | refine C_seq ?_
 | refine C_region rfl ?_
 | refine C_block ?_
 | refine C_skip ?_
 | refine C_ret0 ?_
 | refine C_condT rfl obQ ?_
 | refine C_condF rfl obQ ?_
     )
 | (refine S_id ?_; first
 | ((with_reducible (first | refine S_falseN ?_ ?_ | refine S_falseB ?_ ?_ | refine S_falseL ?_ ?_ | refine S_falseD ?_ ?_ | refine S_falseE ?_ ?_)); · (first | rfl | omega | exact decide_eq_false (by omega) | (rw [beq_eq_false_iff_ne]; omega) | (rw [bne_eq_false_iff_eq]; omega)))
 | ((with_reducible refine S_falseO ?_ ?_ ?_); (· rfl); (· first | rfl | (first | rfl | omega | exact decide_eq_false (by omega) | (rw [beq_eq_false_iff_ne]; omega) | (rw [bne_eq_false_iff_eq]; omega))))
 | ((with_reducible (first | refine S_trueE ?_ ?_ | refine S_trueB ?_ ?_ | refine S_trueL ?_ ?_ | refine S_trueD ?_ ?_ | refine S_trueN ?_ ?_)); · (first | rfl | omega | exact decide_eq_true (by omega) | (rw [beq_iff_eq]; omega) | (rw [bne_iff_ne]; omega)))
 | refine S_unG rfl rfl rfl rfl ?_
 | refine S_offG (.v (.bool false)) rfl rfl rfl rfl rfl ?_
 | ((with_reducible refine S_trueO ?_ ?_); · first | rfl | (simp only [Bool.or_eq_true, decide_eq_true_eq, beq_iff_eq, bne_iff_ne]; omega))
 | refine S_nil ?_
 | refine S_runN rfl rfl obQ obQ ?_
     )
 | (refine G_id ?_; first
 | refine G_then ?_
 | refine G_thenR ?_
 | refine G_ret rfl obQ (fun w hw => ⟨?_, hw.below⟩)
     )
     )
    all_goals rfl
  by_cases hz : 1 < s.size ∧ byteAt s 0 = 48
  · obtain ⟨hz1, hz2⟩ := hz
    have hF : digF s = false := by unfold digF; rw [decide_eq_true hz1, hz2]; simp
    rw [digR_no hF]
    repeat' (first
 | (refine C_id ?_; first
 | refine C_seq ?_
 | refine C_region rfl ?_
 | refine C_block ?_
 | refine C_skip ?_
 | refine C_ret0 ?_
 | refine C_condT rfl obQ ?_
 | refine C_condF rfl obQ ?_
     )
 | (refine S_id ?_; first
 | ((with_reducible (first | refine S_falseN ?_ ?_ | refine S_falseB ?_ ?_ | refine S_falseL ?_ ?_ | refine S_falseD ?_ ?_ | refine S_falseE ?_ ?_)); · (first | rfl | omega | exact decide_eq_false (by omega) | (rw [beq_eq_false_iff_ne]; omega) | (rw [bne_eq_false_iff_eq]; omega)))
 | ((with_reducible refine S_falseO ?_ ?_ ?_); (· rfl); (· first | rfl | (first | rfl | omega | exact decide_eq_false (by omega) | (rw [beq_eq_false_iff_ne]; omega) | (rw [bne_eq_false_iff_eq]; omega))))
 | ((with_reducible (first | refine S_trueE ?_ ?_ | refine S_trueB ?_ ?_ | refine S_trueL ?_ ?_ | refine S_trueD ?_ ?_ | refine S_trueN ?_ ?_)); · (first | rfl | omega | exact decide_eq_true (by omega) | (rw [beq_iff_eq]; omega) | (rw [bne_iff_ne]; omega)))
 | refine S_unG rfl rfl rfl rfl ?_
 | ((with_reducible refine S_trueO ?_ ?_); · first | rfl | (simp only [Bool.or_eq_true, decide_eq_true_eq, beq_iff_eq, bne_iff_ne]; omega))
 | refine S_pure (idxB (j := 0) rfl obQ rfl rfl rfl (by omega)) ?_
 | refine S_nil ?_
 | refine S_runN rfl rfl obQ obQ ?_
     )
 | (refine G_id ?_; first
 | refine G_then ?_
 | refine G_thenR ?_
 | refine G_ret rfl obQ (fun w hw => ⟨?_, hw.below⟩)
     )
     )
    all_goals rfl
  have hF : digF s = true := by
    unfold digF
    have a1 : (s.size == 0) = false := by rw [beq_eq_false_iff_ne]; exact h0
    rw [a1, decide_eq_true (show s.size ≤ 9 by omega)]
    simp only [Bool.not_false, Bool.true_and, Bool.not_eq_true', Bool.and_eq_false_iff, decide_eq_false_iff_not, beq_eq_false_iff_ne]
    omega
  have hlp : ∀ (hq : allD s s.size = allD s s.size), True := fun _ => trivial
  by_cases h1 : 1 < s.size
  · have hb0 : ¬ byteAt s 0 = 48 := fun e => hz ⟨h1, e⟩
    repeat' (first
 | (refine C_id ?_; first
 | refine C_seq ?_
 | refine C_region rfl ?_
 | refine C_block ?_
 | refine C_skip ?_
 | refine C_ret0 ?_
 | refine C_condT rfl obQ ?_
 | refine C_condF rfl obQ ?_
     )
 | (refine S_id ?_; first
 | ((with_reducible (first | refine S_falseN ?_ ?_ | refine S_falseB ?_ ?_ | refine S_falseL ?_ ?_ | refine S_falseD ?_ ?_ | refine S_falseE ?_ ?_)); · (first | rfl | omega | exact decide_eq_false (by omega) | (rw [beq_eq_false_iff_ne]; omega) | (rw [bne_eq_false_iff_eq]; omega)))
 | ((with_reducible refine S_falseO ?_ ?_ ?_); (· rfl); (· first | rfl | (first | rfl | omega | exact decide_eq_false (by omega) | (rw [beq_eq_false_iff_ne]; omega) | (rw [bne_eq_false_iff_eq]; omega))))
 | ((with_reducible (first | refine S_trueE ?_ ?_ | refine S_trueB ?_ ?_ | refine S_trueL ?_ ?_ | refine S_trueD ?_ ?_ | refine S_trueN ?_ ?_)); · (first | rfl | omega | exact decide_eq_true (by omega) | (rw [beq_iff_eq]; omega) | (rw [bne_iff_ne]; omega)))
 | refine S_unG rfl rfl rfl rfl ?_
 | ((with_reducible refine S_trueO ?_ ?_); · first | rfl | (simp only [Bool.or_eq_true, decide_eq_true_eq, beq_iff_eq, bne_iff_ne]; omega))
 | refine S_pure (idxB (j := 0) rfl obQ rfl rfl rfl (by omega)) ?_
 | refine S_nil ?_
 | refine S_runN rfl rfl obQ obQ ?_
     )
 | (refine G_id ?_; first
 | refine G_then ?_
 | refine G_thenR ?_
 | refine G_ret rfl obQ (fun w hw => ⟨?_, hw.below⟩)
     )
     )
    refine C_loopS (fun k : Nat => ⟨[(0, .s (.v (.string s))), (4, .s (.v (.int .i64 (digN s k)))), (5, .s (.v (.int .i64 k)))], [], []⟩) (fun k => k ≤ s.size ∧ allD s k = true) (fun k => s.size - k) 0 ⟨Nat.zero_le _, rfl⟩ ?_ (fun k hk => ?_)
    · exact ⟨⟨_, rfl, obQ⟩, ⟨_, rfl⟩, rfl, pstQ⟩
    obtain ⟨hk1, hk2⟩ := hk
    dsimp only
    have hbd := digN_9 hk2 (by omega)
    by_cases hlt : k < s.size
    · cases hd : digB (byteAt s k)
      · rw [digR_bad hlt hd]
        repeat' (first
 | (refine C_id ?_; first
 | refine C_seq ?_
 | refine C_region rfl ?_
 | refine C_block ?_
 | refine C_skip ?_
 | refine C_ret0 ?_
 | refine C_condT rfl obQ ?_
         )
 | (refine S_id ?_; first
 | ((with_reducible (first | refine S_trueE ?_ ?_ | refine S_trueB ?_ ?_ | refine S_trueL ?_ ?_ | refine S_trueD ?_ ?_ | refine S_trueN ?_ ?_)); · (first | rfl | omega | exact decide_eq_true (by omega) | (rw [beq_iff_eq]; omega) | (rw [bne_iff_ne]; omega)))
 | refine S_pure (idxB (j := k) rfl obQ rfl rfl rfl hlt) ?_
 | refine S_nil ?_
 | refine S_runN rfl rfl obQ obQ ?_
 | refine S_call (f := 163) rfl obQ (by kernel_rfl) (fun w hw => rDigK_c hd w) ?_
         )
 | (refine G_id ?_; first
 | refine G_then ?_
 | refine G_blockR ?_
 | refine G_thenR ?_
 | refine G_ret rfl obQ (fun w hw => ⟨?_, hw.below⟩)
         )
         )
        all_goals rfl
      · have hc := dig_c hd
        have hal : allD s (k + 1) = true := by rw [allD_s, hk2, hd]; rfl
        have hst : digN s (k + 1) = 10 * digN s k + ((byteAt s k : Int) - 48) := rfl
        repeat' (first
 | (refine C_id ?_; first
 | refine C_seq ?_
 | refine C_region rfl ?_
 | refine C_block ?_
 | refine C_skip ?_
 | refine C_condT rfl obQ ?_
 | refine C_condF rfl obQ ?_
         )
 | (refine S_id ?_; first
 | ((with_reducible (first | refine S_trueE ?_ ?_ | refine S_trueB ?_ ?_ | refine S_trueL ?_ ?_ | refine S_trueD ?_ ?_ | refine S_trueN ?_ ?_)); · (first | rfl | omega | exact decide_eq_true (by omega) | (rw [beq_iff_eq]; omega) | (rw [bne_iff_ne]; omega)))
 | refine S_pure (idxB (j := k) rfl obQ rfl rfl rfl hlt) ?_
 | refine S_nil ?_
 | refine S_runN rfl rfl obQ obQ ?_
 | refine S_call (f := 163) rfl obQ (by kernel_rfl) (fun w hw => rDigK_c hd w) ?_
         )
 | (refine G_id ?_; first
 | refine G_loop (k + 1) ⟨by omega, hal⟩ (by show s.size - (k + 1) < s.size - k; omega) (by rw [hst]; exact ⟨⟨_, rfl, obQ⟩, ⟨_, rfl⟩, rfl, pstQ⟩)
 | refine G_then ?_
 | refine G_block ?_
         )
         )
    · have hke : k = s.size := by omega
      subst hke
      rw [digR_yes hF hk2]
      repeat' (first
 | (refine C_id ?_; first
 | refine C_seq ?_
 | refine C_region rfl ?_
 | refine C_exit ?_
 | refine C_ret0 ?_
 | refine C_condF rfl obQ ?_
       )
 | (refine S_id ?_; first
 | ((with_reducible (first | refine S_falseN ?_ ?_ | refine S_falseB ?_ ?_ | refine S_falseL ?_ ?_ | refine S_falseD ?_ ?_ | refine S_falseE ?_ ?_)); · (first | rfl | omega | exact decide_eq_false (by omega) | (rw [beq_eq_false_iff_ne]; omega) | (rw [bne_eq_false_iff_eq]; omega)))
 | refine S_nil ?_
 | refine S_runN rfl rfl obQ obQ ?_
       )
 | (refine G_id ?_; first
 | refine G_then ?_
 | refine G_blockX ?_
 | refine G_thenX ?_
 | refine G_ret rfl obQ (fun w hw => ⟨?_, hw.below⟩)
       )
       )
      all_goals rfl
  · repeat' (first
 | (refine C_id ?_; first
 | refine C_seq ?_
 | refine C_region rfl ?_
 | refine C_block ?_
 | refine C_skip ?_
 | refine C_ret0 ?_
 | refine C_condT rfl obQ ?_
 | refine C_condF rfl obQ ?_
     )
 | (refine S_id ?_; first
 | ((with_reducible (first | refine S_falseN ?_ ?_ | refine S_falseB ?_ ?_ | refine S_falseL ?_ ?_ | refine S_falseD ?_ ?_ | refine S_falseE ?_ ?_)); · (first | rfl | omega | exact decide_eq_false (by omega) | (rw [beq_eq_false_iff_ne]; omega) | (rw [bne_eq_false_iff_eq]; omega)))
 | ((with_reducible refine S_falseO ?_ ?_ ?_); (· rfl); (· first | rfl | (first | rfl | omega | exact decide_eq_false (by omega) | (rw [beq_eq_false_iff_ne]; omega) | (rw [bne_eq_false_iff_eq]; omega))))
 | ((with_reducible (first | refine S_trueE ?_ ?_ | refine S_trueB ?_ ?_ | refine S_trueL ?_ ?_ | refine S_trueD ?_ ?_ | refine S_trueN ?_ ?_)); · (first | rfl | omega | exact decide_eq_true (by omega) | (rw [beq_iff_eq]; omega) | (rw [bne_iff_ne]; omega)))
 | refine S_unG rfl rfl rfl rfl ?_
 | refine S_offG (.v (.bool false)) rfl rfl rfl rfl rfl ?_
 | ((with_reducible refine S_trueO ?_ ?_); · first | rfl | (simp only [Bool.or_eq_true, decide_eq_true_eq, beq_iff_eq, bne_iff_ne]; omega))
 | refine S_nil ?_
 | refine S_runN rfl rfl obQ obQ ?_
     )
 | (refine G_id ?_; first
 | refine G_then ?_
 | refine G_thenR ?_
 | refine G_ret rfl obQ (fun w hw => ⟨?_, hw.below⟩)
     )
     )
    refine C_loopS (fun k : Nat => ⟨[(0, .s (.v (.string s))), (4, .s (.v (.int .i64 (digN s k)))), (5, .s (.v (.int .i64 k)))], [], []⟩) (fun k => k ≤ s.size ∧ allD s k = true) (fun k => s.size - k) 0 ⟨Nat.zero_le _, rfl⟩ ?_ (fun k hk => ?_)
    · exact ⟨⟨_, rfl, obQ⟩, ⟨_, rfl⟩, rfl, pstQ⟩
    obtain ⟨hk1, hk2⟩ := hk
    dsimp only
    have hbd := digN_9 hk2 (by omega)
    by_cases hlt : k < s.size
    · cases hd : digB (byteAt s k)
      · rw [digR_bad hlt hd]
        repeat' (first
 | (refine C_id ?_; first
 | refine C_seq ?_
 | refine C_region rfl ?_
 | refine C_block ?_
 | refine C_skip ?_
 | refine C_ret0 ?_
 | refine C_condT rfl obQ ?_
         )
 | (refine S_id ?_; first
 | ((with_reducible (first | refine S_trueE ?_ ?_ | refine S_trueB ?_ ?_ | refine S_trueL ?_ ?_ | refine S_trueD ?_ ?_ | refine S_trueN ?_ ?_)); · (first | rfl | omega | exact decide_eq_true (by omega) | (rw [beq_iff_eq]; omega) | (rw [bne_iff_ne]; omega)))
 | refine S_pure (idxB (j := k) rfl obQ rfl rfl rfl hlt) ?_
 | refine S_nil ?_
 | refine S_runN rfl rfl obQ obQ ?_
 | refine S_call (f := 163) rfl obQ (by kernel_rfl) (fun w hw => rDigK_c hd w) ?_
         )
 | (refine G_id ?_; first
 | refine G_then ?_
 | refine G_blockR ?_
 | refine G_thenR ?_
 | refine G_ret rfl obQ (fun w hw => ⟨?_, hw.below⟩)
         )
         )
        all_goals rfl
      · have hc := dig_c hd
        have hal : allD s (k + 1) = true := by rw [allD_s, hk2, hd]; rfl
        have hst : digN s (k + 1) = 10 * digN s k + ((byteAt s k : Int) - 48) := rfl
        repeat' (first
 | (refine C_id ?_; first
 | refine C_seq ?_
 | refine C_region rfl ?_
 | refine C_block ?_
 | refine C_skip ?_
 | refine C_condT rfl obQ ?_
 | refine C_condF rfl obQ ?_
         )
 | (refine S_id ?_; first
 | ((with_reducible (first | refine S_trueE ?_ ?_ | refine S_trueB ?_ ?_ | refine S_trueL ?_ ?_ | refine S_trueD ?_ ?_ | refine S_trueN ?_ ?_)); · (first | rfl | omega | exact decide_eq_true (by omega) | (rw [beq_iff_eq]; omega) | (rw [bne_iff_ne]; omega)))
 | refine S_pure (idxB (j := k) rfl obQ rfl rfl rfl hlt) ?_
 | refine S_nil ?_
 | refine S_runN rfl rfl obQ obQ ?_
 | refine S_call (f := 163) rfl obQ (by kernel_rfl) (fun w hw => rDigK_c hd w) ?_
         )
 | (refine G_id ?_; first
 | refine G_loop (k + 1) ⟨by omega, hal⟩ (by show s.size - (k + 1) < s.size - k; omega) (by rw [hst]; exact ⟨⟨_, rfl, obQ⟩, ⟨_, rfl⟩, rfl, pstQ⟩)
 | refine G_then ?_
 | refine G_block ?_
         )
         )
    · have hke : k = s.size := by omega
      subst hke
      rw [digR_yes hF hk2]
      repeat' (first
 | (refine C_id ?_; first
 | refine C_seq ?_
 | refine C_region rfl ?_
 | refine C_exit ?_
 | refine C_ret0 ?_
 | refine C_condF rfl obQ ?_
       )
 | (refine S_id ?_; first
 | ((with_reducible (first | refine S_falseN ?_ ?_ | refine S_falseB ?_ ?_ | refine S_falseL ?_ ?_ | refine S_falseD ?_ ?_ | refine S_falseE ?_ ?_)); · (first | rfl | omega | exact decide_eq_false (by omega) | (rw [beq_eq_false_iff_ne]; omega) | (rw [bne_eq_false_iff_eq]; omega)))
 | refine S_nil ?_
 | refine S_runN rfl rfl obQ obQ ?_
       )
 | (refine G_id ?_; first
 | refine G_then ?_
 | refine G_blockX ?_
 | refine G_thenX ?_
 | refine G_ret rfl obQ (fun w hw => ⟨?_, hw.below⟩)
       )
       )
      all_goals rfl

end Go.Proofs.YtmfophoejjcnlaaGreatDoor
namespace Go.Proofs.YtmfophoejjcnlaaGreatDoor
open Go.E Go.RowKit
attribute [local irreducible] G C S D Calls
set_option maxRecDepth 100000
set_option linter.unusedSimpArgs false
set_option linter.unusedVariables false

/-- A string between two places. -/
theorem sl_mid {X : Cx} {t : TypeId} {ti : TI} (hl : Go.E.look X.T t = some ti) (hk : ti.k = .str) (s : ByteArray) (k k' : IntKind) (z y : Int) (i j : Nat) (hz : z = (i : Int)) (hy : y = (j : Int)) (h1 : i ≤ j) (h2 : j ≤ s.size) (w : World) :
    (Instr.sliceAt t (.string s) (some (.int k z)) (some (.int k' y)) none).run X.P w = .ok (.string (s.extract i j)) w := by
  subst hz hy
  obtain ⟨i', dd, z, hi, hu, hz, rfl⟩ := X.hT.row hl
  have hd := kOf_str hk
  subst hd
  have := run_slice_string (P := X.P) (w := w) t s k k' (i : Int) (j : Int) hu (by omega) (by omega) (by omega)
  rw [run_sliceAt_string w t _ _ _ _ hu, this, Int.toNat_natCast, Int.toNat_natCast]
/-- The parts of the first bytes, and the last of them. -/
def splS (s : ByteArray) (c : Nat) : Nat → List ByteArray × ByteArray
  | 0 => ([], ByteArray.empty)
  | k + 1 => if byteAt s k = c then ((splS s c k).1 ++ [(splS s c k).2], ByteArray.empty) else ((splS s c k).1, (splS s c k).2 ++ s.extract k (k + 1))
def splR (s : ByteArray) (c : Nat) : List ByteArray := (splS s c s.size).1 ++ [(splS s c s.size).2]
theorem spl_at {pre : List ByteArray} {a : ByteArray} {m : Nat} (h : m = pre.length) : ((pre ++ [a]).map Value.string)[m]? = some (.string a) := by
  subst h
  simp
theorem spl_ld {pre : List ByteArray} {a : ByteArray} {m : Nat} (h : m = pre.length) : ∀ (j : Nat) (u : Value), ([.string a] : List Value)[j]? = some u → ((pre ++ [a]).map Value.string)[m + j]? = some u := by
  intro j u hu
  cases j with
  | succ j => simp at hu
  | zero =>
    cases hu
    exact spl_at h
theorem spl_put {pre : List ByteArray} {a b : ByteArray} {m : Nat} (h : m = pre.length) : (pre ++ [b]).map Value.string = ((pre ++ [a]).map Value.string).take m ++ ([Value.string b] ++ ((pre ++ [a]).map Value.string).drop (m + 1)) := by
  subst h
  simp [List.take_append, List.drop_append]

set_option maxHeartbeats 1000000 in
/-- genlockref01.Split -/
theorem rSplit_c (s : ByteArray) (hs : s.size ≤ 1000000) (c : Nat) (hc : c ≤ 255) (w : World) : Calls Tryz.prog 80 #[.string s, .int .u8 (c : Int)] w fun r w' => ∃ v, r = .returned v ∧ Below w.heap.size w w' ∧ Sl w w' v (splR s c).length ((splR s c).map .string) := by
  refine calls_of (args := [.string s, .int .u8 (c : Int)]) T_ok Tryz.func80 rfl Tryz.ntmps80 (Nat.le_of_ble_eq_true rfl) rfl ?_
  repeat' (first
 | (refine C_id ?_; first
 | refine C_seq ?_
 | refine C_region rfl ?_
 | refine C_block ?_
 )
 | (refine S_id ?_; first
 | refine S_nil ?_
 | refine S_run rfl rfl obQ obQ ?_
 | refine S_slice (fun b => ⟨_, _, rfl, obQ, ?_⟩)
 )
 | (refine G_id ?_; first
 | refine G_then ?_
 )
 )
  refine C_boxRow 5 1 1 (bx' := []) rfl rfl (xs := ([ByteArray.empty] : List ByteArray).map .string) rfl rfl (by unfold maxLen; omega) ?_
  refine C_loopS (fun i : Nat × Nat × List ByteArray × ByteArray × Nat × Nat => ⟨[(0, .s (.v (.string s))), (1, .s (.v (.int .u8 (c : Int)))), (5, .s (.r (some ⟨i.2.2.2.2.1, 0, none⟩) i.2.1 i.2.2.2.2.2 0)), (6, .s (.v (.int .i64 i.1)))], [], [⟨9, 1, i.2.1, (i.2.2.1 ++ [i.2.2.2.1]).map .string, .slice (some ⟨i.2.2.2.2.1, 0, none⟩) i.2.1 i.2.2.2.2.2⟩]⟩) (fun i => i.1 ≤ s.size ∧ splS s c i.1 = (i.2.2.1, i.2.2.2.1) ∧ i.2.1 = i.2.2.1.length + 1 ∧ i.2.2.1.length ≤ i.1 ∧ i.2.2.2.1.size ≤ i.1) (fun i => s.size - i.1) (0, 1, [], ByteArray.empty, b, 1) ⟨Nat.zero_le _, rfl, rfl, Nat.le_refl _, Nat.le_refl _⟩ ?_ (fun i hi => ?_)
  · exact ⟨⟨_, rfl, obQ⟩, ⟨_, rfl⟩, rfl, pstQ⟩
  obtain ⟨k, nn, pre, last, g, cap⟩ := i
  obtain ⟨hk, hsp, hn, hpl, hll⟩ := hi
  dsimp only at hk hsp hn hpl hll ⊢
  subst hn
  by_cases hlt : k < s.size
  · by_cases he : byteAt s k = c
    · have h2 : splS s c (k + 1) = (pre ++ [last], ByteArray.empty) := by
        rw [splS, if_pos he, hsp]
      repeat' (first
 | (refine C_id ?_; first
 | refine C_seq ?_
 | refine C_region rfl ?_
 | refine C_block ?_
 | refine C_skip ?_
 | refine C_exit ?_
 | refine C_condT rfl obQ ?_
       )
 | (refine S_id ?_; first
 | ((with_reducible (first | refine S_trueE ?_ ?_ | refine S_trueB ?_ ?_ | refine S_trueL ?_ ?_ | refine S_trueD ?_ ?_ | refine S_trueN ?_ ?_)); · (first | rfl | omega | exact decide_eq_true (by omega) | (rw [beq_iff_eq]; omega)))
 | refine S_pure (idxB (j := k) rfl obQ rfl rfl rfl hlt) ?_
 | refine S_append rfl obQ rfl rfl rfl ⟨by decide, rfl⟩ rfl ⟨rfl, rfl, rfl, rfl⟩ [.string ByteArray.empty] ⟨by decide, rfl⟩ (by simp [Value.oneCell']) (fun w hw => by first | exact hw.src (i := 0) rfl rfl | exact hw.src (i := 1) rfl rfl | exact hw.src (i := 2) rfl rfl | exact hw.src (i := 3) rfl rfl | exact hw.src (i := 4) rfl rfl | exact hw.src (i := 5) rfl rfl | exact hw.src (i := 6) rfl rfl | exact hw.src (i := 7) rfl rfl | exact hw.src (i := 8) rfl rfl) (by unfold maxLen; dsimp only; omega) (fun gb cap' => ⟨_, rfl, ?_⟩)
 | refine S_nil ?_
 | refine S_run rfl rfl obQ obQ ?_
 | refine S_slice (fun b => ⟨_, _, rfl, obQ, ?_⟩)
       )
 | (refine G_id ?_; first
 | refine G_loop (k + 1, pre.length + 1 + 1, pre ++ [last], ByteArray.empty, gb, cap') ⟨by omega, h2, by simp, by simp; omega, Nat.zero_le _⟩ (by show s.size - (k + 1) < s.size - k; omega) ⟨⟨_, rfl, obQ⟩, ⟨_, rfl⟩, (by dsimp only; simp), pstQ⟩
 | refine G_then ?_
 | refine G_blockX ?_
 | refine G_thenX ?_
       )
       )
    · have h2 : splS s c (k + 1) = (pre, last ++ s.extract k (k + 1)) := by
        rw [splS, if_neg he, hsp]
      have hsz : (last ++ s.extract k (k + 1)).size ≤ k + 1 := by rw [ByteArray.size_append, ByteArray.size_extract]; omega
      repeat' (first
 | (refine C_id ?_; first
 | refine C_seq ?_
 | refine C_region rfl ?_
 | refine C_block ?_
 | refine C_skip ?_
 | refine C_drawT (id := 7) 17 rfl mixed (by kernel_rfl) rfl rfl ?_
 | refine C_condT rfl obQ ?_
 | refine C_condF rfl obQ ?_
       )
 | (refine S_id ?_; first
 | ((with_reducible (first | refine S_falseN ?_ ?_ | refine S_falseB ?_ ?_ | refine S_falseL ?_ ?_ | refine S_falseD ?_ ?_ | refine S_falseE ?_ ?_)); · (first | rfl | omega | exact decide_eq_false (by omega) | (rw [beq_eq_false_iff_ne]; omega)))
 | ((with_reducible (first | refine S_trueE ?_ ?_ | refine S_trueB ?_ ?_ | refine S_trueL ?_ ?_ | refine S_trueD ?_ ?_ | refine S_trueN ?_ ?_)); · (first | rfl | omega | exact decide_eq_true (by omega) | (rw [beq_iff_eq]; omega)))
 | refine S_pure (idxB (j := k) rfl obQ rfl rfl rfl hlt) ?_
 | refine S_storeRow rfl obQ rfl rfl rfl 0 rfl rfl ((((pre.length + 1 : Nat) : Int) - 1).toNat * 1) rfl (by dsimp only; simp) (xs' := (pre ++ [last ++ s.extract k (k + 1)]).map .string) (spl_put (by omega)) rfl ?_
 | refine S_nil ?_
 | refine S_run rfl rfl obQ obQ ?_
       )
 | (refine D_id ?_; first
 | refine D_load rfl obQ rfl [.string last] (.row 0 _ rfl g (pre.length + 1) cap ((((pre.length + 1 : Nat) : Int) - 1).toNat * 1) rfl rfl (spl_ld (by omega))) rfl (.inr ⟨rfl, rfl⟩) ?_
 | refine D_pure (sliceX_pure rfl obQ (fun w => sl_mid rfl rfl s _ _ _ _ k (k + 1) rfl (by omega) (by omega) (by omega) w)) ?_
 | refine D_pure (binX_pure rfl obQ (fun w => cat_str _ _ _ _ _ (by rw [ByteArray.size_extract]; omega) w)) ?_
 | refine D_tail ?_
 | refine D_run rfl rfl obQ obQ ?_
       )
 | (refine G_id ?_; first
 | refine G_loop (k + 1, pre.length + 1, pre, last ++ s.extract k (k + 1), g, cap) ⟨by omega, h2, rfl, by show pre.length ≤ k + 1; omega, hsz⟩ (by show s.size - (k + 1) < s.size - k; omega) ⟨⟨_, rfl, obQ⟩, ⟨_, rfl⟩, rfl, pstQ⟩
 | refine G_then ?_
 | refine G_block ?_
       )
       )
  · have hke : k = s.size := by omega
    subst hke
    have hR : splR s c = pre ++ [last] := by unfold splR; rw [hsp]
    rw [hR]
    repeat' (first
 | (refine C_id ?_; first
 | refine C_seq ?_
 | refine C_region rfl ?_
 | refine C_exit ?_
 | refine C_ret0 ?_
 | (refine C_cond rfl obQ (fun h => ?_) (fun h => ?_) <;> (try simp only [Bool.or_eq_true, Bool.and_eq_true, Bool.or_eq_false_iff, Bool.and_eq_false_iff, decide_eq_true_eq, decide_eq_false_iff_not, beq_iff_eq, bne_iff_ne, beq_eq_false_iff_ne, bne_eq_false_iff_eq, ne_eq, Decidable.not_not, List.cons.injEq, and_true, Bool.not_eq_true', Bool.not_eq_false', Int.not_lt, Int.not_le] at h) <;> (try (exfalso; omega)) <;> (try (exfalso; simp at h; done)) <;> (try (exfalso; simp only [not_true_eq_false, false_or, or_false] at h; omega)) <;> (try contradiction))
     )
 | (refine S_id ?_; first
 | refine S_nil ?_
 | refine S_run rfl rfl obQ obQ ?_
     )
 | (refine G_id ?_; first
 | refine G_then ?_
 | refine G_blockX ?_
 | refine G_thenX ?_
 | refine G_ret rfl obQ (fun w2 hw => ⟨_, rfl, hw.below, HW.rowSl (i := 0) hw rfl rfl (by simp) rfl⟩)
     )
     )

theorem rdS_some {S : Nat → Prop} {W : World} {A : Option Addr} {xs : List Value} (h : RdS S W A xs) (h0 : 0 < xs.length) : ∃ a, A = some a := by
  rcases h with h | ⟨ad, h, _⟩
  · rw [h] at h0; simp at h0
  · exact ⟨ad, h⟩
theorem spl_size (s : ByteArray) (c : Nat) : ∀ k, k ≤ s.size → (∀ x ∈ (splS s c k).1, x.size ≤ k) ∧ (splS s c k).2.size ≤ k ∧ (splS s c k).1.length ≤ k
  | 0, _ => by simp [splS]
  | k + 1, h => by
    obtain ⟨h1, h2, h3⟩ := spl_size s c k (by omega)
    rw [splS]
    split
    · refine ⟨fun x hx => ?_, Nat.zero_le _, by simp; omega⟩
      simp only [List.mem_append, List.mem_singleton] at hx
      rcases hx with hx | rfl
      · have := h1 x hx; omega
      · omega
    · refine ⟨fun x hx => ?_, ?_, by dsimp only; omega⟩
      · have := h1 x hx; omega
      · dsimp only
        rw [ByteArray.size_append, ByteArray.size_extract]
        omega
theorem splR_size (s : ByteArray) (c : Nat) : ∀ x ∈ splR s c, x.size ≤ s.size := by
  obtain ⟨h1, h2, h3⟩ := spl_size s c s.size (Nat.le_refl _)
  intro x hx
  simp only [splR, List.mem_append, List.mem_singleton] at hx
  rcases hx with hx | rfl
  · exact h1 x hx
  · exact h2
theorem splR_len (s : ByteArray) (c : Nat) : (splR s c).length ≤ s.size + 1 := by
  obtain ⟨h1, h2, h3⟩ := spl_size s c s.size (Nat.le_refl _)
  simp [splR]
  omega
theorem splR_cons (s : ByteArray) (c : Nat) : ∃ hd tl, splR s c = hd :: tl := by
  cases h : splR s c with
  | nil => simp [splR] at h
  | cons a l => exact ⟨a, l, rfl⟩
def sG (l : List ByteArray) (k : Nat) : ByteArray := l.getD k ByteArray.empty
theorem sN_at {l : List ByteArray} {k : Nat} (h : k < l.length) : sG l k = l[k] := by simp [sG, h]
theorem sN_mem {l : List ByteArray} {k : Nat} (h : k < l.length) : sG l k ∈ l := by rw [sN_at h]; exact List.getElem_mem h
theorem sN_ld {l : List ByteArray} {k m : Nat} (hm : m = k) (h : k < l.length) : ∀ (j : Nat) (u : Value), ([.string (sG l k)] : List Value)[j]? = some u → (l.map Value.string)[m + j]? = some u := by
  subst hm
  intro j u hu
  cases j with
  | succ j => simp at hu
  | zero =>
    cases hu
    rw [sN_at h]
    simp [h]
theorem sN_cons (a : ByteArray) (l : List ByteArray) (k : Nat) : sG (a :: l) (k + 1) = sG l k := by simp [sG]
theorem rSplit_as2 {s : ByteArray} {c n : Nat} {ls : List ByteArray} (h : splR s c = ls) (hn : ls.length = n) (hs : s.size ≤ 1000000) (hc : c ≤ 255) (w : World) :
    Calls Tryz.prog 80 #[.string s, .int .u8 (c : Int)] w fun r w' => ∃ v, r = .returned v ∧ Below w.heap.size w w' ∧ Sl w w' v n (ls.map Value.string) := by
  have := rSplit_c s hs c hc w
  rw [h, hn] at this
  exact this

section
variable {X : Cx} {Ps : Past} {l0 l rest : List Oper} {Q : Exit → Act → World → Prop} {sl : List (Nat × AV)} {bx : List Bx} {rw : List Rw}
/-- Two strings that are known to be equal, or not. -/
theorem S_strNe {x y : List UInt8} {b : Bool} {d : Nat} (h : (!(x == y)) = b) (k : S X Ps l0 Q rest ⟨(d, .s (.v (.bool b))) :: sl, bx, rw⟩) : S X Ps l0 Q rest ⟨(d, .s (.v (.bool (!(x == y))))) :: sl, bx, rw⟩ := by rw [h]; exact k
end
theorem toL_ne {a b : ByteArray} (h : a ≠ b) : (!(a.toList == b.toList)) = true := by
  have e : (a.toList == b.toList) = false := by
    rw [beq_eq_false_iff_ne]
    intro e
    exact h (ByteArray.ext (Array.ext' (by simpa [ByteArray.toList_eq] using e)))
  rw [e]
  rfl
theorem toL_eq {a b : ByteArray} (h : a = b) : (!(a.toList == b.toList)) = false := by subst h; simp

end Go.Proofs.YtmfophoejjcnlaaGreatDoor
namespace Go.Proofs.YtmfophoejjcnlaaGreatDoor
open Go.E Go.RowKit
attribute [local irreducible] G C S D DY DS V VT Yl QV QT Calls
set_option maxRecDepth 100000
set_option linter.unusedSimpArgs false
set_option linter.unusedVariables false

/-- A conversion that reads the memory. -/
theorem convM_pure {X : Cx} {Ps : Past} {σ : St} {o : Oper} {s t : TypeId} {a : Value} {d : Nat} {ob : List Prop} (h : oneX X.N o σ = some (.conv s t, a, d, ob)) (hob : AllP ob) {v : Value} (hr : ∀ w, HW X.B X.w0 Ps ⟨[], σ.bx, σ.rw⟩ w → (convert s t a).run X.P w = .ok v w) : Pure X Ps σ o (.v v) d := by
  obtain ⟨hg, hd, hlt, hx⟩ := oneX_exec h hob
  exact ⟨hg, hd, hlt, fun a w ha hw => hx ha (hr w hw)⟩
/-- A string of one byte. -/
def oneB (z : Int) : ByteArray := ⟨#[UInt8.ofNat z.toNat]⟩
theorem cv_one {P : Program} {w : World} {s t e : TypeId} (hs : P.underlying s = some (.slice e)) (he : P.underlying e = some (.int .u8)) (hd : P.underlying t = some .string) {b : Nat} {z : Int} (h : 0 ≤ z ∧ z ≤ 255)
    (hc : ∀ (j : Nat) (u : Value), ([.int .u8 z] : List Value)[j]? = some u → w.cell? ((⟨b, 0, none⟩ : Addr).add j) = some u) : (convert s t (.slice (some ⟨b, 0, none⟩) 1 1)).run P w = .ok (.string (oneB z)) w := by
  refine run_convert_bytes_back (P := P) w s t e ⟨b, 0, none⟩ 1 [UInt8.ofNat z.toNat] hs he hd (fun j hj => ?_)
  have : j = 0 := by simpa using hj
  subst this
  refine hc 0 _ ?_
  have h2 : z.toNat % 256 = z.toNat := Nat.mod_eq_of_lt (by omega)
  simp [h2]
  omega
theorem it_dig {n : Int} (h : 0 ≤ n ∧ n < 10) : itB n = oneB (48 + n) := by
  unfold itB Lib.itoa oneB
  rw [if_neg (by omega)]
  unfold Lib.decDigits
  rw [dif_pos (show n.toNat < 10 by omega), show (48 + n).toNat = 48 + n.toNat by omega]
theorem it_pos {n : Int} (h : 10 ≤ n) : itB n = itB (n / 10) ++ oneB (48 + n % 10) := by
  unfold itB Lib.itoa oneB
  rw [if_neg (by omega), if_neg (by omega), Lib.decDigits, dif_neg (by omega), show (n / 10).toNat = n.toNat / 10 by omega, show (48 + n % 10).toNat = 48 + n.toNat % 10 by omega]
  ext1
  simp
theorem it_neg1 {n : Int} (h : -10 < n ∧ n < 0) : itB n = (⟨#[45]⟩ : ByteArray) ++ itB (0 - n) := by
  unfold itB Lib.itoa
  rw [if_pos h.2, if_neg (by omega), show (0 - n).toNat = n.natAbs by omega]
  ext1
  simp
theorem td_neg {n : Int} (h : n ≤ 0) : n.tdiv 10 = -((n.natAbs / 10 : Nat) : Int) ∧ n.tmod 10 = -((n.natAbs % 10 : Nat) : Int) := by
  have e : n = -((n.natAbs : Nat) : Int) := by omega
  generalize n.natAbs = m at e
  subst e
  exact ⟨by rw [Int.neg_tdiv]; rfl, by rw [Int.neg_tmod]; rfl⟩
theorem it_neg {n : Int} (h : n ≤ -10) : itB n = itB (n.tdiv 10) ++ itB (0 - n.tmod 10) := by
  obtain ⟨h1, h2⟩ := td_neg (show n ≤ 0 by omega)
  rw [h1, h2]
  generalize hm : n.natAbs = m
  unfold itB Lib.itoa
  rw [if_pos (by omega), if_pos (by omega), if_neg (by omega), show (0 - -((m % 10 : Nat) : Int)).toNat = m % 10 by omega, Int.natAbs_neg, Int.natAbs_natCast, hm, Lib.decDigits, dif_neg (by omega)]
  have h3 : Lib.decDigits (m % 10) = [UInt8.ofNat (48 + m % 10)] := by rw [Lib.decDigits, dif_pos (by omega)]
  rw [h3]
  ext1
  simp
theorem quo_i {P : Program} (t : TypeId) (x y : Operand) {a : Int} (h : -9223372036854775808 ≤ a ∧ a ≤ 0) (w : World) : (do eqGuard .quo t x y (.int .i64 a) (.int .i64 10); binOp .quo t (.int .i64 a) (.int .i64 10) : Sem Value).run P w = .ok (.int .i64 (a.tdiv 10)) w := by
  have hr : inR .i64 (a.tdiv 10) := by
    have h1 := (td_neg h.2).1
    simp only [inR]
    omega
  simp [eqGuard_int, binOp, Op.intDiv, inR_wrap hr]
theorem rem_i {P : Program} (t : TypeId) (x y : Operand) {a : Int} (w : World) : (do eqGuard .rem t x y (.int .i64 a) (.int .i64 10); binOp .rem t (.int .i64 a) (.int .i64 10) : Sem Value).run P w = .ok (.int .i64 (a.tmod 10)) w := by
  have h1 := Int.tmod_lt_of_pos a (show 0 < 10 by omega)
  have h2 := Int.lt_tmod_of_pos a (show 0 < 10 by omega)
  have hr : inR .i64 (a.tmod 10) := by
    simp only [inR]
    omega
  simp [eqGuard_int, binOp, Op.intDiv, inR_wrap hr]
theorem it_size (n : Int) (h : -9223372036854775808 ≤ n ∧ n ≤ 9223372036854775807) : (itB n).size ≤ 21 := itB_size n h.1 h.2
/-- What the recursion measures. -/
def txM (n : Int) : Nat := 2 * n.natAbs + (if n < 0 then 1 else 0)

set_option maxHeartbeats 1000000 in
/-- genlockref01.Text -/
theorem rTextS_c (n : Int) (hn : -9223372036854775808 ≤ n ∧ n ≤ 9223372036854775807) (IH : ∀ m : Int, txM m < txM n → -9223372036854775808 ≤ m ∧ m ≤ 9223372036854775807 → ∀ W : World, Calls Tryz.prog 133 #[.int .i64 m] W fun r w' => r = .returned (.string (itB m)) ∧ Below W.heap.size W w') (w : World) : Calls Tryz.prog 133 #[.int .i64 n] w fun r w' => r = .returned (.string (itB n)) ∧ Below w.heap.size w w' := by
  refine calls_of (args := [.int .i64 n]) T_ok Tryz.func133 rfl Tryz.ntmps133 (Nat.le_of_ble_eq_true rfl) rfl ?_
  by_cases h0 : n < 0
  · by_cases h1 : -10 < n
    · rw [it_neg1 ⟨h1, h0⟩]
      repeat' (first
 | (refine C_id ?_; first
 | refine C_seq ?_
 | refine C_region rfl ?_
 | refine C_ret0 ?_
 | refine C_condT rfl obQ ?_
       )
 | (refine S_id ?_; first
 | ((with_reducible (first | refine S_trueE ?_ ?_ | refine S_trueB ?_ ?_ | refine S_trueL ?_ ?_ | refine S_trueD ?_ ?_ | refine S_trueN ?_ ?_)); · (first | rfl | omega | exact decide_eq_true (by omega)))
 | refine S_pure (binX_pure rfl obQ (fun w => cat_str _ _ _ _ _ (by have := it_size (0 - n) (by omega); show 1 + _ ≤ _; omega) w)) ?_
 | refine S_nil ?_
 | refine S_run rfl rfl obQ obQ ?_
 | refine S_call (f := 133) rfl obQ (by kernel_rfl) (fun w hw => (IH (0 - n) (by unfold txM; (repeat' split) <;> omega) (by omega) w)) ?_
       )
 | (refine G_id ?_; first
 | refine G_then ?_
 | refine G_thenR ?_
 | refine G_ret rfl obQ (fun w hw => ⟨?_, hw.below⟩)
       )
       )
      all_goals rfl
    · rw [it_neg (show n ≤ -10 by omega)]
      obtain ⟨ht1, ht2⟩ := td_neg (show n ≤ 0 by omega)
      repeat' (first
 | (refine C_id ?_; first
 | refine C_seq ?_
 | refine C_region rfl ?_
 | refine C_skip ?_
 | refine C_ret0 ?_
 | refine C_condT rfl obQ ?_
 | refine C_condF rfl obQ ?_
       )
 | (refine S_id ?_; first
 | ((with_reducible (first | refine S_falseN ?_ ?_ | refine S_falseB ?_ ?_ | refine S_falseL ?_ ?_ | refine S_falseD ?_ ?_ | refine S_falseE ?_ ?_)); · (first | rfl | omega | exact decide_eq_false (by omega)))
 | ((with_reducible (first | refine S_trueE ?_ ?_ | refine S_trueB ?_ ?_ | refine S_trueL ?_ ?_ | refine S_trueD ?_ ?_ | refine S_trueN ?_ ?_)); · (first | rfl | omega | exact decide_eq_true (by omega)))
 | refine S_pure (binX_pure rfl obQ (fun w => quo_i _ _ _ (by omega) w)) ?_
 | refine S_pure (binX_pure rfl obQ (fun w => rem_i _ _ _ w)) ?_
 | refine S_pure (binX_pure rfl obQ (fun w => cat_str _ _ _ _ _ (by have := it_size (n.tdiv 10) (by omega); have := it_size (0 - n.tmod 10) (by omega); omega) w)) ?_
 | refine S_nil ?_
 | refine S_run rfl rfl obQ obQ ?_
 | refine S_one rfl obQ ?_
 | refine S_call (f := 133) rfl obQ (by kernel_rfl) (fun w hw => (IH (n.tdiv 10) (by unfold txM; (repeat' split) <;> omega) (by omega) w)) ?_
 | refine S_call (f := 133) rfl obQ (by kernel_rfl) (fun w hw => (IH (0 - n.tmod 10) (by unfold txM; (repeat' split) <;> omega) (by omega) w)) ?_
       )
 | (refine G_id ?_; first
 | refine G_then ?_
 | refine G_thenR ?_
 | refine G_ret rfl obQ (fun w hw => ⟨?_, hw.below⟩)
       )
       )
      all_goals rfl
  · by_cases h1 : n < 10
    · rw [it_dig ⟨by omega, h1⟩]
      repeat' (first
 | (refine C_id ?_; first
 | refine C_seq ?_
 | refine C_region rfl ?_
 | refine C_skip ?_
 | refine C_ret0 ?_
 | refine C_condT rfl obQ ?_
 | refine C_condF rfl obQ ?_
       )
 | (refine S_id ?_; first
 | ((with_reducible (first | refine S_falseN ?_ ?_ | refine S_falseB ?_ ?_ | refine S_falseL ?_ ?_ | refine S_falseD ?_ ?_ | refine S_falseE ?_ ?_)); · (first | rfl | omega | exact decide_eq_false (by omega)))
 | ((with_reducible (first | refine S_trueE ?_ ?_ | refine S_trueB ?_ ?_ | refine S_trueL ?_ ?_ | refine S_trueD ?_ ?_ | refine S_trueN ?_ ?_)); · (first | rfl | omega | exact decide_eq_true (by omega)))
 | refine S_pure (convM_pure rfl obQ (fun w hw => cv_one (e := 5) (by kernel_rfl) (by kernel_rfl) (by kernel_rfl) (z := 48 + n) (by omega) (hw.src (i := 0) rfl rfl))) ?_
 | refine S_nil ?_
 | refine S_run rfl rfl obQ obQ ?_
 | refine S_slice (fun b => ⟨_, _, rfl, obQ, ?_⟩)
       )
 | (refine G_id ?_; first
 | refine G_then ?_
 | refine G_thenR ?_
 | refine G_ret rfl obQ (fun w hw => ⟨?_, hw.below⟩)
       )
       )
      all_goals rfl
    · rw [it_pos (show 10 ≤ n by omega)]
      repeat' (first
 | (refine C_id ?_; first
 | refine C_seq ?_
 | refine C_region rfl ?_
 | refine C_skip ?_
 | refine C_ret0 ?_
 | refine C_drawTr0 (id := 7) 9 (.q 0 (.q 1 (.q 3 (.q 4 (.q 5 (.q 6 (.two 2 7 (.n 7 (.n 8 .nil)) (.two 2 8 (.n 8 .nil) (.n 2 .nil))))))))) rfl mixed (by kernel_rfl) rfl ?_
 | refine C_condF rfl obQ ?_
       )
 | (refine S_id ?_; first
 | ((with_reducible (first | refine S_falseN ?_ ?_ | refine S_falseB ?_ ?_ | refine S_falseL ?_ ?_ | refine S_falseD ?_ ?_ | refine S_falseE ?_ ?_)); · (first | rfl | omega | exact decide_eq_false (by omega)))
 | refine S_pure (convM_pure rfl obQ (fun w hw => cv_one (e := 5) (by kernel_rfl) (by kernel_rfl) (by kernel_rfl) (z := 48 + n % 10) (by omega) (hw.src (i := 0) rfl rfl))) ?_
 | refine S_pure (binX_pure rfl obQ (fun w => cat_str _ _ _ _ _ (by have := it_size (n / 10) (by omega); show _ + 1 ≤ _; omega) w)) ?_
 | refine S_nil ?_
 | refine S_run rfl rfl obQ obQ ?_
 | refine S_slice (fun b => ⟨_, _, rfl, obQ, ?_⟩)
 | refine S_call (f := 133) rfl obQ (by kernel_rfl) (fun w hw => (IH (n / 10) (by unfold txM; (repeat' split) <;> omega) (by omega) w)) ?_
       )
 | (refine VT_id ?_; first
 | refine VT_nil ?_
 | refine VT_q rfl (Yl_step rfl obQ) ?_
 | refine VT_n rfl ?_
 | refine VT_two rfl rfl ?_ ?_
       )
 | (refine G_id ?_; first
 | refine G_VT2 ⟨_, rfl⟩ ⟨_, rfl⟩ pstQ rfl ?_
 | refine G_then ?_
 | refine G_ret rfl obQ (fun w hw => ⟨?_, hw.below⟩)
       )
       )
      all_goals rfl

theorem rText_c (n : Int) (hn : -9223372036854775808 ≤ n ∧ n ≤ 9223372036854775807) (w : World) : Calls Tryz.prog 133 #[.int .i64 n] w fun r w' => r = .returned (.string (itB n)) ∧ Below w.heap.size w w' := by
  suffices h : ∀ (k : Nat) (m : Int), txM m < k → -9223372036854775808 ≤ m ∧ m ≤ 9223372036854775807 → ∀ W : World, Calls Tryz.prog 133 #[.int .i64 m] W fun r w' => r = .returned (.string (itB m)) ∧ Below W.heap.size W w' from h (txM n + 1) n (Nat.lt_succ_self _) hn w
  intro k
  induction k with
  | zero => intro m h; omega
  | succ k ih => exact fun m h hm W => rTextS_c m hm (fun m' h' hm' W' => ih m' (by omega) hm' W') W

end Go.Proofs.YtmfophoejjcnlaaGreatDoor
namespace Go.Proofs.YtmfophoejjcnlaaGreatDoor
open Go.E Go.RowKit
attribute [local irreducible] G C S D Calls
set_option maxRecDepth 100000
set_option linter.unusedSimpArgs false
set_option linter.unusedVariables false

theorem bx_get {s : ByteArray} {k : Nat} (h : k < s.size) : byteAt s k = (s.data.toList[k]'(by rw [← Lib.size_eq]; exact h)).toNat := by
  simp [byteAt, h]
  rfl
/-- A newline at the end. -/
def cutE (s : ByteArray) : ByteArray × Bool := if 0 < s.size ∧ byteAt s (s.size - 1) = 10 then (s.extract 0 (s.size - 1), true) else (s, false)
theorem cutE_eq (s : ByteArray) : ((⟨(Lib.trimSuffix s.data.toList sNl.data.toList).toArray⟩ : ByteArray), Lib.hasSuffix s.data.toList sNl.data.toList) = cutE s := by
  have e : sNl.data.toList = [10] := rfl
  have key : ∀ (c : Bool) (x : ByteArray), Lib.hasSuffix s.data.toList [10] = c → Lib.trimSuffix s.data.toList [10] = x.data.toList → cutE s = (x, c) → ((⟨(Lib.trimSuffix s.data.toList [10]).toArray⟩ : ByteArray), Lib.hasSuffix s.data.toList [10]) = cutE s := by
    intro c x h1 h2 h3
    rw [h1, h2, h3]
  rw [e]
  rcases List.eq_nil_or_concat s.data.toList with hl | ⟨l, a, hl⟩
  · have h0 : s.size = 0 := by rw [Lib.size_eq, hl]; rfl
    exact key false s (by rw [hl]; rfl) (by rw [hl]; rfl) (if_neg (by omega))
  · have h0 : s.size = l.length + 1 := by rw [Lib.size_eq, hl]; simp
    have hb : byteAt s (s.size - 1) = a.toNat := by
      rw [bx_get (by omega)]
      simp [hl, h0]
    have hf : Lib.hasSuffix (l ++ [a]) [10] = ((10 : UInt8) == a) := by
      unfold Lib.hasSuffix
      simp [List.isSuffixOf, List.isPrefixOf]
    rw [List.concat_eq_append] at hl
    by_cases ha : a = 10
    · refine key true (s.extract 0 (s.size - 1)) (by rw [hl, hf, ha]; rfl) ?_ (if_pos ⟨by omega, by rw [hb, ha]; rfl⟩)
      have hx := Lib.extract_toList s 0 (s.size - 1)
      have hx2 : (s.extract 0 (s.size - 1)).data.toList = (List.drop 0 (l ++ [a])).take (s.size - 1 - 0) := by
        rw [← hl, ← hx]
        simp [ByteArray.toList_eq]
      rw [hx2, hl]
      unfold Lib.trimSuffix
      rw [hf, ha]
      simp [h0]
    · have hn : ¬ (0 < s.size ∧ byteAt s (s.size - 1) = 10) := by
        rintro ⟨_, h⟩
        rw [hb] at h
        exact ha (UInt8.toNat_inj.1 h)
      have hf2 : ((10 : UInt8) == a) = false := beq_eq_false_iff_ne.2 fun h => ha h.symm
      refine key false s (by rw [hl, hf, hf2]) ?_ (if_neg hn)
      rw [hl]
      unfold Lib.trimSuffix
      rw [hf, hf2]
      rfl
theorem cutE_as {s d : ByteArray} {m : Bool} (h : cutE s = (d, m)) (hs : s.size ≤ 1000000) (w : World) : Calls Tryz.prog 131 #[.string s, .string sNl] w fun r w' => r = .returned (.tuple #[.string d, .bool m]) ∧ Below w.heap.size w w' := by
  have e := cutE_eq s
  rw [h] at e
  injection e with e1 e2
  refine (Tryz.strings_CutSuffix s sNl w (by omega)).mono fun r w' hr => ⟨?_, hr.2 ▸ Below.refl _ _⟩
  rw [hr.1, e1, e2]

end Go.Proofs.YtmfophoejjcnlaaGreatDoor
namespace Go.Proofs.YtmfophoejjcnlaaGreatDoor
open Go.E Go.RowKit
attribute [local irreducible] G C S D Calls
set_option maxRecDepth 100000
set_option linter.unusedSimpArgs false
set_option linter.unusedVariables false

theorem size0_of {d : ByteArray} (h : d.size = 0) : d = ⟨#[]⟩ := by
  refine ByteArray.ext (Array.ext' ?_)
  have hl : d.data.toList.length = 0 := by rw [← Lib.size_eq]; exact h
  exact List.eq_nil_of_length_eq_zero hl
theorem ba_size (a : ByteArray) : a.data.toList.length = a.size := (Lib.size_eq a).symm
theorem tk_one {α : Type} {l : List α} {k : Nat} (h : k < l.length) : (l.drop k).take 1 = [l[k]] := by
  rw [List.drop_eq_getElem_cons h]
  rfl
theorem dr_len {A R : List UInt8} {c : UInt8} {n : Nat} (h : A.length = n) : (A ++ c :: R).drop (n + 1) = R := by
  subst h
  rw [List.drop_append, List.drop_of_length_le (by omega), Nat.add_sub_cancel_left]
  rfl
theorem tk_len {A R : List UInt8} {c : UInt8} {n : Nat} (h : A.length = n) : (A ++ c :: R).take (n + 1) = A ++ [c] := by
  subst h
  rw [List.take_append, List.take_of_length_le (by omega), Nat.add_sub_cancel_left]
  rfl
theorem tk_len0 {A R : List UInt8} {n : Nat} (h : A.length = n) : (A ++ R).take n = A := by
  subst h
  rw [List.take_append, List.take_of_length_le (by omega), Nat.sub_self]
  simp
/-- Pieces, with a byte between them. -/
def jnB (c : UInt8) : List ByteArray → ByteArray
  | [] => ByteArray.empty
  | [a] => a
  | a :: b :: r => a ++ (⟨#[c]⟩ ++ jnB c (b :: r))
abbrev Free (c : UInt8) (x : ByteArray) : Prop := ∀ u ∈ x.data.toList, u ≠ c
theorem ba_ext {a b : ByteArray} (h : a.data.toList = b.data.toList) : a = b := ByteArray.ext (Array.ext' h)
theorem ba_app (a b : ByteArray) : (a ++ b).data.toList = a.data.toList ++ b.data.toList := by simp
theorem jnB_two (c : UInt8) (a b : ByteArray) (r : List ByteArray) : (jnB c (a :: b :: r)).data.toList = a.data.toList ++ c :: (jnB c (b :: r)).data.toList := by
  rw [jnB, ba_app, ba_app]
  rfl
theorem jnB_snoc (c : UInt8) (a : ByteArray) : ∀ (b : ByteArray) (ls : List ByteArray), (jnB c ((b :: ls) ++ [a])).data.toList = (jnB c (b :: ls)).data.toList ++ c :: a.data.toList
  | b, [] => jnB_two c b a []
  | b, d :: r => by
    have h := jnB_snoc c a d r
    rw [List.cons_append, List.cons_append, jnB_two, jnB_two, List.append_assoc, List.cons_append]
    rw [List.cons_append] at h
    rw [h]
theorem jnB_last (c : UInt8) (a x : ByteArray) : ∀ ls : List ByteArray, (jnB c (ls ++ [a ++ x])).data.toList = (jnB c (ls ++ [a])).data.toList ++ x.data.toList
  | [] => ba_app a x
  | b :: r => by
    rw [jnB_snoc, jnB_snoc, ba_app]
    simp
theorem spl_jn (s : ByteArray) (c : UInt8) : ∀ k, k ≤ s.size → (jnB c ((splS s c.toNat k).1 ++ [(splS s c.toNat k).2])).data.toList = s.data.toList.take k ∧ (∀ x ∈ (splS s c.toNat k).1, Free c x) ∧ Free c (splS s c.toNat k).2
  | 0, _ => ⟨rfl, by simp [splS], by simp [splS, Free]⟩
  | k + 1, h => by
    obtain ⟨h1, h2, h3⟩ := spl_jn s c k (by omega)
    have hlt : k < s.data.toList.length := by rw [← Lib.size_eq]; omega
    have hb := bx_get (s := s) (k := k) (by omega)
    rw [List.take_succ_eq_append_getElem hlt]
    by_cases hc : byteAt s k = c.toNat
    · have hcu : s.data.toList[k] = c := by rw [hb] at hc; exact UInt8.toNat_inj.1 hc
      rw [splS, if_pos hc]
      refine ⟨?_, fun x hx => ?_, by simp [Free]⟩
      · dsimp only
        rw [hcu, ← h1]
        rcases (splS s c.toNat k).1 with _ | ⟨d, r⟩
        · rw [List.nil_append, List.cons_append, List.nil_append, jnB_two]
          rfl
        · rw [List.cons_append, jnB_snoc]
          rfl
      · dsimp only at hx
        rcases List.mem_append.1 hx with hx | hx
        · exact h2 x hx
        · rw [List.mem_singleton] at hx
          rw [hx]
          exact h3
    · have hcu : s.data.toList[k] ≠ c := fun e => hc (by rw [hb, e])
      have hex : (s.extract k (k + 1)).data.toList = [s.data.toList[k]] := by
        rw [Lib.extract_data, Nat.add_sub_cancel_left]
        exact tk_one hlt
      rw [splS, if_neg hc]
      refine ⟨?_, h2, fun u hu => ?_⟩
      · dsimp only
        rw [jnB_last, h1, hex]
      · dsimp only at hu
        rw [ba_app, List.mem_append, hex, List.mem_singleton] at hu
        rcases hu with hu | hu
        · exact h3 u hu
        · rw [hu]
          exact hcu
/-- The parts of a string, put together. -/
theorem splR_jn (s : ByteArray) (c : UInt8) : jnB c (splR s c.toNat) = s ∧ ∀ x ∈ splR s c.toNat, Free c x := by
  obtain ⟨h1, h2, h3⟩ := spl_jn s c s.size (Nat.le_refl _)
  refine ⟨ba_ext ?_, fun x hx => ?_⟩
  · rw [splR, h1, Lib.size_eq, List.take_length]
  · rw [splR, List.mem_append, List.mem_singleton] at hx
    rcases hx with hx | rfl
    · exact h2 x hx
    · exact h3
theorem ix_hit (c : UInt8) : ∀ (a r : List UInt8), (∀ u ∈ a, u ≠ c) → Lib.indexByte (a ++ c :: r) c = (a.length : Int)
  | [], r, _ => by simp [Lib.indexByte]
  | b :: l, r, h => by
    have h1 := ix_hit c l r (fun u hu => h u (List.mem_cons_of_mem _ hu))
    have hb : (b == c) = false := beq_eq_false_iff_ne.2 (h b (List.mem_cons_self ..))
    have hn : ((l.length : Int) == -1) = false := beq_eq_false_iff_ne.2 (by omega)
    rw [List.cons_append, Lib.indexByte, hb, h1, hn]
    simp
theorem ix_miss (c : UInt8) : ∀ (a : List UInt8), (∀ u ∈ a, u ≠ c) → Lib.indexByte a c = -1
  | [], _ => by simp [Lib.indexByte]
  | b :: l, h => by
    have h1 := ix_miss c l (fun u hu => h u (List.mem_cons_of_mem _ hu))
    have hb : (b == c) = false := beq_eq_false_iff_ne.2 (h b (List.mem_cons_self ..))
    rw [Lib.indexByte, hb, h1]
    rfl
theorem in_hit (c : UInt8) : ∀ (a r : List UInt8), (∀ u ∈ a, u ≠ c) → Lib.index (a ++ c :: r) [c] = (a.length : Int)
  | [], r, _ => by simp [Lib.index, List.isPrefixOf]
  | b :: l, r, h => by
    have h1 := in_hit c l r (fun u hu => h u (List.mem_cons_of_mem _ hu))
    have hb : (c == b) = false := beq_eq_false_iff_ne.2 (Ne.symm (h b (List.mem_cons_self ..)))
    have hn : ((l.length : Int) == -1) = false := beq_eq_false_iff_ne.2 (by omega)
    have hp : ([c] : List UInt8).isPrefixOf (b :: (l ++ c :: r)) = false := by simp [List.isPrefixOf, hb]
    rw [List.cons_append, Lib.index, hp, h1, hn]
    simp
theorem in_miss (c : UInt8) : ∀ (a : List UInt8), (∀ u ∈ a, u ≠ c) → Lib.index a [c] = -1
  | [], _ => by simp [Lib.index]
  | b :: l, h => by
    have h1 := in_miss c l (fun u hu => h u (List.mem_cons_of_mem _ hu))
    have hb : (c == b) = false := beq_eq_false_iff_ne.2 (Ne.symm (h b (List.mem_cons_self ..)))
    have hp : ([c] : List UInt8).isPrefixOf (b :: l) = false := by simp [List.isPrefixOf, hb]
    rw [Lib.index, hp, h1]
    rfl
theorem jn_rest (c : UInt8) (a b : ByteArray) (r : List ByteArray) : (jnB c (a :: b :: r)).extract (a.size + 1) (jnB c (a :: b :: r)).size = jnB c (b :: r) := by
  refine ba_ext ?_
  rw [Lib.extract_data, List.take_of_length_le (by rw [List.length_drop, ← Lib.size_eq]; omega), jnB_two]
  exact dr_len (Lib.size_eq a).symm
theorem jn_first (c : UInt8) (a b : ByteArray) (r : List ByteArray) : (jnB c (a :: b :: r)).extract 0 (a.size + 1) = a ++ ⟨#[c]⟩ := by
  refine ba_ext ?_
  rw [Lib.extract_data, jnB_two, ba_app]
  exact tk_len (Lib.size_eq a).symm
/-- The library's split is the reference's. -/
theorem split_jn (c : UInt8) : ∀ (ls : List ByteArray) (a : ByteArray), (∀ x ∈ a :: ls, Free c x) → Lib.countB (jnB c (a :: ls)) ⟨#[c]⟩ = ls.length ∧ Lib.splitB ⟨#[c]⟩ 0 ls.length (jnB c (a :: ls)) = a :: ls
  | [], a, h => by
    have hi : Lib.indexB (jnB c [a]) ⟨#[c]⟩ = -1 := in_miss c _ (h a (List.mem_cons_self ..))
    exact ⟨Lib.countB_miss _ _ hi, Lib.splitB_miss _ _ _ _ hi⟩
  | b :: r, a, h => by
    have hi : Lib.indexB (jnB c (a :: b :: r)) ⟨#[c]⟩ = (a.size : Int) := by
      unfold Lib.indexB
      rw [jnB_two, Lib.size_eq a]
      exact in_hit c _ _ (h a (List.mem_cons_self ..))
    obtain ⟨h1, h2⟩ := split_jn c r b (fun x hx => h x (List.mem_cons_of_mem _ hx))
    have hr := jn_rest c a b r
    have hs : (⟨#[c]⟩ : ByteArray).size = 1 := rfl
    refine ⟨?_, ?_⟩
    · rw [Lib.countB_hit _ _ a.size (by rw [hs]; omega) hi, hs, hr, h1, List.length_cons]
      omega
    · rw [List.length_cons, Lib.splitB_hit _ _ _ _ a.size hi, hs, hr, h2]
      congr 1
      refine ba_ext ?_
      rw [Lib.extract_data, jnB_two, Lib.size_eq a]
      simp
theorem splitB_splR (s : ByteArray) (c : UInt8) : Lib.splitB ⟨#[c]⟩ 0 (Lib.countB s ⟨#[c]⟩) s = splR s c.toNat := by
  obtain ⟨h1, h2⟩ := splR_jn s c
  obtain ⟨a, l, e⟩ := splR_cons s c.toNat
  rw [e] at h1 h2 ⊢
  obtain ⟨h3, h4⟩ := split_jn c l a h2
  rw [h1] at h3 h4
  rw [h3]
  exact h4
/-! ### Lines -/
/-- The lines of pieces: each with its newline; the last one, without it, if it is not empty. -/
def lnB : List ByteArray → List ByteArray
  | [] => []
  | [a] => if a.size = 0 then [] else [a]
  | a :: b :: r => (a ++ ⟨#[10]⟩) :: lnB (b :: r)
theorem lnB_len : ∀ (ls : List ByteArray) (a : ByteArray), (lnB (a :: ls)).length ≤ ls.length + 1
  | [], a => by
    rw [lnB]
    split <;> simp
  | b :: r, a => by
    have := lnB_len r b
    simp only [lnB, List.length_cons]
    omega
theorem lnB_at : ∀ (ls : List ByteArray) (j : Nat), j + 1 < ls.length → sG (lnB ls) j = sG ls j ++ ⟨#[10]⟩
  | [], j, h => by simp at h
  | [a], j, h => by simp at h
  | a :: b :: r, 0, h => by simp [lnB, sG]
  | a :: b :: r, j + 1, h => by
    rw [lnB, sN_cons, sN_cons]
    exact lnB_at (b :: r) j (by simpa using h)
theorem lnB_len2 : ∀ (ls : List ByteArray) (m : Nat), ls.length = m + 1 → (sG ls m = ByteArray.empty → (lnB ls).length = m) ∧ (sG ls m ≠ ByteArray.empty → (lnB ls).length = m + 1 ∧ sG (lnB ls) m = sG ls m)
  | [], m, h => by simp at h
  | [a], m, h => by
    have hm : m = 0 := by simpa using h.symm
    subst hm
    have hs : sG [a] 0 = a := rfl
    rw [hs, lnB]
    refine ⟨fun e => ?_, fun e => ?_⟩
    · rw [e]; rfl
    · have : a.size ≠ 0 := fun h0 => e (by
        have := size0_of h0
        rw [this]
        rfl)
      rw [if_neg this]
      exact ⟨rfl, rfl⟩
  | a :: b :: r, m, h => by
    obtain ⟨k, rfl⟩ : ∃ k, m = k + 1 := ⟨r.length, by simp at h; omega⟩
    obtain ⟨h1, h2⟩ := lnB_len2 (b :: r) k (by simpa using h)
    rw [sN_cons, lnB, sN_cons]
    refine ⟨fun e => ?_, fun e => ?_⟩
    · rw [List.length_cons, h1 e]
    · obtain ⟨h3, h4⟩ := h2 e
      exact ⟨by rw [List.length_cons, h3], h4⟩
theorem cutE_nl (a : ByteArray) : cutE (a ++ ⟨#[10]⟩) = (a, true) := by
  have hs : (a ++ ⟨#[10]⟩ : ByteArray).size = a.size + 1 := by rw [ByteArray.size_append]; rfl
  have hb : byteAt (a ++ ⟨#[10]⟩) ((a ++ ⟨#[10]⟩ : ByteArray).size - 1) = 10 := by
    rw [bx_get (by omega)]
    simp only [ba_app, hs, Nat.add_sub_cancel, Lib.size_eq a]
    simp
  unfold cutE
  rw [if_pos ⟨by omega, hb⟩]
  congr 1
  refine ba_ext ?_
  rw [Lib.extract_data, hs, ba_app, Lib.size_eq a]
  simp
theorem cutE_free {a : ByteArray} (h : Free 10 a) : cutE a = (a, false) := by
  unfold cutE
  rw [if_neg]
  rintro ⟨h0, h1⟩
  rw [bx_get (by omega)] at h1
  exact h _ (List.getElem_mem _) (UInt8.toNat_inj.1 h1)

end Go.Proofs.YtmfophoejjcnlaaGreatDoor
namespace Go.Proofs.YtmfophoejjcnlaaGreatDoor
open Go.E Go.RowKit
attribute [local irreducible] G C S D Calls
set_option maxRecDepth 100000
set_option linter.unusedSimpArgs false
set_option linter.unusedVariables false

theorem byte_app1 {a b : ByteArray} {k : Nat} (h : k < a.size) : byteAt (a ++ b) k = byteAt a k := by
  rw [bx_get (s := a ++ b) (k := k) (by rw [ByteArray.size_append]; omega), bx_get h]
  simp only [ba_app]
  rw [List.getElem_append_left (by rw [ba_size]; exact h)]
theorem byte_one (a : ByteArray) (u : UInt8) : byteAt (a ++ ⟨#[u]⟩) a.size = u.toNat := by
  have hs : (⟨#[u]⟩ : ByteArray).size = 1 := rfl
  rw [bx_get (s := a ++ ⟨#[u]⟩) (k := a.size) (by rw [ByteArray.size_append, hs]; omega)]
  simp only [ba_app]
  rw [List.getElem_append_right (by rw [ba_size]; omega)]
  simp [ba_size]
theorem digN_app (a b : ByteArray) : ∀ k, k ≤ a.size → digN (a ++ b) k = digN a k
  | 0, _ => rfl
  | k + 1, h => by rw [digN, digN, digN_app a b k (by omega), byte_app1 (by omega)]
theorem allD_app (a b : ByteArray) : ∀ k, k ≤ a.size → allD (a ++ b) k = allD a k
  | 0, _ => rfl
  | k + 1, h => by rw [allD_s, allD_s, allD_app a b k (by omega), byte_app1 (by omega)]
theorem dig_of {c : Nat} (h : 48 ≤ c ∧ c ≤ 57) : digB c = true := by
  unfold digB
  rw [Bool.and_eq_true, decide_eq_true_eq, decide_eq_true_eq]
  omega
structure IsNum (s : ByteArray) (n : Int) : Prop where
  all : allD s s.size = true
  val : digN s s.size = n
  pos : 0 < s.size
  lead : s.size = 1 ∨ byteAt s 0 ≠ 48
theorem one_byte_at (u : UInt8) : byteAt (⟨#[u]⟩ : ByteArray) 0 = u.toNat := rfl
theorem num_one {m : Nat} (h : m < 10) : IsNum (oneB (48 + (m : Int))) m := by
  have h1 : (48 + (m : Int)).toNat = 48 + m := by omega
  have h2 : (UInt8.ofNat (48 + m)).toNat = 48 + m := by
    rw [UInt8.toNat_ofNat']
    omega
  have hb : byteAt (oneB (48 + (m : Int))) 0 = 48 + m := by
    unfold oneB
    rw [one_byte_at, h1, h2]
  have hs : (oneB (48 + (m : Int))).size = 1 := rfl
  refine ⟨?_, ?_, by rw [hs]; omega, .inl hs⟩
  · rw [hs, allD_s, hb, dig_of (by omega)]
    rfl
  · rw [hs, digN, digN, hb]
    omega
theorem num_it (m : Nat) : IsNum (itB (m : Int)) m := by
  induction m using Nat.strongRecOn with
  | _ m ih =>
    by_cases h : m < 10
    · rw [it_dig (by omega)]
      exact num_one h
    · rw [it_pos (by omega), show (m : Int) / 10 = ((m / 10 : Nat) : Int) by omega, show (m : Int) % 10 = ((m % 10 : Nat) : Int) by omega]
      obtain ⟨h1, h2, h3, h4⟩ := ih (m / 10) (by omega)
      have hd : (48 + ((m % 10 : Nat) : Int)).toNat = 48 + m % 10 := by omega
      have hu : (UInt8.ofNat (48 + m % 10)).toNat = 48 + m % 10 := by
        rw [UInt8.toNat_ofNat']
        omega
      have hb : byteAt (itB ((m / 10 : Nat) : Int) ++ oneB (48 + ((m % 10 : Nat) : Int))) (itB ((m / 10 : Nat) : Int)).size = 48 + m % 10 := by
        unfold oneB
        rw [byte_one, hd, hu]
      have hs : (itB ((m / 10 : Nat) : Int) ++ oneB (48 + ((m % 10 : Nat) : Int))).size = (itB ((m / 10 : Nat) : Int)).size + 1 := by
        rw [ByteArray.size_append]
        rfl
      refine ⟨?_, ?_, by omega, .inr ?_⟩
      · rw [hs, allD_s, allD_app _ _ _ (Nat.le_refl _), h1, hb, dig_of (by omega)]
        rfl
      · rw [hs, digN, digN_app _ _ _ (Nat.le_refl _), h2, hb]
        omega
      · rw [byte_app1 h3]
        rcases h4 with h4 | h4
        · intro e
          rw [h4, digN, digN, e] at h2
          omega
        · exact h4
theorem it_minus {n : Int} (h : n < 0) : itB n = (⟨#[45]⟩ : ByteArray) ++ itB (0 - n) := by
  unfold itB Lib.itoa
  rw [if_pos h, if_neg (by omega), show (0 - n).toNat = n.natAbs by omega]
  ext1
  simp
theorem digN_low {s : ByteArray} (h0 : byteAt s 0 ≠ 48) : ∀ {k : Nat}, allD s (k + 1) = true → (10 : Int) ^ k ≤ digN s (k + 1)
  | 0, h => by
    have := dig_c (allD_at h (show 0 < 1 by omega))
    rw [digN, digN]
    omega
  | k + 1, h => by
    rw [allD_s, Bool.and_eq_true] at h
    have h1 := digN_low h0 h.1
    have h2 := dig_c h.2
    have e : (10 : Int) ^ (k + 1) = 10 ^ k * 10 := Int.pow_succ ..
    rw [digN, e]
    omega
theorem pow9 {k : Nat} (h : 9 ≤ k) : (1000000000 : Int) ≤ 10 ^ k := by
  have h1 : (10 : Nat) ^ 9 ≤ 10 ^ k := Nat.pow_le_pow_right (by omega) h
  have h2 : ((10 ^ k : Nat) : Int) = (10 : Int) ^ k := by simp
  have h3 : (10 : Nat) ^ 9 = 1000000000 := rfl
  omega
theorem IsNum.size9 {s : ByteArray} {n : Int} (h : IsNum s n) (hn : n ≤ 999999999) : s.size ≤ 9 := by
  rcases h.lead with h1 | h1
  · omega
  · obtain ⟨k, hk⟩ : ∃ k, s.size = k + 1 := ⟨s.size - 1, by have := h.pos; omega⟩
    have h2 := digN_low h1 (k := k) (by rw [← hk]; exact h.all)
    rw [← hk, h.val] at h2
    by_cases h3 : 9 ≤ k
    · have := pow9 h3
      omega
    · omega
theorem IsNum.dig {s : ByteArray} {n : Int} (h : IsNum s n) (hn : n ≤ 999999999) : digR s = (n, true) := by
  have h9 := h.size9 hn
  have hF : digF s = true := by
    unfold digF
    have h0 : (s.size == 0) = false := beq_eq_false_iff_ne.2 (by have := h.pos; omega)
    rw [h0, decide_eq_true h9]
    rcases h.lead with h1 | h1
    · rw [h1]; rfl
    · rw [beq_eq_false_iff_ne.2 h1]
      simp
  rw [digR_yes hF h.all, h.val]
theorem IsNum.first {s : ByteArray} {n : Int} (h : IsNum s n) : byteAt s 0 ≠ 45 := by
  have := dig_c (allD_at h.all h.pos)
  omega
theorem ex_one {s : ByteArray} {k : Nat} (h : k < s.size) : s.extract k (k + 1) = ⟨#[UInt8.ofNat (byteAt s k)]⟩ := by
  have hl : k < s.data.toList.length := by rw [ba_size]; exact h
  refine ba_ext ?_
  rw [Lib.extract_data, Nat.add_sub_cancel_left, tk_one hl, bx_get h]
  simp
theorem ex_s {s : ByteArray} {k : Nat} (h : k < s.size) : s.extract 0 (k + 1) = s.extract 0 k ++ s.extract k (k + 1) := by
  have hl : k < s.data.toList.length := by rw [ba_size]; exact h
  refine ba_ext ?_
  rw [ba_app, Lib.extract_data, Lib.extract_data, Lib.extract_data, Nat.add_sub_cancel_left, tk_one hl]
  simp only [List.drop_zero, Nat.sub_zero]
  exact List.take_succ_eq_append_getElem hl
theorem num_pre {s : ByteArray} : ∀ k, k + 1 ≤ s.size → allD s (k + 1) = true → (k = 0 ∨ byteAt s 0 ≠ 48) → s.extract 0 (k + 1) = itB (digN s (k + 1))
  | 0, h, ha, _ => by
    have hd := dig_c (allD_at ha (show 0 < 1 by omega))
    rw [ex_one (by omega), digN, digN, it_dig (by omega)]
    unfold oneB
    rw [show (48 + (10 * 0 + ((byteAt s 0 : Int) - 48))).toNat = byteAt s 0 by omega]
  | k + 1, h, ha, hl => by
    have hl' : byteAt s 0 ≠ 48 := by
      rcases hl with hl | hl
      · omega
      · exact hl
    have ha2 := ha
    rw [allD_s, Bool.and_eq_true] at ha2
    have h1 := num_pre k (by omega) ha2.1 (.inr hl')
    have hd := dig_c ha2.2
    have hlo := digN_low hl' ha2.1
    have hp : (1 : Int) ≤ 10 ^ k := by
      have h1 : 0 < (10 : Nat) ^ k := Nat.pow_pos (by omega)
      have h2 : ((10 ^ k : Nat) : Int) = (10 : Int) ^ k := by simp
      omega
    have e : digN s (k + 1 + 1) = 10 * digN s (k + 1) + ((byteAt s (k + 1) : Int) - 48) := rfl
    rw [ex_s (by omega), h1, ex_one (by omega), it_pos (n := digN s (k + 1 + 1)) (by omega)]
    unfold oneB
    rw [show digN s (k + 1 + 1) / 10 = digN s (k + 1) by omega, show (48 + digN s (k + 1 + 1) % 10).toNat = byteAt s (k + 1) by omega]
theorem ex_all (s : ByteArray) : s.extract 0 s.size = s := by
  refine ba_ext ?_
  rw [Lib.extract_data]
  exact List.take_of_length_le (by rw [List.length_drop, ba_size]; omega)
theorem dig_it {s : ByteArray} {z : Int} (h : digR s = (z, true)) : s = itB z ∧ 0 ≤ z ∧ z ≤ 999999999 := by
  unfold digR at h
  split at h
  · rename_i hc
    rw [Bool.and_eq_true] at hc
    obtain ⟨hF, hA⟩ := hc
    simp only [Prod.mk.injEq, and_true] at h
    subst h
    unfold digF at hF
    simp only [Bool.and_eq_true, Bool.not_eq_true', beq_eq_false_iff_ne, decide_eq_true_eq, Bool.and_eq_false_iff, decide_eq_false_iff_not] at hF
    obtain ⟨⟨h0, h9⟩, hl⟩ := hF
    obtain ⟨k, hk⟩ : ∃ k, s.size = k + 1 := ⟨s.size - 1, by omega⟩
    have h1 := num_pre (s := s) k (by omega) (by rw [← hk]; exact hA) (by
      rcases hl with hl | hl
      · left; omega
      · right; exact hl)
    rw [← hk, ex_all] at h1
    exact ⟨h1, digN_9 hA h9⟩
  · simp at h
theorem it_chars (z : Int) : ∀ u ∈ (itB z).data.toList, u.toNat = 45 ∨ (48 ≤ u.toNat ∧ u.toNat ≤ 57) := by
  have hp : ∀ m : Nat, ∀ u ∈ (itB (m : Int)).data.toList, 48 ≤ u.toNat ∧ u.toNat ≤ 57 := fun m u hu => by
    obtain ⟨k, hk, e⟩ := List.getElem_of_mem hu
    have hk' : k < (itB (m : Int)).size := by rw [← ba_size]; exact hk
    have := dig_c (allD_at (num_it m).all hk')
    rw [bx_get hk', e] at this
    exact this
  intro u hu
  by_cases h0 : z < 0
  · obtain ⟨m, hm⟩ : ∃ m : Nat, 0 - z = (m : Int) := ⟨(0 - z).toNat, by omega⟩
    rw [it_minus h0, hm, ba_app, List.mem_append] at hu
    rcases hu with hu | hu
    · simp at hu
      subst hu
      exact .inl rfl
    · exact .inr (hp m u hu)
  · obtain ⟨m, rfl⟩ : ∃ m : Nat, z = (m : Int) := ⟨z.toNat, by omega⟩
    exact .inr (hp m u hu)
theorem it_free {z : Int} {c : UInt8} (h : c = 10 ∨ c = 32) : Free c (itB z) := by
  intro u hu e
  have := it_chars z u hu
  rw [e] at this
  rcases h with rfl | rfl
  · rcases this with h | h
    · exact absurd h (by decide)
    · exact absurd h.1 (by decide)
  · rcases this with h | h
    · exact absurd h (by decide)
    · exact absurd h.1 (by decide)

end Go.Proofs.YtmfophoejjcnlaaGreatDoor
namespace Go.Proofs.YtmfophoejjcnlaaGreatDoor
open Go.E Go.RowKit
attribute [local irreducible] G C S D Calls
set_option maxRecDepth 100000
set_option linter.unusedSimpArgs false
set_option linter.unusedVariables false

/-! ### Split -/
/-- The bound of the library's search: some integer. -/
def Mx (w : World) : Prop := ∃ m, w.cell? ⟨1, 0, none⟩ = some (.int .i64 m)
theorem Mx_eq {w w' : World} (h : Mx w) (he : ∀ b, b < w.heap.size → w'.heap[b]? = w.heap[b]?) : Mx w' := by
  obtain ⟨m, hm⟩ := h
  refine ⟨m, ?_⟩
  have hlt := cell_lt hm
  unfold World.cell? at hm ⊢
  rw [he _ hlt]
  exact hm
theorem Mx_at {w0 w : World} {Ps : Past} {σ : St} {B : Nat} (h : Mx w0) (hw : HW B w0 Ps σ w) (hp : (w0, fun b => b < w0.heap.size) ∈ Ps) : Mx w := Mx_eq h fun b hb => (hw.past _ hp b hb).1.2
/-- A slice with no room behind it. -/
def SlF (w w' : World) (v : Value) (n : Nat) (xs : List Value) : Prop := ∃ ad, v = .slice (some ad) n n ∧ RdS (fun b => w.heap.size ≤ b ∧ b < w'.heap.size) w' (some ad) xs
theorem split_as {s hd : ByteArray} {tl : List ByteArray} (h : splR s 32 = hd :: tl) (hs : s.size ≤ 1000000) (w : World) (hm : Mx w) :
    Calls Tryz.prog 159 #[.string s, .string sSp] w fun r w' => ∃ v, r = .returned v ∧ Below w.heap.size w w' ∧ SlF w w' v (tl.length + 1) ((hd :: tl).map Value.string) := by
  obtain ⟨m, hm⟩ := hm
  have h32 : (32 : UInt8).toNat = 32 := rfl
  have e : Lib.splitB sSp 0 (Lib.countB s sSp) s = hd :: tl := by rw [← h, ← h32]; exact splitB_splR s 32
  have en : Lib.countB s sSp = tl.length := by
    have := Lib.splitB_all sSp (by decide) 0 _ s rfl
    rw [e] at this
    simpa using this.symm
  refine (Tryz.strings_Split s sSp m w (by omega) hm (by decide)).mono fun r w' hr => ?_
  obtain ⟨h1, h2⟩ := hr
  rw [en] at h1 h2
  rw [en] at e
  rw [e] at h2
  refine ⟨_, h1, h2 ▸ (Below.refl _ w).alloc (Nat.le_refl _) _, _, rfl, .inr ⟨_, rfl, ?_, fun j u hu => ?_⟩⟩
  · rw [h2]
    exact ⟨Nat.le_refl _, by simp⟩
  · have hb : w'.heap[w.heap.size]? = some (.cells ((hd :: tl).map Value.string).toArray 9 (0, 0)) := by
      rw [h2]
      exact World.alloc_heap_new w _
    exact heap_cells hb j u hu
/-! ### Lines -/
def LnR (w w' : World) (v : Value) (s : ByteArray) : Prop := ∃ k, v = .func (.func 156) #[] #[.pointer (some ⟨k, 0, none⟩)] ∧ (w.heap.size ≤ k ∧ k < w'.heap.size) ∧ w'.heap[k]? = some (.cells ([.string s] : List Value).toArray 9 (0, 0))

set_option maxHeartbeats 400000 in
/-- strings.Lines -/
theorem slines_c (s : ByteArray) (w : World) : Calls Tryz.prog 130 #[.string s] w fun r w' => ∃ v, r = .returned v ∧ Below w.heap.size w w' ∧ LnR w w' v s := by
  refine calls_of (args := [.string s]) T_ok Tryz.func130 rfl Tryz.ntmps130 (Nat.le_of_ble_eq_true rfl) rfl ?_
  repeat' (first
 | (refine C_id ?_; first
 | refine C_seq ?_
 | refine C_region rfl ?_
 | refine C_ret0 ?_
 )
 | (refine S_id ?_; first
 | refine S_nil ?_
 | refine S_run rfl rfl obQ obQ ?_
 | refine S_box (fun b => ⟨_, _, rfl, obQ, ?_⟩)
 )
 | (refine G_id ?_; first
 | refine G_then ?_
 | refine G_ret rfl obQ (fun w2 hw => ⟨_, rfl, hw.below, _, rfl, (HW.bxAt hw (i := 0) rfl rfl).1, (HW.bxAt hw (i := 0) rfl rfl).2⟩)
 )
 )

abbrev LnT := { x : ByteArray // x.size ≤ 1000000 }
abbrev encL (x : LnT) : Array Value := #[.string x.1]
/-- A string up to a place. -/
theorem sl_upto {X : Cx} {t : TypeId} {ti : TI} (hl : Go.E.look X.T t = some ti) (hk : ti.k = .str) (s : ByteArray) (k : IntKind) (z : Int) (j : Nat) (hz : z = (j : Int)) (h1 : j ≤ s.size) (w : World) :
    (Instr.sliceAt t (.string s) none (some (.int k z)) none).run X.P w = .ok (.string (s.extract 0 j)) w := by
  subst hz
  obtain ⟨i', dd, z, hi, hu, hz, rfl⟩ := X.hT.row hl
  have hd := kOf_str hk
  subst hd
  have := run_slice_string_h (P := X.P) (w := w) t s hu k (j : Int) (by omega) (by omega)
  rw [run_sliceAt_string w t _ _ _ _ hu, this, Int.toNat_natCast]
theorem ixb_as {s : ByteArray} {z : Int} (h : Lib.indexByte s.data.toList 10 = z) (w : World) : Calls Tryz.prog 157 #[.string s, .int .u8 10] w fun r w' => r = .returned (.int .i64 z) ∧ Below w.heap.size w w' := by
  subst h
  exact (Tryz.strings_IndexByte s 10 w).mono fun r w' hr => ⟨hr.1, hr.2 ▸ Below.refl _ _⟩
set_option maxHeartbeats 4000000 in
theorem lines_seq (k : Nat) (ls : List ByteArray) (h0 : ls ≠ []) (hfr : ∀ x ∈ ls, Free 10 x) (hsz : (jnB 10 ls).size ≤ 1000000) (xs : List LnT) (hxs : xs.map (·.1) = lnB ls) (Sx : Nat → Prop) (sk : Sx k) (w : World) (hb : w.heap[k]? = some (.cells ([.string (jnB 10 ls)] : List Value).toArray 9 (0, 0))) :
    SeqM Tryz.prog 156 #[.pointer (some ⟨k, 0, none⟩)] encL xs Sx k w := by
  refine seq_ofM T_ok Tryz.func156 rfl Tryz.ntmps156 (Nat.le_of_ble_eq_true rfl) ⟨k, 9, [.v (.string (jnB 10 ls))]⟩ hb (fun l J Jx W hW hJ hJx hY hj0 => ?_)
  have hJ : AbidesM k J := hJ
  have hJx : AbidesM k Jx := hJx
  repeat' (first
 | (refine C_id ?_; first
 | refine C_block ?_
   )
   )
  refine C_loopM (X := ⟨Tryz.prog, T, T_ok, 25, 0, default, [], none⟩) k (fun i : List LnT × List ByteArray => ⟨[(0, .s (.v (.func (.yield l) #[] #[]))), (1, .s (.p k 0 0))], [⟨k, 9, [.v (.string (jnB 10 i.2))]⟩], []⟩) (fun i W => i.2 ≠ [] ∧ (∀ x ∈ i.2, Free 10 x) ∧ (jnB 10 i.2).size ≤ 1000000 ∧ J i.1 W ∧ ∃ post, i.1 ++ post = xs ∧ post.map (·.1) = lnB i.2) (fun i => (lnB i.2).length) ([], ls) ⟨h0, hfr, hsz, hj0, xs, rfl, hxs⟩ ?_ (fun i W hi => ?_)
  · exact ⟨⟨_, rfl, obQ⟩, ⟨_, rfl⟩, rfl, pstQ⟩
  obtain ⟨pre, rest⟩ := i
  obtain ⟨hne, hfr, hsz, hj, post, hpx, hpost⟩ := hi
  dsimp only at hne hfr hsz hj hpost ⊢
  rcases rest with _ | ⟨a, _ | ⟨b, r⟩⟩
  · exact absurd rfl hne
  · have hja : jnB 10 [a] = a := rfl
    rw [hja] at hsz ⊢
    have hix := ix_miss 10 a.data.toList (hfr a (List.mem_cons_self ..))
    by_cases ha : a.size = 0
    · have hp0 : post = [] := by
        rw [show lnB [a] = [] from if_pos ha] at hpost
        exact List.map_eq_nil_iff.1 hpost
      subst hp0
      rw [List.append_nil] at hpx
      subst hpx
      repeat' (first
 | (refine C_id ?_; first
 | refine C_seq ?_
 | refine C_region rfl ?_
 | refine C_exit ?_
 | refine C_condF rfl obQ ?_
       )
 | (refine S_id ?_; first
 | ((with_reducible (first | refine S_falseN ?_ ?_ | refine S_falseB ?_ ?_ | refine S_falseL ?_ ?_ | refine S_falseD ?_ ?_ | refine S_falseE ?_ ?_)); · (first | rfl | omega | exact decide_eq_false (by omega)))
 | refine S_nil ?_
 | refine S_runN rfl rfl obQ obQ ?_
       )
 | (refine G_id ?_; first
 | refine G_endM1 (X := ⟨Tryz.prog, T, T_ok, 25, 0, default, [], none⟩) hJ hj memQ rfl obQ
 | refine G_then ?_
 | refine G_blockX ?_
 | refine G_thenX ?_
       )
       )
    · have hlb : lnB [a] = [a] := if_neg ha
      rw [hlb] at hpost
      obtain ⟨x, rfl⟩ : ∃ x, post = [x] := by
        have : post.length = 1 := by simpa using congrArg List.length hpost
        exact List.length_eq_one_iff.1 this
      have hx : x.1 = a := by simpa using hpost
      have hpn : pre.length < xs.length := by rw [← hpx]; simp
      repeat' (first
 | (refine C_id ?_; first
 | refine C_seq ?_
 | refine C_region rfl ?_
 | refine C_block ?_
 | refine C_skip ?_
 | refine C_condT rfl obQ ?_
 | refine C_condF rfl obQ ?_
       )
 | (refine S_id ?_; first
 | ((with_reducible (first | refine S_falseN ?_ ?_ | refine S_falseB ?_ ?_ | refine S_falseL ?_ ?_ | refine S_falseD ?_ ?_ | refine S_falseE ?_ ?_)); · (first | rfl | omega | exact decide_eq_false (by omega)))
 | ((with_reducible (first | refine S_trueE ?_ ?_ | refine S_trueB ?_ ?_ | refine S_trueL ?_ ?_ | refine S_trueD ?_ ?_ | refine S_trueN ?_ ?_)); · (first | rfl | omega | exact decide_eq_true (by omega)))
 | refine S_nil ?_
 | refine S_runN rfl rfl obQ obQ ?_
 | refine S_call (f := 157) rfl obQ (by kernel_rfl) (fun w hw => ixb_as hix w) ?_
       )
 | (refine G_id ?_; first
 | refine G_then ?_
       )
       )
      refine S_yieldM (X := ⟨Tryz.prog, T, T_ok, 25, 0, default, [], none⟩) (x0 := ⟨k, 9, [.v (.string ⟨#[]⟩)]⟩) rfl rfl rfl obQ sk hJ hY pre x hj hpn (by rw [show encL x = #[.string x.1] from rfl, hx]) (fun W2 hj2 => ?_) (fun W2 hj2 => ?_)
      · repeat' (first
 | (refine C_id ?_; first
 | refine C_skip ?_
 | refine C_condF rfl obQ ?_
         )
 | (refine S_id ?_; first
 | refine S_nil ?_
 | refine S_runN rfl rfl obQ obQ ?_
         )
 | (refine G_id ?_; first
 | refine G_loopM (X := ⟨Tryz.prog, T, T_ok, 25, 0, default, [], none⟩) (pre ++ [x], [ByteArray.empty]) ⟨by simp, by simp [Free], by show (0 : Nat) ≤ _; omega, hj2, [], by rw [List.append_nil]; exact hpx, rfl⟩ (by show (lnB [ByteArray.empty]).length < (lnB [a]).length; rw [hlb]; exact Nat.zero_lt_one) ⟨⟨_, rfl, obQ⟩, ⟨_, rfl⟩, rfl, pstQ⟩
 | refine G_then ?_
 | refine G_block ?_
         )
         )
      · repeat' (first
 | (refine C_id ?_; first
 | refine C_ret0 ?_
 | refine C_condT rfl obQ ?_
       )
 | (refine S_id ?_; first
 | refine S_nil ?_
 | refine S_runN rfl rfl obQ obQ ?_
       )
 | (refine G_id ?_; first
 | refine G_retXM (X := ⟨Tryz.prog, T, T_ok, 25, 0, default, [], none⟩) hJx hj2 ⟨[], by rw [List.append_nil]; exact hpx⟩ memQ rfl obQ
 | refine G_then ?_
 | refine G_blockR ?_
 | refine G_thenR ?_
       )
       )
  · have hix := ix_hit 10 a.data.toList (jnB 10 (b :: r)).data.toList (hfr a (List.mem_cons_self ..))
    rw [← jnB_two, ba_size] at hix
    have h1 := jn_first 10 a b r
    have h2 := jn_rest 10 a b r
    have hz : a.size + 1 ≤ (jnB 10 (a :: b :: r)).size := by
      rw [← ba_size (jnB 10 (a :: b :: r)), jnB_two, List.length_append, List.length_cons, ba_size]
      omega
    have hz2 : (jnB 10 (b :: r)).size ≤ 1000000 := by
      rw [← h2, ByteArray.size_extract]
      omega
    rw [lnB] at hpost
    obtain ⟨x, post', rfl⟩ : ∃ x p, post = x :: p := by
      cases post with
      | nil => simp at hpost
      | cons x p => exact ⟨x, p, rfl⟩
    rw [List.map_cons] at hpost
    injection hpost with hx hpost
    have hpn : pre.length < xs.length := by rw [← hpx]; simp
    generalize hS : jnB 10 (a :: b :: r) = S at *
    repeat' (first
 | (refine C_id ?_; first
 | refine C_seq ?_
 | refine C_region rfl ?_
 | refine C_block ?_
 | refine C_skip ?_
 | refine C_drawT (id := 4) 9 rfl mixed (by kernel_rfl) rfl rfl ?_
 | refine C_condT rfl obQ ?_
     )
 | (refine S_id ?_; first
 | ((with_reducible (first | refine S_trueE ?_ ?_ | refine S_trueB ?_ ?_ | refine S_trueL ?_ ?_ | refine S_trueD ?_ ?_ | refine S_trueN ?_ ?_)); · (first | rfl | omega | exact decide_eq_true (by omega)))
 | refine S_nil ?_
 | refine S_runN rfl rfl obQ obQ ?_
 | refine S_call (f := 157) rfl obQ (by kernel_rfl) (fun w hw => ixb_as hix w) ?_
     )
 | (refine D_id ?_; first
 | refine D_pure (sliceX_pure (lo := none) (hi := some _) rfl obQ (fun w => sl_upto (X := ⟨Tryz.prog, T, T_ok, 25, 0, default, [], none⟩) rfl rfl _ _ _ (a.size + 1) (by omega) (by omega) w)) ?_
 | refine D_pure (sliceX_pure (lo := some _) (hi := none) rfl obQ (fun w => sl_from (X := ⟨Tryz.prog, T, T_ok, 25, 0, default, [], none⟩) rfl rfl _ _ _ (a.size + 1) (by omega) (by omega) w)) ?_
 | refine D_tail ?_
 | refine D_run rfl rfl obQ obQ ?_
     )
 | (refine G_id ?_; first
 | refine G_then ?_
     )
     )
    refine S_yieldM (X := ⟨Tryz.prog, T, T_ok, 25, 0, default, [], none⟩) (x0 := ⟨k, 9, [.v (.string (S.extract (a.size + 1) S.size))]⟩) rfl rfl rfl obQ sk hJ hY pre x hj hpn (by rw [show encL x = #[.string x.1] from rfl, hx, ← h1]) (fun W2 hj2 => ?_) (fun W2 hj2 => ?_)
    · have hinv : (pre ++ [x], b :: r).2 ≠ [] ∧ (∀ y ∈ (pre ++ [x], b :: r).2, Free 10 y) ∧ (jnB 10 (pre ++ [x], b :: r).2).size ≤ 1000000 ∧ J (pre ++ [x], b :: r).1 W2 ∧ ∃ post : List LnT, (pre ++ [x], b :: r).1 ++ post = xs ∧ post.map (·.1) = lnB (pre ++ [x], b :: r).2 :=
        ⟨List.cons_ne_nil _ _, fun y hy => hfr y (List.mem_cons_of_mem _ hy), hz2, hj2, post', (List.append_assoc _ _ _).trans hpx, hpost⟩
      have hlt2 : (lnB (pre ++ [x], b :: r).2).length < (lnB (pre, a :: b :: r).2).length := Nat.lt_succ_self _
      repeat' (first
 | (refine C_id ?_; first
 | refine C_skip ?_
 | refine C_condF rfl obQ ?_
       )
 | (refine S_id ?_; first
 | refine S_nil ?_
 | refine S_runN rfl rfl obQ obQ ?_
       )
 | (refine G_id ?_; first
 | refine G_loopM (X := ⟨Tryz.prog, T, T_ok, 25, 0, default, [], none⟩) (pre ++ [x], b :: r) hinv (by exact hlt2) (by dsimp only; rw [← h2]; exact ⟨⟨_, rfl, obQ⟩, ⟨_, rfl⟩, rfl, pstQ⟩)
 | refine G_then ?_
 | refine G_block ?_
       )
       )
    · repeat' (first
 | (refine C_id ?_; first
 | refine C_ret0 ?_
 | refine C_condT rfl obQ ?_
       )
 | (refine S_id ?_; first
 | refine S_nil ?_
 | refine S_runN rfl rfl obQ obQ ?_
       )
 | (refine G_id ?_; first
 | refine G_retXM (X := ⟨Tryz.prog, T, T_ok, 25, 0, default, [], none⟩) hJx hj2 ⟨post', by rw [List.append_assoc]; exact hpx⟩ memQ rfl obQ
 | refine G_then ?_
 | refine G_blockR ?_
 | refine G_thenR ?_
       )
       )

end Go.Proofs.YtmfophoejjcnlaaGreatDoor
namespace Go.Proofs.YtmfophoejjcnlaaGreatDoor
open Go.E Go.RowKit
attribute [local irreducible] G C S D Calls
set_option maxRecDepth 100000
set_option linter.unusedSimpArgs false
set_option linter.unusedVariables false

theorem joinB_data (xs : List ByteArray) (sep : ByteArray) : (joinB xs sep).data.toList = Lib.join (xs.map (·.data.toList)) sep.data.toList := rfl
theorem join_jn (c : UInt8) : ∀ ls : List ByteArray, joinB ls ⟨#[c]⟩ = jnB c ls
  | [] => rfl
  | [a] => by
    refine ba_ext ?_
    rw [joinB_data, List.map_cons, List.map_nil, Lib.join_one]
    rfl
  | a :: b :: r => by
    have h := congrArg (fun x => x.data.toList) (join_jn c (b :: r))
    refine ba_ext ?_
    rw [jnB_two, ← h]
    show _ = _ ++ c :: (joinB (b :: r) ⟨#[c]⟩).data.toList
    rw [joinB_data, joinB_data]
    simp only [List.map_cons, Lib.join_cons, Lib.joinTail, List.flatten_cons]
    simp
theorem jn_nl : ∀ ls : List ByteArray, (jnB 10 (ls ++ [ByteArray.empty])).data.toList = (ls.map fun x => x.data.toList ++ [10]).flatten
  | [] => rfl
  | [a] => by
    rw [List.cons_append, List.nil_append, jnB_two]
    simp [jnB]
  | a :: b :: r => by
    have h := jn_nl (b :: r)
    rw [List.cons_append] at h
    rw [List.cons_append, List.cons_append, jnB_two, h, List.map_cons, List.flatten_cons]
    simp
theorem size_snoc {a z : ByteArray} {l : List UInt8} (h : a.data.toList = z.data.toList ++ l) : a.size = z.size + l.length := by rw [← ba_size, ← ba_size, h, List.length_append]
theorem free_jn {c d : UInt8} (hcd : c ≠ d) : ∀ {ls : List ByteArray}, (∀ x ∈ ls, Free c x) → Free c (jnB d ls)
  | [], _ => by simp [jnB, Free]
  | [a], h => h a (List.mem_cons_self ..)
  | a :: b :: r, h => by
    have h1 := free_jn hcd (ls := b :: r) (fun x hx => h x (List.mem_cons_of_mem _ hx))
    intro u hu
    rw [jnB_two, List.mem_append, List.mem_cons] at hu
    rcases hu with hu | rfl | hu
    · exact h a (List.mem_cons_self ..) u hu
    · exact Ne.symm hcd
    · exact h1 u hu
/-- The parts of pieces are the pieces. -/
theorem splR_of {c : UInt8} {ls : List ByteArray} (hn : ls ≠ []) (h : ∀ x ∈ ls, Free c x) : splR (jnB c ls) c.toNat = ls := by
  obtain ⟨a, r, rfl⟩ := List.exists_cons_of_ne_nil hn
  obtain ⟨h1, h2⟩ := split_jn c r a h
  rw [← splitB_splR, h1, h2]
theorem sN_app1 {l t : List ByteArray} {k : Nat} (h : k < l.length) : sG (l ++ t) k = sG l k := by
  unfold sG
  simp [List.getElem?_append_left h]
theorem sN_app2 (l : List ByteArray) (a : ByteArray) (t : List ByteArray) : sG (l ++ a :: t) l.length = a := by
  unfold sG
  simp
/-! ### Lines of nets -/
def sNodeW : ByteArray := ⟨#[110, 111, 100, 101]⟩
inductive LnK where
  | node (s : ByteArray)
  | edge (e : Edg)
  | bad (e : Int)
/-- The first index of a name, or -1. -/
def ixS : List ByteArray → ByteArray → Nat → Int
  | [], _, _ => -1
  | x :: r, s, k => if x = s then (k : Int) else ixS r s (k + 1)
/-- What a line says, behind these names. -/
def lnW (names : List ByteArray) : List ByteArray → LnK
  | [a, b] => if a = sNodeW ∧ b ≠ ByteArray.empty then .node b else .bad 25
  | [a, b, c, d, e] => if a = sEdge ∧ b ≠ ByteArray.empty ∧ c ≠ ByteArray.empty ∧ (digR d).2 = true ∧ (digR e).2 = true then (if ixS names b 0 < 0 ∨ ixS names c 0 < 0 then .bad 10 else .edge ⟨ixS names b 0, ixS names c 0, (digR d).1, (digR e).1⟩) else .bad 25
  | _ => .bad 25
def lnK (names : List ByteArray) (body : ByteArray) : LnK := lnW names (splR body 32)
/-- What the first lines say. -/
def npS (ls : List ByteArray) : Nat → List ByteArray × List Edg
  | 0 => ([], [])
  | k + 1 => match lnK (npS ls k).1 (sG ls k) with
    | .node s => ((npS ls k).1 ++ [s], (npS ls k).2)
    | .edge e => ((npS ls k).1, (npS ls k).2 ++ [e])
    | .bad _ => npS ls k
def npE (ls : List ByteArray) (k : Nat) : Int := match lnK (npS ls k).1 (sG ls k) with
  | .bad e => e
  | _ => 0
abbrev npOk (ls : List ByteArray) (k : Nat) : Prop := ∀ j, j < k → npE ls j = 0
def npX (ls : List ByteArray) (m : Nat) : (List ByteArray × List Edg) × Nat × Int :=
  match (List.range m).find? fun j => npE ls j != 0 with
  | some i => (([], []), i, npE ls i)
  | none => if sG ls m ≠ ByteArray.empty then (([], []), m, 25) else if netF (npS ls m).1 (npS ls m).2 ≠ 0 then (([], []), m, netF (npS ls m).1 (npS ls m).2) else (npS ls m, 0, 0)
/-- The reference's reading of a net. -/
def npR (s : ByteArray) : (List ByteArray × List Edg) × Nat × Int := if 4096 < s.size then (([], []), 0, 26) else npX (splR s 10) ((splR s 10).length - 1)
theorem npX_bad {ls : List ByteArray} {m k : Nat} (h : npOk ls k) (hk : k < m) (h2 : npE ls k ≠ 0) : npX ls m = (([], []), k, npE ls k) := by
  have e : (List.range m).find? (fun j => npE ls j != 0) = some k := by
    rw [List.find?_range_eq_some]
    exact ⟨by simpa using h2, List.mem_range.2 hk, fun j hj => by simp [h j hj]⟩
  unfold npX
  rw [e]
theorem npX_ok {ls : List ByteArray} {m : Nat} (h : npOk ls m) : npX ls m = if sG ls m ≠ ByteArray.empty then (([], []), m, 25) else if netF (npS ls m).1 (npS ls m).2 ≠ 0 then (([], []), m, netF (npS ls m).1 (npS ls m).2) else (npS ls m, 0, 0) := by
  have e : (List.range m).find? (fun j => npE ls j != 0) = none := by
    rw [List.find?_eq_none]
    intro j hj
    simp [h j (List.mem_range.1 hj)]
  unfold npX
  rw [e]
theorem npS_node {ls : List ByteArray} {k : Nat} {s : ByteArray} (h : lnK (npS ls k).1 (sG ls k) = .node s) : npS ls (k + 1) = ((npS ls k).1 ++ [s], (npS ls k).2) ∧ npE ls k = 0 := by
  unfold npE
  rw [npS, h]
  exact ⟨rfl, rfl⟩
theorem npS_edge {ls : List ByteArray} {k : Nat} {e : Edg} (h : lnK (npS ls k).1 (sG ls k) = .edge e) : npS ls (k + 1) = ((npS ls k).1, (npS ls k).2 ++ [e]) ∧ npE ls k = 0 := by
  unfold npE
  rw [npS, h]
  exact ⟨rfl, rfl⟩
theorem ix_at : ∀ (l : List ByteArray) (k j : Nat), j < l.length → (∀ i, i < j → sG l i ≠ sG l j) → ixS l (sG l j) k = ((k + j : Nat) : Int)
  | [], _, _, h, _ => by simp at h
  | x :: r, k, 0, _, _ => by
    show (if x = x then (k : Int) else _) = _
    rw [if_pos rfl]
    rfl
  | x :: r, k, j + 1, h, hn => by
    have h0 := hn 0 (by omega)
    have h1 := ix_at r (k + 1) j (by simpa using h) (fun i hi => by
      have := hn (i + 1) (by omega)
      rwa [sN_cons, sN_cons] at this)
    rw [sN_cons] at h0 ⊢
    rw [ixS, if_neg (show x ≠ sG r j from h0), h1]
    omega
theorem ix_inv : ∀ (l : List ByteArray) (s : ByteArray) (k : Nat), ¬ ixS l s k < 0 → ∃ j, j < l.length ∧ ixS l s k = ((k + j : Nat) : Int) ∧ sG l j = s
  | [], s, k, h => absurd (show (-1 : Int) < 0 by omega) h
  | x :: r, s, k, h => by
    rw [ixS] at h ⊢
    by_cases e : x = s
    · rw [if_pos e]
      exact ⟨0, by simp, rfl, e⟩
    · rw [if_neg e] at h ⊢
      obtain ⟨j, h1, h2, h3⟩ := ix_inv r s (k + 1) h
      exact ⟨j + 1, by simpa using h1, by rw [h2]; congr 1; omega, by rw [sN_cons]; exact h3⟩
theorem sNode_jn (s : ByteArray) : sNode ++ s = jnB 32 [sNodeW, s] := by
  refine ba_ext ?_
  rw [jnB_two, ba_app]
  rfl
theorem edgeT_jn (names : List ByteArray) (e : Edg) : edgeT names e = jnB 32 (edgeW names e) := join_jn 32 _
theorem name_free {s : ByteArray} (h : isName s = true) {c : UInt8} (hc : c = 10 ∨ c = 32) : Free c s ∧ s ≠ ByteArray.empty ∧ s.size ≤ 24 := by
  unfold isName at h
  simp only [Bool.and_eq_true, List.all_eq_true, decide_eq_true_eq, Bool.not_eq_true', beq_eq_false_iff_ne] at h
  obtain ⟨⟨h1, h2⟩, h3⟩ := h
  refine ⟨fun u hu e => ?_, fun e => h2 (by rw [e]; rfl), h3⟩
  obtain ⟨k, hk, e2⟩ := List.getElem_of_mem hu
  have hk' : k < s.size := by rw [← ba_size]; exact hk
  have h4 := h1 k (List.mem_range.2 hk')
  rw [bx_get hk', e2, e] at h4
  rcases hc with rfl | rfl
  · simp [okB] at h4
  · simp [okB] at h4
/-- Names that a net may have. -/
structure NmOk (names : List ByteArray) : Prop where
  nm : ∀ s ∈ names, isName s = true
  ne : ∀ i j, i < j → j < names.length → sG names i ≠ sG names j
structure EgOk (n : Nat) (e : Edg) : Prop where
  f : 0 ≤ e.F ∧ e.F < n
  t : 0 ≤ e.T ∧ e.T < n
  l : 0 ≤ e.L ∧ e.L ≤ 999999999
  h : 0 ≤ e.H ∧ e.H ≤ 999999999
theorem free_words {c : UInt8} (hc : c = 10 ∨ c = 32) : Free c sNodeW ∧ Free c sEdge := by
  refine ⟨fun u hu e => ?_, fun u hu e => ?_⟩ <;> (subst e; revert hu; rcases hc with rfl | rfl <;> decide)
theorem edge_words {names : List ByteArray} (hn : NmOk names) {e : Edg} (he : EgOk names.length e) {c : UInt8} (hc : c = 10 ∨ c = 32) : ∀ x ∈ edgeW names e, Free c x := by
  have hF : sG names e.F.toNat ∈ names := sN_mem (by have := he.f; omega)
  have hT : sG names e.T.toNat ∈ names := sN_mem (by have := he.t; omega)
  intro x hx
  simp only [edgeW, List.mem_cons, List.not_mem_nil, or_false] at hx
  rcases hx with rfl | rfl | rfl | rfl | rfl
  · exact (free_words hc).2
  · exact (name_free (hn.nm _ hF) hc).1
  · exact (name_free (hn.nm _ hT) hc).1
  · exact it_free hc
  · exact it_free hc
theorem dig_it0 {z : Int} (h : 0 ≤ z ∧ z ≤ 999999999) : digR (itB z) = (z, true) := by
  obtain ⟨m, rfl⟩ : ∃ m : Nat, z = (m : Int) := ⟨z.toNat, by omega⟩
  exact (num_it m).dig h.2
theorem ln_node (names : List ByteArray) {s : ByteArray} (h : isName s = true) : lnK names (sNode ++ s) = .node s := by
  have h1 := name_free h (c := 32) (.inr rfl)
  have hs : splR (sNode ++ s) 32 = [sNodeW, s] := by
    rw [sNode_jn]
    refine splR_of (c := 32) (by simp) fun x hx => ?_
    simp only [List.mem_cons, List.not_mem_nil, or_false] at hx
    rcases hx with rfl | rfl
    · exact (free_words (.inr rfl)).1
    · exact h1.1
  unfold lnK
  rw [hs]
  exact if_pos ⟨rfl, h1.2.1⟩
theorem ln_edge {names : List ByteArray} (hn : NmOk names) {e : Edg} (he : EgOk names.length e) : lnK names (edgeT names e) = .edge e := by
  have hF := he.f
  have hT := he.t
  have hs : splR (edgeT names e) 32 = edgeW names e := by
    rw [edgeT_jn]
    exact splR_of (c := 32) (by simp [edgeW]) (edge_words hn he (.inr rfl))
  have hfn : names.getD e.F.toNat ByteArray.empty = sG names e.F.toNat := rfl
  have htn : names.getD e.T.toNat ByteArray.empty = sG names e.T.toNat := rfl
  have h1 := ix_at names 0 e.F.toNat (by omega) (fun i hi => hn.ne i _ hi (by omega))
  have h2 := ix_at names 0 e.T.toNat (by omega) (fun i hi => hn.ne i _ hi (by omega))
  have n1 := (name_free (hn.nm _ (sN_mem (l := names) (k := e.F.toNat) (by omega))) (c := 32) (.inr rfl)).2.1
  have n2 := (name_free (hn.nm _ (sN_mem (l := names) (k := e.T.toNat) (by omega))) (c := 32) (.inr rfl)).2.1
  unfold lnK
  rw [hs]
  show (if sEdge = sEdge ∧ sG names e.F.toNat ≠ ByteArray.empty ∧ sG names e.T.toNat ≠ ByteArray.empty ∧ (digR (itB e.L)).2 = true ∧ (digR (itB e.H)).2 = true then (if ixS names (sG names e.F.toNat) 0 < 0 ∨ ixS names (sG names e.T.toNat) 0 < 0 then LnK.bad 10 else LnK.edge ⟨ixS names (sG names e.F.toNat) 0, ixS names (sG names e.T.toNat) 0, (digR (itB e.L)).1, (digR (itB e.H)).1⟩) else LnK.bad 25) = _
  rw [dig_it0 he.l, dig_it0 he.h, if_pos ⟨rfl, n1, n2, rfl, rfl⟩, h1, h2, if_neg (by omega)]
  congr 1
  obtain ⟨F, T, L, H⟩ := e
  simp only [Edg.mk.injEq, and_true] at hF hT ⊢
  dsimp only at *
  omega
theorem lines_len (names : List ByteArray) (es : List Edg) : (linesT names es).length = names.length + es.length := by simp [linesT]
theorem lines_node {names : List ByteArray} (es : List Edg) (t : List ByteArray) {k : Nat} (h : k < names.length) : sG (linesT names es ++ t) k = sNode ++ sG names k := by
  rw [sN_app1 (by rw [lines_len]; omega)]
  unfold linesT
  rw [sN_app1 (by simpa using h)]
  unfold sG
  simp [h]
theorem lines_edge {names : List ByteArray} {es : List Edg} (t : List ByteArray) {k : Nat} (h : k < es.length) : sG (linesT names es ++ t) (names.length + k) = edgeT names es[k] := by
  rw [sN_app1 (by rw [lines_len]; omega)]
  unfold linesT sG
  rw [List.getD_eq_getElem?_getD, List.getElem?_append_right (by simp)]
  simp [h]
/-- What the lines of a net say. -/
theorem lines_S1 {names : List ByteArray} (hn : NmOk names) (es : List Edg) (t : List ByteArray) : ∀ k, k ≤ names.length → npS (linesT names es ++ t) k = (names.take k, []) ∧ npOk (linesT names es ++ t) k
  | 0, _ => ⟨rfl, fun j hj => absurd hj (Nat.not_lt_zero _)⟩
  | k + 1, hk => by
    obtain ⟨h1, h2⟩ := lines_S1 hn es t k (by omega)
    have h3 : lnK (npS (linesT names es ++ t) k).1 (sG (linesT names es ++ t) k) = .node (sG names k) := by
      rw [lines_node es t (by omega)]
      exact ln_node _ (hn.nm _ (sN_mem (by omega)))
    obtain ⟨h4, h5⟩ := npS_node h3
    refine ⟨?_, fun j hj => ?_⟩
    · rw [h4, h1, List.take_succ_eq_append_getElem (by omega), sN_at (by omega)]
    · by_cases e : j = k
      · rw [e]; exact h5
      · exact h2 j (by omega)
theorem lines_S2 {names : List ByteArray} (hn : NmOk names) {es : List Edg} (he : ∀ e ∈ es, EgOk names.length e) (t : List ByteArray) : ∀ k, k ≤ es.length → npS (linesT names es ++ t) (names.length + k) = (names, es.take k) ∧ npOk (linesT names es ++ t) (names.length + k)
  | 0, _ => by
    have := lines_S1 hn es t names.length (Nat.le_refl _)
    rw [List.take_length] at this
    exact this
  | k + 1, hk => by
    obtain ⟨h1, h2⟩ := lines_S2 hn he t k (by omega)
    have h3 : lnK (npS (linesT names es ++ t) (names.length + k)).1 (sG (linesT names es ++ t) (names.length + k)) = .edge (es[k]'(by omega)) := by
      rw [h1, lines_edge t (by omega)]
      exact ln_edge hn (he _ (List.getElem_mem _))
    obtain ⟨h4, h5⟩ := npS_edge h3
    refine ⟨?_, fun j hj => ?_⟩
    · rw [← Nat.add_assoc, h4, h1, List.take_succ_eq_append_getElem (by omega)]
    · by_cases e : j = names.length + k
      · rw [e]; exact h5
      · exact h2 j (by omega)
theorem lines_free {names : List ByteArray} (hn : NmOk names) {es : List Edg} (he : ∀ e ∈ es, EgOk names.length e) : ∀ x ∈ linesT names es, Free 10 x := fun x hx => by
  rcases List.mem_append.1 hx with hx | hx
  · obtain ⟨s, hs, rfl⟩ := List.mem_map.1 hx
    rw [sNode_jn]
    refine free_jn (by decide) fun y hy => ?_
    simp only [List.mem_cons, List.not_mem_nil, or_false] at hy
    rcases hy with rfl | rfl
    · exact (free_words (.inl rfl)).1
    · exact (name_free (hn.nm _ hs) (.inl rfl)).1
  · obtain ⟨e, h1, rfl⟩ := List.mem_map.1 hx
    rw [edgeT_jn]
    exact free_jn (by decide) (edge_words hn (he e h1) (.inl rfl))
/-- The text of a net. -/
def prN (names : List ByteArray) (es : List Edg) : ByteArray := jnB 10 (linesT names es ++ [ByteArray.empty])
/-- A net is read as it was written. -/
theorem np_pr {names : List ByteArray} (hn : NmOk names) {es : List Edg} (he : ∀ e ∈ es, EgOk names.length e) (hF : netF names es = 0) (hz : (prN names es).size ≤ 4096) : npR (prN names es) = ((names, es), 0, 0) := by
  have hs : splR (prN names es) 10 = linesT names es ++ [ByteArray.empty] := splR_of (c := 10) (by simp) fun x hx => by
    rcases List.mem_append.1 hx with hx | hx
    · exact lines_free hn he x hx
    · rw [List.mem_singleton.1 hx]
      simp [Free]
  have hl : (linesT names es ++ [ByteArray.empty]).length - 1 = names.length + es.length := by simp [lines_len]
  have hem : sG (linesT names es ++ [ByteArray.empty]) (names.length + es.length) = ByteArray.empty := by
    rw [← lines_len names es]
    exact sN_app2 _ _ _
  obtain ⟨h1, h2⟩ := lines_S2 hn he [ByteArray.empty] es.length (Nat.le_refl _)
  rw [List.take_length] at h1
  unfold npR
  rw [if_neg (by omega), hs, hl, npX_ok h2, hem, if_neg (by simp), h1, if_neg (by simpa using hF)]
/-- Without its last byte it is not. -/
theorem np_cut {names : List ByteArray} (hn : NmOk names) {es : List Edg} (he : ∀ e ∈ es, EgOk names.length e) (h0 : 0 < names.length) (hz : (prN names es).size ≤ 4096) :
    npR ((prN names es).extract 0 ((prN names es).size - 1)) = (([], []), names.length + es.length - 1, 25) ∧ 1 ≤ (prN names es).size := by
  obtain ⟨p, last, hp⟩ : ∃ p last, linesT names es = p ++ [last] := by
    rcases List.eq_nil_or_concat (linesT names es) with h | ⟨p, x, h⟩
    · have := congrArg List.length h
      rw [lines_len, List.length_nil] at this
      omega
    · exact ⟨p, x, by rw [h, List.concat_eq_append]⟩
  have hpl : p.length = names.length + es.length - 1 := by
    have := congrArg List.length hp
    rw [lines_len] at this
    simp at this
    omega
  have e2 : (prN names es).data.toList = (jnB 10 (linesT names es)).data.toList ++ [10] := by
    unfold prN
    rw [hp]
    rcases p with _ | ⟨a, r⟩
    · exact jnB_snoc 10 ByteArray.empty last []
    · exact jnB_snoc 10 ByteArray.empty a (r ++ [last])
  have hsz := size_snoc e2
  have e3 : ([10] : List UInt8).length = 1 := rfl
  rw [e3] at hsz
  have hx : (prN names es).extract 0 ((prN names es).size - 1) = jnB 10 (linesT names es) := by
    refine ba_ext ?_
    rw [Lib.extract_data, e2]
    exact tk_len0 (by rw [ba_size]; omega)
  refine ⟨?_, by omega⟩
  rw [hx]
  have hs : splR (jnB 10 (linesT names es)) 10 = linesT names es := splR_of (c := 10) (by rw [hp]; simp) (lines_free hn he)
  have hl : (linesT names es).length - 1 = names.length + es.length - 1 := by rw [lines_len]
  obtain ⟨_, h2⟩ := lines_S2 hn he [] es.length (Nat.le_refl _)
  rw [List.append_nil] at h2
  have hlast : sG (linesT names es) (names.length + es.length - 1) ≠ ByteArray.empty := by
    rw [hp, ← hpl, sN_app2]
    have hm : last ∈ linesT names es := by rw [hp]; simp
    rcases List.mem_append.1 hm with hm | hm
    · obtain ⟨s, _, rfl⟩ := List.mem_map.1 hm
      intro e
      have := congrArg ByteArray.size e
      rw [ByteArray.size_append] at this
      have h5 : sNode.size = 5 := rfl
      have h6 : ByteArray.empty.size = 0 := rfl
      omega
    · obtain ⟨e, _, rfl⟩ := List.mem_map.1 hm
      rw [edgeT_jn]
      intro e
      have := congrArg (fun x => x.data.toList.length) e
      simp only [edgeW, jnB_two, List.length_append, List.length_cons] at this
      have h6 : ByteArray.empty.data.toList.length = 0 := rfl
      omega
  unfold npR
  rw [if_neg (by omega), hs, hl, npX_ok (fun j hj => h2 j (by omega)), if_pos hlast]
/-! ### What is read is printed as long as it was -/
def bytesL (ls : List ByteArray) : Nat := (ls.map fun x => x.size + 1).sum
theorem bytesL_snoc (ls : List ByteArray) (x : ByteArray) : bytesL (ls ++ [x]) = bytesL ls + (x.size + 1) := by simp [bytesL]
theorem bytesL_app (a b : List ByteArray) : bytesL (a ++ b) = bytesL a + bytesL b := by simp [bytesL]
theorem jn_bytes : ∀ ls : List ByteArray, (jnB 10 (ls ++ [ByteArray.empty])).size = bytesL ls
  | [] => rfl
  | [a] => by
    rw [← ba_size, List.cons_append, List.nil_append, jnB_two, List.length_append, List.length_cons, ba_size]
    rfl
  | a :: b :: r => by
    have h := jn_bytes (b :: r)
    rw [← ba_size] at h
    rw [← ba_size, List.cons_append, List.cons_append, jnB_two, List.length_append, List.length_cons, ba_size]
    rw [List.cons_append] at h
    rw [h]
    simp [bytesL]
    omega
theorem lnW_inv {names : List ByteArray} {w : List ByteArray} : (∀ s, lnW names w = .node s → w = [sNodeW, s]) ∧ (∀ e, lnW names w = .edge e → ∃ b c, w = [sEdge, b, c, itB e.L, itB e.H] ∧ (0 ≤ e.F ∧ e.F < names.length ∧ sG names e.F.toNat = b) ∧ (0 ≤ e.T ∧ e.T < names.length ∧ sG names e.T.toNat = c)) := by
  rcases w with _ | ⟨a, _ | ⟨b, _ | ⟨c, _ | ⟨d, _ | ⟨e, _ | ⟨f, r⟩⟩⟩⟩⟩⟩
  · exact ⟨fun s h => (by cases h), fun s h => (by cases h)⟩
  · exact ⟨fun s h => (by cases h), fun s h => (by cases h)⟩
  · refine ⟨fun s h => ?_, fun e h => ?_⟩
    · have h2 : (if a = sNodeW ∧ b ≠ ByteArray.empty then LnK.node b else .bad 25) = .node s := h
      split at h2
      · rename_i hc
        cases h2
        rw [hc.1]
      · cases h2
    · have h2 : (if a = sNodeW ∧ b ≠ ByteArray.empty then LnK.node b else .bad 25) = .edge e := h
      split at h2 <;> cases h2
  · exact ⟨fun s h => (by cases h), fun s h => (by cases h)⟩
  · exact ⟨fun s h => (by cases h), fun s h => (by cases h)⟩
  · have key : lnW names [a, b, c, d, e] = (if a = sEdge ∧ b ≠ ByteArray.empty ∧ c ≠ ByteArray.empty ∧ (digR d).2 = true ∧ (digR e).2 = true then (if ixS names b 0 < 0 ∨ ixS names c 0 < 0 then .bad 10 else .edge ⟨ixS names b 0, ixS names c 0, (digR d).1, (digR e).1⟩) else .bad 25) := rfl
    refine ⟨fun s h => ?_, fun g h => ?_⟩
    · rw [key] at h
      split at h
      · split at h <;> cases h
      · cases h
    · rw [key] at h
      split at h
      · rename_i hc
        obtain ⟨h1, _, _, h4, h5⟩ := hc
        split at h
        · cases h
        · rename_i hx
          cases h
          obtain ⟨i, i1, i2, i3⟩ := ix_inv names b 0 (fun h => hx (.inl h))
          obtain ⟨j, j1, j2, j3⟩ := ix_inv names c 0 (fun h => hx (.inr h))
          have hd := (dig_it (s := d) (z := (digR d).1) (by rw [← h4])).1
          have he := (dig_it (s := e) (z := (digR e).1) (by rw [← h5])).1
          refine ⟨b, c, ?_, ⟨by dsimp only; omega, by dsimp only; omega, ?_⟩, ⟨by dsimp only; omega, by dsimp only; omega, ?_⟩⟩
          · dsimp only
            rw [h1, ← hd, ← he]
          · dsimp only
            rw [i2, ← i3]
            congr 1
            omega
          · dsimp only
            rw [j2, ← j3]
            congr 1
            omega
      · cases h
  · exact ⟨fun s h => (by cases h), fun s h => (by cases h)⟩
theorem edgeT_more {names : List ByteArray} (t : List ByteArray) {e : Edg} (h : 0 ≤ e.F ∧ e.F < names.length ∧ 0 ≤ e.T ∧ e.T < names.length) : edgeT (names ++ t) e = edgeT names e := by
  have h1 : sG (names ++ t) e.F.toNat = sG names e.F.toNat := sN_app1 (by omega)
  have h2 : sG (names ++ t) e.T.toNat = sG names e.T.toNat := sN_app1 (by omega)
  unfold edgeT edgeW
  show joinB [sEdge, sG (names ++ t) e.F.toNat, sG (names ++ t) e.T.toNat, itB e.L, itB e.H] sSp = _
  rw [h1, h2]
  rfl
theorem np_bytes {ls : List ByteArray} : ∀ k, k ≤ ls.length → npOk ls k → bytesL (ls.take k) = bytesL (linesT (npS ls k).1 (npS ls k).2) ∧ ∀ e ∈ (npS ls k).2, 0 ≤ e.F ∧ e.F < (npS ls k).1.length ∧ 0 ≤ e.T ∧ e.T < (npS ls k).1.length
  | 0, _, _ => ⟨rfl, fun e he => by simp [npS] at he⟩
  | k + 1, hk, hok => by
    obtain ⟨h1, h2⟩ := np_bytes k (by omega) (fun j hj => hok j (by omega))
    have h3 := hok k (by omega)
    have hj := (splR_jn (sG ls k) 32).1
    have h32 : (32 : UInt8).toNat = 32 := rfl
    rw [h32] at hj
    rw [List.take_succ_eq_append_getElem (by omega), bytesL_snoc, h1, ← sN_at (by omega)]
    obtain ⟨i1, i2⟩ := lnW_inv (names := (npS ls k).1) (w := splR (sG ls k) 32)
    rcases hl : lnK (npS ls k).1 (sG ls k) with s | e | e
    · have h4 := i1 s hl
      rw [h4] at hj
      rw [(npS_node hl).1]
      dsimp only
      have h5 : (sG ls k).size = 5 + s.size := by
        rw [← hj, ← sNode_jn, ByteArray.size_append]
        rfl
      refine ⟨?_, fun e he => ?_⟩
      · have h6 : (npS ls k).2.map (edgeT ((npS ls k).1 ++ [s])) = (npS ls k).2.map (edgeT (npS ls k).1) := List.map_congr_left fun e he => edgeT_more _ (h2 e he)
        unfold linesT
        rw [h6, List.map_append, List.map_cons, List.map_nil, bytesL_app, bytesL_app, bytesL_snoc, h5, ByteArray.size_append]
        have h7 : sNode.size = 5 := rfl
        omega
      · have := h2 e he
        rw [List.length_append, List.length_singleton]
        omega
    · obtain ⟨b, c, h4, ⟨f1, f2, f3⟩, ⟨t1, t2, t3⟩⟩ := i2 e hl
      rw [h4] at hj
      rw [(npS_edge hl).1]
      dsimp only
      have h5 : sG ls k = edgeT (npS ls k).1 e := by
        rw [← hj, edgeT_jn, ← f3, ← t3]
        rfl
      refine ⟨?_, fun g hg => ?_⟩
      · unfold linesT
        rw [List.map_append, List.map_cons, List.map_nil, ← List.append_assoc, bytesL_snoc, h5]
      · rcases List.mem_append.1 hg with hg | hg
        · exact h2 g hg
        · rw [List.mem_singleton.1 hg]
          exact ⟨f1, f2, t1, t2⟩
    · unfold npE at h3
      rw [hl] at h3
      dsimp only at h3
      subst h3
      exfalso
      have : ∀ w, lnW (npS ls k).1 w ≠ .bad 0 := by
        intro w
        rcases w with _ | ⟨a, _ | ⟨b, _ | ⟨c, _ | ⟨d, _ | ⟨e, _ | ⟨f, r⟩⟩⟩⟩⟩⟩
        · intro h; cases h
        · intro h; cases h
        · intro h
          have h2 : (if a = sNodeW ∧ b ≠ ByteArray.empty then LnK.node b else .bad 25) = .bad 0 := h
          split at h2 <;> cases h2
        · intro h; cases h
        · intro h; cases h
        · intro h
          have h2 : (if a = sEdge ∧ b ≠ ByteArray.empty ∧ c ≠ ByteArray.empty ∧ (digR d).2 = true ∧ (digR e).2 = true then (if ixS (npS ls k).1 b 0 < 0 ∨ ixS (npS ls k).1 c 0 < 0 then LnK.bad 10 else .edge ⟨ixS (npS ls k).1 b 0, ixS (npS ls k).1 c 0, (digR d).1, (digR e).1⟩) else .bad 25) = .bad 0 := h
          split at h2
          · split at h2 <;> cases h2
          · cases h2
        · intro h; cases h
      exact this _ hl
/-- What is read is printed as long as it was. -/
theorem np_inv {s : ByteArray} {ns : List ByteArray} {es : List Edg} {n : Nat} (h : npR s = ((ns, es), n, 0)) : (prN ns es).size = s.size ∧ netF ns es = 0 ∧ s.size ≤ 4096 := by
  unfold npR at h
  split at h
  · simp at h
  · rename_i h4
    have h10 : (10 : UInt8).toNat = 10 := rfl
    obtain ⟨hj, _⟩ := splR_jn s 10
    rw [h10] at hj
    obtain ⟨a, r, hls⟩ := splR_cons s 10
    rw [hls] at h hj
    generalize hL : a :: r = ls at h hj hls
    have hlen : ls.length = ls.length - 1 + 1 := by rw [← hL]; simp
    generalize hm : ls.length - 1 = m at h hlen
    by_cases hok : npOk ls m
    · rw [npX_ok hok] at h
      split at h
      · simp at h
      · rename_i hc
        split at h
        · rename_i hf
          simp only [Prod.mk.injEq] at h
          exact absurd h.2.2 hf
        · rename_i hf
          simp only [Prod.mk.injEq] at h
          obtain ⟨h1, _, _⟩ := h
          have hemp : sG ls m = ByteArray.empty := Classical.byContradiction hc
          obtain ⟨h5, _⟩ := np_bytes (ls := ls) m (by omega) hok
          rw [h1] at h5 hf
          refine ⟨?_, Classical.byContradiction hf, by omega⟩
          unfold prN
          rw [jn_bytes, ← h5, ← jn_bytes, ← hj]
          congr 2
          rw [← hemp, sN_at (show m < ls.length by omega), ← List.take_succ_eq_append_getElem]
          exact List.take_of_length_le (by omega)
    · obtain ⟨k, hk, hbad, hk2⟩ : ∃ k, k < m ∧ npE ls k ≠ 0 ∧ npOk ls k := by
        have : ∃ k, k < m ∧ npE ls k ≠ 0 := Classical.byContradiction fun hne => hok fun j hj => Classical.byContradiction fun hb => hne ⟨j, hj, hb⟩
        obtain ⟨k, hk, hb⟩ := this
        induction k using Nat.strongRecOn with
        | _ k ih =>
          by_cases hp : npOk ls k
          · exact ⟨k, hk, hb, hp⟩
          · have : ∃ j, j < k ∧ npE ls j ≠ 0 := Classical.byContradiction fun hne => hp fun j hj => Classical.byContradiction fun hb => hne ⟨j, hj, hb⟩
            obtain ⟨j, hj, hb2⟩ := this
            exact ih j hj (by omega) hb2
      rw [npX_bad hk2 hk hbad] at h
      simp only [Prod.mk.injEq] at h
      exact absurd h.2.2 hbad
/-! ### Nets without an error -/
theorem eg_of {n : Nat} {e : Edg} (h : edgeF n e = 0) : EgOk n e := by
  unfold edgeF edgeL at h
  rw [firstL_zero] at h
  simp only [List.mem_cons, List.mem_nil_iff, or_false, forall_eq_or_imp, forall_eq, wi_eq, wh_zero (show (10 : Int) ≠ 0 by omega), Bool.or_eq_false_iff, decide_eq_false_iff_not] at h
  obtain ⟨h1, h2, _, h4, h5, _⟩ := h
  exact ⟨by omega, by omega, by omega, by omega⟩
theorem nm_of {names : List ByteArray} {es : List Edg} (h : netF names es = 0) : NmOk names ∧ (∀ e ∈ es, EgOk names.length e) ∧ 0 < names.length ∧ names.length ≤ 12 ∧ es.length ≤ 24 := by
  unfold netF at h
  rw [firstL_zero] at h
  simp only [List.mem_cons, List.mem_nil_iff, or_false, forall_eq_or_imp, forall_eq, wh_zero (show (5 : Int) ≠ 0 by omega), decide_eq_false_iff_not] at h
  obtain ⟨h1, h2, h3, h4⟩ := h
  unfold netN at h1
  rw [firstL_zero] at h1 h2 h4
  simp only [List.mem_cons, List.mem_nil_iff, or_false, forall_eq_or_imp, forall_eq, wh_zero (show (5 : Int) ≠ 0 by omega), wh_zero (show (12 : Int) ≠ 0 by omega), decide_eq_false_iff_not, beq_eq_false_iff_ne, ne_eq] at h1
  have h5 : ∀ j, j < names.length → isName (sG names j) = true ∧ inN (names.take j) (sG names j) = false := fun j hj => by
    have h6 := h2 (nameF names j) (List.mem_map.2 ⟨j, List.mem_range.2 hj, rfl⟩)
    unfold nameF nameL at h6
    rw [firstL_zero] at h6
    simp only [List.mem_cons, List.mem_nil_iff, or_false, forall_eq_or_imp, forall_eq, wh_zero (show (8 : Int) ≠ 0 by omega), wh_zero (show (9 : Int) ≠ 0 by omega), Bool.not_eq_false'] at h6
    exact h6
  refine ⟨⟨fun s hs => ?_, fun i j hij hj e => ?_⟩, fun e he => eg_of (h4 _ (List.mem_map.2 ⟨e, he, rfl⟩)), by omega, by omega, by omega⟩
  · obtain ⟨j, hj, rfl⟩ := List.getElem_of_mem hs
    rw [← sN_at hj]
    exact (h5 j hj).1
  · have h6 := (h5 j hj).2
    unfold inN at h6
    rw [List.any_eq_false] at h6
    have hi : i < (names.take j).length := by rw [List.length_take]; omega
    refine h6 (sG names i) ?_ (decide_eq_true e)
    rw [sN_at (by omega)]
    exact List.mem_take_iff_getElem.2 ⟨i, by omega, rfl⟩
theorem bytesL_le {m : Nat} : ∀ ls : List ByteArray, (∀ x ∈ ls, x.size + 1 ≤ m) → bytesL ls ≤ ls.length * m
  | [], _ => Nat.zero_le _
  | a :: r, h => by
    have h1 := bytesL_le r (fun x hx => h x (List.mem_cons_of_mem _ hx))
    have h2 := h a (List.mem_cons_self ..)
    have h3 : bytesL (a :: r) = (a.size + 1) + bytesL r := by simp [bytesL]
    rw [h3, List.length_cons, Nat.succ_mul]
    omega
theorem edgeT_size {names : List ByteArray} (hn : NmOk names) {e : Edg} (he : EgOk names.length e) : (edgeT names e).size ≤ 125 := by
  have hF := (name_free (hn.nm _ (sN_mem (l := names) (k := e.F.toNat) (by have := he.f; omega))) (c := 32) (.inr rfl)).2.2
  have hT := (name_free (hn.nm _ (sN_mem (l := names) (k := e.T.toNat) (by have := he.t; omega))) (c := 32) (.inr rfl)).2.2
  have h1 := itB_size e.L (by have := he.l; omega) (by have := he.l; omega)
  have h2 := itB_size e.H (by have := he.h; omega) (by have := he.h; omega)
  have h3 := joinB_size (m := 24) [sEdge, sG names e.F.toNat, sG names e.T.toNat, itB e.L, itB e.H] sSp (fun x hx => by
    simp only [List.mem_cons, List.not_mem_nil, or_false] at hx
    rcases hx with rfl | rfl | rfl | rfl | rfl
    · exact Nat.le_of_ble_eq_true rfl
    · exact hF
    · exact hT
    · omega
    · omega)
  have h4 : sSp.size = 1 := rfl
  rw [h4] at h3
  have h5 : edgeT names e = joinB [sEdge, sG names e.F.toNat, sG names e.T.toNat, itB e.L, itB e.H] sSp := rfl
  rw [h5]
  simp only [List.length_cons, List.length_nil] at h3
  omega
theorem prN_size {names : List ByteArray} {es : List Edg} (h : netF names es = 0) : (prN names es).size ≤ 3500 := by
  obtain ⟨hn, he, h0, h1, h2⟩ := nm_of h
  unfold prN
  rw [jn_bytes]
  unfold linesT
  rw [bytesL_app]
  have a1 := bytesL_le (m := 30) (names.map (sNode ++ ·)) (fun x hx => by
    obtain ⟨s, hs, rfl⟩ := List.mem_map.1 hx
    have := (name_free (hn.nm _ hs) (c := 32) (.inr rfl)).2.2
    have h7 : sNode.size = 5 := rfl
    rw [ByteArray.size_append]
    omega)
  have a2 := bytesL_le (m := 126) (es.map (edgeT names)) (fun x hx => by
    obtain ⟨e, hs, rfl⟩ := List.mem_map.1 hx
    have := edgeT_size hn (he e hs)
    omega)
  rw [List.length_map] at a1 a2
  omega
/-- The program's text: the lines, joined. -/
theorem prN_join {names : List ByteArray} (h0 : 0 < names.length) (es : List Edg) : joinB (linesT names es) sNl ++ sNl = prN names es := by
  have h1 : joinB (linesT names es) sNl = jnB 10 (linesT names es) := join_jn 10 _
  rw [h1]
  unfold prN
  obtain ⟨a, r, e⟩ : ∃ a r, linesT names es = a :: r := by
    cases h : linesT names es with
    | nil =>
      have := lines_len names es
      rw [h] at this
      simp at this
      omega
    | cons a r => exact ⟨a, r, rfl⟩
  rw [e]
  refine ba_ext ?_
  rw [ba_app, jnB_snoc]
  rfl
/-- The reference's text: nodes, then edges. -/
def prK (names : List ByteArray) (es : List Edg) : Nat → ByteArray
  | 0 => ByteArray.empty
  | k + 1 => prK names es k ++ (sG (linesT names es) k ++ sNl)
theorem prK_jn (names : List ByteArray) (es : List Edg) : ∀ k, k ≤ (linesT names es).length → prK names es k = jnB 10 ((linesT names es).take k ++ [ByteArray.empty])
  | 0, _ => rfl
  | k + 1, hk => by
    refine ba_ext ?_
    rw [prK, ba_app, prK_jn names es k (by omega), jn_nl, jn_nl, List.take_succ_eq_append_getElem (by omega), List.map_append, List.flatten_append, ba_app, sN_at (by omega)]
    simp
    rfl
theorem prK_all (names : List ByteArray) (es : List Edg) : prK names es (linesT names es).length = prN names es := by
  rw [prK_jn names es _ (Nat.le_refl _), List.take_length]
  rfl

end Go.Proofs.YtmfophoejjcnlaaGreatDoor
namespace Go.Proofs.YtmfophoejjcnlaaGreatDoor
open Go.E Go.RowKit
attribute [local irreducible] G C S D Calls
set_option maxRecDepth 100000
set_option linter.unusedSimpArgs false
set_option linter.unusedVariables false

theorem toE_eqT {a b : ByteArray} (h : a = b) : (a.toList == b.toList) = true := by subst h; simp
theorem toE_neT {a b : ByteArray} (h : a ≠ b) : (a.toList == b.toList) = false := by
  rw [beq_eq_false_iff_ne]
  intro e
  exact h (ByteArray.ext (Array.ext' (by simpa [ByteArray.toList_eq] using e)))
def intT (s : ByteArray) : Int × Bool := if s.size ≤ 9 ∧ allD s s.size = true then (digN s s.size, !(s.size == 0) && (s.size == 1 || !(byteAt s 0 == 48))) else (0, false)
theorem intT_no {s : ByteArray} (hn : 9 < s.size ∨ allD s s.size = false) : intT s = (0, false) := by
  unfold intT
  rw [if_neg]
  rintro ⟨h1, h2⟩
  rcases hn with hn | hn
  · omega
  · rw [hn] at h2; cases h2
theorem allD_no {d : ByteArray} {k : Nat} (hk : k < d.size) (h : digB (byteAt d k) = false) : allD d d.size = false := by
  cases ha : allD d d.size
  · rfl
  · rw [allD_at ha hk] at h
    cases h
/-- The program's integer is the reference's, where there is one. -/
theorem int_dig (s : ByteArray) : (intT s).2 = (digR s).2 ∧ ((digR s).2 = true → (intT s).1 = (digR s).1) := by
  by_cases h9 : s.size ≤ 9 ∧ allD s s.size = true
  · have hI : intT s = (digN s s.size, !(s.size == 0) && (s.size == 1 || !(byteAt s 0 == 48))) := if_pos h9
    have hF : digF s = (!(s.size == 0) && (s.size == 1 || !(byteAt s 0 == 48))) := by
      unfold digF
      rw [decide_eq_true h9.1]
      by_cases h0 : s.size = 0
      · rw [h0]; rfl
      · by_cases h1 : s.size = 1
        · rw [h1]; rfl
        · have a1 : (s.size == 0) = false := beq_eq_false_iff_ne.2 h0
          have a2 : (s.size == 1) = false := beq_eq_false_iff_ne.2 h1
          rw [a1, a2, decide_eq_true (show 1 < s.size by omega)]
          rfl
    rw [hI, ← hF]
    cases hf : digF s
    · rw [digR_no hf]
      exact ⟨rfl, fun h => by cases h⟩
    · rw [digR_yes hf h9.2]
      exact ⟨rfl, fun _ => rfl⟩
  · rw [intT_no (by
      by_cases h : 9 < s.size
      · exact .inl h
      · right
        cases ha : allD s s.size
        · rfl
        · exact absurd ⟨by omega, ha⟩ h9)]
    have hD : digR s = (0, false) := by
      unfold digR
      by_cases hf : (digF s && allD s s.size) = true
      · rw [Bool.and_eq_true] at hf
        have := hf.1
        unfold digF at this
        simp only [Bool.and_eq_true, decide_eq_true_eq] at this
        exact absurd ⟨this.1.2, hf.2⟩ h9
      · rw [if_neg hf]
    rw [hD]
    exact ⟨rfl, fun h => by cases h⟩

set_option maxHeartbeats 2000000 in
/-- timing.integer -/
theorem integer_c (s : ByteArray) (hs : s.size ≤ 1000000) (w : World) : Calls Tryz.prog 177 #[.string s] w fun r w' => r = .returned (.tuple #[.int .i64 (intT s).1, .bool (intT s).2]) ∧ Below w.heap.size w w' := by
  refine calls_of (args := [.string s]) T_ok Tryz.func177 rfl Tryz.ntmps177 (Nat.le_of_ble_eq_true rfl) rfl ?_
  repeat' (first
 | (refine C_id ?_; first
 | refine C_seq ?_
 | refine C_region rfl ?_
 | refine C_block ?_
   )
 | (refine S_id ?_; first
 | refine S_new rfl obQ (fun _ => rfl) (fun k W hown hat => ?_)
 | refine S_nil ?_
 | refine S_run rfl rfl obQ obQ ?_
   )
 | (refine G_id ?_; first
 | refine G_then ?_
   )
   )
  refine C_loopO (k := k) (fun p : Nat => ⟨[(8, .s (.v (.pointer (some ⟨k, 0, none⟩)))), (0, .s (.v (.string s))), (4, .s (.v (.int .i64 (digN s p))))], [], []⟩) (fun p => p ≤ s.size ∧ allD s p = true ∧ (0 < p → s.size ≤ 9)) (fun p W => W.heap[k]? = some (.stringIter s p)) (fun p => s.size - p) 0 ⟨Nat.zero_le _, rfl, fun h => absurd h (Nat.lt_irrefl _)⟩ (fun p => iter_on k s p) hat ?_ (fun p W hp hat => ?_)
  · exact ⟨⟨_, rfl, obQ⟩, ⟨_, rfl⟩, rfl, pstQ⟩
  obtain ⟨hp1, hp2, hp3⟩ := hp
  dsimp only
  by_cases hlt : p < s.size
  · have hra := rune_at hlt
    by_cases hlo : (Utf8.decode s p).1 < 48
    · have hbad : digB (byteAt s p) = false := by
        unfold digB
        rw [Bool.and_eq_false_iff, decide_eq_false_iff_not, decide_eq_false_iff_not]
        rcases hra with ⟨h1, h2⟩ | ⟨h1, h2⟩
        · rw [h2] at hlo; dsimp only at hlo; omega
        · omega
      rw [intT_no (.inr (allD_no hlt hbad))]
      clear hra
      repeat' (first
 | (refine C_id ?_; first
 | refine C_seq ?_
 | refine C_region rfl ?_
 | refine C_block ?_
 | refine C_skip ?_
 | refine C_ret0 ?_
 | refine C_condT rfl obQ ?_
       )
 | (refine S_id ?_; first
 | ((with_reducible (first | refine S_falseN ?_ ?_ | refine S_falseB ?_ ?_ | refine S_falseL ?_ ?_ | refine S_falseD ?_ ?_ | refine S_falseE ?_ ?_)); · (first | rfl | omega | exact decide_eq_false (by omega) | (rw [beq_eq_false_iff_ne]; omega) | (rw [bne_eq_false_iff_eq]; omega)))
 | ((with_reducible refine S_falseO ?_ ?_ ?_); (· rfl); (· first | rfl | (first | rfl | omega | exact decide_eq_false (by omega) | (rw [beq_eq_false_iff_ne]; omega) | (rw [bne_eq_false_iff_eq]; omega))))
 | ((with_reducible (first | refine S_trueE ?_ ?_ | refine S_trueB ?_ ?_ | refine S_trueL ?_ ?_ | refine S_trueD ?_ ?_ | refine S_trueN ?_ ?_)); · (first | rfl | omega | exact decide_eq_true (by omega) | (rw [beq_iff_eq]; omega) | (rw [bne_iff_ne]; omega)))
 | refine S_unG rfl rfl rfl rfl ?_
 | refine S_next rfl obQ hown hat hlt (fun W hat => ?_)
 | refine S_offG (.v (.bool false)) rfl rfl rfl rfl rfl ?_
 | ((with_reducible refine S_trueO ?_ ?_); · first | rfl | (simp only [Bool.or_eq_true, decide_eq_true_eq, beq_iff_eq, bne_iff_ne]; first | assumption | omega))
 | refine S_nil ?_
 | refine S_runN rfl rfl obQ obQ ?_
       )
 | (refine G_id ?_; first
 | refine G_then ?_
 | refine G_blockR ?_
 | refine G_thenR ?_
 | refine G_ret rfl obQ (fun w hw => ⟨?_, hw.below⟩)
       )
       )
      all_goals rfl
    by_cases hhi : 57 < (Utf8.decode s p).1
    · have hbad : digB (byteAt s p) = false := by
        unfold digB
        rw [Bool.and_eq_false_iff, decide_eq_false_iff_not, decide_eq_false_iff_not]
        rcases hra with ⟨h1, h2⟩ | ⟨h1, h2⟩
        · rw [h2] at hhi; dsimp only at hhi; omega
        · omega
      rw [intT_no (.inr (allD_no hlt hbad))]
      clear hra
      repeat' (first
 | (refine C_id ?_; first
 | refine C_seq ?_
 | refine C_region rfl ?_
 | refine C_block ?_
 | refine C_skip ?_
 | refine C_ret0 ?_
 | refine C_condT rfl obQ ?_
       )
 | (refine S_id ?_; first
 | ((with_reducible (first | refine S_falseN ?_ ?_ | refine S_falseB ?_ ?_ | refine S_falseL ?_ ?_ | refine S_falseD ?_ ?_ | refine S_falseE ?_ ?_)); · (first | rfl | omega | exact decide_eq_false (by omega) | (rw [beq_eq_false_iff_ne]; omega) | (rw [bne_eq_false_iff_eq]; omega)))
 | ((with_reducible refine S_falseO ?_ ?_ ?_); (· rfl); (· first | rfl | (first | rfl | omega | exact decide_eq_false (by omega) | (rw [beq_eq_false_iff_ne]; omega) | (rw [bne_eq_false_iff_eq]; omega))))
 | ((with_reducible (first | refine S_trueE ?_ ?_ | refine S_trueB ?_ ?_ | refine S_trueL ?_ ?_ | refine S_trueD ?_ ?_ | refine S_trueN ?_ ?_)); · (first | rfl | omega | exact decide_eq_true (by omega) | (rw [beq_iff_eq]; omega) | (rw [bne_iff_ne]; omega)))
 | refine S_unG rfl rfl rfl rfl ?_
 | refine S_next rfl obQ hown hat hlt (fun W hat => ?_)
 | refine S_offG (.v (.bool false)) rfl rfl rfl rfl rfl ?_
 | ((with_reducible refine S_trueO ?_ ?_); · first | rfl | (simp only [Bool.or_eq_true, decide_eq_true_eq, beq_iff_eq, bne_iff_ne]; first | assumption | omega))
 | refine S_nil ?_
 | refine S_runN rfl rfl obQ obQ ?_
       )
 | (refine G_id ?_; first
 | refine G_then ?_
 | refine G_blockR ?_
 | refine G_thenR ?_
 | refine G_ret rfl obQ (fun w hw => ⟨?_, hw.below⟩)
       )
       )
      all_goals rfl
    obtain ⟨hb128, hdec⟩ : byteAt s p < 128 ∧ Utf8.decode s p = (byteAt s p, 1) := by
      rcases hra with h | ⟨h1, h2⟩
      · exact h
      · omega
    have hdg : (Utf8.decode s p).1 = byteAt s p ∧ (Utf8.decode s p).2 = 1 := by rw [hdec]; exact ⟨rfl, rfl⟩
    clear hra
    by_cases h9 : 9 < s.size
    · rw [intT_no (.inl h9)]
      repeat' (first
 | (refine C_id ?_; first
 | refine C_seq ?_
 | refine C_region rfl ?_
 | refine C_block ?_
 | refine C_skip ?_
 | refine C_ret0 ?_
 | refine C_condT rfl obQ ?_
       )
 | (refine S_id ?_; first
 | ((with_reducible (first | refine S_falseN ?_ ?_ | refine S_falseB ?_ ?_ | refine S_falseL ?_ ?_ | refine S_falseD ?_ ?_ | refine S_falseE ?_ ?_)); · (first | rfl | omega | exact decide_eq_false (by omega) | (rw [beq_eq_false_iff_ne]; omega) | (rw [bne_eq_false_iff_eq]; omega)))
 | ((with_reducible refine S_falseO ?_ ?_ ?_); (· rfl); (· first | rfl | (first | rfl | omega | exact decide_eq_false (by omega) | (rw [beq_eq_false_iff_ne]; omega) | (rw [bne_eq_false_iff_eq]; omega))))
 | ((with_reducible (first | refine S_trueE ?_ ?_ | refine S_trueB ?_ ?_ | refine S_trueL ?_ ?_ | refine S_trueD ?_ ?_ | refine S_trueN ?_ ?_)); · (first | rfl | omega | exact decide_eq_true (by omega) | (rw [beq_iff_eq]; omega) | (rw [bne_iff_ne]; omega)))
 | refine S_unG rfl rfl rfl rfl ?_
 | refine S_next rfl obQ hown hat hlt (fun W hat => ?_)
 | refine S_offG (.v (.bool false)) rfl rfl rfl rfl rfl ?_
 | ((with_reducible refine S_trueO ?_ ?_); · first | rfl | (simp only [Bool.or_eq_true, decide_eq_true_eq, beq_iff_eq, bne_iff_ne]; first | assumption | omega))
 | refine S_nil ?_
 | refine S_runN rfl rfl obQ obQ ?_
       )
 | (refine G_id ?_; first
 | refine G_then ?_
 | refine G_blockR ?_
 | refine G_thenR ?_
 | refine G_ret rfl obQ (fun w hw => ⟨?_, hw.below⟩)
       )
       )
      all_goals rfl
    · have hdig : digB (byteAt s p) = true := by
        unfold digB
        rw [Bool.and_eq_true, decide_eq_true_eq, decide_eq_true_eq]
        omega
      have hal : allD s (p + 1) = true := by rw [allD_s, hp2, hdig]; rfl
      have hbd := digN_9 hp2 (by omega)
      have hst : digN s (p + 1) = 10 * digN s p + (((Utf8.decode s p).1 : Nat) - 48 : Int) := by rw [hdg.1]; rfl
      repeat' (first
 | (refine C_id ?_; first
 | refine C_seq ?_
 | refine C_region rfl ?_
 | refine C_block ?_
 | refine C_skip ?_
 | refine C_condT rfl obQ ?_
 | refine C_condF rfl obQ ?_
       )
 | (refine S_id ?_; first
 | ((with_reducible (first | refine S_falseN ?_ ?_ | refine S_falseB ?_ ?_ | refine S_falseL ?_ ?_ | refine S_falseD ?_ ?_ | refine S_falseE ?_ ?_)); · (first | rfl | omega | exact decide_eq_false (by omega) | (rw [beq_eq_false_iff_ne]; omega) | (rw [bne_eq_false_iff_eq]; omega)))
 | ((with_reducible refine S_falseO ?_ ?_ ?_); (· rfl); (· first | rfl | (first | rfl | omega | exact decide_eq_false (by omega) | (rw [beq_eq_false_iff_ne]; omega) | (rw [bne_eq_false_iff_eq]; omega))))
 | refine S_unG rfl rfl rfl rfl ?_
 | refine S_next rfl obQ hown hat hlt (fun W hat => ?_)
 | refine S_nil ?_
 | refine S_runN rfl rfl obQ obQ ?_
       )
 | (refine G_id ?_; first
 | refine G_loopO (fun p => iter_on k s p) (p + 1) ?_ ?_ (by omega) (by rw [hst]; exact ⟨⟨_, rfl, obQ⟩, ⟨_, rfl⟩, rfl, pstQ⟩)
 | refine G_then ?_
 | refine G_block ?_
       )
       )
      · exact ⟨by omega, hal, fun _ => by omega⟩
      · rw [hdg.2] at hat; exact hat
  · have hpe : p = s.size := by omega
    subst hpe
    have h9 : s.size ≤ 9 := by
      by_cases h0 : s.size = 0
      · omega
      · exact hp3 (by omega)
    have hI : intT s = (digN s s.size, !(s.size == 0) && (s.size == 1 || !(byteAt s 0 == 48))) := if_pos ⟨h9, hp2⟩
    rw [hI]
    by_cases h0 : s.size = 0
    · have hg1 := toE_eqT (size0_of h0)
      have hg2 := hg1
      repeat' (first
 | (refine C_id ?_; first
 | refine C_seq ?_
 | refine C_region rfl ?_
 | refine C_exit ?_
 | refine C_ret0 ?_
 | refine C_draw (id := 8) rfl mixed (by kernel_rfl) ?_
 | refine C_condF rfl obQ ?_
       )
 | (refine S_id ?_; first
 | refine S_nextEnd rfl obQ hat hlt ?_
 | refine S_nil ?_
 | refine S_runN rfl rfl obQ obQ ?_
       )
 | (refine D_id ?_; first
 | refine D_offG (.v (.bool false)) rfl rfl rfl rfl (by first | rfl | (rw [hg1]; rfl) | (rw [hg2]; rfl) | (rw [hg1, hg2]; rfl) | (rw [hg2, hg1]; rfl)) ?_
 | refine D_nil ?_
 | refine D_one rfl obQ ?_
       )
 | (refine G_id ?_; first
 | refine G_then ?_
 | refine G_blockX ?_
 | refine G_thenX ?_
 | refine G_ret rfl obQ (fun w hw => ⟨?_, hw.below⟩)
       )
       )
      all_goals (rw [hg1, h0]; try rfl)
    · have hg1 := toE_neT (fun e : s = ⟨#[]⟩ => h0 (by rw [e]; rfl))
      have hz : (s.size == 0) = false := beq_eq_false_iff_ne.2 h0
      have hb48 : (((byteAt s 0 : Nat) : Int) != 48) = !(byteAt s 0 == 48) := by
        by_cases h : byteAt s 0 = 48
        · rw [h]; rfl
        · have h2 : ((byteAt s 0 : Nat) : Int) ≠ 48 := by omega
          rw [bne_iff_ne.2 h2, beq_eq_false_iff_ne.2 h]
          rfl
      by_cases h1 : s.size = 1
      · have hg2 : ((s.size : Int) == 1) = true := by rw [beq_iff_eq]; omega
        repeat' (first
 | (refine C_id ?_; first
 | refine C_seq ?_
 | refine C_region rfl ?_
 | refine C_exit ?_
 | refine C_ret0 ?_
 | refine C_draw (id := 8) rfl mixed (by kernel_rfl) ?_
 | refine C_condF rfl obQ ?_
         )
 | (refine S_id ?_; first
 | refine S_nextEnd rfl obQ hat hlt ?_
 | refine S_nil ?_
 | refine S_runN rfl rfl obQ obQ ?_
         )
 | (refine D_id ?_; first
 | refine D_offG (.v (.bool false)) rfl rfl rfl rfl (by first | rfl | (rw [hg1]; rfl) | (rw [hg2]; rfl) | (rw [hg1, hg2]; rfl) | (rw [hg2, hg1]; rfl)) ?_
 | refine D_unG rfl rfl (by first | rfl | (rw [hg1]; rfl) | (rw [hg2]; rfl) | (rw [hg1, hg2]; rfl) | (rw [hg2, hg1]; rfl)) rfl ?_
 | refine D_pure (idxB (j := 0) rfl obQ rfl rfl rfl (by omega)) ?_
 | refine D_nil ?_
 | refine D_one rfl obQ ?_
         )
 | (refine G_id ?_; first
 | refine G_then ?_
 | refine G_blockX ?_
 | refine G_thenX ?_
 | refine G_ret rfl obQ (fun w hw => ⟨?_, hw.below⟩)
         )
         )
        have h1b : (s.size == 1) = true := beq_iff_eq.2 h1
        all_goals (rw [hg1, hg2, hz, h1b]; try rfl)
      · have hg2 : ((s.size : Int) == 1) = false := by rw [beq_eq_false_iff_ne]; omega
        repeat' (first
 | (refine C_id ?_; first
 | refine C_seq ?_
 | refine C_region rfl ?_
 | refine C_exit ?_
 | refine C_ret0 ?_
 | refine C_draw (id := 8) rfl mixed (by kernel_rfl) ?_
 | refine C_condF rfl obQ ?_
         )
 | (refine S_id ?_; first
 | refine S_nextEnd rfl obQ hat hlt ?_
 | refine S_nil ?_
 | refine S_runN rfl rfl obQ obQ ?_
         )
 | (refine D_id ?_; first
 | refine D_offG (.v (.bool false)) rfl rfl rfl rfl (by first | rfl | (rw [hg1]; rfl) | (rw [hg2]; rfl) | (rw [hg1, hg2]; rfl) | (rw [hg2, hg1]; rfl)) ?_
 | refine D_unG rfl rfl (by first | rfl | (rw [hg1]; rfl) | (rw [hg2]; rfl) | (rw [hg1, hg2]; rfl) | (rw [hg2, hg1]; rfl)) rfl ?_
 | refine D_pure (idxB (j := 0) rfl obQ rfl rfl rfl (by omega)) ?_
 | refine D_nil ?_
 | refine D_one rfl obQ ?_
         )
 | (refine G_id ?_; first
 | refine G_then ?_
 | refine G_blockX ?_
 | refine G_thenX ?_
 | refine G_ret rfl obQ (fun w hw => ⟨?_, hw.below⟩)
         )
         )
        have h1b : (s.size == 1) = false := beq_eq_false_iff_ne.2 h1
        all_goals (rw [hg1, hg2, hz, h1b, hb48]; try rfl)

end Go.Proofs.YtmfophoejjcnlaaGreatDoor
namespace Go.Proofs.YtmfophoejjcnlaaGreatDoor
open Go.E Go.RowKit
attribute [local irreducible] G C S D Calls
set_option maxRecDepth 100000
set_option linter.unusedSimpArgs false
set_option linter.unusedVariables false

/-- The box of a taker. -/
abbrev tkB (b : Nat) (A : Option Addr) (n c : Nat) (wr : Bool) : Bx := ⟨b, 232, [.v (.slice A n c), .v (.bool wr)]⟩
theorem rTake_s {S : Nat → Prop} {W : World} {ad : Addr} {x : ByteArray} {xs : List ByteArray} (h : RdS S W (some ad) ((x :: xs).map Value.string)) : ∀ (j : Nat) (u : Value), ([.string x] : List Value)[j]? = some u → ((x :: xs).map Value.string)[0 + j]? = some u := by
  intro j u hu
  cases j with
  | succ j => simp at hu
  | zero => simpa using hu
def tlA (ad : Addr) (c : Nat) : Option Addr := if c = 1 then some ad else (some ad).map (·.add (1 * 1))
section
variable {X : Cx} {Ps : Past} {l0 l rest : List Oper} {Q : Exit → Act → World → Prop} {sl : List (Nat × AV)} {bx : List Bx} {rw : List Rw}
theorem S_strE {x y : List UInt8} {b : Bool} {d : Nat} (h : (x == y) = b) (k : S X Ps l0 Q rest ⟨(d, .s (.v (.bool b))) :: sl, bx, rw⟩) : S X Ps l0 Q rest ⟨(d, .s (.v (.bool (x == y)))) :: sl, bx, rw⟩ := by rw [h]; exact k
end

set_option maxHeartbeats 1000000 in
theorem word0_c {b : Nat} {A : Option Addr} {n c : Nat} {wr : Bool} (w : World) (hst : HW 0 w [] ⟨[], [tkB b A n c wr], []⟩ w) (hn : n = 0) : Calls Tryz.prog 160 #[.pointer (some ⟨b, 0, none⟩)] w fun r w' => r = .returned (.string ⟨#[]⟩) ∧ TurSt [tkB b A n c wr] [] [tkB b none 0 0 true] [] w w' := by
  refine calls_ofSt (args := [.pointer (some ⟨b, 0, none⟩)]) T_ok Tryz.func160 rfl Tryz.ntmps160 (Nat.le_of_ble_eq_true rfl) rfl [tkB b A n c wr] [] hst [(0, .s (.p b 0 0))] rfl ?_
  subst hn
  repeat' (first
 | (refine C_id ?_; first
 | refine C_seq ?_
 | refine C_region rfl ?_
 | refine C_ret0 ?_
 | refine C_condT rfl obQ ?_
 )
 | (refine S_id ?_; first
 | ((with_reducible (first | refine S_trueE ?_ ?_ | refine S_trueB ?_ ?_ | refine S_trueL ?_ ?_ | refine S_trueD ?_ ?_ | refine S_trueN ?_ ?_)); · (first | rfl | omega | exact decide_eq_true (by omega) | (rw [beq_iff_eq]; omega)))
 | refine S_offG (.v (.bool false)) rfl rfl rfl rfl rfl ?_
 | refine S_nil ?_
 | refine S_runN rfl rfl obQ obQ ?_
 )
 | (refine G_id ?_; first
 | refine G_then ?_
 | refine G_thenR ?_
 | refine G_ret rfl obQ (fun w2 hw => ⟨?_, hw.turnedSt (by simp) (List.prefix_refl _) rfl⟩)
 )
 )
  all_goals rfl

set_option maxHeartbeats 1000000 in
theorem word1_c {b : Nat} {A : Option Addr} {ad : Addr} {n c : Nat} {wr : Bool} {x : ByteArray} {xs : List ByteArray} (w : World) (hst : HW 0 w [] ⟨[], [tkB b A n c wr], []⟩ w) (hn : n = xs.length + 1) (hA : A = some ad) (hq1 : x = ⟨#[]⟩) (hr : RdS (stPast [tkB b A n c wr] [] w).2 w (some ad) ((x :: xs).map Value.string)) : Calls Tryz.prog 160 #[.pointer (some ⟨b, 0, none⟩)] w fun r w' => r = .returned (.string ⟨#[]⟩) ∧ TurSt [tkB b A n c wr] [] [tkB b none 0 0 true] [] w w' := by
  refine calls_ofSt (args := [.pointer (some ⟨b, 0, none⟩)]) T_ok Tryz.func160 rfl Tryz.ntmps160 (Nat.le_of_ble_eq_true rfl) rfl [tkB b A n c wr] [] hst [(0, .s (.p b 0 0))] rfl ?_
  subst hn
  subst hA
  repeat' (first
 | (refine C_id ?_; first
 | (refine C_valD 18 (v' := .bool true) rfl (congrArg Value.bool (by show (false || (x.toList == (⟨#[]⟩ : ByteArray).toList)) = true; rw [toE_eqT hq1]; rfl)) ?_; refine C_condT rfl obQ ?_)
 | refine C_seq ?_
 | refine C_region rfl ?_
 | refine C_ret0 ?_
 )
 | (refine S_id ?_; first
 | ((with_reducible (first | refine S_falseN ?_ ?_ | refine S_falseB ?_ ?_ | refine S_falseL ?_ ?_ | refine S_falseD ?_ ?_ | refine S_falseE ?_ ?_)); · (first | rfl | omega | exact decide_eq_false (by omega) | (rw [beq_eq_false_iff_ne]; omega)))
 | refine S_unG rfl rfl rfl rfl ?_
 | refine S_load rfl obQ rfl [.string x] (.past _ memQ _ _ hr _ _ rfl rfl (rTake_s hr)) rfl (.inr ⟨rfl, rfl⟩) ?_
 | refine S_nil ?_
 | refine S_runN rfl rfl obQ obQ ?_
 )
 | (refine G_id ?_; first
 | refine G_then ?_
 | refine G_thenR ?_
 | refine G_ret rfl obQ (fun w2 hw => ⟨?_, hw.turnedSt (by simp) (List.prefix_refl _) rfl⟩)
 )
 )
  all_goals rfl

set_option maxHeartbeats 1000000 in
theorem word2_c {b : Nat} {A : Option Addr} {ad : Addr} {n c : Nat} {wr : Bool} {x : ByteArray} {xs : List ByteArray} (w : World) (hst : HW 0 w [] ⟨[], [tkB b A n c wr], []⟩ w) (hn : n = xs.length + 1) (hA : A = some ad) (hq2 : x ≠ ⟨#[]⟩) (hr : RdS (stPast [tkB b A n c wr] [] w).2 w (some ad) ((x :: xs).map Value.string)) : Calls Tryz.prog 160 #[.pointer (some ⟨b, 0, none⟩)] w fun r w' => r = .returned (.string x) ∧ TurSt [tkB b A n c wr] [] [tkB b (tlA ad c) xs.length (c - 1) wr] [] w w' := by
  refine calls_ofSt (args := [.pointer (some ⟨b, 0, none⟩)]) T_ok Tryz.func160 rfl Tryz.ntmps160 (Nat.le_of_ble_eq_true rfl) rfl [tkB b A n c wr] [] hst [(0, .s (.p b 0 0))] rfl ?_
  subst hn
  subst hA
  repeat' (first
 | (refine C_id ?_; first
 | (refine C_valD 18 (v' := .bool false) rfl (congrArg Value.bool (by show (false || (x.toList == (⟨#[]⟩ : ByteArray).toList)) = false; rw [toE_neT hq2]; rfl)) ?_; refine C_condF rfl obQ ?_)
 | refine C_seq ?_
 | refine C_region rfl ?_
 | refine C_skip ?_
 | refine C_ret0 ?_
 )
 | (refine S_id ?_; first
 | ((with_reducible (first | refine S_falseN ?_ ?_ | refine S_falseB ?_ ?_ | refine S_falseL ?_ ?_ | refine S_falseD ?_ ?_ | refine S_falseE ?_ ?_)); · (first | rfl | omega | exact decide_eq_false (by omega) | (rw [beq_eq_false_iff_ne]; omega)))
 | refine S_unG rfl rfl rfl rfl ?_
 | refine S_load rfl obQ rfl [.string x] (.past _ memQ _ _ hr _ _ rfl rfl (rTake_s hr)) rfl (.inr ⟨rfl, rfl⟩) ?_
 | refine S_pure (sliceX_pure rfl obQ (fun w' => sl_loT (X := ⟨Tryz.prog, T, T_ok, 40, 0, w, [], none⟩) (t := 81) rfl rfl (some ad) (xs.length + 1) c _ _ 1 rfl (by omega) w')) ?_
 | refine S_nil ?_
 | refine S_runN rfl rfl obQ obQ ?_
 )
 | (refine G_id ?_; first
 | refine G_then ?_
 | refine G_ret rfl obQ (fun w2 hw => ⟨?_, hw.turnedSt (by simp) (List.prefix_refl _) rfl⟩)
 )
 )
  all_goals rfl

/-- What a taker is behind a word. -/
def wdX : List ByteArray → ByteArray
  | [] => ⟨#[]⟩
  | x :: _ => x
def wdL : List ByteArray → List ByteArray
  | [] => []
  | x :: xs => if x = ⟨#[]⟩ then [] else xs
def wdW (wr : Bool) : List ByteArray → Bool
  | [] => true
  | x :: _ => if x = ⟨#[]⟩ then true else wr
def wdA (A : Option Addr) (c : Nat) : List ByteArray → Option Addr
  | [] => none
  | x :: _ => if x = ⟨#[]⟩ then none else if c = 1 then A else A.map (·.add (1 * 1))
def wdC (c : Nat) : List ByteArray → Nat
  | [] => 0
  | x :: _ => if x = ⟨#[]⟩ then 0 else c - 1
theorem wd_rd {S : Nat → Prop} {W : World} {A : Option Addr} {c : Nat} {ws : List ByteArray} (h : RdS S W A (ws.map Value.string)) (hc : ws.length ≤ c) : RdS S W (wdA A c ws) ((wdL ws).map Value.string) ∧ (wdL ws).length ≤ wdC c ws := by
  cases ws with
  | nil => exact ⟨.inl rfl, Nat.zero_le _⟩
  | cons x xs =>
    by_cases hx : x = ⟨#[]⟩
    · have e1 : wdL (x :: xs) = [] := if_pos hx
      rw [e1]
      exact ⟨.inl rfl, Nat.zero_le _⟩
    · have e1 : wdL (x :: xs) = xs := if_neg hx
      have e2 : wdA A c (x :: xs) = if c = 1 then A else A.map (·.add (1 * 1)) := if_neg hx
      have e3 : wdC c (x :: xs) = c - 1 := if_neg hx
      rw [e1, e2, e3]
      simp only [List.length_cons] at hc
      refine ⟨?_, by omega⟩
      cases xs with
      | nil => exact .inl rfl
      | cons y ys =>
        rcases h with h | ⟨ad, rfl, h2, h3⟩
        · simp at h
        · have hc1 : c ≠ 1 := by simp at hc; omega
          refine .inr ⟨ad.add 1, by rw [if_neg hc1]; rfl, by rw [block_of_add]; exact h2, fun j u hu => ?_⟩
          rw [add_of_add]
          refine h3 (1 + j) u ?_
          rw [Nat.add_comm 1 j]
          simpa using hu
theorem word_as {b n c : Nat} {A : Option Addr} {wr : Bool} {ws : List ByteArray} (hn : ws.length = n) (w : World) (hst : HW 0 w [] ⟨[], [tkB b A n c wr], []⟩ w) (hr : RdS (stPast [tkB b A n c wr] [] w).2 w A (ws.map Value.string)) :
    Calls Tryz.prog 160 #[.pointer (some ⟨b, 0, none⟩)] w fun r w' => r = .returned (.string (wdX ws)) ∧ TurSt [tkB b A n c wr] [] [tkB b (wdA A c ws) (wdL ws).length (wdC c ws) (wdW wr ws)] [] w w' := by
  subst hn
  cases ws with
  | nil => exact word0_c w hst rfl
  | cons x xs =>
    obtain ⟨ad, rfl⟩ := rdS_some hr (by simp)
    by_cases hx : x = ⟨#[]⟩
    · have e1 : wdL (x :: xs) = [] := if_pos hx
      have e2 : wdA (some ad) c (x :: xs) = none := if_pos hx
      have e3 : wdC c (x :: xs) = 0 := if_pos hx
      have e4 : wdW wr (x :: xs) = true := if_pos hx
      rw [e1, e2, e3, e4, show wdX (x :: xs) = ⟨#[]⟩ from hx]
      exact word1_c w hst rfl rfl hx hr
    · have e1 : wdL (x :: xs) = xs := if_neg hx
      have e2 : wdA (some ad) c (x :: xs) = tlA ad c := if_neg hx
      have e3 : wdC c (x :: xs) = c - 1 := if_neg hx
      have e4 : wdW wr (x :: xs) = wr := if_neg hx
      rw [e1, e2, e3, e4]
      exact word2_c w hst rfl rfl hx hr
theorem word_asW {b n c : Nat} {A : Option Addr} {wr wr' : Bool} {ws : List ByteArray} (hn : ws.length = n) (hwr : wdW wr ws = wr') (w : World) (hst : HW 0 w [] ⟨[], [tkB b A n c wr], []⟩ w) (hr : RdS (stPast [tkB b A n c wr] [] w).2 w A (ws.map Value.string)) :
    Calls Tryz.prog 160 #[.pointer (some ⟨b, 0, none⟩)] w fun r w' => r = .returned (.string (wdX ws)) ∧ TurSt [tkB b A n c wr] [] [tkB b (wdA A c ws) (wdL ws).length (wdC c ws) wr'] [] w w' := by
  subst hwr
  exact word_as hn w hst hr
theorem integer_as {s : ByteArray} {z : Int} {b : Bool} (h : intT s = (z, b)) (hs : s.size ≤ 1000000) (w : World) : Calls Tryz.prog 177 #[.string s] w fun r w' => r = .returned (.tuple #[.int .i64 z, .bool b]) ∧ Below w.heap.size w w' := by
  have := integer_c s hs w
  rw [h] at this
  exact this

set_option maxHeartbeats 1000000 in
theorem numW_c {b n c : Nat} {A : Option Addr} {wr wr' : Bool} {ws : List ByteArray} {z : Int} {fl : Bool} (w : World) (hst : HW 0 w [] ⟨[], [tkB b A n c wr], []⟩ w) (hn : ws.length = n) (hwr : wdW wr ws = wr') (hx : (wdX ws).size ≤ 1000000) (hi : intT (wdX ws) = (z, fl)) (hr : RdS (stPast [tkB b A n c wr] [] w).2 w A (ws.map Value.string)) : Calls Tryz.prog 162 #[.pointer (some ⟨b, 0, none⟩)] w fun r w' => r = .returned (.int .i64 z) ∧ TurSt [tkB b A n c wr] [] [tkB b (wdA A c ws) (wdL ws).length (wdC c ws) (wr' || !fl)] [] w w' := by
  refine calls_ofSt (args := [.pointer (some ⟨b, 0, none⟩)]) T_ok Tryz.func162 rfl Tryz.ntmps162 (Nat.le_of_ble_eq_true rfl) rfl [tkB b A n c wr] [] hst [(0, .s (.p b 0 0))] rfl ?_
  cases wr'
  · cases fl
    · repeat' (first
 | (refine C_id ?_; first
 | refine C_seq ?_
 | refine C_region rfl ?_
 | refine C_ret0 ?_
       )
 | (refine S_id ?_; first
 | refine S_unG rfl rfl rfl rfl ?_
 | refine S_offG (.v (.bool false)) rfl rfl rfl rfl rfl ?_
 | refine S_callSt0 0 rfl _ rfl obQ (by kernel_rfl) (fun w2 hw h0 => word_asW hn hwr w2 h0 (HW.rdSt hw memQ hr (by simp) (by simp))) ?_
 | refine S_nil ?_
 | refine S_runN rfl rfl obQ obQ ?_
 | refine S_call (f := 177) rfl obQ (by kernel_rfl) (fun w hw => integer_as hi hx w) ?_
       )
 | (refine G_id ?_; first
 | refine G_then ?_
 | refine G_ret rfl obQ (fun w2 hw => ⟨?_, hw.turnedSt (by simp) (List.prefix_refl _) rfl⟩)
       )
       )
      all_goals rfl
    · repeat' (first
 | (refine C_id ?_; first
 | refine C_seq ?_
 | refine C_region rfl ?_
 | refine C_ret0 ?_
       )
 | (refine S_id ?_; first
 | refine S_unG rfl rfl rfl rfl ?_
 | refine S_offG (.v (.bool false)) rfl rfl rfl rfl rfl ?_
 | refine S_callSt0 0 rfl _ rfl obQ (by kernel_rfl) (fun w2 hw h0 => word_asW hn hwr w2 h0 (HW.rdSt hw memQ hr (by simp) (by simp))) ?_
 | refine S_nil ?_
 | refine S_runN rfl rfl obQ obQ ?_
 | refine S_call (f := 177) rfl obQ (by kernel_rfl) (fun w hw => integer_as hi hx w) ?_
       )
 | (refine G_id ?_; first
 | refine G_then ?_
 | refine G_ret rfl obQ (fun w2 hw => ⟨?_, hw.turnedSt (by simp) (List.prefix_refl _) rfl⟩)
       )
       )
      all_goals rfl
  · cases fl
    · repeat' (first
 | (refine C_id ?_; first
 | refine C_seq ?_
 | refine C_region rfl ?_
 | refine C_ret0 ?_
       )
 | (refine S_id ?_; first
 | refine S_unG rfl rfl rfl rfl ?_
 | refine S_offG (.v (.bool false)) rfl rfl rfl rfl rfl ?_
 | refine S_callSt0 0 rfl _ rfl obQ (by kernel_rfl) (fun w2 hw h0 => word_asW hn hwr w2 h0 (HW.rdSt hw memQ hr (by simp) (by simp))) ?_
 | refine S_nil ?_
 | refine S_runN rfl rfl obQ obQ ?_
 | refine S_call (f := 177) rfl obQ (by kernel_rfl) (fun w hw => integer_as hi hx w) ?_
       )
 | (refine G_id ?_; first
 | refine G_then ?_
 | refine G_ret rfl obQ (fun w2 hw => ⟨?_, hw.turnedSt (by simp) (List.prefix_refl _) rfl⟩)
       )
       )
      all_goals rfl
    · repeat' (first
 | (refine C_id ?_; first
 | refine C_seq ?_
 | refine C_region rfl ?_
 | refine C_ret0 ?_
       )
 | (refine S_id ?_; first
 | refine S_unG rfl rfl rfl rfl ?_
 | refine S_offG (.v (.bool false)) rfl rfl rfl rfl rfl ?_
 | refine S_callSt0 0 rfl _ rfl obQ (by kernel_rfl) (fun w2 hw h0 => word_asW hn hwr w2 h0 (HW.rdSt hw memQ hr (by simp) (by simp))) ?_
 | refine S_nil ?_
 | refine S_runN rfl rfl obQ obQ ?_
 | refine S_call (f := 177) rfl obQ (by kernel_rfl) (fun w hw => integer_as hi hx w) ?_
       )
 | (refine G_id ?_; first
 | refine G_then ?_
 | refine G_ret rfl obQ (fun w2 hw => ⟨?_, hw.turnedSt (by simp) (List.prefix_refl _) rfl⟩)
       )
       )
      all_goals rfl

end Go.Proofs.YtmfophoejjcnlaaGreatDoor
namespace Go.Proofs.YtmfophoejjcnlaaGreatDoor
open Go.E Go.RowKit
attribute [local irreducible] G C S D Calls
set_option maxRecDepth 100000
set_option linter.unusedSimpArgs false
set_option linter.unusedVariables false

theorem ixS_drop {l : List ByteArray} {x : ByteArray} {k : Nat} (h : k < l.length) : ixS (l.drop k) x k = if l[k] = x then (k : Int) else ixS (l.drop (k + 1)) x (k + 1) := by
  rw [List.drop_eq_getElem_cons h]
  rfl
set_option maxHeartbeats 1000000 in
/-- genlockref04.index -/
theorem rIndex_c (A : Option Addr) (c : Nat) (l : List ByteArray) (hl : l.length ≤ 1000000) (x : ByteArray) (w : World) (hr : Rd w A (l.map Value.string)) : Calls Tryz.prog 135 #[.slice A l.length c, .string x] w fun r w' => r = .returned (.int .i64 (ixS l x 0)) ∧ Below w.heap.size w w' := by
  refine calls_of (args := [.slice A l.length c, .string x]) T_ok Tryz.func135 rfl Tryz.ntmps135 (Nat.le_of_ble_eq_true rfl) rfl ?_
  repeat' (first
 | (refine C_id ?_; first
 | refine C_seq ?_
 | refine C_region rfl ?_
 | refine C_block ?_
 | refine C_skip ?_
 | refine C_ret0 ?_
 | (refine C_cond rfl obQ (fun h => ?_) (fun h => ?_) <;> (try simp only [Bool.or_eq_true, Bool.and_eq_true, Bool.or_eq_false_iff, Bool.and_eq_false_iff, decide_eq_true_eq, decide_eq_false_iff_not, beq_iff_eq, bne_iff_ne, beq_eq_false_iff_ne, bne_eq_false_iff_eq, ne_eq, Decidable.not_not, List.cons.injEq, and_true, Bool.not_eq_true', Bool.not_eq_false', Int.not_lt, Int.not_le] at h))
 )
 | (refine S_id ?_; first
 | refine S_nil ?_
 | refine S_run rfl rfl obQ obQ ?_
 )
 | (refine G_id ?_; first
 | refine G_then ?_
 | refine G_thenR ?_
 | refine G_ret rfl obQ (fun w hw => ⟨?_, hw.below⟩)
 )
 )
  refine C_loopS (fun k : Nat => ⟨[(0, .s (.v (.slice A l.length c))), (1, .s (.v (.string x))), (5, .s (.v (.int .i64 k)))], [], []⟩) (fun k => k ≤ l.length ∧ ixS l x 0 = ixS (l.drop k) x k) (fun k => l.length - k) 0 ⟨Nat.zero_le _, rfl⟩ ?_ (fun k hk => ?_)
  · exact ⟨⟨_, rfl, obQ⟩, ⟨_, rfl⟩, rfl, pstQ⟩
  obtain ⟨hk1, hk2⟩ := hk
  dsimp only
  by_cases hlt : k < l.length
  · obtain ⟨ad, rfl⟩ := hr.some (by simp; omega)
    rw [ixS_drop hlt] at hk2
    by_cases he : l[k] = x
    · rw [if_pos he] at hk2
      rw [hk2]
      have hq1 := he
      repeat' (first
 | (refine C_id ?_; first
 | refine C_seq ?_
 | refine C_region rfl ?_
 | refine C_block ?_
 | refine C_skip ?_
 | refine C_ret0 ?_
 | refine C_condT rfl obQ ?_
 | (refine C_cond rfl obQ (fun h => ?_) (fun h => ?_) <;> (try simp only [Bool.or_eq_true, Bool.and_eq_true, Bool.or_eq_false_iff, Bool.and_eq_false_iff, decide_eq_true_eq, decide_eq_false_iff_not, beq_iff_eq, bne_iff_ne, beq_eq_false_iff_ne, bne_eq_false_iff_eq, ne_eq, Decidable.not_not, List.cons.injEq, and_true, Bool.not_eq_true', Bool.not_eq_false', Int.not_lt, Int.not_le] at h) <;> (try (exfalso; omega)) <;> (try (exfalso; simp at h; done)) <;> (try (exfalso; simp only [not_true_eq_false, false_or, or_false] at h; omega)) <;> (try contradiction))
       )
 | (refine S_id ?_; first
 | refine S_load rfl obQ rfl [.string l[k]] (.past _ memQ _ _ hr.toS _ _ rfl rfl (idx1 hlt)) rfl (.inr ⟨rfl, rfl⟩) ?_
 | ((with_reducible refine S_strE (b := true) ?_ ?_); · exact toE_eqT hq1)
 | refine S_nil ?_
 | refine S_run rfl rfl obQ obQ ?_
       )
 | (refine G_id ?_; first
 | refine G_then ?_
 | refine G_blockR ?_
 | refine G_thenR ?_
 | refine G_ret rfl obQ (fun w hw => ⟨?_, hw.below⟩)
       )
       )
      all_goals rfl
    · rw [if_neg he] at hk2
      have hq2 := he
      repeat' (first
 | (refine C_id ?_; first
 | refine C_seq ?_
 | refine C_region rfl ?_
 | refine C_block ?_
 | refine C_skip ?_
 | refine C_condF rfl obQ ?_
 | (refine C_cond rfl obQ (fun h => ?_) (fun h => ?_) <;> (try simp only [Bool.or_eq_true, Bool.and_eq_true, Bool.or_eq_false_iff, Bool.and_eq_false_iff, decide_eq_true_eq, decide_eq_false_iff_not, beq_iff_eq, bne_iff_ne, beq_eq_false_iff_ne, bne_eq_false_iff_eq, ne_eq, Decidable.not_not, List.cons.injEq, and_true, Bool.not_eq_true', Bool.not_eq_false', Int.not_lt, Int.not_le] at h) <;> (try (exfalso; omega)) <;> (try (exfalso; simp at h; done)) <;> (try (exfalso; simp only [not_true_eq_false, false_or, or_false] at h; omega)) <;> (try contradiction))
       )
 | (refine S_id ?_; first
 | refine S_load rfl obQ rfl [.string l[k]] (.past _ memQ _ _ hr.toS _ _ rfl rfl (idx1 hlt)) rfl (.inr ⟨rfl, rfl⟩) ?_
 | ((with_reducible refine S_strE (b := false) ?_ ?_); · exact toE_neT hq2)
 | refine S_nil ?_
 | refine S_run rfl rfl obQ obQ ?_
       )
 | (refine G_id ?_; first
 | refine G_loop (k + 1) ⟨by show k + 1 ≤ _; omega, hk2⟩ (by show l.length - (k + 1) < l.length - k; omega) ⟨⟨_, rfl, obQ⟩, ⟨_, rfl⟩, rfl, pstQ⟩
 | refine G_then ?_
 | refine G_block ?_
       )
       )
  · have hke : k = l.length := by omega
    subst hke
    rw [List.drop_length] at hk2
    rw [hk2]
    repeat' (first
 | (refine C_id ?_; first
 | refine C_seq ?_
 | refine C_region rfl ?_
 | refine C_exit ?_
 | refine C_ret0 ?_
 | (refine C_cond rfl obQ (fun h => ?_) (fun h => ?_) <;> (try simp only [Bool.or_eq_true, Bool.and_eq_true, Bool.or_eq_false_iff, Bool.and_eq_false_iff, decide_eq_true_eq, decide_eq_false_iff_not, beq_iff_eq, bne_iff_ne, beq_eq_false_iff_ne, bne_eq_false_iff_eq, ne_eq, Decidable.not_not, List.cons.injEq, and_true, Bool.not_eq_true', Bool.not_eq_false', Int.not_lt, Int.not_le] at h) <;> (try (exfalso; omega)) <;> (try (exfalso; simp at h; done)) <;> (try (exfalso; simp only [not_true_eq_false, false_or, or_false] at h; omega)) <;> (try contradiction))
     )
 | (refine S_id ?_; first
 | refine S_nil ?_
 | refine S_run rfl rfl obQ obQ ?_
     )
 | (refine G_id ?_; first
 | refine G_then ?_
 | refine G_blockX ?_
 | refine G_thenX ?_
 | refine G_ret rfl obQ (fun w hw => ⟨?_, hw.below⟩)
     )
     )
    all_goals rfl

end Go.Proofs.YtmfophoejjcnlaaGreatDoor
namespace Go.Proofs.YtmfophoejjcnlaaGreatDoor
open Go.E Go.RowKit
attribute [local irreducible] G C S D Calls
set_option maxRecDepth 100000
set_option linter.unusedSimpArgs false
set_option linter.unusedVariables false

/-- The text of the first nodes, and of the first edges behind them. -/
def prA (names : List ByteArray) : Nat → ByteArray
  | 0 => ByteArray.empty
  | k + 1 => ((prA names k ++ ⟨#[110, 111, 100, 101, 32]⟩) ++ sG names k) ++ ⟨#[10]⟩
def prB (names : List ByteArray) (es : List Edg) : Nat → ByteArray
  | 0 => prA names names.length
  | k + 1 => ((((((((prB names es k ++ ⟨#[101, 100, 103, 101, 32]⟩) ++ sG names (gE es k).F.toNat) ++ ⟨#[32]⟩) ++ sG names (gE es k).T.toNat) ++ ⟨#[32]⟩) ++ itB (gE es k).L) ++ ⟨#[32]⟩) ++ itB (gE es k).H) ++ ⟨#[10]⟩
theorem prA_size {names : List ByteArray} (h : ∀ x ∈ names, x.size ≤ 24) : ∀ k, k ≤ names.length → (prA names k).size ≤ 30 * k
  | 0, _ => Nat.le_refl _
  | k + 1, hk => by
    have h0 := prA_size h k (by omega)
    have h1 := h _ (sN_mem (l := names) (k := k) (by omega))
    rw [prA, ByteArray.size_append, ByteArray.size_append, ByteArray.size_append]
    have : (⟨#[110, 111, 100, 101, 32]⟩ : ByteArray).size = 5 := rfl
    have : (⟨#[10]⟩ : ByteArray).size = 1 := rfl
    omega
theorem sG_size {names : List ByteArray} (h : ∀ x ∈ names, x.size ≤ 24) (k : Nat) : (sG names k).size ≤ 24 := by
  by_cases hk : k < names.length
  · exact h _ (sN_mem hk)
  · have e : sG names k = ByteArray.empty := by simp [sG, hk]
    rw [e]
    exact Nat.zero_le _
theorem prB_size {names : List ByteArray} {es : List Edg} (h : ∀ x ∈ names, x.size ≤ 24) (he : ∀ e ∈ es, (0 ≤ e.L ∧ e.L ≤ 100000) ∧ 0 ≤ e.H ∧ e.H ≤ 100000) : ∀ k, k ≤ es.length → (prB names es k).size ≤ 30 * names.length + 110 * k
  | 0, _ => prA_size h _ (Nat.le_refl _)
  | k + 1, hk => by
    have h0 := prB_size h he k (by omega)
    have hp := he (gE es k) (by rw [gE_at (by omega)]; exact List.getElem_mem _)
    have h1 := sG_size h (gE es k).F.toNat
    have h2 := sG_size h (gE es k).T.toNat
    have h3 := it_size (gE es k).L (by omega)
    have h4 := it_size (gE es k).H (by omega)
    rw [prB]
    simp only [ByteArray.size_append]
    have : (⟨#[101, 100, 103, 101, 32]⟩ : ByteArray).size = 5 := rfl
    have : (⟨#[10]⟩ : ByteArray).size = 1 := rfl
    have : (⟨#[32]⟩ : ByteArray).size = 1 := rfl
    omega
theorem prA_K (names : List ByteArray) (es : List Edg) : ∀ k, k ≤ names.length → prA names k = prK names es k
  | 0, _ => rfl
  | k + 1, hk => by
    have h := lines_node es [] (names := names) (k := k) (by omega)
    rw [List.append_nil] at h
    rw [prA, prK, prA_K names es k (by omega), h]
    refine ba_ext ?_
    simp only [ba_app, List.append_assoc]
    rfl
theorem prB_K (names : List ByteArray) (es : List Edg) : ∀ k, k ≤ es.length → prB names es k = prK names es (names.length + k)
  | 0, _ => prA_K names es _ (Nat.le_refl _)
  | k + 1, hk => by
    have h := lines_edge (names := names) [] (es := es) (k := k) (by omega)
    rw [List.append_nil] at h
    rw [prB, ← Nat.add_assoc, prK, prB_K names es k (by omega), h, gE_at (show k < es.length by omega), edgeT_jn]
    refine ba_ext ?_
    have e1 : ∀ x : ByteArray, jnB 32 [x] = x := fun _ => rfl
    have e2 : ∀ i, names.getD i ByteArray.empty = sG names i := fun _ => rfl
    have e3 : sEdge.data.toList = [101, 100, 103, 101] := rfl
    have e4 : sNl.data.toList = [10] := rfl
    simp [ba_app, edgeW, jnB_two, e1, e3, e4]
    rfl
theorem prB_all (names : List ByteArray) (es : List Edg) : prB names es es.length = prN names es := by
  rw [prB_K names es _ (Nat.le_refl _), ← lines_len, prK_all]

theorem nmK {names : List ByteArray} {k : Nat} (h : k < names.length) : ∀ (j : Nat) (u : Value), ([.string (sG names k)] : List Value)[j]? = some u → (names.map .string)[k * 1 + j]? = some u :=
  nm_at (names := names) (z := (k : Int)) ⟨by omega, by omega⟩
theorem edK {es : List Edg} {k : Nat} (h : k < es.length) : ∀ (j : Nat) (u : Value), ([.int .i64 (gE es k).F, .int .i64 (gE es k).T, .int .i64 (gE es k).L, .int .i64 (gE es k).H] : List Value)[j]? = some u → (es.flatMap edC)[k * 4 + j]? = some u := by
  rw [gE_at h]
  exact idxS (f := edC) (fun _ => rfl) h

set_option maxHeartbeats 1000000 in
/-- genlockref04.Print -/
theorem rPrint_c (A A2 : Option Addr) (c c2 : Nat) (names : List ByteArray) (es : List Edg) (h0 : netF names es = 0) (w : World) (hr : Rd w A (names.map .string)) (hr2 : Rd w A2 (es.flatMap edC)) : Calls Tryz.prog 78 #[.agg #[.slice A names.length c, .slice A2 es.length c2]] w fun r w' => r = .returned (.string (prN names es)) ∧ Below w.heap.size w w' := by
  refine calls_of (args := [.agg #[.slice A names.length c, .slice A2 es.length c2]]) T_ok Tryz.func78 rfl Tryz.ntmps78 (Nat.le_of_ble_eq_true rfl) rfl ?_
  have ok := netF_ok h0
  have hsz := NetOk_names h0
  have hn12 := ok.n
  have hm24 := ok.m
  have hea : ∀ e ∈ es, (0 ≤ e.L ∧ e.L ≤ 100000) ∧ 0 ≤ e.H ∧ e.H ≤ 100000 := fun e he => ⟨by have := (ok.e e he).L; have := (ok.e e he).H; have := (ok.e e he).LH; omega, by have := (ok.e e he).H; have := (ok.e e he).L; have := (ok.e e he).LH; omega⟩
  rw [← prB_all]
  repeat' (first
 | (refine C_id ?_; first
 | refine C_seq ?_
 | refine C_region rfl ?_
 | refine C_block ?_
 )
 | (refine S_id ?_; first
 | refine S_nil ?_
 | refine S_run rfl rfl obQ obQ ?_
 | refine S_box (fun b => ⟨_, _, rfl, obQ, ?_⟩)
 )
 | (refine G_id ?_; first
 | refine G_then ?_
 )
 )
  refine C_loopS (fun k : Nat => ⟨[(1, .s (.p b 0 0)), (3, .s (.v (.string (prA names k)))), (4, .s (.v (.int .i64 k)))], [⟨b, 84, [.v (.slice A names.length c), .v (.slice A2 es.length c2)]⟩], []⟩) (fun k => k ≤ names.length) (fun k => names.length - k) 0 (Nat.zero_le _) ?_ (fun k hk => ?_)
  · exact ⟨⟨_, rfl, obQ⟩, ⟨_, rfl⟩, rfl, pstQ⟩
  dsimp only
  have hk' : k ≤ names.length := hk
  have hz := prA_size hsz k hk'
  by_cases hlt : k < names.length
  · obtain ⟨ad, rfl⟩ := hr.some (by simp; omega)
    have hgz := sG_size hsz k
    repeat' (first
 | (refine C_id ?_; first
 | refine C_seq ?_
 | refine C_region rfl ?_
 | refine C_block ?_
 | refine C_skip ?_
 | refine C_condT rfl obQ ?_
     )
 | (refine S_id ?_; first
 | ((with_reducible (first | refine S_trueE ?_ ?_ | refine S_trueB ?_ ?_ | refine S_trueL ?_ ?_ | refine S_trueD ?_ ?_ | refine S_trueN ?_ ?_)); · (first | rfl | omega | exact decide_eq_true (by omega)))
 | refine S_pure (binX_pure rfl obQ (fun w => cat_str _ _ _ _ _ (by (try simp only [ByteArray.size_append]); have z1 : (⟨#[110, 111, 100, 101, 32]⟩ : ByteArray).size = 5 := rfl; have z2 : (⟨#[101, 100, 103, 101, 32]⟩ : ByteArray).size = 5 := rfl; have z3 : (⟨#[32]⟩ : ByteArray).size = 1 := rfl; have z4 : (⟨#[10]⟩ : ByteArray).size = 1 := rfl; omega) w)) ?_
 | refine S_load rfl obQ rfl [.string (sG names k)] (.past _ memQ _ _ hr.toS _ _ rfl rfl (nmK hlt)) rfl (.inr ⟨rfl, rfl⟩) ?_
 | refine S_nil ?_
 | refine S_run rfl rfl obQ obQ ?_
     )
 | (refine G_id ?_; first
 | refine G_loop (k + 1) (by show k + 1 ≤ names.length; omega) (by show names.length - (k + 1) < names.length - k; omega) ⟨⟨_, rfl, obQ⟩, ⟨_, rfl⟩, rfl, pstQ⟩
 | refine G_then ?_
 | refine G_block ?_
     )
     )
  · have hke : k = names.length := by omega
    rw [hke]
    repeat' (first
 | (refine C_id ?_; first
 | refine C_seq ?_
 | refine C_region rfl ?_
 | refine C_block ?_
 | refine C_exit ?_
 | refine C_ret0 ?_
 | refine C_condF rfl obQ ?_
     )
 | (refine S_id ?_; first
 | ((with_reducible (first | refine S_falseN ?_ ?_ | refine S_falseB ?_ ?_ | refine S_falseL ?_ ?_ | refine S_falseD ?_ ?_ | refine S_falseE ?_ ?_)); · (first | rfl | omega | exact decide_eq_false (by omega)))
 | refine S_nil ?_
 | refine S_run rfl rfl obQ obQ ?_
     )
 | (refine G_id ?_; first
 | refine G_then ?_
 | refine G_blockX ?_
 | refine G_thenX ?_
 | refine G_ret rfl obQ (fun w hw => ⟨?_, hw.below⟩)
     )
     )
    refine C_loopS (fun k : Nat => ⟨[(1, .s (.p b 0 0)), (3, .s (.v (.string (prB names es k)))), (5, .s (.v (.int .i64 k)))], [⟨b, 84, [.v (.slice A names.length c), .v (.slice A2 es.length c2)]⟩], []⟩) (fun k => k ≤ es.length) (fun k => es.length - k) 0 (Nat.zero_le _) ?_ (fun k hk => ?_)
    · exact ⟨⟨_, rfl, obQ⟩, ⟨_, rfl⟩, rfl, pstQ⟩
    dsimp only
    have hk' : k ≤ es.length := hk
    have hz := prB_size hsz hea k hk'
    by_cases hlt : k < es.length
    · obtain ⟨ad2, rfl⟩ := hr2.some (by rw [flat_len (f := edC) (s := 4) es (fun _ _ => rfl)]; omega)
      obtain ⟨ad, rfl⟩ := hr.some (by have := ok.n0; simp; omega)
      have hme : gE es k ∈ es := by rw [gE_at hlt]; exact List.getElem_mem hlt
      have hkF := (ok.e _ hme).F
      have hkT := (ok.e _ hme).T
      have hp := hea _ hme
      have h1 := it_size (gE es k).L (by omega)
      have h2 := it_size (gE es k).H (by omega)
      have h3 := sG_size hsz (gE es k).F.toNat
      have h4 := sG_size hsz (gE es k).T.toNat
      repeat' (first
 | (refine C_id ?_; first
 | refine C_seq ?_
 | refine C_region rfl ?_
 | refine C_block ?_
 | refine C_skip ?_
 | refine C_draw (id := 10) rfl mixed (by kernel_rfl) ?_
 | refine C_condT rfl obQ ?_
       )
 | (refine S_id ?_; first
 | ((with_reducible (first | refine S_trueE ?_ ?_ | refine S_trueB ?_ ?_ | refine S_trueL ?_ ?_ | refine S_trueD ?_ ?_ | refine S_trueN ?_ ?_)); · (first | rfl | omega | exact decide_eq_true (by omega)))
 | refine S_load rfl obQ rfl [.int .i64 (gE es k).F, .int .i64 (gE es k).T, .int .i64 (gE es k).L, .int .i64 (gE es k).H] (.past _ memQ _ _ hr2.toS _ _ rfl rfl (edK hlt)) rfl (.inl ⟨rfl, rfl⟩) ?_
 | refine S_nil ?_
 | refine S_run rfl rfl obQ obQ ?_
 | refine S_box (fun b => ⟨_, _, rfl, obQ, ?_⟩)
       )
 | (refine D_id ?_; first
 | refine D_pure (binX_pure rfl obQ (fun w => cat_str _ _ _ _ _ (by (try simp only [ByteArray.size_append]); have z1 : (⟨#[110, 111, 100, 101, 32]⟩ : ByteArray).size = 5 := rfl; have z2 : (⟨#[101, 100, 103, 101, 32]⟩ : ByteArray).size = 5 := rfl; have z3 : (⟨#[32]⟩ : ByteArray).size = 1 := rfl; have z4 : (⟨#[10]⟩ : ByteArray).size = 1 := rfl; omega) w)) ?_
 | refine D_load rfl obQ rfl [.string (sG names (gE es k).F.toNat)] (.past _ memQ _ _ hr.toS _ _ rfl rfl (nm_at hkF)) rfl (.inr ⟨rfl, rfl⟩) ?_
 | refine D_load rfl obQ rfl [.string (sG names (gE es k).T.toNat)] (.past _ memQ _ _ hr.toS _ _ rfl rfl (nm_at hkT)) rfl (.inr ⟨rfl, rfl⟩) ?_
 | refine D_nil ?_
 | refine D_run rfl rfl obQ obQ ?_
 | refine D_call (f := 133) rfl obQ (by kernel_rfl) (fun w hw => rText_c (gE es k).L (by omega) w) ?_
 | refine D_call (f := 133) rfl obQ (by kernel_rfl) (fun w hw => rText_c (gE es k).H (by omega) w) ?_
       )
 | (refine G_id ?_; first
 | refine G_loop (k + 1) (by show k + 1 ≤ es.length; omega) (by show es.length - (k + 1) < es.length - k; omega) ⟨⟨_, rfl, obQ⟩, ⟨_, rfl⟩, rfl, pstQ⟩
 | refine G_then ?_
 | refine G_block ?_
       )
       )
    · have hke : k = es.length := by omega
      rw [hke]
      repeat' (first
 | (refine C_id ?_; first
 | refine C_seq ?_
 | refine C_region rfl ?_
 | refine C_block ?_
 | refine C_exit ?_
 | refine C_ret0 ?_
 | refine C_condF rfl obQ ?_
       )
 | (refine S_id ?_; first
 | ((with_reducible (first | refine S_falseN ?_ ?_ | refine S_falseB ?_ ?_ | refine S_falseL ?_ ?_ | refine S_falseD ?_ ?_ | refine S_falseE ?_ ?_)); · (first | rfl | omega | exact decide_eq_false (by omega)))
 | refine S_nil ?_
 | refine S_run rfl rfl obQ obQ ?_
       )
 | (refine G_id ?_; first
 | refine G_then ?_
 | refine G_blockX ?_
 | refine G_thenX ?_
 | refine G_ret rfl obQ (fun w hw => ⟨?_, hw.below⟩)
       )
       )
      all_goals rfl

end Go.Proofs.YtmfophoejjcnlaaGreatDoor
