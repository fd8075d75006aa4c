/- The law of the texts: the walk. -/
import Derived.Test.YtdbffbcobghbeaaGreatDoorColour28
import Derived.Test.YtdbffbcobghbeaaGreatDoorColour122
import Derived.Test.YtdbffbcobghbeaaGreatDoorColour5
import Derived.Test.YtdbffbcobghbeaaGreatDoorColour6
namespace Go.Proofs.YtdbffbcobghbeaaGreatDoor
open Go.E Go.RowKit Go.Fl
attribute [local irreducible] G C S D Calls
set_option maxRecDepth 100000
set_option linter.unusedSimpArgs false
set_option linter.unusedVariables false

section
variable {A : Option Addr} {c : Nat} {l : List Pt} {w : World}
theorem tCheckCurve_as {e : Int} (h : curveE l = e) (hl : l.length ≤ 1000000) (hr : Rd w A (l.flatMap ptC)) : Calls Tryz.prog 26 #[.slice A l.length c] w fun r w' => r = .returned (.int .i64 e) ∧ Below w.heap.size w w' := by
  subst h
  exact rCheckCurve_c A c l hl w hr
theorem print_as {s : ByteArray} {e : Int} (h : prR l = (s, e)) (hl : l.length ≤ 1000000) (hr : Rd w A (l.flatMap ptC)) (hP : Pw w) : Calls Tryz.prog 102 #[.slice A l.length c] w fun r w' => r = .returned (.tuple #[.string s, .int .i64 e]) ∧ Below w.heap.size w w' := by
  have := Print_c A c l hl w hr hP
  rw [h] at this
  exact this
theorem parse_as {s : ByteArray} {xs : List Pt} {n m : Nat} {e : Int} (h : rpR s = (xs, n, e)) (hm : xs.length = m) (hs : s.size ≤ 1000000) (hM : Mx w) : Calls Tryz.prog 103 #[.string s] w fun r w' => ∃ v, r = .returned v ∧ Below w.heap.size w w' ∧ Sl3 w w' v m (xs.flatMap ptC) (.int .i64 (n : Int)) (.int .i64 e) := by
  subst hm
  have := Parse_c s hs w hM
  rw [h] at this
  exact this
theorem tparse_as {s : ByteArray} {xs : List Pt} {n m : Nat} {e : Int} (h : rpR s = (xs, n, e)) (hm : xs.length = m) (hs : s.size ≤ 1000000) : Calls Tryz.prog 105 #[.string s] w fun r w' => ∃ v, r = .returned v ∧ Below w.heap.size w w' ∧ Sl3 w w' v m (xs.flatMap ptC) (.int .i64 (n : Int)) (.int .i64 e) := by
  subst hm
  have := rParse_c s hs w
  rw [h] at this
  exact this
theorem tpoints_as {m : Nat} (hm : l.length = m) (hl : m ≤ 1000000) (hr : Rd w A (l.flatMap ptC)) : Calls Tryz.prog 37 #[.slice A m c] w fun r w' => ∃ v, r = .returned v ∧ Below w.heap.size w w' ∧ Sl w w' v m (l.flatMap ptC) := by
  subst hm
  exact lpoints_c A c l hl w hr
theorem tshort_as {n : Nat} (b : Bool) (h : decide (n ≤ 17) = b) (hn : n ≤ maxLen) : Calls Tryz.prog 19 #[.slice A n c] w fun r w' => r = .returned (.bool b) ∧ Below w.heap.size w w' := by
  subst h
  exact rShortCurve_c A n c hn w
end
theorem rpR_len (s : ByteArray) : (rpR s).1.length ≤ s.size + 1 := by
  unfold rpR
  split
  · exact Nat.zero_le _
  · have h1 := splR_len s 10
    have h2 := rpS_len (ls := splR s 10) ((splR s 10).length - 1)
    unfold rpX
    split
    · exact Nat.zero_le _
    · split
      · exact Nat.zero_le _
      · split
        · exact Nat.zero_le _
        · split
          · exact Nat.zero_le _
          · dsimp only
            omega

set_option maxHeartbeats 8000000 in
/-- genlocklaw02.ColourTexts -/
theorem lTexts_c (A : Option Addr) (c : Nat) (l : List Pt) (hmax : l.length ≤ maxLen) (s : ByteArray) (hsm : s.size ≤ maxLen) (w : World) (hr : Rd w A (l.flatMap ptC)) (hO : Ot w) (hP : Pw w) (hM : Mx w) : Calls Tryz.prog 17 #[.slice A l.length c, .string s] w fun r w' => r = .returned (.bool true) ∧ Below w.heap.size w w' := by
  refine calls_of (args := [.slice A l.length c, .string s]) T_ok Tryz.func17 rfl Tryz.ntmps17 (Nat.le_of_ble_eq_true rfl) rfl ?_
  unfold maxLen at hsm
  by_cases hs : 17 < l.length
  · repeat' (first
 | (refine C_id ?_; first
 | refine C_seq ?_
 | refine C_region rfl ?_
 | refine C_ret0 ?_
 | refine C_condT rfl obQ ?_
     )
 | (refine S_id ?_; first
 | refine S_offG (.v (.bool false)) rfl rfl rfl rfl rfl ?_
 | refine S_nil ?_
 | refine S_runN rfl rfl obQ obQ ?_
 | refine S_call (f := 20) rfl obQ (by kernel_rfl) (fun w hw => awake_c w (hw.rdm hO.toS memQ) (Pw_at hP hw memQ)) ?_
 | refine S_call (f := 19) rfl obQ (by kernel_rfl) (fun w hw => tshort_as false (decide_eq_false (by omega)) hmax) ?_
     )
 | (refine G_id ?_; first
 | refine G_then ?_
 | refine G_thenR ?_
 | refine G_ret rfl obQ (fun w hw => ⟨?_, hw.below⟩)
     )
     )
    all_goals rfl
  have hl : l.length ≤ 1000000 := by omega
  by_cases hA : 400 < s.size
  · by_cases hA2 : s.size = 4097
    · rcases hrp : rpR s with ⟨xs, n, e⟩
      have hxl : xs.length ≤ 1000000 := by
        have := rpR_len s
        rw [hrp] at this
        dsimp only at this
        omega
      by_cases hB : curveE l = 0
      · have hok := curve_ok.1 hB
        have hin := cv_in hok
        have hpr : prR l = (prF l, 0) := if_pos hB
        have hpq := prF_prP l
        repeat' (first
 | (refine C_id ?_; first
 | refine C_seq ?_
 | refine C_region rfl ?_
 | refine C_skip ?_
 | refine C_ret0 ?_
 | refine C_condT rfl obQ ?_
 | refine C_condF rfl obQ ?_
 | (refine C_cond rfl obQ (fun h => ?_) (fun h => ?_) <;> (try simp only [Bool.or_eq_true, Bool.and_eq_true, Bool.or_eq_false_iff, Bool.and_eq_false_iff, decide_eq_true_eq, decide_eq_false_iff_not, beq_iff_eq, bne_iff_ne, beq_eq_false_iff_ne, bne_eq_false_iff_eq, ne_eq, Decidable.not_not, List.cons.injEq, and_true, Bool.not_eq_true', Bool.not_eq_false', Int.not_lt, Int.not_le] at h) <;> (try (exfalso; omega)) <;> (try (exfalso; simp at h; done)) <;> (try (exfalso; simp only [not_true_eq_false, false_or, or_false] at h; omega)) <;> (try contradiction))
         )
 | (refine S_id ?_; first
 | ((with_reducible (first | refine S_falseN ?_ ?_ | refine S_falseB ?_ ?_ | refine S_falseL ?_ ?_ | refine S_falseD ?_ ?_ | refine S_falseE ?_ ?_)); · (first | rfl | omega | exact decide_eq_false (by omega) | (rw [beq_eq_false_iff_ne]; first | assumption | omega) | (rw [bne_eq_false_iff_eq]; first | assumption | omega)))
 | ((with_reducible refine S_falseO ?_ ?_ ?_); (· rfl); (· first | rfl | (first | rfl | omega | exact decide_eq_false (by omega) | (rw [beq_eq_false_iff_ne]; first | assumption | omega) | (rw [bne_eq_false_iff_eq]; first | assumption | omega))))
 | ((with_reducible (first | refine S_trueE ?_ ?_ | refine S_trueB ?_ ?_ | refine S_trueL ?_ ?_ | refine S_trueD ?_ ?_ | refine S_trueN ?_ ?_)); · (first | exact beq_self_eq_true _ | rfl | exact decide_eq_true (by omega) | (rw [bne_iff_ne]; first | assumption | omega)))
 | ((with_reducible refine S_trueA ?_ ?_ ?_); (· rfl); (· first | rfl | (first | exact beq_self_eq_true _ | rfl | exact decide_eq_true (by omega) | (rw [bne_iff_ne]; first | assumption | omega))))
 | refine S_unG rfl rfl rfl rfl ?_
 | refine S_offG (.v (.bool false)) rfl rfl rfl rfl rfl ?_
 | (refine S_callM (f := 22) rfl obQ (by kernel_rfl) (fun w hw => lcurve_c A c l hl w (hw.rdm hr.toS memQ)) (fun w1C w2C vC hw1C hbC hRC => ?_); obtain ⟨AC, cC, rfl, hSC⟩ := hRC)
 | (refine S_callM (f := 103) rfl obQ (by kernel_rfl) (fun w hw => parse_as hrp rfl (by omega) (Mx_at hM hw memQ)) (fun w1P w2P vP hw1P hbP hRP => ?_); obtain ⟨AP, cP, rfl, hSP⟩ := hRP)
 | (refine S_callM (f := 105) rfl obQ (by kernel_rfl) (fun w hw => tparse_as hrp rfl (by omega)) (fun w1R w2R vR hw1R hbR hRR => ?_); obtain ⟨AR, cR, rfl, hSR⟩ := hRR)
 | (refine S_callM (f := 37) rfl obQ (by kernel_rfl) (fun w hw => tpoints_as rfl hxl (hw.rdm hSP memQ)) (fun w1Q w2Q vQ hw1Q hbQ hRQ => ?_); obtain ⟨AQ, cQ, rfl, hSQ⟩ := hRQ)
 | ((with_reducible refine S_strE (b := true) ?_ ?_); · exact toE_eq hpq)
 | refine S_nil ?_
 | refine S_runN rfl rfl obQ obQ ?_
 | refine S_call (f := 20) rfl obQ (by kernel_rfl) (fun w hw => awake_c w (hw.rdm hO.toS memQ) (Pw_at hP hw memQ)) ?_
 | refine S_call (f := 19) rfl obQ (by kernel_rfl) (fun w hw => tshort_as true (decide_eq_true (by omega)) hmax) ?_
 | refine S_call (f := 102) rfl obQ (by kernel_rfl) (fun w hw => print_as hpr hl (hw.rdm hSC memQ) (Pw_at hP hw memQ)) ?_
 | refine S_call (f := 26) rfl obQ (by kernel_rfl) (fun w hw => tCheckCurve_as hB hl (hw.rdm hr.toS memQ)) ?_
 | refine S_call (f := 36) rfl obQ (by kernel_rfl) (fun w hw => sameCurveT_c _ _ _ _ _ _ rfl hxl w (hw.rdm hSQ memQ) (hw.rdm hSR memQ)) ?_
 | refine S_call (f := 104) rfl obQ (by kernel_rfl) (fun w hw => rPrint_c A c l (by omega) hin w (hw.rdm hr.toS memQ)) ?_
         )
 | (refine G_id ?_; first
 | refine G_then ?_
 | refine G_thenR ?_
 | refine G_ret rfl obQ (fun w2 hw => ⟨?_, hw.below⟩)
         )
         )
        all_goals rfl
      · have hpr : prR l = (ByteArray.empty, curveE l) := if_neg hB
        have hpq : ByteArray.empty = (⟨#[]⟩ : ByteArray) := rfl
        have hB2 := hB
        replace hB : curveE l = curveE l := rfl
        repeat' (first
 | (refine C_id ?_; first
 | refine C_seq ?_
 | refine C_region rfl ?_
 | refine C_skip ?_
 | refine C_ret0 ?_
 | refine C_condF rfl obQ ?_
 | (refine C_cond rfl obQ (fun h => ?_) (fun h => ?_) <;> (try simp only [Bool.or_eq_true, Bool.and_eq_true, Bool.or_eq_false_iff, Bool.and_eq_false_iff, decide_eq_true_eq, decide_eq_false_iff_not, beq_iff_eq, bne_iff_ne, beq_eq_false_iff_ne, bne_eq_false_iff_eq, ne_eq, Decidable.not_not, List.cons.injEq, and_true, Bool.not_eq_true', Bool.not_eq_false', Int.not_lt, Int.not_le] at h) <;> (try (exfalso; omega)) <;> (try (exfalso; simp at h; done)) <;> (try (exfalso; simp only [not_true_eq_false, false_or, or_false] at h; omega)) <;> (try contradiction))
         )
 | (refine S_id ?_; first
 | ((with_reducible (first | refine S_falseN ?_ ?_ | refine S_falseB ?_ ?_ | refine S_falseL ?_ ?_ | refine S_falseD ?_ ?_ | refine S_falseE ?_ ?_)); · (first | rfl | omega | exact decide_eq_false (by omega) | (rw [beq_eq_false_iff_ne]; first | assumption | omega) | (rw [bne_eq_false_iff_eq]; first | assumption | omega)))
 | ((with_reducible refine S_falseO ?_ ?_ ?_); (· rfl); (· first | rfl | (first | rfl | omega | exact decide_eq_false (by omega) | (rw [beq_eq_false_iff_ne]; first | assumption | omega) | (rw [bne_eq_false_iff_eq]; first | assumption | omega))))
 | ((with_reducible refine S_trueA ?_ ?_ ?_); (· rfl); (· first | rfl | (first | exact beq_self_eq_true _ | rfl | exact decide_eq_true (by omega) | (rw [bne_iff_ne]; first | assumption | omega))))
 | refine S_unG rfl rfl rfl rfl ?_
 | refine S_offG (.v (.bool false)) rfl rfl rfl rfl rfl ?_
 | (refine S_callM (f := 22) rfl obQ (by kernel_rfl) (fun w hw => lcurve_c A c l hl w (hw.rdm hr.toS memQ)) (fun w1C w2C vC hw1C hbC hRC => ?_); obtain ⟨AC, cC, rfl, hSC⟩ := hRC)
 | (refine S_callM (f := 103) rfl obQ (by kernel_rfl) (fun w hw => parse_as hrp rfl (by omega) (Mx_at hM hw memQ)) (fun w1P w2P vP hw1P hbP hRP => ?_); obtain ⟨AP, cP, rfl, hSP⟩ := hRP)
 | (refine S_callM (f := 105) rfl obQ (by kernel_rfl) (fun w hw => tparse_as hrp rfl (by omega)) (fun w1R w2R vR hw1R hbR hRR => ?_); obtain ⟨AR, cR, rfl, hSR⟩ := hRR)
 | (refine S_callM (f := 37) rfl obQ (by kernel_rfl) (fun w hw => tpoints_as rfl hxl (hw.rdm hSP memQ)) (fun w1Q w2Q vQ hw1Q hbQ hRQ => ?_); obtain ⟨AQ, cQ, rfl, hSQ⟩ := hRQ)
 | ((with_reducible refine S_strE (b := true) ?_ ?_); · exact toE_eq hpq)
 | refine S_nil ?_
 | refine S_runN rfl rfl obQ obQ ?_
 | refine S_call (f := 20) rfl obQ (by kernel_rfl) (fun w hw => awake_c w (hw.rdm hO.toS memQ) (Pw_at hP hw memQ)) ?_
 | refine S_call (f := 19) rfl obQ (by kernel_rfl) (fun w hw => tshort_as true (decide_eq_true (by omega)) hmax) ?_
 | refine S_call (f := 102) rfl obQ (by kernel_rfl) (fun w hw => print_as hpr hl (hw.rdm hSC memQ) (Pw_at hP hw memQ)) ?_
 | refine S_call (f := 26) rfl obQ (by kernel_rfl) (fun w hw => tCheckCurve_as hB hl (hw.rdm hr.toS memQ)) ?_
 | refine S_call (f := 36) rfl obQ (by kernel_rfl) (fun w hw => sameCurveT_c _ _ _ _ _ _ rfl hxl w (hw.rdm hSQ memQ) (hw.rdm hSR memQ)) ?_
         )
 | (refine G_id ?_; first
 | refine G_then ?_
 | refine G_thenR ?_
 | refine G_ret rfl obQ (fun w2 hw => ⟨?_, hw.below⟩)
         )
         )
        all_goals rfl
    · have hA3 : (s.size : Int) ≠ 4097 := by omega
      repeat' (first
 | (refine C_id ?_; first
 | refine C_seq ?_
 | refine C_region rfl ?_
 | refine C_ret0 ?_
 | (refine C_cond rfl obQ (fun h => ?_) (fun h => ?_) <;> (try simp only [Bool.or_eq_true, Bool.and_eq_true, Bool.or_eq_false_iff, Bool.and_eq_false_iff, decide_eq_true_eq, decide_eq_false_iff_not, beq_iff_eq, bne_iff_ne, beq_eq_false_iff_ne, bne_eq_false_iff_eq, ne_eq, Decidable.not_not, List.cons.injEq, and_true, Bool.not_eq_true', Bool.not_eq_false', Int.not_lt, Int.not_le] at h) <;> (try (exfalso; omega)) <;> (try (exfalso; simp at h; done)) <;> (try (exfalso; simp only [not_true_eq_false, false_or, or_false] at h; omega)) <;> (try contradiction))
       )
 | (refine S_id ?_; first
 | refine S_unG rfl rfl rfl rfl ?_
 | refine S_nil ?_
 | refine S_runN rfl rfl obQ obQ ?_
 | refine S_call (f := 20) rfl obQ (by kernel_rfl) (fun w hw => awake_c w (hw.rdm hO.toS memQ) (Pw_at hP hw memQ)) ?_
 | refine S_call (f := 19) rfl obQ (by kernel_rfl) (fun w hw => tshort_as true (decide_eq_true (by omega)) hmax) ?_
       )
 | (refine G_id ?_; first
 | refine G_then ?_
 | refine G_thenR ?_
 | refine G_ret rfl obQ (fun w hw => ⟨?_, hw.below⟩)
       )
       )
      all_goals rfl
  · rcases hrp : rpR s with ⟨xs, n, e⟩
    have hxl : xs.length ≤ 1000000 := by
      have := rpR_len s
      rw [hrp] at this
      dsimp only at this
      omega
    by_cases hB : curveE l = 0
    · have hok := curve_ok.1 hB
      have hin := cv_in hok
      have hpr : prR l = (prF l, 0) := if_pos hB
      have hpq := prF_prP l
      repeat' (first
 | (refine C_id ?_; first
 | refine C_seq ?_
 | refine C_region rfl ?_
 | refine C_skip ?_
 | refine C_ret0 ?_
 | refine C_condT rfl obQ ?_
 | refine C_condF rfl obQ ?_
 | (refine C_cond rfl obQ (fun h => ?_) (fun h => ?_) <;> (try simp only [Bool.or_eq_true, Bool.and_eq_true, Bool.or_eq_false_iff, Bool.and_eq_false_iff, decide_eq_true_eq, decide_eq_false_iff_not, beq_iff_eq, bne_iff_ne, beq_eq_false_iff_ne, bne_eq_false_iff_eq, ne_eq, Decidable.not_not, List.cons.injEq, and_true, Bool.not_eq_true', Bool.not_eq_false', Int.not_lt, Int.not_le] at h) <;> (try (exfalso; omega)) <;> (try (exfalso; simp at h; done)) <;> (try (exfalso; simp only [not_true_eq_false, false_or, or_false] at h; omega)) <;> (try contradiction))
       )
 | (refine S_id ?_; first
 | ((with_reducible (first | refine S_falseN ?_ ?_ | refine S_falseB ?_ ?_ | refine S_falseL ?_ ?_ | refine S_falseD ?_ ?_ | refine S_falseE ?_ ?_)); · (first | rfl | omega | exact decide_eq_false (by omega) | (rw [beq_eq_false_iff_ne]; first | assumption | omega) | (rw [bne_eq_false_iff_eq]; first | assumption | omega)))
 | ((with_reducible refine S_falseO ?_ ?_ ?_); (· rfl); (· first | rfl | (first | rfl | omega | exact decide_eq_false (by omega) | (rw [beq_eq_false_iff_ne]; first | assumption | omega) | (rw [bne_eq_false_iff_eq]; first | assumption | omega))))
 | ((with_reducible (first | refine S_trueE ?_ ?_ | refine S_trueB ?_ ?_ | refine S_trueL ?_ ?_ | refine S_trueD ?_ ?_ | refine S_trueN ?_ ?_)); · (first | exact beq_self_eq_true _ | rfl | exact decide_eq_true (by omega) | (rw [bne_iff_ne]; first | assumption | omega)))
 | ((with_reducible refine S_trueA ?_ ?_ ?_); (· rfl); (· first | rfl | (first | exact beq_self_eq_true _ | rfl | exact decide_eq_true (by omega) | (rw [bne_iff_ne]; first | assumption | omega))))
 | refine S_unG rfl rfl rfl rfl ?_
 | refine S_offG (.v (.bool false)) rfl rfl rfl rfl rfl ?_
 | (refine S_callM (f := 22) rfl obQ (by kernel_rfl) (fun w hw => lcurve_c A c l hl w (hw.rdm hr.toS memQ)) (fun w1C w2C vC hw1C hbC hRC => ?_); obtain ⟨AC, cC, rfl, hSC⟩ := hRC)
 | (refine S_callM (f := 103) rfl obQ (by kernel_rfl) (fun w hw => parse_as hrp rfl (by omega) (Mx_at hM hw memQ)) (fun w1P w2P vP hw1P hbP hRP => ?_); obtain ⟨AP, cP, rfl, hSP⟩ := hRP)
 | (refine S_callM (f := 105) rfl obQ (by kernel_rfl) (fun w hw => tparse_as hrp rfl (by omega)) (fun w1R w2R vR hw1R hbR hRR => ?_); obtain ⟨AR, cR, rfl, hSR⟩ := hRR)
 | (refine S_callM (f := 37) rfl obQ (by kernel_rfl) (fun w hw => tpoints_as rfl hxl (hw.rdm hSP memQ)) (fun w1Q w2Q vQ hw1Q hbQ hRQ => ?_); obtain ⟨AQ, cQ, rfl, hSQ⟩ := hRQ)
 | ((with_reducible refine S_strE (b := true) ?_ ?_); · exact toE_eq hpq)
 | refine S_nil ?_
 | refine S_runN rfl rfl obQ obQ ?_
 | refine S_call (f := 20) rfl obQ (by kernel_rfl) (fun w hw => awake_c w (hw.rdm hO.toS memQ) (Pw_at hP hw memQ)) ?_
 | refine S_call (f := 19) rfl obQ (by kernel_rfl) (fun w hw => tshort_as true (decide_eq_true (by omega)) hmax) ?_
 | refine S_call (f := 102) rfl obQ (by kernel_rfl) (fun w hw => print_as hpr hl (hw.rdm hSC memQ) (Pw_at hP hw memQ)) ?_
 | refine S_call (f := 26) rfl obQ (by kernel_rfl) (fun w hw => tCheckCurve_as hB hl (hw.rdm hr.toS memQ)) ?_
 | refine S_call (f := 36) rfl obQ (by kernel_rfl) (fun w hw => sameCurveT_c _ _ _ _ _ _ rfl hxl w (hw.rdm hSQ memQ) (hw.rdm hSR memQ)) ?_
 | refine S_call (f := 104) rfl obQ (by kernel_rfl) (fun w hw => rPrint_c A c l (by omega) hin w (hw.rdm hr.toS memQ)) ?_
       )
 | (refine G_id ?_; first
 | refine G_then ?_
 | refine G_thenR ?_
 | refine G_ret rfl obQ (fun w2 hw => ⟨?_, hw.below⟩)
       )
       )
      all_goals rfl
    · have hpr : prR l = (ByteArray.empty, curveE l) := if_neg hB
      have hpq : ByteArray.empty = (⟨#[]⟩ : ByteArray) := rfl
      have hB2 := hB
      replace hB : curveE l = curveE l := rfl
      repeat' (first
 | (refine C_id ?_; first
 | refine C_seq ?_
 | refine C_region rfl ?_
 | refine C_skip ?_
 | refine C_ret0 ?_
 | refine C_condF rfl obQ ?_
 | (refine C_cond rfl obQ (fun h => ?_) (fun h => ?_) <;> (try simp only [Bool.or_eq_true, Bool.and_eq_true, Bool.or_eq_false_iff, Bool.and_eq_false_iff, decide_eq_true_eq, decide_eq_false_iff_not, beq_iff_eq, bne_iff_ne, beq_eq_false_iff_ne, bne_eq_false_iff_eq, ne_eq, Decidable.not_not, List.cons.injEq, and_true, Bool.not_eq_true', Bool.not_eq_false', Int.not_lt, Int.not_le] at h) <;> (try (exfalso; omega)) <;> (try (exfalso; simp at h; done)) <;> (try (exfalso; simp only [not_true_eq_false, false_or, or_false] at h; omega)) <;> (try contradiction))
       )
 | (refine S_id ?_; first
 | ((with_reducible (first | refine S_falseN ?_ ?_ | refine S_falseB ?_ ?_ | refine S_falseL ?_ ?_ | refine S_falseD ?_ ?_ | refine S_falseE ?_ ?_)); · (first | rfl | omega | exact decide_eq_false (by omega) | (rw [beq_eq_false_iff_ne]; first | assumption | omega) | (rw [bne_eq_false_iff_eq]; first | assumption | omega)))
 | ((with_reducible refine S_falseO ?_ ?_ ?_); (· rfl); (· first | rfl | (first | rfl | omega | exact decide_eq_false (by omega) | (rw [beq_eq_false_iff_ne]; first | assumption | omega) | (rw [bne_eq_false_iff_eq]; first | assumption | omega))))
 | ((with_reducible refine S_trueA ?_ ?_ ?_); (· rfl); (· first | rfl | (first | exact beq_self_eq_true _ | rfl | exact decide_eq_true (by omega) | (rw [bne_iff_ne]; first | assumption | omega))))
 | refine S_unG rfl rfl rfl rfl ?_
 | refine S_offG (.v (.bool false)) rfl rfl rfl rfl rfl ?_
 | (refine S_callM (f := 22) rfl obQ (by kernel_rfl) (fun w hw => lcurve_c A c l hl w (hw.rdm hr.toS memQ)) (fun w1C w2C vC hw1C hbC hRC => ?_); obtain ⟨AC, cC, rfl, hSC⟩ := hRC)
 | (refine S_callM (f := 103) rfl obQ (by kernel_rfl) (fun w hw => parse_as hrp rfl (by omega) (Mx_at hM hw memQ)) (fun w1P w2P vP hw1P hbP hRP => ?_); obtain ⟨AP, cP, rfl, hSP⟩ := hRP)
 | (refine S_callM (f := 105) rfl obQ (by kernel_rfl) (fun w hw => tparse_as hrp rfl (by omega)) (fun w1R w2R vR hw1R hbR hRR => ?_); obtain ⟨AR, cR, rfl, hSR⟩ := hRR)
 | (refine S_callM (f := 37) rfl obQ (by kernel_rfl) (fun w hw => tpoints_as rfl hxl (hw.rdm hSP memQ)) (fun w1Q w2Q vQ hw1Q hbQ hRQ => ?_); obtain ⟨AQ, cQ, rfl, hSQ⟩ := hRQ)
 | ((with_reducible refine S_strE (b := true) ?_ ?_); · exact toE_eq hpq)
 | refine S_nil ?_
 | refine S_runN rfl rfl obQ obQ ?_
 | refine S_call (f := 20) rfl obQ (by kernel_rfl) (fun w hw => awake_c w (hw.rdm hO.toS memQ) (Pw_at hP hw memQ)) ?_
 | refine S_call (f := 19) rfl obQ (by kernel_rfl) (fun w hw => tshort_as true (decide_eq_true (by omega)) hmax) ?_
 | refine S_call (f := 102) rfl obQ (by kernel_rfl) (fun w hw => print_as hpr hl (hw.rdm hSC memQ) (Pw_at hP hw memQ)) ?_
 | refine S_call (f := 26) rfl obQ (by kernel_rfl) (fun w hw => tCheckCurve_as hB hl (hw.rdm hr.toS memQ)) ?_
 | refine S_call (f := 36) rfl obQ (by kernel_rfl) (fun w hw => sameCurveT_c _ _ _ _ _ _ rfl hxl w (hw.rdm hSQ memQ) (hw.rdm hSR memQ)) ?_
       )
 | (refine G_id ?_; first
 | refine G_then ?_
 | refine G_thenR ?_
 | refine G_ret rfl obQ (fun w2 hw => ⟨?_, hw.below⟩)
       )
       )
      all_goals rfl

end Go.Proofs.YtdbffbcobghbeaaGreatDoor
