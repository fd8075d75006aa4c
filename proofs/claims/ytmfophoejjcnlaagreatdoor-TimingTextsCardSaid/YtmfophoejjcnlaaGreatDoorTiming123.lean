/- The law of texts: the walk. -/
import Derived.Test.YtmfophoejjcnlaaGreatDoorTiming122
import Derived.Test.YtmfophoejjcnlaaGreatDoorEng3
namespace Go.Proofs.YtmfophoejjcnlaaGreatDoor
open Go.E Go.RowKit
attribute [local irreducible] G C S D Calls
set_option maxRecDepth 100000
set_option linter.unusedSimpArgs false
set_option linter.unusedVariables false

set_option maxHeartbeats 8000000 in
/-- genlocklaw04.TimingTexts -/
theorem lTexts_c (A A2 : Option Addr) (c c2 : Nat) (names : List ByteArray) (es : List Edg) (hn : names.length ≤ 9223372036854775807) (hm : es.length ≤ 9223372036854775807) (hs : ∀ s ∈ names, s.size ≤ maxLen) (hc : names.length ≤ c) (hA : A = none → names.length = 0 ∧ c = 0) (s : ByteArray) (hsm : s.size ≤ maxLen) (w : World) (hr : Rd w A (names.map .string)) (hr2 : Rd w A2 (es.flatMap edC)) (hE : Ex w) (hP : Pw w) (hM : Mx w) : Calls Tryz.prog 12 #[.agg #[.slice A names.length c, .slice A2 es.length c2], .string s] w fun r w' => r = .returned (.bool true) ∧ Below w.heap.size w w' := by
  refine calls_of (args := [.agg #[.slice A names.length c, .slice A2 es.length c2], .string s]) T_ok Tryz.func12 rfl Tryz.ntmps12 (Nat.le_of_ble_eq_true rfl) rfl ?_
  unfold maxLen at hsm
  cases hsh : shortB names es
  · repeat' (first
 | (refine C_id ?_; first
 | refine C_seq ?_
 | refine C_region rfl ?_
 | refine C_ret0 ?_
 | refine C_condT rfl obQ ?_
 | (refine C_cond rfl obQ (fun h => ?_) (fun h => ?_) <;> (try simp only [Bool.or_eq_true, Bool.and_eq_true, Bool.or_eq_false_iff, Bool.and_eq_false_iff, decide_eq_true_eq, decide_eq_false_iff_not, beq_iff_eq, bne_iff_ne, beq_eq_false_iff_ne, bne_eq_false_iff_eq, ne_eq, Decidable.not_not, List.cons.injEq, and_true, Bool.not_eq_true', Bool.not_eq_false', Int.not_lt, Int.not_le] at h) <;> (try (exfalso; omega)) <;> (try (exfalso; simp at h; done)) <;> (try (exfalso; simp only [not_true_eq_false, false_or, or_false] at h; omega)) <;> (try contradiction))
     )
 | (refine S_id ?_; first
 | refine S_unG rfl rfl rfl rfl ?_
 | refine S_offG (.v (.bool false)) rfl rfl rfl rfl rfl ?_
 | refine S_oneE rfl rfl obQ ?_
 | refine S_nil ?_
 | refine S_runN rfl rfl obQ obQ ?_
 | refine S_box (fun b => ⟨_, _, rfl, obQ, ?_⟩)
 | refine S_call (f := 27) rfl obQ (by kernel_rfl) (fun w hw => awake_c w (hw.rdm hE.toS memQ) (Pw_at hP hw memQ)) ?_
 | refine S_call (f := 48) rfl obQ (by kernel_rfl) (fun w hw => tshort_as hsh hn hm (hw.rdm (Rd.toS hr) memQ)) ?_
     )
 | (refine G_id ?_; first
 | refine G_then ?_
 | refine G_thenR ?_
 | refine G_ret rfl obQ (fun w2 hw => ⟨?_, hw.below⟩)
     )
     )
    all_goals rfl
  have hlen := shortB_len3 hsh
  have hn6 : names.length ≤ 1000000 := by omega
  have hm6 : es.length ≤ 1000000 := by omega
  by_cases hs2 : 200 < s.size ∧ s.size ≠ 4097
  · obtain ⟨hs3, hs4⟩ := hs2
    repeat' (first
 | (refine C_id ?_; first
 | refine C_seq ?_
 | refine C_region rfl ?_
 | refine C_ret0 ?_
 | refine C_condT rfl obQ ?_
 | (refine C_cond rfl obQ (fun h => ?_) (fun h => ?_) <;> (try simp only [Bool.or_eq_true, Bool.and_eq_true, Bool.or_eq_false_iff, Bool.and_eq_false_iff, decide_eq_true_eq, decide_eq_false_iff_not, beq_iff_eq, bne_iff_ne, beq_eq_false_iff_ne, bne_eq_false_iff_eq, ne_eq, Decidable.not_not, List.cons.injEq, and_true, Bool.not_eq_true', Bool.not_eq_false', Int.not_lt, Int.not_le] at h) <;> (try (exfalso; omega)) <;> (try (exfalso; simp at h; done)) <;> (try (exfalso; simp only [not_true_eq_false, false_or, or_false] at h; omega)) <;> (try contradiction))
     )
 | (refine S_id ?_; first
 | refine S_unG rfl rfl rfl rfl ?_
 | refine S_offG (.v (.bool false)) rfl rfl rfl rfl rfl ?_
 | refine S_oneE rfl rfl obQ ?_
 | refine S_nil ?_
 | refine S_runN rfl rfl obQ obQ ?_
 | refine S_box (fun b => ⟨_, _, rfl, obQ, ?_⟩)
 | refine S_call (f := 27) rfl obQ (by kernel_rfl) (fun w hw => awake_c w (hw.rdm hE.toS memQ) (Pw_at hP hw memQ)) ?_
 | refine S_call (f := 48) rfl obQ (by kernel_rfl) (fun w hw => tshort_as hsh hn hm (hw.rdm (Rd.toS hr) memQ)) ?_
     )
 | (refine G_id ?_; first
 | refine G_then ?_
 | refine G_thenR ?_
 | refine G_ret rfl obQ (fun w2 hw => ⟨?_, hw.below⟩)
     )
     )
    all_goals rfl
  have hs9 : s.size ≤ 4097 := by omega
  rcases hrp : npR s with ⟨⟨xs, ys⟩, k, e⟩
  have hxy := npR_len s
  rw [hrp] at hxy
  dsimp only at hxy
  have hxl : xs.length ≤ 1000000 := by omega
  have hyl : ys.length ≤ 1000000 := by omega
  obtain ⟨eN, hNE⟩ : ∃ z, netF names es = z := ⟨_, rfl⟩
  have hss : s.size ≤ 200 ∨ (200 < s.size ∧ s.size = 4097) := by omega
  clear hs2 hxy
  by_cases hN0 : eN = 0
  · subst hN0
    obtain ⟨S, hS⟩ : ∃ S, prN names es = S := ⟨_, rfl⟩
    have hpr : printR names es = (S, 0) := by rw [printR_ok hNE, hS]
    by_cases he : e = 0
    · subst he
      rcases hss with hss | ⟨hss, hs2⟩
      all_goals (
        repeat' (first
 | (refine C_id ?_; first
 | refine C_seq ?_
 | refine C_region rfl ?_
 | refine C_skip ?_
 | refine C_ret0 ?_
 | refine C_condT rfl obQ ?_
 | refine C_condF rfl obQ ?_
 | (refine C_cond rfl obQ (fun h => ?_) (fun h => ?_) <;> (try simp only [Bool.or_eq_true, Bool.and_eq_true, Bool.or_eq_false_iff, Bool.and_eq_false_iff, decide_eq_true_eq, decide_eq_false_iff_not, beq_iff_eq, bne_iff_ne, beq_eq_false_iff_ne, bne_eq_false_iff_eq, ne_eq, Decidable.not_not, List.cons.injEq, and_true, Bool.not_eq_true', Bool.not_eq_false', Int.not_lt, Int.not_le] at h) <;> (try (exfalso; omega)) <;> (try (exfalso; simp at h; done)) <;> (try (exfalso; simp only [not_true_eq_false, false_or, or_false] at h; omega)) <;> (try contradiction))
         )
 | (refine S_id ?_; first
 | ((with_reducible (first | refine S_falseN ?_ ?_ | refine S_falseB ?_ ?_ | refine S_falseL ?_ ?_ | refine S_falseD ?_ ?_ | refine S_falseE ?_ ?_)); · (first | rfl | omega | exact decide_eq_false (by omega) | (rw [beq_eq_false_iff_ne]; first | assumption | omega) | (rw [bne_eq_false_iff_eq]; first | assumption | omega)))
 | ((with_reducible refine S_falseO ?_ ?_ ?_); (· rfl); (· first | rfl | (first | rfl | omega | exact decide_eq_false (by omega) | (rw [beq_eq_false_iff_ne]; first | assumption | omega) | (rw [bne_eq_false_iff_eq]; first | assumption | omega))))
 | ((with_reducible (first | refine S_trueE ?_ ?_ | refine S_trueB ?_ ?_ | refine S_trueL ?_ ?_ | refine S_trueD ?_ ?_ | refine S_trueN ?_ ?_)); · (first | exact beq_self_eq_true _ | rfl | assumption | exact decide_eq_true (by omega) | (rw [beq_iff_eq]; omega) | (rw [bne_iff_ne]; first | assumption | omega)))
 | ((with_reducible refine S_trueA ?_ ?_ ?_); (· rfl); (· first | rfl | (first | exact beq_self_eq_true _ | rfl | assumption | exact decide_eq_true (by omega) | (rw [beq_iff_eq]; omega) | (rw [bne_iff_ne]; first | assumption | omega))))
 | refine S_unG rfl rfl rfl rfl ?_
 | refine S_offG (.v (.bool false)) rfl rfl rfl rfl rfl ?_
 | (refine S_callM (f := 50) rfl obQ (by kernel_rfl) (fun w hw => lGiven_c A A2 c c2 names es hn6 hm6 hA w (hw.rdm (Rd.toS hr) memQ) (hw.rdm (Rd.toS hr2) memQ)) (fun w1N w2N vN hw1N hbN hRN => ?_); obtain ⟨AN, AN2, cN, cN2, rfl, hSN, hTN⟩ := hRN)
 | (refine S_callM (f := 77) rfl obQ (by kernel_rfl) (fun w hw => parse_as hrp rfl rfl (by omega) (Mx_at hM hw memQ)) (fun w1P w2P vP hw1P hbP hRP => ?_); obtain ⟨AP, cP, AP2, cP2, rfl, hSP, hTP⟩ := hRP)
 | (refine S_callM (f := 79) rfl obQ (by kernel_rfl) (fun w hw => rparse_as hrp rfl rfl (by omega)) (fun w1R w2R vR hw1R hbR hRR => ?_); obtain ⟨AR, cR, AR2, cR2, rfl, hSR, hTR⟩ := hRR)
 | refine S_oneE rfl rfl obQ ?_
 | ((with_reducible refine S_strE (b := true) ?_ ?_); · exact toE_eqT rfl)
 | refine S_nil ?_
 | refine S_runN rfl rfl obQ obQ ?_
 | refine S_box (fun b => ⟨_, _, rfl, obQ, ?_⟩)
 | refine S_call (f := 27) rfl obQ (by kernel_rfl) (fun w hw => awake_c w (hw.rdm hE.toS memQ) (Pw_at hP hw memQ)) ?_
 | refine S_call (f := 48) rfl obQ (by kernel_rfl) (fun w hw => tshort_as hsh hn hm (hw.rdm (Rd.toS hr) memQ)) ?_
 | refine S_call (f := 76) rfl obQ (by kernel_rfl) (fun w hw => print_as hpr rfl rfl hn6 hm6 hs (hw.rdm hSN memQ) (hw.rdm hTN memQ) (Pw_at hP hw memQ)) ?_
 | refine S_call (f := 55) rfl obQ (by kernel_rfl) (fun w hw => tckn_as hNE hn6 hm6 hs hc (hw.rdm (Rd.toS hr) memQ) (hw.rdm (Rd.toS hr2) memQ)) ?_
 | refine S_call (f := 75) rfl obQ (by kernel_rfl) (fun w hw => lNet2_c _ _ _ _ _ _ _ _ xs ys hxl hyl w (hw.rdm hSP memQ) (hw.rdm hTP memQ) (hw.rdm hSR memQ) (hw.rdm hTR memQ)) ?_
 | refine S_call (f := 78) rfl obQ (by kernel_rfl) (fun w hw => rprint_as hS hNE (hw.rdm (Rd.toS hr) memQ) (hw.rdm (Rd.toS hr2) memQ)) ?_
         )
 | (refine G_id ?_; first
 | refine G_then ?_
 | refine G_thenR ?_
 | refine G_ret rfl obQ (fun w2 hw => ⟨?_, hw.below⟩)
         )
         ))
      all_goals rfl
    · obtain ⟨hx, hy⟩ := npR_bad hrp he
      have hx0 : xs.length = 0 := by rw [hx]; rfl
      have hy0 : ys.length = 0 := by rw [hy]; rfl
      rcases hss with hss | ⟨hss, hs2⟩
      all_goals (
        repeat' (first
 | (refine C_id ?_; first
 | refine C_seq ?_
 | refine C_region rfl ?_
 | refine C_skip ?_
 | refine C_ret0 ?_
 | refine C_condT rfl obQ ?_
 | refine C_condF rfl obQ ?_
 | (refine C_cond rfl obQ (fun h => ?_) (fun h => ?_) <;> (try simp only [Bool.or_eq_true, Bool.and_eq_true, Bool.or_eq_false_iff, Bool.and_eq_false_iff, decide_eq_true_eq, decide_eq_false_iff_not, beq_iff_eq, bne_iff_ne, beq_eq_false_iff_ne, bne_eq_false_iff_eq, ne_eq, Decidable.not_not, List.cons.injEq, and_true, Bool.not_eq_true', Bool.not_eq_false', Int.not_lt, Int.not_le] at h) <;> (try (exfalso; omega)) <;> (try (exfalso; simp at h; done)) <;> (try (exfalso; simp only [not_true_eq_false, false_or, or_false] at h; omega)) <;> (try contradiction))
         )
 | (refine S_id ?_; first
 | ((with_reducible (first | refine S_falseN ?_ ?_ | refine S_falseB ?_ ?_ | refine S_falseL ?_ ?_ | refine S_falseD ?_ ?_ | refine S_falseE ?_ ?_)); · (first | rfl | omega | exact decide_eq_false (by omega) | (rw [beq_eq_false_iff_ne]; first | assumption | omega) | (rw [bne_eq_false_iff_eq]; first | assumption | omega)))
 | ((with_reducible refine S_falseO ?_ ?_ ?_); (· rfl); (· first | rfl | (first | rfl | omega | exact decide_eq_false (by omega) | (rw [beq_eq_false_iff_ne]; first | assumption | omega) | (rw [bne_eq_false_iff_eq]; first | assumption | omega))))
 | ((with_reducible (first | refine S_trueE ?_ ?_ | refine S_trueB ?_ ?_ | refine S_trueL ?_ ?_ | refine S_trueD ?_ ?_ | refine S_trueN ?_ ?_)); · (first | exact beq_self_eq_true _ | rfl | assumption | exact decide_eq_true (by omega) | (rw [beq_iff_eq]; omega) | (rw [bne_iff_ne]; first | assumption | omega)))
 | ((with_reducible refine S_trueA ?_ ?_ ?_); (· rfl); (· first | rfl | (first | exact beq_self_eq_true _ | rfl | assumption | exact decide_eq_true (by omega) | (rw [beq_iff_eq]; omega) | (rw [bne_iff_ne]; first | assumption | omega))))
 | refine S_unG rfl rfl rfl rfl ?_
 | refine S_offG (.v (.bool false)) rfl rfl rfl rfl rfl ?_
 | (refine S_callM (f := 50) rfl obQ (by kernel_rfl) (fun w hw => lGiven_c A A2 c c2 names es hn6 hm6 hA w (hw.rdm (Rd.toS hr) memQ) (hw.rdm (Rd.toS hr2) memQ)) (fun w1N w2N vN hw1N hbN hRN => ?_); obtain ⟨AN, AN2, cN, cN2, rfl, hSN, hTN⟩ := hRN)
 | (refine S_callM (f := 77) rfl obQ (by kernel_rfl) (fun w hw => parse_as hrp rfl rfl (by omega) (Mx_at hM hw memQ)) (fun w1P w2P vP hw1P hbP hRP => ?_); obtain ⟨AP, cP, AP2, cP2, rfl, hSP, hTP⟩ := hRP)
 | (refine S_callM (f := 79) rfl obQ (by kernel_rfl) (fun w hw => rparse_as hrp rfl rfl (by omega)) (fun w1R w2R vR hw1R hbR hRR => ?_); obtain ⟨AR, cR, AR2, cR2, rfl, hSR, hTR⟩ := hRR)
 | refine S_oneE rfl rfl obQ ?_
 | ((with_reducible refine S_strE (b := true) ?_ ?_); · exact toE_eqT rfl)
 | refine S_nil ?_
 | refine S_runN rfl rfl obQ obQ ?_
 | refine S_box (fun b => ⟨_, _, rfl, obQ, ?_⟩)
 | refine S_call (f := 27) rfl obQ (by kernel_rfl) (fun w hw => awake_c w (hw.rdm hE.toS memQ) (Pw_at hP hw memQ)) ?_
 | refine S_call (f := 48) rfl obQ (by kernel_rfl) (fun w hw => tshort_as hsh hn hm (hw.rdm (Rd.toS hr) memQ)) ?_
 | refine S_call (f := 76) rfl obQ (by kernel_rfl) (fun w hw => print_as hpr rfl rfl hn6 hm6 hs (hw.rdm hSN memQ) (hw.rdm hTN memQ) (Pw_at hP hw memQ)) ?_
 | refine S_call (f := 55) rfl obQ (by kernel_rfl) (fun w hw => tckn_as hNE hn6 hm6 hs hc (hw.rdm (Rd.toS hr) memQ) (hw.rdm (Rd.toS hr2) memQ)) ?_
 | refine S_call (f := 75) rfl obQ (by kernel_rfl) (fun w hw => net1_as he hx0 hy0 w) ?_
 | refine S_call (f := 78) rfl obQ (by kernel_rfl) (fun w hw => rprint_as hS hNE (hw.rdm (Rd.toS hr) memQ) (hw.rdm (Rd.toS hr2) memQ)) ?_
         )
 | (refine G_id ?_; first
 | refine G_then ?_
 | refine G_thenR ?_
 | refine G_ret rfl obQ (fun w2 hw => ⟨?_, hw.below⟩)
         )
         ))
      all_goals rfl
  · have hpr : printR names es = (ByteArray.empty, eN) := printR_no hNE hN0
    by_cases he : e = 0
    · subst he
      rcases hss with hss | ⟨hss, hs2⟩
      all_goals (
        repeat' (first
 | (refine C_id ?_; first
 | refine C_seq ?_
 | refine C_region rfl ?_
 | refine C_skip ?_
 | refine C_ret0 ?_
 | refine C_condF rfl obQ ?_
 | (refine C_cond rfl obQ (fun h => ?_) (fun h => ?_) <;> (try simp only [Bool.or_eq_true, Bool.and_eq_true, Bool.or_eq_false_iff, Bool.and_eq_false_iff, decide_eq_true_eq, decide_eq_false_iff_not, beq_iff_eq, bne_iff_ne, beq_eq_false_iff_ne, bne_eq_false_iff_eq, ne_eq, Decidable.not_not, List.cons.injEq, and_true, Bool.not_eq_true', Bool.not_eq_false', Int.not_lt, Int.not_le] at h) <;> (try (exfalso; omega)) <;> (try (exfalso; simp at h; done)) <;> (try (exfalso; simp only [not_true_eq_false, false_or, or_false] at h; omega)) <;> (try contradiction))
         )
 | (refine S_id ?_; first
 | ((with_reducible (first | refine S_falseN ?_ ?_ | refine S_falseB ?_ ?_ | refine S_falseL ?_ ?_ | refine S_falseD ?_ ?_ | refine S_falseE ?_ ?_)); · (first | rfl | omega | exact decide_eq_false (by omega) | (rw [beq_eq_false_iff_ne]; first | assumption | omega) | (rw [bne_eq_false_iff_eq]; first | assumption | omega)))
 | ((with_reducible refine S_falseO ?_ ?_ ?_); (· rfl); (· first | rfl | (first | rfl | omega | exact decide_eq_false (by omega) | (rw [beq_eq_false_iff_ne]; first | assumption | omega) | (rw [bne_eq_false_iff_eq]; first | assumption | omega))))
 | ((with_reducible (first | refine S_trueE ?_ ?_ | refine S_trueB ?_ ?_ | refine S_trueL ?_ ?_ | refine S_trueD ?_ ?_ | refine S_trueN ?_ ?_)); · (first | exact beq_self_eq_true _ | rfl | assumption | exact decide_eq_true (by omega) | (rw [beq_iff_eq]; omega) | (rw [bne_iff_ne]; first | assumption | omega)))
 | ((with_reducible refine S_trueA ?_ ?_ ?_); (· rfl); (· first | rfl | (first | exact beq_self_eq_true _ | rfl | assumption | exact decide_eq_true (by omega) | (rw [beq_iff_eq]; omega) | (rw [bne_iff_ne]; first | assumption | omega))))
 | refine S_unG rfl rfl rfl rfl ?_
 | refine S_offG (.v (.bool false)) rfl rfl rfl rfl rfl ?_
 | (refine S_callM (f := 50) rfl obQ (by kernel_rfl) (fun w hw => lGiven_c A A2 c c2 names es hn6 hm6 hA w (hw.rdm (Rd.toS hr) memQ) (hw.rdm (Rd.toS hr2) memQ)) (fun w1N w2N vN hw1N hbN hRN => ?_); obtain ⟨AN, AN2, cN, cN2, rfl, hSN, hTN⟩ := hRN)
 | (refine S_callM (f := 77) rfl obQ (by kernel_rfl) (fun w hw => parse_as hrp rfl rfl (by omega) (Mx_at hM hw memQ)) (fun w1P w2P vP hw1P hbP hRP => ?_); obtain ⟨AP, cP, AP2, cP2, rfl, hSP, hTP⟩ := hRP)
 | (refine S_callM (f := 79) rfl obQ (by kernel_rfl) (fun w hw => rparse_as hrp rfl rfl (by omega)) (fun w1R w2R vR hw1R hbR hRR => ?_); obtain ⟨AR, cR, AR2, cR2, rfl, hSR, hTR⟩ := hRR)
 | refine S_oneE rfl rfl obQ ?_
 | ((with_reducible refine S_strE (b := true) ?_ ?_); · exact toE_eqT rfl)
 | refine S_nil ?_
 | refine S_runN rfl rfl obQ obQ ?_
 | refine S_box (fun b => ⟨_, _, rfl, obQ, ?_⟩)
 | refine S_call (f := 27) rfl obQ (by kernel_rfl) (fun w hw => awake_c w (hw.rdm hE.toS memQ) (Pw_at hP hw memQ)) ?_
 | refine S_call (f := 48) rfl obQ (by kernel_rfl) (fun w hw => tshort_as hsh hn hm (hw.rdm (Rd.toS hr) memQ)) ?_
 | refine S_call (f := 76) rfl obQ (by kernel_rfl) (fun w hw => print_as hpr rfl rfl hn6 hm6 hs (hw.rdm hSN memQ) (hw.rdm hTN memQ) (Pw_at hP hw memQ)) ?_
 | refine S_call (f := 55) rfl obQ (by kernel_rfl) (fun w hw => tckn_as hNE hn6 hm6 hs hc (hw.rdm (Rd.toS hr) memQ) (hw.rdm (Rd.toS hr2) memQ)) ?_
 | refine S_call (f := 75) rfl obQ (by kernel_rfl) (fun w hw => lNet2_c _ _ _ _ _ _ _ _ xs ys hxl hyl w (hw.rdm hSP memQ) (hw.rdm hTP memQ) (hw.rdm hSR memQ) (hw.rdm hTR memQ)) ?_
         )
 | (refine G_id ?_; first
 | refine G_then ?_
 | refine G_thenR ?_
 | refine G_ret rfl obQ (fun w2 hw => ⟨?_, hw.below⟩)
         )
         ))
      all_goals rfl
    · obtain ⟨hx, hy⟩ := npR_bad hrp he
      have hx0 : xs.length = 0 := by rw [hx]; rfl
      have hy0 : ys.length = 0 := by rw [hy]; rfl
      rcases hss with hss | ⟨hss, hs2⟩
      all_goals (
        repeat' (first
 | (refine C_id ?_; first
 | refine C_seq ?_
 | refine C_region rfl ?_
 | refine C_skip ?_
 | refine C_ret0 ?_
 | refine C_condF rfl obQ ?_
 | (refine C_cond rfl obQ (fun h => ?_) (fun h => ?_) <;> (try simp only [Bool.or_eq_true, Bool.and_eq_true, Bool.or_eq_false_iff, Bool.and_eq_false_iff, decide_eq_true_eq, decide_eq_false_iff_not, beq_iff_eq, bne_iff_ne, beq_eq_false_iff_ne, bne_eq_false_iff_eq, ne_eq, Decidable.not_not, List.cons.injEq, and_true, Bool.not_eq_true', Bool.not_eq_false', Int.not_lt, Int.not_le] at h) <;> (try (exfalso; omega)) <;> (try (exfalso; simp at h; done)) <;> (try (exfalso; simp only [not_true_eq_false, false_or, or_false] at h; omega)) <;> (try contradiction))
         )
 | (refine S_id ?_; first
 | ((with_reducible (first | refine S_falseN ?_ ?_ | refine S_falseB ?_ ?_ | refine S_falseL ?_ ?_ | refine S_falseD ?_ ?_ | refine S_falseE ?_ ?_)); · (first | rfl | omega | exact decide_eq_false (by omega) | (rw [beq_eq_false_iff_ne]; first | assumption | omega) | (rw [bne_eq_false_iff_eq]; first | assumption | omega)))
 | ((with_reducible refine S_falseO ?_ ?_ ?_); (· rfl); (· first | rfl | (first | rfl | omega | exact decide_eq_false (by omega) | (rw [beq_eq_false_iff_ne]; first | assumption | omega) | (rw [bne_eq_false_iff_eq]; first | assumption | omega))))
 | ((with_reducible (first | refine S_trueE ?_ ?_ | refine S_trueB ?_ ?_ | refine S_trueL ?_ ?_ | refine S_trueD ?_ ?_ | refine S_trueN ?_ ?_)); · (first | exact beq_self_eq_true _ | rfl | assumption | exact decide_eq_true (by omega) | (rw [beq_iff_eq]; omega) | (rw [bne_iff_ne]; first | assumption | omega)))
 | ((with_reducible refine S_trueA ?_ ?_ ?_); (· rfl); (· first | rfl | (first | exact beq_self_eq_true _ | rfl | assumption | exact decide_eq_true (by omega) | (rw [beq_iff_eq]; omega) | (rw [bne_iff_ne]; first | assumption | omega))))
 | refine S_unG rfl rfl rfl rfl ?_
 | refine S_offG (.v (.bool false)) rfl rfl rfl rfl rfl ?_
 | (refine S_callM (f := 50) rfl obQ (by kernel_rfl) (fun w hw => lGiven_c A A2 c c2 names es hn6 hm6 hA w (hw.rdm (Rd.toS hr) memQ) (hw.rdm (Rd.toS hr2) memQ)) (fun w1N w2N vN hw1N hbN hRN => ?_); obtain ⟨AN, AN2, cN, cN2, rfl, hSN, hTN⟩ := hRN)
 | (refine S_callM (f := 77) rfl obQ (by kernel_rfl) (fun w hw => parse_as hrp rfl rfl (by omega) (Mx_at hM hw memQ)) (fun w1P w2P vP hw1P hbP hRP => ?_); obtain ⟨AP, cP, AP2, cP2, rfl, hSP, hTP⟩ := hRP)
 | (refine S_callM (f := 79) rfl obQ (by kernel_rfl) (fun w hw => rparse_as hrp rfl rfl (by omega)) (fun w1R w2R vR hw1R hbR hRR => ?_); obtain ⟨AR, cR, AR2, cR2, rfl, hSR, hTR⟩ := hRR)
 | refine S_oneE rfl rfl obQ ?_
 | ((with_reducible refine S_strE (b := true) ?_ ?_); · exact toE_eqT rfl)
 | refine S_nil ?_
 | refine S_runN rfl rfl obQ obQ ?_
 | refine S_box (fun b => ⟨_, _, rfl, obQ, ?_⟩)
 | refine S_call (f := 27) rfl obQ (by kernel_rfl) (fun w hw => awake_c w (hw.rdm hE.toS memQ) (Pw_at hP hw memQ)) ?_
 | refine S_call (f := 48) rfl obQ (by kernel_rfl) (fun w hw => tshort_as hsh hn hm (hw.rdm (Rd.toS hr) memQ)) ?_
 | refine S_call (f := 76) rfl obQ (by kernel_rfl) (fun w hw => print_as hpr rfl rfl hn6 hm6 hs (hw.rdm hSN memQ) (hw.rdm hTN memQ) (Pw_at hP hw memQ)) ?_
 | refine S_call (f := 55) rfl obQ (by kernel_rfl) (fun w hw => tckn_as hNE hn6 hm6 hs hc (hw.rdm (Rd.toS hr) memQ) (hw.rdm (Rd.toS hr2) memQ)) ?_
 | refine S_call (f := 75) rfl obQ (by kernel_rfl) (fun w hw => net1_as he hx0 hy0 w) ?_
         )
 | (refine G_id ?_; first
 | refine G_then ?_
 | refine G_thenR ?_
 | refine G_ret rfl obQ (fun w2 hw => ⟨?_, hw.below⟩)
         )
         ))
      all_goals rfl

end Go.Proofs.YtmfophoejjcnlaaGreatDoor
