/- The law of texts read back: the walk. -/
import Derived.Test.YtmfophoejjcnlaaGreatDoorTiming122
import Derived.Test.YtmfophoejjcnlaaGreatDoorEng3
namespace Go.Proofs.YtmfophoejjcnlaaGreatDoor
open Go.E Go.RowKit
attribute [local irreducible] G C S D Calls
set_option maxRecDepth 100000
set_option linter.unusedSimpArgs false
set_option linter.unusedVariables false

theorem tckn2_as {A A2 : Option Addr} {c c2 : Nat} {names : List ByteArray} {es : List Edg} {w : World} {e : Int} (h : netF names es = e) (hn : names.length ≤ 1000000) (hm : es.length ≤ 1000000) (hs : ∀ s ∈ names, s.size ≤ maxLen) (hc : names.length ≤ c) (hr : Rd w A (names.map .string)) (hr2 : Rd w A2 (es.flatMap edC)) : Calls Tryz.prog 55 #[.agg #[.slice A names.length c, .slice A2 es.length c2]] w fun r w' => r = .returned (.int .i64 e) ∧ Below w.heap.size w w' := tckn_as h hn hm hs hc hr hr2
theorem sl_uptoE {X : Cx} {t : TypeId} {ti : TI} (hl : Go.E.look X.T t = some ti) (hk : ti.k = .str) {s s1 : ByteArray} {j : Nat} (h : s.extract 0 j = s1) (k : IntKind) {z : Int} (hz : z = (j : Int)) (h1 : j ≤ s.size) (w : World) :
    (Instr.sliceAt t (.string s) none (some (.int k z)) none).run X.P w = .ok (.string s1) w := by
  subst h
  exact sl_upto hl hk s k z j hz h1 w
theorem prN_split {names : List ByteArray} {es : List Edg} (h : netF names es = 0) : splR (prN names es) 10 = linesT names es ++ [ByteArray.empty] ∧ (linesT names es ++ [ByteArray.empty]).length = names.length + es.length + 1 := by
  obtain ⟨hn, he, _⟩ := nm_of h
  refine ⟨splR_of (c := 10) (by simp) fun x hx => ?_, by simp [lines_len]⟩
  rcases List.mem_append.1 hx with hx | hx
  · exact lines_free hn he x hx
  · rw [List.mem_singleton.1 hx]
    simp [Free]
theorem same_as {A A2 B B2 : Option Addr} {c c2 c3 c4 n m : Nat} {names : List ByteArray} {es : List Edg} (hnl : names.length = n) (hml : es.length = m) (hn : n ≤ 1000000) (hm : m ≤ 1000000) (w : World) (hr : Rd w A (names.map .string)) (hr2 : Rd w A2 (es.flatMap edC)) (hr3 : Rd w B (names.map .string)) (hr4 : Rd w B2 (es.flatMap edC)) : Calls Tryz.prog 66 #[.agg #[.slice A n c, .slice A2 m c2], .agg #[.slice B n c3, .slice B2 m c4]] w fun r w' => r = .returned (.bool true) ∧ Below w.heap.size w w' := by
  subst hnl hml
  exact rSameT_c A A2 B B2 c c2 c3 c4 names es hn hm w hr hr2 hr3 hr4

set_option maxHeartbeats 8000000 in
/-- genlocklaw04.TimingBack -/
theorem lBack_c (A A2 : Option Addr) (c c2 : Nat) (names : List ByteArray) (es : List Edg) (hn : names.length ≤ 9223372036854775807) (hm : es.length ≤ 9223372036854775807) (hs : ∀ s ∈ names, s.size ≤ maxLen) (hc : names.length ≤ c) (hA : A = none → names.length = 0 ∧ c = 0) (s : ByteArray) (hsm : s.size ≤ maxLen) (w : World) (hr : Rd w A (names.map .string)) (hr2 : Rd w A2 (es.flatMap edC)) (hE : Ex w) (hP : Pw w) (hM : Mx w) : Calls Tryz.prog 13 #[.agg #[.slice A names.length c, .slice A2 es.length c2], .string s] w fun r w' => r = .returned (.bool true) ∧ Below w.heap.size w w' := by
  refine calls_of (args := [.agg #[.slice A names.length c, .slice A2 es.length c2], .string s]) T_ok Tryz.func13 rfl Tryz.ntmps13 (Nat.le_of_ble_eq_true rfl) rfl ?_
  unfold maxLen at hsm
  cases hsh : shortB names es
  · repeat' (first
 | (refine C_id ?_; first
 | refine C_seq ?_
 | refine C_region rfl ?_
 | refine C_ret0 ?_
 | refine C_condT rfl obQ ?_
 | (refine C_cond rfl obQ (fun h => ?_) (fun h => ?_) <;> (try simp only [Bool.or_eq_true, Bool.and_eq_true, Bool.or_eq_false_iff, Bool.and_eq_false_iff, decide_eq_true_eq, decide_eq_false_iff_not, beq_iff_eq, bne_iff_ne, beq_eq_false_iff_ne, bne_eq_false_iff_eq, ne_eq, Decidable.not_not, List.cons.injEq, and_true, Bool.not_eq_true', Bool.not_eq_false', Int.not_lt, Int.not_le] at h) <;> (try (exfalso; omega)) <;> (try (exfalso; simp at h; done)) <;> (try (exfalso; simp only [not_true_eq_false, false_or, or_false] at h; omega)) <;> (try contradiction))
     )
 | (refine S_id ?_; first
 | ((with_reducible (first | refine S_falseN ?_ ?_ | refine S_falseB ?_ ?_ | refine S_falseL ?_ ?_ | refine S_falseD ?_ ?_ | refine S_falseE ?_ ?_)); · (first | rfl | omega | exact decide_eq_false (by omega) | (rw [beq_eq_false_iff_ne]; first | assumption | omega) | (rw [bne_eq_false_iff_eq]; first | assumption | omega)))
 | ((with_reducible refine S_falseO ?_ ?_ ?_); (· rfl); (· first | rfl | (first | rfl | omega | exact decide_eq_false (by omega) | (rw [beq_eq_false_iff_ne]; first | assumption | omega) | (rw [bne_eq_false_iff_eq]; first | assumption | omega))))
 | ((with_reducible (first | refine S_trueE ?_ ?_ | refine S_trueB ?_ ?_ | refine S_trueL ?_ ?_ | refine S_trueD ?_ ?_ | refine S_trueN ?_ ?_)); · (first | exact beq_self_eq_true _ | rfl | assumption | exact decide_eq_true (by omega) | (rw [beq_iff_eq]; omega) | (rw [bne_iff_ne]; first | assumption | omega)))
 | refine S_unG rfl rfl rfl rfl ?_
 | refine S_offG (.v (.bool false)) rfl rfl rfl rfl rfl ?_
 | refine S_oneE rfl rfl obQ ?_
 | refine S_nil ?_
 | refine S_runN rfl rfl obQ obQ ?_
 | refine S_box (fun b => ⟨_, _, rfl, obQ, ?_⟩)
 | refine S_call (f := 27) rfl obQ (by kernel_rfl) (fun w hw => awake_c w (hw.rdm hE.toS memQ) (Pw_at hP hw memQ)) ?_
 | refine S_call (f := 48) rfl obQ (by kernel_rfl) (fun w hw => tshort_as hsh hn hm (hw.rdm (Rd.toS hr) memQ)) ?_
 | refine S_call (f := 55) rfl obQ (by kernel_rfl) (fun w hw => tckn2_as hNE hn6 hm6 hs hc (hw.rdm (Rd.toS hr) memQ) (hw.rdm (Rd.toS hr2) memQ)) ?_
     )
 | (refine G_id ?_; first
 | refine G_then ?_
 | refine G_thenR ?_
 | refine G_ret rfl obQ (fun w2 hw => ⟨?_, hw.below⟩)
     )
     )
    all_goals rfl
  have hlen := shortB_len3 hsh
  have hn6 : names.length ≤ 1000000 := by omega
  have hm6 : es.length ≤ 1000000 := by omega
  obtain ⟨eN, hNE⟩ : ∃ z, netF names es = z := ⟨_, rfl⟩
  by_cases hN0 : eN = 0
  · subst hN0
    by_cases h6 : 6 < names.length
    · repeat' (first
 | (refine C_id ?_; first
 | refine C_seq ?_
 | refine C_region rfl ?_
 | refine C_ret0 ?_
 | refine C_condT rfl obQ ?_
 | (refine C_cond rfl obQ (fun h => ?_) (fun h => ?_) <;> (try simp only [Bool.or_eq_true, Bool.and_eq_true, Bool.or_eq_false_iff, Bool.and_eq_false_iff, decide_eq_true_eq, decide_eq_false_iff_not, beq_iff_eq, bne_iff_ne, beq_eq_false_iff_ne, bne_eq_false_iff_eq, ne_eq, Decidable.not_not, List.cons.injEq, and_true, Bool.not_eq_true', Bool.not_eq_false', Int.not_lt, Int.not_le] at h) <;> (try (exfalso; omega)) <;> (try (exfalso; simp at h; done)) <;> (try (exfalso; simp only [not_true_eq_false, false_or, or_false] at h; omega)) <;> (try contradiction))
       )
 | (refine S_id ?_; first
 | ((with_reducible (first | refine S_falseN ?_ ?_ | refine S_falseB ?_ ?_ | refine S_falseL ?_ ?_ | refine S_falseD ?_ ?_ | refine S_falseE ?_ ?_)); · (first | rfl | omega | exact decide_eq_false (by omega) | (rw [beq_eq_false_iff_ne]; first | assumption | omega) | (rw [bne_eq_false_iff_eq]; first | assumption | omega)))
 | ((with_reducible refine S_falseO ?_ ?_ ?_); (· rfl); (· first | rfl | (first | rfl | omega | exact decide_eq_false (by omega) | (rw [beq_eq_false_iff_ne]; first | assumption | omega) | (rw [bne_eq_false_iff_eq]; first | assumption | omega))))
 | ((with_reducible (first | refine S_trueE ?_ ?_ | refine S_trueB ?_ ?_ | refine S_trueL ?_ ?_ | refine S_trueD ?_ ?_ | refine S_trueN ?_ ?_)); · (first | exact beq_self_eq_true _ | rfl | assumption | exact decide_eq_true (by omega) | (rw [beq_iff_eq]; omega) | (rw [bne_iff_ne]; first | assumption | omega)))
 | refine S_unG rfl rfl rfl rfl ?_
 | refine S_offG (.v (.bool false)) rfl rfl rfl rfl rfl ?_
 | refine S_oneE rfl rfl obQ ?_
 | refine S_nil ?_
 | refine S_runN rfl rfl obQ obQ ?_
 | refine S_box (fun b => ⟨_, _, rfl, obQ, ?_⟩)
 | refine S_call (f := 27) rfl obQ (by kernel_rfl) (fun w hw => awake_c w (hw.rdm hE.toS memQ) (Pw_at hP hw memQ)) ?_
 | refine S_call (f := 48) rfl obQ (by kernel_rfl) (fun w hw => tshort_as hsh hn hm (hw.rdm (Rd.toS hr) memQ)) ?_
 | refine S_call (f := 55) rfl obQ (by kernel_rfl) (fun w hw => tckn2_as hNE hn6 hm6 hs hc (hw.rdm (Rd.toS hr) memQ) (hw.rdm (Rd.toS hr2) memQ)) ?_
       )
 | (refine G_id ?_; first
 | refine G_then ?_
 | refine G_thenR ?_
 | refine G_ret rfl obQ (fun w2 hw => ⟨?_, hw.below⟩)
       )
       )
      all_goals rfl
    by_cases h12 : 12 < es.length
    · repeat' (first
 | (refine C_id ?_; first
 | refine C_seq ?_
 | refine C_region rfl ?_
 | refine C_ret0 ?_
 | refine C_condT rfl obQ ?_
 | (refine C_cond rfl obQ (fun h => ?_) (fun h => ?_) <;> (try simp only [Bool.or_eq_true, Bool.and_eq_true, Bool.or_eq_false_iff, Bool.and_eq_false_iff, decide_eq_true_eq, decide_eq_false_iff_not, beq_iff_eq, bne_iff_ne, beq_eq_false_iff_ne, bne_eq_false_iff_eq, ne_eq, Decidable.not_not, List.cons.injEq, and_true, Bool.not_eq_true', Bool.not_eq_false', Int.not_lt, Int.not_le] at h) <;> (try (exfalso; omega)) <;> (try (exfalso; simp at h; done)) <;> (try (exfalso; simp only [not_true_eq_false, false_or, or_false] at h; omega)) <;> (try contradiction))
       )
 | (refine S_id ?_; first
 | ((with_reducible (first | refine S_falseN ?_ ?_ | refine S_falseB ?_ ?_ | refine S_falseL ?_ ?_ | refine S_falseD ?_ ?_ | refine S_falseE ?_ ?_)); · (first | rfl | omega | exact decide_eq_false (by omega) | (rw [beq_eq_false_iff_ne]; first | assumption | omega) | (rw [bne_eq_false_iff_eq]; first | assumption | omega)))
 | ((with_reducible refine S_falseO ?_ ?_ ?_); (· rfl); (· first | rfl | (first | rfl | omega | exact decide_eq_false (by omega) | (rw [beq_eq_false_iff_ne]; first | assumption | omega) | (rw [bne_eq_false_iff_eq]; first | assumption | omega))))
 | ((with_reducible (first | refine S_trueE ?_ ?_ | refine S_trueB ?_ ?_ | refine S_trueL ?_ ?_ | refine S_trueD ?_ ?_ | refine S_trueN ?_ ?_)); · (first | exact beq_self_eq_true _ | rfl | assumption | exact decide_eq_true (by omega) | (rw [beq_iff_eq]; omega) | (rw [bne_iff_ne]; first | assumption | omega)))
 | refine S_unG rfl rfl rfl rfl ?_
 | refine S_offG (.v (.bool false)) rfl rfl rfl rfl rfl ?_
 | refine S_oneE rfl rfl obQ ?_
 | refine S_nil ?_
 | refine S_runN rfl rfl obQ obQ ?_
 | refine S_box (fun b => ⟨_, _, rfl, obQ, ?_⟩)
 | refine S_call (f := 27) rfl obQ (by kernel_rfl) (fun w hw => awake_c w (hw.rdm hE.toS memQ) (Pw_at hP hw memQ)) ?_
 | refine S_call (f := 48) rfl obQ (by kernel_rfl) (fun w hw => tshort_as hsh hn hm (hw.rdm (Rd.toS hr) memQ)) ?_
 | refine S_call (f := 55) rfl obQ (by kernel_rfl) (fun w hw => tckn2_as hNE hn6 hm6 hs hc (hw.rdm (Rd.toS hr) memQ) (hw.rdm (Rd.toS hr2) memQ)) ?_
       )
 | (refine G_id ?_; first
 | refine G_then ?_
 | refine G_thenR ?_
 | refine G_ret rfl obQ (fun w2 hw => ⟨?_, hw.below⟩)
       )
       )
      all_goals rfl
    by_cases h200 : 200 < s.size
    · repeat' (first
 | (refine C_id ?_; first
 | refine C_seq ?_
 | refine C_region rfl ?_
 | refine C_ret0 ?_
 | refine C_condT rfl obQ ?_
 | (refine C_cond rfl obQ (fun h => ?_) (fun h => ?_) <;> (try simp only [Bool.or_eq_true, Bool.and_eq_true, Bool.or_eq_false_iff, Bool.and_eq_false_iff, decide_eq_true_eq, decide_eq_false_iff_not, beq_iff_eq, bne_iff_ne, beq_eq_false_iff_ne, bne_eq_false_iff_eq, ne_eq, Decidable.not_not, List.cons.injEq, and_true, Bool.not_eq_true', Bool.not_eq_false', Int.not_lt, Int.not_le] at h) <;> (try (exfalso; omega)) <;> (try (exfalso; simp at h; done)) <;> (try (exfalso; simp only [not_true_eq_false, false_or, or_false] at h; omega)) <;> (try contradiction))
       )
 | (refine S_id ?_; first
 | ((with_reducible (first | refine S_falseN ?_ ?_ | refine S_falseB ?_ ?_ | refine S_falseL ?_ ?_ | refine S_falseD ?_ ?_ | refine S_falseE ?_ ?_)); · (first | rfl | omega | exact decide_eq_false (by omega) | (rw [beq_eq_false_iff_ne]; first | assumption | omega) | (rw [bne_eq_false_iff_eq]; first | assumption | omega)))
 | ((with_reducible refine S_falseO ?_ ?_ ?_); (· rfl); (· first | rfl | (first | rfl | omega | exact decide_eq_false (by omega) | (rw [beq_eq_false_iff_ne]; first | assumption | omega) | (rw [bne_eq_false_iff_eq]; first | assumption | omega))))
 | ((with_reducible (first | refine S_trueE ?_ ?_ | refine S_trueB ?_ ?_ | refine S_trueL ?_ ?_ | refine S_trueD ?_ ?_ | refine S_trueN ?_ ?_)); · (first | exact beq_self_eq_true _ | rfl | assumption | exact decide_eq_true (by omega) | (rw [beq_iff_eq]; omega) | (rw [bne_iff_ne]; first | assumption | omega)))
 | refine S_unG rfl rfl rfl rfl ?_
 | refine S_offG (.v (.bool false)) rfl rfl rfl rfl rfl ?_
 | refine S_oneE rfl rfl obQ ?_
 | refine S_nil ?_
 | refine S_runN rfl rfl obQ obQ ?_
 | refine S_box (fun b => ⟨_, _, rfl, obQ, ?_⟩)
 | refine S_call (f := 27) rfl obQ (by kernel_rfl) (fun w hw => awake_c w (hw.rdm hE.toS memQ) (Pw_at hP hw memQ)) ?_
 | refine S_call (f := 48) rfl obQ (by kernel_rfl) (fun w hw => tshort_as hsh hn hm (hw.rdm (Rd.toS hr) memQ)) ?_
 | refine S_call (f := 55) rfl obQ (by kernel_rfl) (fun w hw => tckn2_as hNE hn6 hm6 hs hc (hw.rdm (Rd.toS hr) memQ) (hw.rdm (Rd.toS hr2) memQ)) ?_
       )
 | (refine G_id ?_; first
 | refine G_then ?_
 | refine G_thenR ?_
 | refine G_ret rfl obQ (fun w2 hw => ⟨?_, hw.below⟩)
       )
       )
      all_goals rfl
    obtain ⟨hNm, hEg, h0, _, _⟩ := nm_of hNE
    have hpz := prN_size hNE
    have hpr0 := printR_ok hNE
    have hrp10 := np_pr hNm hEg hNE (by omega)
    obtain ⟨hrp30, h1S⟩ := np_cut hNm hEg h0 (by omega)
    obtain ⟨hls0, hln⟩ := prN_split hNE
    obtain ⟨S, hS⟩ : ∃ S, prN names es = S := ⟨_, rfl⟩
    rw [hS] at hpr0 hrp10 hrp30 h1S hls0 hpz
    obtain ⟨S1, hS1⟩ : ∃ x, S.extract 0 (S.size - 1) = x := ⟨_, rfl⟩
    rw [hS1] at hrp30
    have hpr := hpr0
    have hrp1 := hrp10
    have hrp3 := hrp30
    have hls := hls0
    have hz0 : S.size ≤ 1000000 := by omega
    have hz1 : S1.size ≤ 1000000 := by rw [← hS1, ByteArray.size_extract]; omega
    have hz3 : s.size ≤ 1000000 := by omega
    have hj1 : (S.size : Int) - 1 = ((S.size - 1 : Nat) : Int) := by omega
    have hj1b : S.size - 1 ≤ S.size := by omega
    have hk1 : ((names.length + es.length - 1 : Nat) : Int) = (names.length : Int) + (es.length : Int) - 1 := by omega
    clear hNm hEg hpr0 hrp10 hrp30 hls0 hpz
    rcases hrp2 : npR s with ⟨⟨xs, ys⟩, k2, e2⟩
    by_cases he : e2 = 0
    · subst he
      obtain ⟨hys, hyF, _⟩ := np_inv hrp2
      obtain ⟨hNm, hEg, _, hx12, hy24⟩ := nm_of hyF
      have hrp40 := np_pr hNm hEg hyF (by omega)
      have hpy0 := printR_ok hyF
      have hx6 : xs.length ≤ 1000000 := by omega
      have hy6 : ys.length ≤ 1000000 := by omega
      have hxs : ∀ s ∈ xs, s.size ≤ maxLen := fun s hs => by have := NetOk_names hyF s hs; unfold maxLen; omega
      obtain ⟨Z, hZ⟩ : ∃ Z, prN xs ys = Z := ⟨_, rfl⟩
      rw [hZ] at hrp40 hpy0 hys
      have hrp4 := hrp40
      have hpy := hpy0
      have hz4 : Z.size ≤ 1000000 := by omega
      clear hNm hEg hrp40 hpy0
      repeat' (first
 | (refine C_id ?_; first
 | refine C_seq ?_
 | refine C_region rfl ?_
 | refine C_skip ?_
 | refine C_ret0 ?_
 | refine C_drawV (id := 5) 29 [(0, true), (1, true), (2, true), (3, true), (4, true), (5, true), (6, true), (7, true), (8, true), (9, true), (10, true), (11, true), (13, true), (12, false), (14, false), (15, true), (16, true), (17, true), (18, true), (21, true), (22, true), (23, true), (24, true), (25, true), (26, true), (27, true), (28, true), (19, false), (20, true)] rfl mixed (by kernel_rfl) rfl ?_
 | refine C_drawV (id := 13) 6 [(0, true), (1, true), (2, true), (3, true), (5, true), (4, false)] rfl mixed (by kernel_rfl) rfl ?_
 | refine C_condT rfl obQ ?_
 | refine C_condF rfl obQ ?_
       )
 | (refine S_id ?_; first
 | ((with_reducible (first | refine S_falseN ?_ ?_ | refine S_falseB ?_ ?_ | refine S_falseL ?_ ?_ | refine S_falseD ?_ ?_ | refine S_falseE ?_ ?_)); · (first | rfl | omega | exact decide_eq_false (by omega) | (rw [beq_eq_false_iff_ne]; first | assumption | omega) | (rw [bne_eq_false_iff_eq]; first | assumption | omega)))
 | ((with_reducible refine S_falseO ?_ ?_ ?_); (· rfl); (· first | rfl | (first | rfl | omega | exact decide_eq_false (by omega) | (rw [beq_eq_false_iff_ne]; first | assumption | omega) | (rw [bne_eq_false_iff_eq]; first | assumption | omega))))
 | ((with_reducible (first | refine S_trueE ?_ ?_ | refine S_trueB ?_ ?_ | refine S_trueL ?_ ?_ | refine S_trueD ?_ ?_ | refine S_trueN ?_ ?_)); · (first | exact beq_self_eq_true _ | rfl | assumption | exact decide_eq_true (by omega) | (rw [beq_iff_eq]; omega) | (rw [bne_iff_ne]; first | assumption | omega)))
 | ((with_reducible refine S_trueA ?_ ?_ ?_); (· rfl); (· first | rfl | (first | exact beq_self_eq_true _ | rfl | assumption | exact decide_eq_true (by omega) | (rw [beq_iff_eq]; omega) | (rw [bne_iff_ne]; first | assumption | omega))))
 | refine S_unG rfl rfl rfl rfl ?_
 | refine S_gK 70 rfl rfl ?_
 | refine S_gK 72 rfl rfl ?_
 | refine S_gK 77 rfl rfl ?_
 | refine S_gK 79 rfl rfl ?_
 | refine S_gK 87 rfl rfl ?_
 | refine S_gK 121 rfl rfl ?_
 | refine S_gK 123 rfl rfl ?_
 | (refine S_callM (f := 50) rfl obQ (by kernel_rfl) (fun w hw => lGiven_c A A2 c c2 names es hn6 hm6 hA w (hw.rdm (Rd.toS hr) memQ) (hw.rdm (Rd.toS hr2) memQ)) (fun w1N w2N vN hw1N hbN hRN => ?_); obtain ⟨AN, AN2, cN, cN2, rfl, hSN, hTN⟩ := hRN)
 | (refine S_callM (f := 77) rfl obQ (by kernel_rfl) (fun w hw => parse_as hrp1 rfl rfl hz0 (Mx_at hM hw memQ)) (fun w1P w2P vP hw1P hbP hRP => ?_); obtain ⟨AP, cP, AP2, cP2, rfl, hSP, hTP⟩ := hRP)
 | (refine S_callM (f := 77) rfl obQ (by kernel_rfl) (fun w hw => parse_as hrp2 rfl rfl hz3 (Mx_at hM hw memQ)) (fun w1Y w2Y vY hw1Y hbY hRY => ?_); obtain ⟨AY, cY, AY2, cY2, rfl, hSY, hTY⟩ := hRY)
 | (refine S_callM (f := 77) rfl obQ (by kernel_rfl) (fun w hw => parse_as hrp4 rfl rfl hz4 (Mx_at hM hw memQ)) (fun w1Z w2Z vZ hw1Z hbZ hRZ => ?_); obtain ⟨AZ, cZ, AZ2, cZ2, rfl, hSZ, hTZ⟩ := hRZ)
 | (refine S_callM (f := 77) rfl obQ (by kernel_rfl) (fun w hw => parse_as hrp3 rfl rfl hz1 (Mx_at hM hw memQ)) (fun w1Q w2Q vQ hw1Q hbQ hRQ => ?_); obtain ⟨AQ, cQ, AQ2, cQ2, rfl, hSQ, hTQ⟩ := hRQ)
 | (refine S_callM (f := 80) rfl obQ (by kernel_rfl) (fun w hw => rSplit_as2 hls hln hz0 (by decide) w) (fun w1L w2L vL hw1L hbL hRL => ?_); obtain ⟨AL, cL, rfl, hSL⟩ := hRL)
 | refine S_pure (sliceX_pure (lo := none) (hi := some _) rfl obQ (fun w' => sl_uptoE (X := ⟨Tryz.prog, T, T_ok, 155, w.heap.size, w, [], none⟩) rfl rfl hS1 _ hj1 hj1b w')) ?_
 | (refine S_callM (f := 64) rfl obQ (by kernel_rfl) (fun w hw => lOwn_c AP AP2 cP cP2 names es hn6 hm6 w (hw.rdm hTP memQ)) (fun w1O w2O vO hw1O hbO hRO => ?_); obtain ⟨AO, cO, rfl, hSO, hcO, hdO⟩ := hRO)
 | (refine S_callM (f := 64) rfl obQ (by kernel_rfl) (fun w hw => lOwn_c AZ AZ2 cZ cZ2 xs ys hx6 hy6 w (hw.rdm hTZ memQ)) (fun w1U w2U vU hw1U hbU hRU => ?_); obtain ⟨AU, cU, rfl, hSU, hcU, hdU⟩ := hRU)
 | (refine S_callM (f := 64) rfl obQ (by kernel_rfl) (fun w hw => lOwn_c AY AY2 cY cY2 xs ys hx6 hy6 w (hw.rdm hTY memQ)) (fun w1V w2V vV hw1V hbV hRV => ?_); obtain ⟨AV, cV, rfl, hSV, hcV, hdV⟩ := hRV)
 | refine S_oneE rfl rfl obQ ?_
 | refine S_nil ?_
 | refine S_runN rfl rfl obQ obQ ?_
 | refine S_box (fun b => ⟨_, _, rfl, obQ, ?_⟩)
 | refine S_call (f := 27) rfl obQ (by kernel_rfl) (fun w hw => awake_c w (hw.rdm hE.toS memQ) (Pw_at hP hw memQ)) ?_
 | refine S_call (f := 48) rfl obQ (by kernel_rfl) (fun w hw => tshort_as hsh hn hm (hw.rdm (Rd.toS hr) memQ)) ?_
 | refine S_call (f := 55) rfl obQ (by kernel_rfl) (fun w hw => tckn2_as hNE hn6 hm6 hs hc (hw.rdm (Rd.toS hr) memQ) (hw.rdm (Rd.toS hr2) memQ)) ?_
 | refine S_call (f := 76) rfl obQ (by kernel_rfl) (fun w hw => print_as hpr rfl rfl hn6 hm6 hs (hw.rdm hSN memQ) (hw.rdm hTN memQ) (Pw_at hP hw memQ)) ?_
 | refine S_call (f := 76) rfl obQ (by kernel_rfl) (fun w hw => print_as hpy rfl rfl hx6 hy6 hxs (hw.rdm hSY memQ) (hw.rdm hTY memQ) (Pw_at hP hw memQ)) ?_
 | refine S_call (f := 66) rfl obQ (by kernel_rfl) (fun w hw => same_as rfl rfl hn6 hm6 w (hw.rdm hSP memQ) (hw.rdm hSO memQ) (hw.rdm (Rd.toS hr) memQ) (hw.rdm (Rd.toS hr2) memQ)) ?_
 | refine S_call (f := 66) rfl obQ (by kernel_rfl) (fun w hw => same_as rfl rfl hx6 hy6 w (hw.rdm hSZ memQ) (hw.rdm hSU memQ) (hw.rdm hSY memQ) (hw.rdm hSV memQ)) ?_
       )
 | (refine V_id ?_; first
 | refine V_nil ?_
 | refine V_q rfl (Yl_step rfl obQ) ?_
 | refine V_n rfl ?_
       )
 | (refine G_id ?_; first
 | refine G_V ⟨⟨_, rfl, trivial⟩, ⟨_, rfl⟩, rfl, pstQ⟩ rfl ?_
 | refine G_then ?_
 | refine G_ret rfl obQ (fun w2 hw => ⟨?_, hw.below⟩)
       )
       )
      all_goals rfl
    · repeat' (first
 | (refine C_id ?_; first
 | refine C_seq ?_
 | refine C_region rfl ?_
 | refine C_skip ?_
 | refine C_ret0 ?_
 | refine C_drawV (id := 5) 29 [(0, true), (1, true), (2, true), (3, true), (4, true), (5, true), (6, true), (7, true), (8, true), (9, true), (10, true), (11, true), (13, true), (12, false), (14, false), (15, true), (16, true), (17, true), (18, true), (21, true), (22, true), (23, true), (24, true), (25, true), (26, true), (27, true), (28, true), (19, false), (20, true)] rfl mixed (by kernel_rfl) rfl ?_
 | refine C_drawV (id := 13) 6 [(0, true), (1, true), (2, true), (3, true), (5, true), (4, false)] rfl mixed (by kernel_rfl) rfl ?_
 | refine C_condT rfl obQ ?_
 | refine C_condF rfl obQ ?_
       )
 | (refine S_id ?_; first
 | ((with_reducible (first | refine S_falseN ?_ ?_ | refine S_falseB ?_ ?_ | refine S_falseL ?_ ?_ | refine S_falseD ?_ ?_ | refine S_falseE ?_ ?_)); · (first | rfl | omega | exact decide_eq_false (by omega) | (rw [beq_eq_false_iff_ne]; first | assumption | omega) | (rw [bne_eq_false_iff_eq]; first | assumption | omega)))
 | ((with_reducible refine S_falseO ?_ ?_ ?_); (· rfl); (· first | rfl | (first | rfl | omega | exact decide_eq_false (by omega) | (rw [beq_eq_false_iff_ne]; first | assumption | omega) | (rw [bne_eq_false_iff_eq]; first | assumption | omega))))
 | ((with_reducible (first | refine S_trueE ?_ ?_ | refine S_trueB ?_ ?_ | refine S_trueL ?_ ?_ | refine S_trueD ?_ ?_ | refine S_trueN ?_ ?_)); · (first | exact beq_self_eq_true _ | rfl | assumption | exact decide_eq_true (by omega) | (rw [beq_iff_eq]; omega) | (rw [bne_iff_ne]; first | assumption | omega)))
 | ((with_reducible refine S_trueA ?_ ?_ ?_); (· rfl); (· first | rfl | (first | exact beq_self_eq_true _ | rfl | assumption | exact decide_eq_true (by omega) | (rw [beq_iff_eq]; omega) | (rw [bne_iff_ne]; first | assumption | omega))))
 | refine S_unG rfl rfl rfl rfl ?_
 | refine S_gK 70 rfl rfl ?_
 | refine S_gK 72 rfl rfl ?_
 | refine S_gK 77 rfl rfl ?_
 | refine S_gK 79 rfl rfl ?_
 | refine S_gK 87 rfl rfl ?_
 | refine S_gK 121 rfl rfl ?_
 | refine S_gK 123 rfl rfl ?_
 | (refine S_callM (f := 50) rfl obQ (by kernel_rfl) (fun w hw => lGiven_c A A2 c c2 names es hn6 hm6 hA w (hw.rdm (Rd.toS hr) memQ) (hw.rdm (Rd.toS hr2) memQ)) (fun w1N w2N vN hw1N hbN hRN => ?_); obtain ⟨AN, AN2, cN, cN2, rfl, hSN, hTN⟩ := hRN)
 | (refine S_callM (f := 77) rfl obQ (by kernel_rfl) (fun w hw => parse_as hrp1 rfl rfl hz0 (Mx_at hM hw memQ)) (fun w1P w2P vP hw1P hbP hRP => ?_); obtain ⟨AP, cP, AP2, cP2, rfl, hSP, hTP⟩ := hRP)
 | (refine S_callM (f := 77) rfl obQ (by kernel_rfl) (fun w hw => parse_as hrp2 rfl rfl hz3 (Mx_at hM hw memQ)) (fun w1Y w2Y vY hw1Y hbY hRY => ?_); obtain ⟨AY, cY, AY2, cY2, rfl, hSY, hTY⟩ := hRY)
 | (refine S_callM (f := 77) rfl obQ (by kernel_rfl) (fun w hw => parse_as hrp4 rfl rfl hz4 (Mx_at hM hw memQ)) (fun w1Z w2Z vZ hw1Z hbZ hRZ => ?_); obtain ⟨AZ, cZ, AZ2, cZ2, rfl, hSZ, hTZ⟩ := hRZ)
 | (refine S_callM (f := 77) rfl obQ (by kernel_rfl) (fun w hw => parse_as hrp3 rfl rfl hz1 (Mx_at hM hw memQ)) (fun w1Q w2Q vQ hw1Q hbQ hRQ => ?_); obtain ⟨AQ, cQ, AQ2, cQ2, rfl, hSQ, hTQ⟩ := hRQ)
 | (refine S_callM (f := 80) rfl obQ (by kernel_rfl) (fun w hw => rSplit_as2 hls hln hz0 (by decide) w) (fun w1L w2L vL hw1L hbL hRL => ?_); obtain ⟨AL, cL, rfl, hSL⟩ := hRL)
 | refine S_pure (sliceX_pure (lo := none) (hi := some _) rfl obQ (fun w' => sl_uptoE (X := ⟨Tryz.prog, T, T_ok, 155, w.heap.size, w, [], none⟩) rfl rfl hS1 _ hj1 hj1b w')) ?_
 | (refine S_callM (f := 64) rfl obQ (by kernel_rfl) (fun w hw => lOwn_c AP AP2 cP cP2 names es hn6 hm6 w (hw.rdm hTP memQ)) (fun w1O w2O vO hw1O hbO hRO => ?_); obtain ⟨AO, cO, rfl, hSO, hcO, hdO⟩ := hRO)
 | (refine S_callM (f := 64) rfl obQ (by kernel_rfl) (fun w hw => lOwn_c AZ AZ2 cZ cZ2 xs ys hx6 hy6 w (hw.rdm hTZ memQ)) (fun w1U w2U vU hw1U hbU hRU => ?_); obtain ⟨AU, cU, rfl, hSU, hcU, hdU⟩ := hRU)
 | (refine S_callM (f := 64) rfl obQ (by kernel_rfl) (fun w hw => lOwn_c AY AY2 cY cY2 xs ys hx6 hy6 w (hw.rdm hTY memQ)) (fun w1V w2V vV hw1V hbV hRV => ?_); obtain ⟨AV, cV, rfl, hSV, hcV, hdV⟩ := hRV)
 | refine S_oneE rfl rfl obQ ?_
 | refine S_nil ?_
 | refine S_runN rfl rfl obQ obQ ?_
 | refine S_box (fun b => ⟨_, _, rfl, obQ, ?_⟩)
 | refine S_call (f := 27) rfl obQ (by kernel_rfl) (fun w hw => awake_c w (hw.rdm hE.toS memQ) (Pw_at hP hw memQ)) ?_
 | refine S_call (f := 48) rfl obQ (by kernel_rfl) (fun w hw => tshort_as hsh hn hm (hw.rdm (Rd.toS hr) memQ)) ?_
 | refine S_call (f := 55) rfl obQ (by kernel_rfl) (fun w hw => tckn2_as hNE hn6 hm6 hs hc (hw.rdm (Rd.toS hr) memQ) (hw.rdm (Rd.toS hr2) memQ)) ?_
 | refine S_call (f := 76) rfl obQ (by kernel_rfl) (fun w hw => print_as hpr rfl rfl hn6 hm6 hs (hw.rdm hSN memQ) (hw.rdm hTN memQ) (Pw_at hP hw memQ)) ?_
 | refine S_call (f := 76) rfl obQ (by kernel_rfl) (fun w hw => print_as hpy rfl rfl hx6 hy6 hxs (hw.rdm hSY memQ) (hw.rdm hTY memQ) (Pw_at hP hw memQ)) ?_
 | refine S_call (f := 66) rfl obQ (by kernel_rfl) (fun w hw => same_as rfl rfl hn6 hm6 w (hw.rdm hSP memQ) (hw.rdm hSO memQ) (hw.rdm (Rd.toS hr) memQ) (hw.rdm (Rd.toS hr2) memQ)) ?_
 | refine S_call (f := 66) rfl obQ (by kernel_rfl) (fun w hw => same_as rfl rfl hx6 hy6 w (hw.rdm hSZ memQ) (hw.rdm hSU memQ) (hw.rdm hSY memQ) (hw.rdm hSV memQ)) ?_
       )
 | (refine V_id ?_; first
 | refine V_nil ?_
 | refine V_q rfl (Yl_step rfl obQ) ?_
 | refine V_n rfl ?_
       )
 | (refine G_id ?_; first
 | refine G_V ⟨⟨_, rfl, trivial⟩, ⟨_, rfl⟩, rfl, pstQ⟩ rfl ?_
 | refine G_then ?_
 | refine G_ret rfl obQ (fun w2 hw => ⟨?_, hw.below⟩)
       )
       )
      all_goals rfl
  · repeat' (first
 | (refine C_id ?_; first
 | refine C_seq ?_
 | refine C_region rfl ?_
 | refine C_ret0 ?_
 | refine C_condT rfl obQ ?_
 | (refine C_cond rfl obQ (fun h => ?_) (fun h => ?_) <;> (try simp only [Bool.or_eq_true, Bool.and_eq_true, Bool.or_eq_false_iff, Bool.and_eq_false_iff, decide_eq_true_eq, decide_eq_false_iff_not, beq_iff_eq, bne_iff_ne, beq_eq_false_iff_ne, bne_eq_false_iff_eq, ne_eq, Decidable.not_not, List.cons.injEq, and_true, Bool.not_eq_true', Bool.not_eq_false', Int.not_lt, Int.not_le] at h) <;> (try (exfalso; omega)) <;> (try (exfalso; simp at h; done)) <;> (try (exfalso; simp only [not_true_eq_false, false_or, or_false] at h; omega)) <;> (try contradiction))
     )
 | (refine S_id ?_; first
 | ((with_reducible (first | refine S_falseN ?_ ?_ | refine S_falseB ?_ ?_ | refine S_falseL ?_ ?_ | refine S_falseD ?_ ?_ | refine S_falseE ?_ ?_)); · (first | rfl | omega | exact decide_eq_false (by omega) | (rw [beq_eq_false_iff_ne]; first | assumption | omega) | (rw [bne_eq_false_iff_eq]; first | assumption | omega)))
 | ((with_reducible refine S_falseO ?_ ?_ ?_); (· rfl); (· first | rfl | (first | rfl | omega | exact decide_eq_false (by omega) | (rw [beq_eq_false_iff_ne]; first | assumption | omega) | (rw [bne_eq_false_iff_eq]; first | assumption | omega))))
 | ((with_reducible (first | refine S_trueE ?_ ?_ | refine S_trueB ?_ ?_ | refine S_trueL ?_ ?_ | refine S_trueD ?_ ?_ | refine S_trueN ?_ ?_)); · (first | exact beq_self_eq_true _ | rfl | assumption | exact decide_eq_true (by omega) | (rw [beq_iff_eq]; omega) | (rw [bne_iff_ne]; first | assumption | omega)))
 | refine S_unG rfl rfl rfl rfl ?_
 | refine S_offG (.v (.bool false)) rfl rfl rfl rfl rfl ?_
 | refine S_oneE rfl rfl obQ ?_
 | refine S_nil ?_
 | refine S_runN rfl rfl obQ obQ ?_
 | refine S_box (fun b => ⟨_, _, rfl, obQ, ?_⟩)
 | refine S_call (f := 27) rfl obQ (by kernel_rfl) (fun w hw => awake_c w (hw.rdm hE.toS memQ) (Pw_at hP hw memQ)) ?_
 | refine S_call (f := 48) rfl obQ (by kernel_rfl) (fun w hw => tshort_as hsh hn hm (hw.rdm (Rd.toS hr) memQ)) ?_
 | refine S_call (f := 55) rfl obQ (by kernel_rfl) (fun w hw => tckn2_as hNE hn6 hm6 hs hc (hw.rdm (Rd.toS hr) memQ) (hw.rdm (Rd.toS hr2) memQ)) ?_
     )
 | (refine G_id ?_; first
 | refine G_then ?_
 | refine G_thenR ?_
 | refine G_ret rfl obQ (fun w2 hw => ⟨?_, hw.below⟩)
     )
     )
    all_goals rfl

end Go.Proofs.YtmfophoejjcnlaaGreatDoor
