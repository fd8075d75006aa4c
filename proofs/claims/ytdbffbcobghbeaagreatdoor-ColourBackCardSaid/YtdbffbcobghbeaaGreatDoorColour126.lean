/- The law of texts read back: the walk. -/
import Derived.Test.YtdbffbcobghbeaaGreatDoorColour123
namespace Go.Proofs.YtdbffbcobghbeaaGreatDoor
open Go.E Go.RowKit Go.Fl
attribute [local irreducible] G C S D Calls
set_option maxRecDepth 100000
set_option linter.unusedSimpArgs false
set_option linter.unusedVariables false

set_option maxHeartbeats 400000 in
/-- genlockref02.CheckCurve -/
theorem tCheckCurveHi_c (A : Option Addr) (c : Nat) (l : List Pt) (h16 : 16 < l.length) (hmax : l.length ≤ maxLen) (w : World) : Calls Tryz.prog 26 #[.slice A l.length c] w fun r w' => r = .returned (.int .i64 5) ∧ Below w.heap.size w w' := by
  refine calls_of (args := [.slice A l.length c]) T_ok Tryz.func26 rfl Tryz.ntmps26 (Nat.le_of_ble_eq_true rfl) rfl ?_
  unfold maxLen at hmax
  repeat' (first
 | (refine C_id ?_; first
 | refine C_seq ?_
 | refine C_region rfl ?_
 | refine C_skip ?_
 | refine C_ret0 ?_
 | (refine C_cond rfl obQ (fun h => ?_) (fun h => ?_) <;> (try simp only [Bool.or_eq_true, Bool.and_eq_true, Bool.or_eq_false_iff, Bool.and_eq_false_iff, decide_eq_true_eq, decide_eq_false_iff_not, beq_iff_eq, bne_iff_ne, beq_eq_false_iff_ne, bne_eq_false_iff_eq, ne_eq, Decidable.not_not, List.cons.injEq, and_true, Bool.not_eq_true', Bool.not_eq_false', Int.not_lt, Int.not_le] at h) <;> (try (exfalso; omega)))
 )
 | (refine S_id ?_; first
 | refine S_nil ?_
 | refine S_run rfl rfl obQ obQ ?_
 )
 | (refine G_id ?_; first
 | refine G_then ?_
 | refine G_thenR ?_
 | refine G_ret rfl obQ (fun w hw => ⟨?_, hw.below⟩)
 )
 )
  all_goals rfl

theorem tck_as {A : Option Addr} {c : Nat} {l : List Pt} {w : World} {e : Int} (h : curveE l = e) (hmax : l.length ≤ maxLen) (hr : Rd w A (l.flatMap ptC)) : Calls Tryz.prog 26 #[.slice A l.length c] w fun r w' => r = .returned (.int .i64 e) ∧ Below w.heap.size w w' := by
  subst h
  by_cases h : l.length ≤ 1000000
  · exact rCheckCurve_c A c l h w hr
  · have := tCheckCurveHi_c A c l (by omega) hmax w
    rwa [curveE_hi (by omega)]
theorem sl_uptoE {X : Cx} {t : TypeId} {ti : TI} (hl : Go.E.look X.T t = some ti) (hk : ti.k = .str) {s s1 : ByteArray} {j : Nat} (h : s.extract 0 j = s1) (k : IntKind) {z : Int} (hz : z = (j : Int)) (h1 : j ≤ s.size) (w : World) :
    (Instr.sliceAt t (.string s) none (some (.int k z)) none).run X.P w = .ok (.string s1) w := by
  subst h
  exact sl_upto hl hk s k z j hz h1 w
theorem ex_pre {a z : ByteArray} {t : List UInt8} (h : a.data.toList = z.data.toList ++ t) {k : Nat} (hk : k + t.length = a.size) : a.extract 0 k = z := by
  have h2 := size_snoc h
  refine ba_ext ?_
  rw [Lib.extract_data, h]
  exact tk_len0 (by rw [ba_size]; omega)
/-- The texts that the law cuts out. -/
theorem back_facts {l : List Pt} (h : CvOk l) : ∃ ls, splR (prF l) 10 = ls ∧ ls.length = l.length + 2 ∧ 1 + (sN ls l.length).size ≤ (prF l).size ∧ rpR ((prF l).extract 0 ((prF l).size - 1)) = ([], l.length, 25) ∧ rpR ((prF l).extract 0 ((prF l).size - 1 - (sN ls l.length).size)) = ([], l.length, 2) := by
  have hs : splR (prF l) 10 = pcs (l.length : Int) l ++ [ByteArray.empty] := by
    rw [prF_jn]
    refine splR_of (c := 10) (by simp) fun x hx => ?_
    rcases List.mem_append.1 hx with hx | hx
    · exact pcs_free _ _ x hx
    · rw [List.mem_singleton.1 hx]
      simp [Free]
  refine ⟨_, hs, by simp [pcs_len], ?_⟩
  rcases List.eq_nil_or_concat l with rfl | ⟨l', p, rfl⟩
  · have := h.lo
    simp at this
  · rw [List.concat_eq_append] at h ⊢
    have hlen : (l' ++ [p]).length = l'.length + 1 := by simp
    obtain ⟨h1, h2⟩ := rp_cut h
    obtain ⟨h3, h4⟩ := rp_less h
    have hn : sN (pcs ((l' ++ [p]).length : Int) (l' ++ [p]) ++ [ByteArray.empty]) (l' ++ [p]).length = ptW p := by
      have e : pcs ((l' ++ [p]).length : Int) (l' ++ [p]) ++ [ByteArray.empty] = pcs ((l' ++ [p]).length : Int) l' ++ ptW p :: [ByteArray.empty] := by simp [pcs]
      rw [e, hlen, ← pcs_len ((l' ++ [p]).length : Int) l']
      exact sN_app2 _ _ _
    have z2 := size_snoc h2
    have z4 := size_snoc h4
    rw [ba_size] at z4
    have e1 : ([10] : List UInt8).length = 1 := rfl
    rw [e1] at z2
    rw [hn]
    refine ⟨by omega, ?_, ?_⟩
    · rw [ex_pre h2 (by rw [e1]; omega), h1, hlen]
    · have h5 : (prF (l' ++ [p])).data.toList = (jnB 10 (pcs ((l' ++ [p]).length : Int) l' ++ [ByteArray.empty])).data.toList ++ ((ptW p).data.toList ++ [10]) := by rw [h2, h4, List.append_assoc]
      rw [ex_pre h5 (by rw [List.length_append, ba_size, e1]; omega), h3, hlen]

set_option maxHeartbeats 8000000 in
/-- genlocklaw02.ColourBack -/
theorem lBack_c (A : Option Addr) (c : Nat) (l : List Pt) (hmax : l.length ≤ maxLen) (s : ByteArray) (hsm : s.size ≤ maxLen) (w : World) (hr : Rd w A (l.flatMap ptC)) (hO : Ot w) (hP : Pw w) (hM : Mx w) : Calls Tryz.prog 18 #[.slice A l.length c, .string s] w fun r w' => r = .returned (.bool true) ∧ Below w.heap.size w w' := by
  refine calls_of (args := [.slice A l.length c, .string s]) T_ok Tryz.func18 rfl Tryz.ntmps18 (Nat.le_of_ble_eq_true rfl) rfl ?_
  have hmax2 := hmax
  unfold maxLen at hsm hmax2
  by_cases hB : curveE l = 0
  · have hok := curve_ok.1 hB
    have hhi := hok.hi
    have hl : l.length ≤ 1000000 := by omega
    by_cases hA : 300 < s.size
    · repeat' (first
 | (refine C_id ?_; first
 | refine C_seq ?_
 | refine C_region rfl ?_
 | refine C_ret0 ?_
 | (refine C_cond rfl obQ (fun h => ?_) (fun h => ?_) <;> (try simp only [Bool.or_eq_true, Bool.and_eq_true, Bool.or_eq_false_iff, Bool.and_eq_false_iff, decide_eq_true_eq, decide_eq_false_iff_not, beq_iff_eq, bne_iff_ne, beq_eq_false_iff_ne, bne_eq_false_iff_eq, ne_eq, Decidable.not_not, List.cons.injEq, and_true, Bool.not_eq_true', Bool.not_eq_false', Int.not_lt, Int.not_le] at h) <;> (try (exfalso; omega)) <;> (try (exfalso; simp at h; done)) <;> (try (exfalso; simp only [not_true_eq_false, false_or, or_false] at h; omega)) <;> (try contradiction))
       )
 | (refine S_id ?_; first
 | ((with_reducible (first | refine S_falseN ?_ ?_ | refine S_falseB ?_ ?_ | refine S_falseL ?_ ?_ | refine S_falseD ?_ ?_ | refine S_falseE ?_ ?_)); · (first | rfl | omega | exact decide_eq_false (by omega) | (rw [beq_eq_false_iff_ne]; first | assumption | omega) | (rw [bne_eq_false_iff_eq]; first | rfl | assumption | omega)))
 | refine S_unG rfl rfl rfl rfl ?_
 | refine S_nil ?_
 | refine S_runN rfl rfl obQ obQ ?_
 | refine S_call (f := 20) rfl obQ (by kernel_rfl) (fun w hw => awake_c w (hw.rdm hO.toS memQ) (Pw_at hP hw memQ)) ?_
 | refine S_call (f := 26) rfl obQ (by kernel_rfl) (fun w hw => tck_as hB hmax (hw.rdm hr.toS memQ)) ?_
       )
 | (refine G_id ?_; first
 | refine G_then ?_
 | refine G_thenR ?_
 | refine G_ret rfl obQ (fun w hw => ⟨?_, hw.below⟩)
       )
       )
      all_goals rfl
    have hpr : prR l = (prF l, 0) := if_pos hB
    have hrp1 := rp_pr hok
    obtain ⟨ls, hls, hln, hbd, hrp3, hrp4⟩ := back_facts hok
    have hpz := prF_size hok
    have hz0 : (prF l).size ≤ 1000000 := by omega
    have hz1 : ((prF l).extract 0 ((prF l).size - 1)).size ≤ 1000000 := by rw [ByteArray.size_extract]; omega
    have hz2 : ((prF l).extract 0 ((prF l).size - 1 - (sN ls l.length).size)).size ≤ 1000000 := by rw [ByteArray.size_extract]; omega
    have hz3 : s.size ≤ 1000000 := by omega
    have hj1 : ((prF l).size : Int) - 1 = (((prF l).size - 1 : Nat) : Int) := by omega
    have hj1b : (prF l).size - 1 ≤ (prF l).size := by omega
    have hj2 : ((prF l).size : Int) - 1 - ((sN ls l.length).size : Int) = (((prF l).size - 1 - (sN ls l.length).size : Nat) : Int) := by omega
    have hj2b : (prF l).size - 1 - (sN ls l.length).size ≤ (prF l).size := by omega
    have hpr0 : prF l = prF l := rfl
    generalize hSS0 : prF l = S at hpr hrp1 hls hbd hrp3 hrp4 hz0 hz1 hz2 hj1 hj1b hj2 hj2b
    obtain ⟨S1, hS1⟩ : ∃ x, S.extract 0 (S.size - 1) = x := ⟨_, rfl⟩
    obtain ⟨S2, hS2⟩ : ∃ x, S.extract 0 (S.size - 1 - (sN ls l.length).size) = x := ⟨_, rfl⟩
    rw [hS1] at hrp3 hz1
    rw [hS2] at hrp4 hz2
    clear hpr0 hSS0
    obtain ⟨LW, hLW⟩ : ∃ x, sN ls l.length = x := ⟨_, rfl⟩
    have hld := sN_ld (l := ls) (k := l.length) (m := ((l.length : Nat) : Int).toNat * 1) (by omega) (by omega)
    rw [hLW] at hbd hj2 hj2b hS2 hld
    rcases hrp2 : rpR s with ⟨y, n2, e2⟩
    by_cases he : e2 = 0
    · rw [he] at hrp2
      obtain ⟨hpq, hyE⟩ := pr_rp hrp2
      have hpy : prR y = (s, 0) := by rw [← hpq]; exact if_pos hyE
      replace hpq : s = s := rfl
      have hyl : y.length ≤ 1000000 := by have := (curve_ok.1 hyE).hi; omega
      repeat' (first
 | (refine C_id ?_; first
 | refine C_seq ?_
 | refine C_region rfl ?_
 | refine C_skip ?_
 | refine C_ret0 ?_
 | refine C_condT rfl obQ ?_
 | refine C_condF rfl obQ ?_
 | (refine C_cond rfl obQ (fun h => ?_) (fun h => ?_) <;> (try simp only [Bool.or_eq_true, Bool.and_eq_true, Bool.or_eq_false_iff, Bool.and_eq_false_iff, decide_eq_true_eq, decide_eq_false_iff_not, beq_iff_eq, bne_iff_ne, beq_eq_false_iff_ne, bne_eq_false_iff_eq, ne_eq, Decidable.not_not, List.cons.injEq, and_true, Bool.not_eq_true', Bool.not_eq_false', Int.not_lt, Int.not_le] at h) <;> (try (exfalso; omega)) <;> (try (exfalso; simp at h; done)) <;> (try (exfalso; simp only [not_true_eq_false, false_or, or_false] at h; omega)) <;> (try contradiction))
       )
 | (refine S_id ?_; first
 | ((with_reducible (first | refine S_falseN ?_ ?_ | refine S_falseB ?_ ?_ | refine S_falseL ?_ ?_ | refine S_falseD ?_ ?_ | refine S_falseE ?_ ?_)); · (first | rfl | omega | exact decide_eq_false (by omega) | (rw [beq_eq_false_iff_ne]; first | assumption | omega) | (rw [bne_eq_false_iff_eq]; first | rfl | assumption | omega)))
 | ((with_reducible refine S_falseO ?_ ?_ ?_); (· rfl); (· first | rfl | (first | rfl | omega | exact decide_eq_false (by omega) | (rw [beq_eq_false_iff_ne]; first | assumption | omega) | (rw [bne_eq_false_iff_eq]; first | rfl | assumption | omega))))
 | ((with_reducible (first | refine S_trueE ?_ ?_ | refine S_trueB ?_ ?_ | refine S_trueL ?_ ?_ | refine S_trueD ?_ ?_ | refine S_trueN ?_ ?_)); · (first | exact beq_self_eq_true _ | rfl | exact decide_eq_true (by omega) | (rw [beq_iff_eq]; omega) | (rw [bne_iff_ne]; first | assumption | omega)))
 | ((with_reducible refine S_trueA ?_ ?_ ?_); (· rfl); (· first | rfl | (first | exact beq_self_eq_true _ | rfl | exact decide_eq_true (by omega) | (rw [beq_iff_eq]; omega) | (rw [bne_iff_ne]; first | assumption | omega))))
 | refine S_unG rfl rfl rfl rfl ?_
 | (refine S_callM (f := 22) rfl obQ (by kernel_rfl) (fun w hw => lcurve_c A c l hl w (hw.rdm hr.toS memQ)) (fun w1C w2C vC hw1C hbC hRC => ?_); obtain ⟨AC, cC, rfl, hSC⟩ := hRC)
 | (refine S_callM (f := 103) rfl obQ (by kernel_rfl) (fun w hw => parse_as hrp1 rfl hz0 (Mx_at hM hw memQ)) (fun w1P w2P vP hw1P hbP hRP => ?_); obtain ⟨AP, cP, rfl, hSP⟩ := hRP)
 | (refine S_callM (f := 103) rfl obQ (by kernel_rfl) (fun w hw => parse_as hrp2 rfl hz3 (Mx_at hM hw memQ)) (fun w1Y w2Y vY hw1Y hbY hRY => ?_); obtain ⟨AY, cY, rfl, hSY⟩ := hRY)
 | (refine S_callM (f := 103) rfl obQ (by kernel_rfl) (fun w hw => parse_as hrp3 rfl hz1 (Mx_at hM hw memQ)) (fun w1U w2U vU hw1U hbU hRU => ?_); obtain ⟨AU, cU, rfl, hSU⟩ := hRU)
 | (refine S_callM (f := 103) rfl obQ (by kernel_rfl) (fun w hw => parse_as hrp4 rfl hz2 (Mx_at hM hw memQ)) (fun w1V w2V vV hw1V hbV hRV => ?_); obtain ⟨AV, cV, rfl, hSV⟩ := hRV)
 | (refine S_callM (f := 106) rfl obQ (by kernel_rfl) (fun w hw => rSplit_as2 hls hln hz0 (by decide) w) (fun w1S w2S vS hw1S hbS hRS => ?_); obtain ⟨AS, cS, rfl, hSS⟩ := hRS; obtain ⟨aS, rfl⟩ := rdS_some hSS (by simp; omega))
 | (refine S_callM (f := 37) rfl obQ (by kernel_rfl) (fun w hw => tpoints_as rfl hl (hw.rdm hSP memQ)) (fun w1Q w2Q vQ hw1Q hbQ hRQ => ?_); obtain ⟨AQ, cQ, rfl, hSQ⟩ := hRQ)
 | refine S_pure (sliceX_pure (lo := none) (hi := some _) rfl obQ (fun w' => sl_uptoE (X := ⟨Tryz.prog, T, T_ok, 136, w.heap.size, w, [], none⟩) rfl rfl hS1 _ hj1 hj1b w')) ?_
 | refine S_pure (sliceX_pure (lo := none) (hi := some _) rfl obQ (fun w' => sl_uptoE (X := ⟨Tryz.prog, T, T_ok, 136, w.heap.size, w, [], none⟩) rfl rfl hS2 _ hj2 hj2b w')) ?_
 | refine S_load rfl obQ rfl [.string LW] (.past (w2S, fun b => w1S.heap.size ≤ b ∧ b < w2S.heap.size) memQ _ _ hSS _ _ rfl rfl hld) rfl (.inr ⟨rfl, rfl⟩) ?_
 | refine S_nil ?_
 | refine S_runN rfl rfl obQ obQ ?_
 | refine S_call (f := 20) rfl obQ (by kernel_rfl) (fun w hw => awake_c w (hw.rdm hO.toS memQ) (Pw_at hP hw memQ)) ?_
 | refine S_call (f := 26) rfl obQ (by kernel_rfl) (fun w hw => tck_as hB hmax (hw.rdm hr.toS memQ)) ?_
 | refine S_call (f := 102) rfl obQ (by kernel_rfl) (fun w hw => print_as hpr hl (hw.rdm hSC memQ) (Pw_at hP hw memQ)) ?_
 | refine S_call (f := 102) rfl obQ (by kernel_rfl) (fun w hw => print_as hpy hyl (hw.rdm hSY memQ) (Pw_at hP hw memQ)) ?_
 | refine S_call (f := 36) rfl obQ (by kernel_rfl) (fun w hw => sameCurveT_c _ _ _ _ _ _ rfl hl w (hw.rdm hSQ memQ) (hw.rdm hr.toS memQ)) ?_
       )
 | (refine G_id ?_; first
 | refine G_then ?_
 | refine G_ret rfl obQ (fun w2 hw => ⟨?_, hw.below⟩)
       )
       )
      all_goals rfl
    · have hpq : s = s := rfl
      repeat' (first
 | (refine C_id ?_; first
 | refine C_seq ?_
 | refine C_region rfl ?_
 | refine C_skip ?_
 | refine C_ret0 ?_
 | refine C_condF rfl obQ ?_
 | (refine C_cond rfl obQ (fun h => ?_) (fun h => ?_) <;> (try simp only [Bool.or_eq_true, Bool.and_eq_true, Bool.or_eq_false_iff, Bool.and_eq_false_iff, decide_eq_true_eq, decide_eq_false_iff_not, beq_iff_eq, bne_iff_ne, beq_eq_false_iff_ne, bne_eq_false_iff_eq, ne_eq, Decidable.not_not, List.cons.injEq, and_true, Bool.not_eq_true', Bool.not_eq_false', Int.not_lt, Int.not_le] at h) <;> (try (exfalso; omega)) <;> (try (exfalso; simp at h; done)) <;> (try (exfalso; simp only [not_true_eq_false, false_or, or_false] at h; omega)) <;> (try contradiction))
       )
 | (refine S_id ?_; first
 | ((with_reducible (first | refine S_falseN ?_ ?_ | refine S_falseB ?_ ?_ | refine S_falseL ?_ ?_ | refine S_falseD ?_ ?_ | refine S_falseE ?_ ?_)); · (first | rfl | omega | exact decide_eq_false (by omega) | (rw [beq_eq_false_iff_ne]; first | assumption | omega) | (rw [bne_eq_false_iff_eq]; first | rfl | assumption | omega)))
 | ((with_reducible refine S_falseO ?_ ?_ ?_); (· rfl); (· first | rfl | (first | rfl | omega | exact decide_eq_false (by omega) | (rw [beq_eq_false_iff_ne]; first | assumption | omega) | (rw [bne_eq_false_iff_eq]; first | rfl | assumption | omega))))
 | ((with_reducible (first | refine S_trueE ?_ ?_ | refine S_trueB ?_ ?_ | refine S_trueL ?_ ?_ | refine S_trueD ?_ ?_ | refine S_trueN ?_ ?_)); · (first | exact beq_self_eq_true _ | rfl | exact decide_eq_true (by omega) | (rw [beq_iff_eq]; omega) | (rw [bne_iff_ne]; first | assumption | omega)))
 | ((with_reducible refine S_trueA ?_ ?_ ?_); (· rfl); (· first | rfl | (first | exact beq_self_eq_true _ | rfl | exact decide_eq_true (by omega) | (rw [beq_iff_eq]; omega) | (rw [bne_iff_ne]; first | assumption | omega))))
 | refine S_unG rfl rfl rfl rfl ?_
 | (refine S_callM (f := 22) rfl obQ (by kernel_rfl) (fun w hw => lcurve_c A c l hl w (hw.rdm hr.toS memQ)) (fun w1C w2C vC hw1C hbC hRC => ?_); obtain ⟨AC, cC, rfl, hSC⟩ := hRC)
 | (refine S_callM (f := 103) rfl obQ (by kernel_rfl) (fun w hw => parse_as hrp1 rfl hz0 (Mx_at hM hw memQ)) (fun w1P w2P vP hw1P hbP hRP => ?_); obtain ⟨AP, cP, rfl, hSP⟩ := hRP)
 | (refine S_callM (f := 103) rfl obQ (by kernel_rfl) (fun w hw => parse_as hrp2 rfl hz3 (Mx_at hM hw memQ)) (fun w1Y w2Y vY hw1Y hbY hRY => ?_); obtain ⟨AY, cY, rfl, hSY⟩ := hRY)
 | (refine S_callM (f := 103) rfl obQ (by kernel_rfl) (fun w hw => parse_as hrp3 rfl hz1 (Mx_at hM hw memQ)) (fun w1U w2U vU hw1U hbU hRU => ?_); obtain ⟨AU, cU, rfl, hSU⟩ := hRU)
 | (refine S_callM (f := 103) rfl obQ (by kernel_rfl) (fun w hw => parse_as hrp4 rfl hz2 (Mx_at hM hw memQ)) (fun w1V w2V vV hw1V hbV hRV => ?_); obtain ⟨AV, cV, rfl, hSV⟩ := hRV)
 | (refine S_callM (f := 106) rfl obQ (by kernel_rfl) (fun w hw => rSplit_as2 hls hln hz0 (by decide) w) (fun w1S w2S vS hw1S hbS hRS => ?_); obtain ⟨AS, cS, rfl, hSS⟩ := hRS; obtain ⟨aS, rfl⟩ := rdS_some hSS (by simp; omega))
 | (refine S_callM (f := 37) rfl obQ (by kernel_rfl) (fun w hw => tpoints_as rfl hl (hw.rdm hSP memQ)) (fun w1Q w2Q vQ hw1Q hbQ hRQ => ?_); obtain ⟨AQ, cQ, rfl, hSQ⟩ := hRQ)
 | refine S_pure (sliceX_pure (lo := none) (hi := some _) rfl obQ (fun w' => sl_uptoE (X := ⟨Tryz.prog, T, T_ok, 136, w.heap.size, w, [], none⟩) rfl rfl hS1 _ hj1 hj1b w')) ?_
 | refine S_pure (sliceX_pure (lo := none) (hi := some _) rfl obQ (fun w' => sl_uptoE (X := ⟨Tryz.prog, T, T_ok, 136, w.heap.size, w, [], none⟩) rfl rfl hS2 _ hj2 hj2b w')) ?_
 | refine S_load rfl obQ rfl [.string LW] (.past (w2S, fun b => w1S.heap.size ≤ b ∧ b < w2S.heap.size) memQ _ _ hSS _ _ rfl rfl hld) rfl (.inr ⟨rfl, rfl⟩) ?_
 | refine S_nil ?_
 | refine S_runN rfl rfl obQ obQ ?_
 | refine S_call (f := 20) rfl obQ (by kernel_rfl) (fun w hw => awake_c w (hw.rdm hO.toS memQ) (Pw_at hP hw memQ)) ?_
 | refine S_call (f := 26) rfl obQ (by kernel_rfl) (fun w hw => tck_as hB hmax (hw.rdm hr.toS memQ)) ?_
 | refine S_call (f := 102) rfl obQ (by kernel_rfl) (fun w hw => print_as hpr hl (hw.rdm hSC memQ) (Pw_at hP hw memQ)) ?_
 | refine S_call (f := 36) rfl obQ (by kernel_rfl) (fun w hw => sameCurveT_c _ _ _ _ _ _ rfl hl w (hw.rdm hSQ memQ) (hw.rdm hr.toS memQ)) ?_
       )
 | (refine G_id ?_; first
 | refine G_then ?_
 | refine G_ret rfl obQ (fun w2 hw => ⟨?_, hw.below⟩)
       )
       )
      all_goals rfl
  · repeat' (first
 | (refine C_id ?_; first
 | refine C_seq ?_
 | refine C_region rfl ?_
 | refine C_ret0 ?_
 | refine C_condT rfl obQ ?_
     )
 | (refine S_id ?_; first
 | ((with_reducible (first | refine S_trueE ?_ ?_ | refine S_trueB ?_ ?_ | refine S_trueL ?_ ?_ | refine S_trueD ?_ ?_ | refine S_trueN ?_ ?_)); · (first | exact beq_self_eq_true _ | rfl | exact decide_eq_true (by omega) | (rw [beq_iff_eq]; omega) | (rw [bne_iff_ne]; first | assumption | omega)))
 | refine S_offG (.v (.bool false)) rfl rfl rfl rfl rfl ?_
 | refine S_nil ?_
 | refine S_runN rfl rfl obQ obQ ?_
 | refine S_call (f := 20) rfl obQ (by kernel_rfl) (fun w hw => awake_c w (hw.rdm hO.toS memQ) (Pw_at hP hw memQ)) ?_
 | refine S_call (f := 26) rfl obQ (by kernel_rfl) (fun w hw => tck_as (e := curveE l) rfl hmax (hw.rdm hr.toS memQ)) ?_
     )
 | (refine G_id ?_; first
 | refine G_then ?_
 | refine G_thenR ?_
 | refine G_ret rfl obQ (fun w hw => ⟨?_, hw.below⟩)
     )
     )
    all_goals rfl

end Go.Proofs.YtdbffbcobghbeaaGreatDoor
