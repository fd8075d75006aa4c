/- Composite signals: checks, signals encoded. -/
import Derived.Test.YtedlaominconaaaTops4
namespace Go.Proofs.Ytedlaominconaaa
open Go.E Go.RowKit Go.Fl
attribute [local irreducible] G C S D Calls
set_option maxRecDepth 100000
set_option linter.unusedSimpArgs false
set_option linter.unusedVariables false

/-- The levels of a signal. -/
def enI (s : Int) (is us vs : List Int) : List Int := (List.range is.length).map fun k => gI is k + gI (carL s us vs us.length) k
theorem enI_len (s : Int) (is us vs : List Int) : (enI s is us vs).length = is.length := by simp [enI]
theorem dints_as {A : Option Addr} {c n m : Nat} {l : List Nat} {is : List Int} (hi : l.map lvl = is) (hn : l.length = n) (hm : is.length = m) (hl : n ≤ 1000000) (hs : ∀ b ∈ l, Smp b) (w : World) (hr : Rd w A (l.map (.float .f32))) : Calls Try.prog 38 #[.slice A n c] w fun r w' => ∃ v, r = .returned v ∧ Below w.heap.size w w' ∧ Sl w w' v m (is.map (.int .i64)) := by
  subst hi hn hm
  have h := dintegers_c A c l hl hs w hr
  rw [List.length_map, List.map_map]
  exact h
theorem dcar_as {A B : Option Addr} {c c2 n k : Nat} {us vs : List Int} {s z : Int} (hn : us.length = n) (hm : vs.length = n) (hk : 4 * n = k) (hl : n ≤ 1000) (hs : sgL z = s) (hz : z = 0 ∨ z = 1) (hu : ∀ x ∈ us, -100000 ≤ x ∧ x ≤ 100000) (hv : ∀ x ∈ vs, -100000 ≤ x ∧ x ≤ 100000) (w : World) (hr : Rd w A (us.map (.int .i64))) (hr2 : Rd w B (vs.map (.int .i64))) :
    Calls Try.prog 71 #[.slice A n c, .slice B n c2, .int .i64 z] w fun r w' => ∃ v, r = .returned v ∧ Below w.heap.size w w' ∧ Sl w w' v k ((carL s us vs us.length).map (.int .i64)) := by
  subst hn hk hs
  exact dcarrier_c A B c c2 us vs hl hm.symm z hz hu hv w hr hr2
theorem dcomb_as {q : FuncId} {g : Int → Int → Int} {A B : Option Addr} {c c2 n : Nat} {a b : List Int} (ha : a.length = n) (hb : b.length = n) (hl : n ≤ 1000000) (he : entB Try.prog q = true) (w : World) (hr : Rd w A (a.map (.int .i64))) (hr2 : Rd w B (b.map (.int .i64))) (hg : ∀ k, k < n → ∀ W, Below w.heap.size w W → Calls Try.prog q #[.int .i64 (gI a k), .int .i64 (gI b k)] W fun e w' => e = .returned (.int .i64 (g (gI a k) (gI b k))) ∧ Below W.heap.size W w') :
    Calls Try.prog 70 #[.slice A n c, .slice B n c2, .func (.func q) #[] #[]] w fun r w' => ∃ v, r = .returned v ∧ Below w.heap.size w w' ∧ Sl w w' v n (((List.range a.length).map fun k => g (gI a k) (gI b k)).map (.int .i64)) := by
  subst ha
  exact dcombined_c q g A B c c2 a b hl hb.symm he w hr hr2 hg
theorem dsmp_as {A : Option Addr} {c n : Nat} {l : List Int} (hn : l.length = n) (hl : n ≤ 1000000) (hb : ∀ x ∈ l, -16384 ≤ x ∧ x ≤ 16384) (w : World) (hr : Rd w A (l.map (.int .i64))) : Calls Try.prog 69 #[.slice A n c] w fun r w' => ∃ v, r = .returned v ∧ Below w.heap.size w w' ∧ Sl2 w w' v n ((l.map smp).map (.float .f32)) (.int .i64 0) := by
  subst hn
  have h := dsamples_c A c l hl hb w hr
  rw [List.map_map]
  exact h
/-- Parts that are right. -/
structure PtOk (L U V : List Nat) : Prop where
  n : L.length = 4 * U.length
  v : V.length = U.length
  m : U.length ≤ 64
  sl : ∀ b ∈ L, Smp b
  su : ∀ b ∈ U, Smp b
  sv : ∀ b ∈ V, Smp b
theorem lv_bd {U : List Nat} (h : ∀ b ∈ U, Smp b) : ∀ x ∈ U.map lvl, -100000 ≤ x ∧ x ≤ 100000 := fun x hx => by
  obtain ⟨b, hb, rfl⟩ := List.mem_map.1 hx
  have := (h b hb).lv
  omega
theorem smp_all {l : List Int} (h : ∀ x ∈ l, -16384 ≤ x ∧ x ≤ 16384) : ∀ b ∈ l.map smp, Smp b := fun b hb => by
  obtain ⟨x, hx, rfl⟩ := List.mem_map.1 hb
  exact smp_Smp (h x hx)

set_option maxHeartbeats 400000 in
/-- composite.CheckSignal -/
theorem dcheckSignal_c (A : Option Addr) (c : Nat) (l : List Nat) (hl : l.length ≤ 256) (h4 : l.length % 4 = 0) (hs : ∀ b ∈ l, Smp b) (w : World) (hr : Rd w A (l.map (.float .f32))) : Calls Try.prog 36 #[.slice A l.length c] w fun r w' => r = .returned (.int .i64 0) ∧ Below w.heap.size w w' := by
  have ht : (l.length : Int).tmod 4 = 0 := by rw [Int.tmod_eq_emod_of_nonneg (by omega)]; omega
  have hE : firstL [wh (decide ((256 : Int) < (l.length : Int))) 5, wh ((l.length : Int).tmod 4 != 0) 2] = 0 := by rw [decide_eq_false (by omega), ht]; rfl
  refine calls_of (args := [.slice A l.length c]) T_ok Try.func36 rfl Try.ntmps36 (Nat.le_of_ble_eq_true rfl) rfl ?_
  repeat' (first
 | (refine C_id ?_; first
 | refine C_seq ?_
 | refine C_region rfl ?_
 | refine C_skip ?_
 | refine C_ret0 ?_
 | refine C_condF rfl obQ ?_
 )
 | (refine S_id ?_; first
 | refine S_nil ?_
 | refine S_run rfl rfl obQ obQ ?_
 | refine S_slice (fun b => ⟨_, _, rfl, obQ, ?_⟩)
 | refine S_call (f := 67) rfl obQ (by kernel_rfl) (fun w hw => dwhen_c _ _ w) ?_
 | refine S_call (f := 27) rfl obQ (by kernel_rfl) (fun w hw => dfirstE_c (l := [wh (decide ((256 : Int) < (l.length : Int))) 5, wh ((l.length : Int).tmod 4 != 0) 2]) hE (by simp) rfl w (.inr ⟨_, rfl, hw.src (i := 0) rfl rfl⟩)) ?_
 | refine S_call (f := 68) rfl obQ (by kernel_rfl) (fun w hw => dcheckSamples_c A c l (by omega) hs w (hw.rdm hr.toS memQ)) ?_
 )
 | (refine G_id ?_; first
 | refine G_then ?_
 | refine G_ret rfl obQ (fun w hw => ⟨?_, hw.below⟩)
 )
 )
  rfl

set_option maxHeartbeats 400000 in
/-- composite.Parts).size -/
theorem dsize_c (A B C : Option Addr) (c c2 c3 n m k : Nat) (w : World) : Calls Try.prog 66 #[.agg #[.slice A n c, .slice B m c2, .slice C k c3]] w fun r w' => r = .returned (.int .i64 n) ∧ Below w.heap.size w w' := by
  refine calls_of (args := [.agg #[.slice A n c, .slice B m c2, .slice C k c3]]) T_ok Try.func66 rfl Try.ntmps66 (Nat.le_of_ble_eq_true rfl) rfl ?_
  repeat' (first
 | (refine C_id ?_; first
 | refine C_seq ?_
 | refine C_region rfl ?_
 | refine C_block ?_
 | refine C_skip ?_
 | refine C_ret0 ?_
 | (refine C_cond rfl obQ (fun h => ?_) (fun h => ?_) <;> (try simp only [Bool.or_eq_true, Bool.and_eq_true, Bool.or_eq_false_iff, Bool.and_eq_false_iff, decide_eq_true_eq, decide_eq_false_iff_not, beq_iff_eq, bne_iff_ne, beq_eq_false_iff_ne, bne_eq_false_iff_eq, ne_eq, Decidable.not_not, List.cons.injEq, and_true, Bool.not_eq_true', Bool.not_eq_false', Int.not_lt, Int.not_le] at h))
 )
 | (refine S_id ?_; first
 | refine S_nil ?_
 | refine S_run rfl rfl obQ obQ ?_
 | refine S_box (fun b => ⟨_, _, rfl, obQ, ?_⟩)
 )
 | (refine G_id ?_; first
 | refine G_then ?_
 | refine G_thenR ?_
 | refine G_ret rfl obQ (fun w hw => ⟨?_, hw.below⟩)
 )
 )
  rfl

set_option maxHeartbeats 400000 in
/-- composite.CheckParts -/
theorem dcheckParts_c (A B C : Option Addr) (c c2 c3 : Nat) (L U V : List Nat) (hP : PtOk L U V) (w : World) (hr : Rd w A (L.map (.float .f32))) (hr2 : Rd w B (U.map (.float .f32))) (hr3 : Rd w C (V.map (.float .f32))) : Calls Try.prog 28 #[.agg #[.slice A L.length c, .slice B U.length c2, .slice C V.length c3]] w fun r w' => r = .returned (.int .i64 0) ∧ Below w.heap.size w w' := by
  have hn := hP.n
  have hv := hP.v
  have hm := hP.m
  have ht : (L.length : Int).tdiv 4 = U.length := by rw [Int.tdiv_eq_ediv_of_nonneg (by omega)]; omega
  have hE : firstL [0, wh ((U.length : Int) != (L.length : Int).tdiv 4) 2, wh ((V.length : Int) != (L.length : Int).tdiv 4) 2] = 0 := by rw [ht, hv]; simp [wh, firstL]
  refine calls_of (args := [.agg #[.slice A L.length c, .slice B U.length c2, .slice C V.length c3]]) T_ok Try.func28 rfl Try.ntmps28 (Nat.le_of_ble_eq_true rfl) rfl ?_
  repeat' (first
 | (refine C_id ?_; first
 | refine C_seq ?_
 | refine C_region rfl ?_
 | refine C_skip ?_
 | refine C_ret0 ?_
 | refine C_drawV (id := 2) 14 [(0, true), (1, true), (3, true), (4, true), (5, true), (6, true), (7, true), (9, true), (10, true), (11, true), (12, true), (13, true), (2, false), (8, false)] rfl mixed (by kernel_rfl) rfl ?_
 | refine C_drawV (id := 5) 5 [(0, true), (1, true), (3, true), (4, true), (2, false)] rfl mixed (by kernel_rfl) rfl ?_
 | refine C_condF rfl obQ ?_
 )
 | (refine S_id ?_; first
 | refine S_pure (binX_pure rfl obQ (fun w => quo_nz _ _ _ (by omega) (by omega) w)) ?_
 | refine S_nil ?_
 | refine S_run rfl rfl obQ obQ ?_
 | refine S_box (fun b => ⟨_, _, rfl, obQ, ?_⟩)
 | refine S_slice (fun b => ⟨_, _, rfl, obQ, ?_⟩)
 | refine S_call (f := 66) rfl obQ (by kernel_rfl) (fun w hw => dsize_c A B C c c2 c3 _ _ _ w) ?_
 | refine S_call (f := 36) rfl obQ (by kernel_rfl) (fun w hw => dcheckSignal_c A c L (by omega) (by omega) hP.sl w (hw.rdm hr.toS memQ)) ?_
 | refine S_call (f := 67) rfl obQ (by kernel_rfl) (fun w hw => dwhen_c _ _ w) ?_
 | refine S_call (f := 68) rfl obQ (by kernel_rfl) (fun w hw => dcheckSamples_c B c2 U (by omega) hP.su w (hw.rdm hr2.toS memQ)) ?_
 | refine S_call (f := 68) rfl obQ (by kernel_rfl) (fun w hw => dcheckSamples_c C c3 V (by omega) hP.sv w (hw.rdm hr3.toS memQ)) ?_
 | refine S_call (f := 27) rfl obQ (by kernel_rfl) (fun w hw => dfirstE_c (l := [0, wh ((U.length : Int) != (L.length : Int).tdiv 4) 2, wh ((V.length : Int) != (L.length : Int).tdiv 4) 2]) hE (by simp) rfl w (.inr ⟨_, rfl, hw.src (i := 1) rfl rfl⟩)) ?_
 | refine S_call (f := 27) rfl obQ (by kernel_rfl) (fun w hw => dfirstE_c (l := [0, 0]) (e := 0) rfl (by simp) rfl w (.inr ⟨_, rfl, hw.src (i := 2) rfl rfl⟩)) ?_
 )
 | (refine V_id ?_; first
 | refine V_nil ?_
 | refine V_q rfl (Yl_step rfl obQ) ?_
 | refine V_n rfl ?_
 )
 | (refine G_id ?_; first
 | refine G_V ⟨⟨_, rfl, trivial⟩, ⟨_, rfl⟩, rfl, pstQ⟩ rfl ?_
 | refine G_then ?_
 | refine G_ret rfl obQ (fun w hw => ⟨?_, hw.below⟩)
 )
 )
  rfl

set_option maxHeartbeats 1000000 in
/-- composite.encoded -/
theorem dencoded_c (A B C : Option Addr) (c c2 c3 : Nat) (L U V : List Nat) (hP : PtOk L U V) (z : Int) (hz : z = 0 ∨ z = 1) (hb : ∀ x ∈ (enI (sgL z) (L.map lvl) (U.map lvl) (V.map lvl)), -16384 ≤ x ∧ x ≤ 16384) (w : World) (hr : Rd w A (L.map (.float .f32))) (hr2 : Rd w B (U.map (.float .f32))) (hr3 : Rd w C (V.map (.float .f32))) : Calls Try.prog 30 #[.agg #[.slice A L.length c, .slice B U.length c2, .slice C V.length c3], .int .i64 z] w fun r w' => ∃ v, r = .returned v ∧ Below w.heap.size w w' ∧ Sl2 w w' v L.length (((enI (sgL z) (L.map lvl) (U.map lvl) (V.map lvl)).map smp).map (.float .f32)) (.int .i64 0) := by
  have hn := hP.n
  have hv := hP.v
  have hm := hP.m
  have hcl : (carL (sgL z) (U.map lvl) (V.map lvl) (U.map lvl).length).length = L.length := by rw [carL_len, List.length_map, hn]
  have hpl : ∀ k, k < L.length → -1000000 ≤ gI (L.map lvl) k ∧ gI (L.map lvl) k ≤ 1000000 ∧ -1000000 ≤ gI (carL (sgL z) (U.map lvl) (V.map lvl) (U.map lvl).length) k ∧ gI (carL (sgL z) (U.map lvl) (V.map lvl) (U.map lvl).length) k ≤ 1000000 := fun k hk => by
    have h1 := lv_bd hP.sl _ (gI_mem (l := L.map lvl) (k := k) (by simpa using hk))
    have h2 := hb (gI (L.map lvl) k + gI (carL (sgL z) (U.map lvl) (V.map lvl) (U.map lvl).length) k) (List.mem_map.2 ⟨k, by simpa using hk, rfl⟩)
    omega
  refine calls_of (args := [.agg #[.slice A L.length c, .slice B U.length c2, .slice C V.length c3], .int .i64 z]) T_ok Try.func30 rfl Try.ntmps30 (Nat.le_of_ble_eq_true rfl) rfl ?_
  repeat' (first
 | (refine C_id ?_; first
 | refine C_seq ?_
 | refine C_region rfl ?_
 | refine C_ret0 ?_
 | refine C_drawV (id := 1) 15 [(0, true), (1, true), (3, true), (4, true), (6, true), (7, true), (9, true), (2, false), (5, false), (8, false), (10, false), (11, false), (12, false), (13, true), (14, true)] rfl mixed (by kernel_rfl) rfl ?_
 )
 | (refine S_id ?_; first
 | (refine S_callM (f := 38) rfl obQ (by kernel_rfl) (fun w hw => dints_as (l := L) rfl rfl (List.length_map ..) (by omega) hP.sl w (hw.rdm hr.toS memQ)) (fun w1X w2X vX hw1X hbX hRX => ?_); obtain ⟨AX, cX, rfl, hSX⟩ := hRX)
 | (refine S_callM (f := 38) rfl obQ (by kernel_rfl) (fun w hw => dints_as (l := U) rfl rfl (List.length_map ..) (by omega) hP.su w (hw.rdm hr2.toS memQ)) (fun w1Y w2Y vY hw1Y hbY hRY => ?_); obtain ⟨AY, cY, rfl, hSY⟩ := hRY)
 | (refine S_callM (f := 38) rfl obQ (by kernel_rfl) (fun w hw => dints_as (l := V) rfl rfl ((List.length_map ..).trans hv) (by omega) hP.sv w (hw.rdm hr3.toS memQ)) (fun w1V w2V vV hw1V hbV hRV => ?_); obtain ⟨AV, cV, rfl, hSV⟩ := hRV)
 | (refine S_callM (f := 71) rfl obQ (by kernel_rfl) (fun w hw => dcar_as (us := U.map lvl) (vs := V.map lvl) (List.length_map ..) ((List.length_map ..).trans hv) hn.symm (by omega) rfl hz (lv_bd hP.su) (lv_bd hP.sv) w (hw.rdm hSY memQ) (hw.rdm hSV memQ)) (fun w1C w2C vC hw1C hbC hRC => ?_); obtain ⟨AC, cC, rfl, hSC⟩ := hRC)
 | (refine S_callM (f := 70) rfl obQ (by kernel_rfl) (fun w hw => dcomb_as (q := 72) (g := fun x y => x + y) (a := L.map lvl) (b := carL (sgL z) (U.map lvl) (V.map lvl) (U.map lvl).length) (List.length_map ..) hcl (by omega) (by kernel_rfl) w (hw.rdm hSX memQ) (hw.rdm hSC memQ) (fun k hk W _ => dplus_c _ _ (hpl k hk) W)) (fun w1D w2D vD hw1D hbD hRD => ?_); obtain ⟨AD, cD, rfl, hSD⟩ := hRD)
 | (refine S_callM (f := 69) rfl obQ (by kernel_rfl) (fun w hw => dsmp_as (l := (enI (sgL z) (L.map lvl) (U.map lvl) (V.map lvl))) (by rw [enI_len, List.length_map]) (by omega) hb w (hw.rdm hSD memQ)) (fun w1S w2S vS hw1S hbS hRS => ?_); obtain ⟨AS, cS, rfl, hSS⟩ := hRS)
 | refine S_nil ?_
 | refine S_run rfl rfl obQ obQ ?_
 | refine S_box (fun b => ⟨_, _, rfl, obQ, ?_⟩)
 )
 | (refine V_id ?_; first
 | refine V_nil ?_
 | refine V_q rfl (Yl_step rfl obQ) ?_
 | refine V_n rfl ?_
 )
 | (refine G_id ?_; first
 | refine G_V ⟨⟨_, rfl, trivial⟩, ⟨_, rfl⟩, rfl, pstQ⟩ rfl ?_
 | refine G_then ?_
 | refine G_ret rfl obQ (fun w2 hw => ⟨_, rfl, hw.below, Sl.two (HW.callSl hw hSS memQ hw1S.below.size) rfl⟩)
 )
 )

set_option maxHeartbeats 1000000 in
/-- composite.Encoded -/
theorem dEncoded_c (A B C : Option Addr) (c c2 c3 : Nat) (L U V : List Nat) (hP : PtOk L U V) (z : Int) (hz : z = 0 ∨ z = 1) (hb : ∀ x ∈ (enI (sgL z) (L.map lvl) (U.map lvl) (V.map lvl)), -16384 ≤ x ∧ x ≤ 16384) (w : World) (hr : Rd w A (L.map (.float .f32))) (hr2 : Rd w B (U.map (.float .f32))) (hr3 : Rd w C (V.map (.float .f32))) : Calls Try.prog 6 #[.agg #[.slice A L.length c, .slice B U.length c2, .slice C V.length c3], .int .i64 z] w fun r w' => ∃ v, r = .returned v ∧ Below w.heap.size w w' ∧ Sl2 w w' v L.length (((enI (sgL z) (L.map lvl) (U.map lvl) (V.map lvl)).map smp).map (.float .f32)) (.int .i64 0) := by
  have hwi : wi z 0 10000000 = 0 := by rw [wi_eq]; rcases hz with rfl | rfl <;> omega
  have hE : firstL [0, wi z 0 10000000] = 0 := by rw [hwi]; rfl
  refine calls_of (args := [.agg #[.slice A L.length c, .slice B U.length c2, .slice C V.length c3], .int .i64 z]) T_ok Try.func6 rfl Try.ntmps6 (Nat.le_of_ble_eq_true rfl) rfl ?_
  repeat' (first
 | (refine C_id ?_; first
 | refine C_seq ?_
 | refine C_region rfl ?_
 | refine C_skip ?_
 | refine C_ret0 ?_
 | refine C_condF rfl obQ ?_
 )
 | (refine S_id ?_; first
 | (refine S_callM (f := 30) rfl obQ (by kernel_rfl) (fun w hw => dencoded_c A B C c c2 c3 L U V hP z hz hb w (hw.rdm hr.toS memQ) (hw.rdm hr2.toS memQ) (hw.rdm hr3.toS memQ)) (fun w1S w2S vS hw1S hbS hRS => ?_); obtain ⟨AS, cS, rfl, hSS⟩ := hRS)
 | refine S_nil ?_
 | refine S_run rfl rfl obQ obQ ?_
 | refine S_box (fun b => ⟨_, _, rfl, obQ, ?_⟩)
 | refine S_slice (fun b => ⟨_, _, rfl, obQ, ?_⟩)
 | refine S_call (f := 28) rfl obQ (by kernel_rfl) (fun w hw => dcheckParts_c A B C c c2 c3 L U V hP w (hw.rdm hr.toS memQ) (hw.rdm hr2.toS memQ) (hw.rdm hr3.toS memQ)) ?_
 | refine S_call (f := 29) rfl obQ (by kernel_rfl) (fun w hw => dwithin_c _ _ _ w) ?_
 | refine S_call (f := 27) rfl obQ (by kernel_rfl) (fun w hw => dfirstE_c (l := [0, wi z 0 10000000]) hE (by simp) rfl w (.inr ⟨_, rfl, hw.src (i := 1) rfl rfl⟩)) ?_
 )
 | (refine G_id ?_; first
 | refine G_then ?_
 | refine G_ret rfl obQ (fun w2 hw => ⟨_, rfl, hw.below, Sl.two (HW.callSl hw hSS memQ hw1S.below.size) rfl⟩)
 )
 )

end Go.Proofs.Ytedlaominconaaa
