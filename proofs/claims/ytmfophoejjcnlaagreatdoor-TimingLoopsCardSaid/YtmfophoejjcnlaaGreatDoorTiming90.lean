/- The law of loops: the walk. -/
import Derived.Test.YtmfophoejjcnlaaGreatDoorTiming36
import Derived.Test.YtmfophoejjcnlaaGreatDoorTiming91
import Derived.Test.YtmfophoejjcnlaaGreatDoorTiming85
import Derived.Test.YtmfophoejjcnlaaGreatDoorEngAB
namespace Go.Proofs.YtmfophoejjcnlaaGreatDoor
open Go.E Go.RowKit
attribute [local irreducible] G C S D Calls
set_option maxRecDepth 100000
set_option linter.unusedSimpArgs false
set_option linter.unusedVariables false

set_option maxHeartbeats 400000 in
/-- genlocklaw04.net -/
theorem lNet1_c (A A2 B B2 : Option Addr) (c c2 c3 c4 n m : Nat) (e : Int) (he : e ≠ 0) (w : World) : Calls Tryz.prog 75 #[.agg #[.slice A 0 c, .slice A2 0 c2], .int .i64 e, .int .i64 e, .agg #[.slice B n c3, .slice B2 m c4]] w fun r w' => r = .returned (.bool true) ∧ Below w.heap.size w w' := by
  refine calls_of (args := [.agg #[.slice A 0 c, .slice A2 0 c2], .int .i64 e, .int .i64 e, .agg #[.slice B n c3, .slice B2 m c4]]) T_ok Tryz.func75 rfl Tryz.ntmps75 (Nat.le_of_ble_eq_true rfl) rfl ?_
  repeat' (first
 | (refine C_id ?_; first
 | refine C_condT rfl obQ ?_
 | refine C_condF rfl obQ ?_
 | refine C_seq ?_
 | refine C_region rfl ?_
 | refine C_block ?_
 | refine C_skip ?_
 | refine C_exit ?_
 | refine C_ret0 ?_
 | refine C_draw (id := 3) rfl mixed (by kernel_rfl) ?_
      )
 | (refine S_id ?_; first
 | ((with_reducible (first | refine S_falseN ?_ ?_ | refine S_falseB ?_ ?_ | refine S_falseL ?_ ?_ | refine S_falseD ?_ ?_ | refine S_falseE ?_ ?_)); · (first | exact decide_eq_false (by omega) | (rw [beq_eq_false_iff_ne]; omega) | (rw [bne_eq_false_iff_eq]; first | done | omega) | rfl))
 | ((with_reducible refine S_falseO ?_ ?_ ?_); (· rfl); (· first | rfl | (first | exact decide_eq_false (by omega) | (rw [beq_eq_false_iff_ne]; omega) | (rw [bne_eq_false_iff_eq]; first | done | omega) | rfl)))
 | ((with_reducible (first | refine S_trueE ?_ ?_ | refine S_trueB ?_ ?_ | refine S_trueL ?_ ?_ | refine S_trueD ?_ ?_ | refine S_trueN ?_ ?_)); · (first | exact decide_eq_true (by omega) | (rw [beq_iff_eq]; first | done | omega) | (rw [bne_iff_ne]; omega)))
 | ((with_reducible refine S_trueA ?_ ?_ ?_); (· rfl); (· first | rfl | (first | exact decide_eq_true (by omega) | (rw [beq_iff_eq]; first | done | omega) | (rw [bne_iff_ne]; omega))))
 | refine S_unG rfl rfl rfl rfl ?_
 | refine S_offG (.v (.bool false)) rfl rfl rfl rfl rfl ?_
 | ((with_reducible refine S_notV ?_ ?_); · rfl)
 | ((with_reducible refine S_falseA ?_ ?_); · first | rfl | (simp only [Bool.and_eq_false_iff, decide_eq_false_iff_not, beq_eq_false_iff_ne, bne_eq_false_iff_eq]; omega))
 | ((with_reducible refine S_trueO ?_ ?_); · first | rfl | (simp only [Bool.or_eq_true, decide_eq_true_eq, beq_iff_eq, bne_iff_ne]; omega))
 | refine S_nil ?_
 | refine S_runN rfl rfl obQ obQ ?_
 | refine S_box (fun b => ⟨_, _, rfl, obQ, ?_⟩)
      )
 | (refine D_id ?_; first
 | refine D_nil ?_
 | refine D_tail ?_
 | refine D_run rfl rfl obQ obQ ?_
      )
 | (refine G_id ?_; first
 | refine G_then ?_
 | refine G_block ?_
 | refine G_blockX ?_
 | refine G_blockN rfl ?_
 | refine G_blockR ?_
 | refine G_thenR ?_
 | refine G_thenX ?_
 | refine G_ret rfl obQ (fun w2 hw => ⟨?_, hw.below⟩)
      )
    )
  all_goals rfl

set_option maxHeartbeats 400000 in
/-- genlocklaw04.net -/
theorem lNet2_c (A A2 B B2 : Option Addr) (c c2 c3 c4 : Nat) (names : List ByteArray) (es : List Edg) (hn : names.length ≤ 1000000) (hm : es.length ≤ 1000000) (w : World) (hr : Rd w A (names.map .string)) (hr2 : Rd w A2 (es.flatMap edC)) (hr3 : Rd w B (names.map .string)) (hr4 : Rd w B2 (es.flatMap edC)) : Calls Tryz.prog 75 #[.agg #[.slice A names.length c, .slice A2 es.length c2], .int .i64 0, .int .i64 0, .agg #[.slice B names.length c3, .slice B2 es.length c4]] w fun r w' => r = .returned (.bool true) ∧ Below w.heap.size w w' := by
  refine calls_of (args := [.agg #[.slice A names.length c, .slice A2 es.length c2], .int .i64 0, .int .i64 0, .agg #[.slice B names.length c3, .slice B2 es.length c4]]) T_ok Tryz.func75 rfl Tryz.ntmps75 (Nat.le_of_ble_eq_true rfl) rfl ?_
  repeat' (first
 | (refine C_id ?_; first
 | refine C_condT rfl obQ ?_
 | refine C_condF rfl obQ ?_
 | refine C_seq ?_
 | refine C_region rfl ?_
 | refine C_block ?_
 | refine C_skip ?_
 | refine C_exit ?_
 | refine C_ret0 ?_
 | refine C_drawV (id := 3) 6 [(0, true), (1, true), (2, true), (3, true), (5, true), (4, false)] rfl mixed (by kernel_rfl) rfl ?_
      )
 | (refine S_id ?_; first
 | ((with_reducible (first | refine S_falseN ?_ ?_ | refine S_falseB ?_ ?_ | refine S_falseL ?_ ?_ | refine S_falseD ?_ ?_ | refine S_falseE ?_ ?_)); · (first | exact decide_eq_false (by omega) | (rw [beq_eq_false_iff_ne]; omega) | (rw [bne_eq_false_iff_eq]; first | done | omega) | rfl))
 | ((with_reducible refine S_falseO ?_ ?_ ?_); (· rfl); (· first | rfl | (first | exact decide_eq_false (by omega) | (rw [beq_eq_false_iff_ne]; omega) | (rw [bne_eq_false_iff_eq]; first | done | omega) | rfl)))
 | ((with_reducible (first | refine S_trueE ?_ ?_ | refine S_trueB ?_ ?_ | refine S_trueL ?_ ?_ | refine S_trueD ?_ ?_ | refine S_trueN ?_ ?_)); · (first | exact decide_eq_true (by omega) | (rw [beq_iff_eq]; first | done | omega) | (rw [bne_iff_ne]; omega)))
 | ((with_reducible refine S_trueA ?_ ?_ ?_); (· rfl); (· first | rfl | (first | exact decide_eq_true (by omega) | (rw [beq_iff_eq]; first | done | omega) | (rw [bne_iff_ne]; omega))))
 | refine S_unG rfl rfl rfl rfl ?_
 | refine S_gK 29 rfl rfl ?_
 | refine S_gK 31 rfl rfl ?_
 | (refine S_callM (f := 64) rfl obQ (by kernel_rfl) (fun w hw => lOwn_c A A2 c c2 names es hn hm w (hw.rdm (Rd.toS hr2) memQ)) (fun w1O w2O vO hw1O hbO hRO => ?_); obtain ⟨AO2, cO2, rfl, hSO, hcO, hcO2⟩ := hRO)
 | refine S_offG (.v (.bool false)) rfl rfl rfl rfl rfl ?_
 | ((with_reducible refine S_notV ?_ ?_); · rfl)
 | ((with_reducible refine S_falseA ?_ ?_); · first | rfl | (simp only [Bool.and_eq_false_iff, decide_eq_false_iff_not, beq_eq_false_iff_ne, bne_eq_false_iff_eq]; omega))
 | ((with_reducible refine S_trueO ?_ ?_); · first | rfl | (simp only [Bool.or_eq_true, decide_eq_true_eq, beq_iff_eq, bne_iff_ne]; omega))
 | refine S_nil ?_
 | refine S_runN rfl rfl obQ obQ ?_
 | refine S_box (fun b => ⟨_, _, rfl, obQ, ?_⟩)
 | refine S_call (f := 66) rfl obQ (by kernel_rfl) (fun w hw => rSameT_c _ _ _ _ _ _ _ _ names es hn hm w (hw.rdm (Rd.toS hr) memQ) (hw.rdm hSO memQ) (hw.rdm (Rd.toS hr3) memQ) (hw.rdm (Rd.toS hr4) memQ)) ?_
      )
 | (refine D_id ?_; first
 | refine D_nil ?_
 | refine D_tail ?_
 | refine D_run rfl rfl obQ obQ ?_
 | refine D_call (f := 66) rfl obQ (by kernel_rfl) (fun w hw => rSameT_c _ _ _ _ _ _ _ _ names es hn hm w (hw.rdm (Rd.toS hr) memQ) (hw.rdm hSO memQ) (hw.rdm (Rd.toS hr3) memQ) (hw.rdm (Rd.toS hr4) memQ)) ?_
      )
 | (refine V_id ?_; first
 | refine V_nil ?_
 | refine V_q rfl (Yl_step rfl obQ) ?_
 | refine V_n rfl ?_
      )
 | (refine G_id ?_; first
 | refine G_V ⟨⟨_, rfl, trivial⟩, ⟨_, rfl⟩, rfl, pstQ⟩ rfl ?_
 | refine G_then ?_
 | refine G_block ?_
 | refine G_blockX ?_
 | refine G_blockN rfl ?_
 | refine G_blockR ?_
 | refine G_thenR ?_
 | refine G_thenX ?_
 | refine G_ret rfl obQ (fun w2 hw => ⟨?_, hw.below⟩)
      )
    )
  all_goals rfl

theorem addedZ_c (A A2 : Option Addr) (c c2 : Nat) (names : List ByteArray) (es : List Edg) (hn : names.length ≤ 1000000) (hm : es.length ≤ 1000000) (hs : ∀ s ∈ names, s.size ≤ maxLen) (hA : A = none → names.length = 0 ∧ c = 0) (hA2 : A2 = none → es.length = 0 ∧ c2 = 0) (x : Edg) {aN : List ByteArray} {aE : List Edg} {z : Int} (hp : addedR names es x = (aN, aE, z)) (w : World) (hr : Rd w A (names.map .string)) (hr2 : Rd w A2 (es.flatMap edC)) : Calls Tryz.prog 63 #[.agg #[.slice A names.length c, .slice A2 es.length c2], .agg #[.int .i64 x.F, .int .i64 x.T, .int .i64 x.L, .int .i64 x.H]] w fun r w' => ∃ v, r = .returned v ∧ Below w.heap.size w w' ∧ NtE w w' v aN.length aE.length (aN.map .string) (aE.flatMap edC) (.int .i64 z) := by
  have h := added_c A A2 c c2 names es hn hm hs hA hA2 x w hr hr2
  rw [hp] at h
  exact h
theorem woutZ_c (A A2 : Option Addr) (c c2 : Nat) (names : List ByteArray) (es : List Edg) (hn : names.length ≤ 1000000) (hm : es.length ≤ 1000000) (hs : ∀ s ∈ names, s.size ≤ maxLen) (hA : A = none → names.length = 0 ∧ c = 0) (hc2 : es.length ≤ c2) (i : Int) {aN : List ByteArray} {aE : List Edg} {z : Int} (hp : woutR names es i = (aN, aE, z)) (w : World) (hr : Rd w A (names.map .string)) (hr2 : Rd w A2 (es.flatMap edC)) : Calls Tryz.prog 65 #[.agg #[.slice A names.length c, .slice A2 es.length c2], .int .i64 i] w fun r w' => ∃ v, r = .returned v ∧ Below w.heap.size w w' ∧ NtE w w' v aN.length aE.length (aN.map .string) (aE.flatMap edC) (.int .i64 z) := by
  have h := without_c A A2 c c2 names es hn hm hs hA i hc2 w hr hr2
  rw [hp] at h
  exact h
theorem loopZ_c (A A2 : Option Addr) (c c2 : Nat) (names : List ByteArray) (es : List Edg) (hn : names.length ≤ 1000000) (hm : es.length ≤ 1000000) (hs : ∀ s ∈ names, s.size ≤ maxLen) {l : List Arc} {e : Int} (hp : loopR names es = (l, e)) (w : World) (hr : Rd w A (names.map .string)) (hr2 : Rd w A2 (es.flatMap edC)) : Calls Tryz.prog 68 #[.agg #[.slice A names.length c, .slice A2 es.length c2]] w fun r w' => ∃ v, r = .returned v ∧ Below w.heap.size w w' ∧ Sl2 w w' v l.length (l.flatMap arC) (.int .i64 e) := by
  have h := loop_c A A2 c c2 names es hn hm hs w hr hr2
  rw [hp] at h
  exact h
theorem cklZ_c (A A2 : Option Addr) (c c2 : Nat) (names : List ByteArray) (es : List Edg) (hn : names.length ≤ 1000000) (hm : es.length ≤ 1000000) (hs : ∀ s ∈ names, s.size ≤ maxLen) (B : Option Addr) (c3 : Nat) (l : List Arc) (hl : l.length ≤ 1000000) {e : Int} (hp : loopE names es l = e) (w : World) (hr : Rd w A (names.map .string)) (hr2 : Rd w A2 (es.flatMap edC)) (hr3 : Rd w B (l.flatMap arC)) : Calls Tryz.prog 69 #[.agg #[.slice A names.length c, .slice A2 es.length c2], .slice B l.length c3] w fun r w' => r = .returned (.int .i64 e) ∧ Below w.heap.size w w' := by
  subst hp
  exact checkLoop_c A A2 B c c2 c3 names es l hn hm hs hl w hr hr2 hr3
theorem rcklZ_c (A A2 : Option Addr) (c c2 : Nat) (names : List ByteArray) (es : List Edg) (hN : netF names es = 0) (B : Option Addr) (c3 : Nat) (l : List Arc) (hl : l.length ≤ 1000000) {e : Int} (hp : loopE names es l = e) (w : World) (hr2 : Rd w A2 (es.flatMap edC)) (hr3 : Rd w B (l.flatMap arC)) : Calls Tryz.prog 71 #[.agg #[.slice A names.length c, .slice A2 es.length c2], .slice B l.length c3] w fun r w' => r = .returned (.int .i64 e) ∧ Below w.heap.size w w' := by
  subst hp
  exact rCheckLoop_c A A2 B c c2 c3 names es l hN hl w hr2 hr3
theorem rplZ_c (A A2 : Option Addr) (c c2 : Nat) (names : List ByteArray) (es : List Edg) (hN : netF names es = 0) {l : List Int} {e : Int} (hp : planR names es = (l, e)) (w : World) (hr2 : Rd w A2 (es.flatMap edC)) : Calls Tryz.prog 57 #[.agg #[.slice A names.length c, .slice A2 es.length c2]] w fun r w' => ∃ v, r = .returned v ∧ Below w.heap.size w w' ∧ Sl2 w w' v l.length (l.map (.int .i64)) (.int .i64 e) := by
  have ok := netF_ok hN
  have h := rPlan_c A A2 c c2 names.length es ok.m ok.n0 ok.n ok.e w hr2
  rw [← plan_eq hN, hp] at h
  exact h
theorem lfirstZ_c {A : Option Addr} {c : Nat} (x y : Int) {z : Int} (hz : firstL [x, y] = z) (w : World) (hr : Rd w A ([x, y].map (.int .i64))) : Calls Tryz.prog 19 #[.slice A 2 c] w fun r w' => r = .returned (.int .i64 z) ∧ Below w.heap.size w w' := by
  subst hz
  exact lfirst_c A c [x, y] (by simp) w hr
theorem loop_bad {names : List ByteArray} {es : List Edg} (h : netF names es ≠ 0) : loopR names es = ([], netF names es) ∧ (∀ l, loopE names es l = netF names es) ∧ (∀ x, addedR names es x = ([], [], netF names es)) ∧ ∀ i, woutR names es i = ([], [], netF names es) := by
  refine ⟨by unfold loopR; rw [if_pos h], fun l => ?_, fun x => by unfold addedR; rw [if_pos h], fun i => ?_⟩
  · have h1 : loopE1 names es l = netF names es := by unfold loopE1; simp [firstL, h]
    unfold loopE
    rw [if_pos (by rw [h1]; exact h), h1]
  · have h1 : woutE names es i = netF names es := by unfold woutE; simp [firstL, h]
    unfold woutR
    rw [if_pos (by rw [h1]; exact h), h1]
theorem added_ok {names : List ByteArray} {es : List Edg} {x : Edg} (hN : netF names es = 0) : (edgeF names.length x ≠ 0 → addedR names es x = ([], [], edgeF names.length x)) ∧ (edgeF names.length x = 0 → 24 ≤ es.length → addedR names es x = ([], [], 5)) ∧ (edgeF names.length x = 0 → ¬ 24 ≤ es.length → addedR names es x = (names, es ++ [x], 0)) := by
  have hm := (netF_ok hN).m
  refine ⟨fun h => ?_, fun h h2 => ?_, fun h h2 => ?_⟩
  · have h1 : addE names.length es.length x = edgeF names.length x := by unfold addE; simp [firstL, h]
    unfold addedR
    rw [if_neg (by simp [hN]), if_pos (by rw [h1]; exact h), h1]
  · have h1 : addE names.length es.length x = 5 := by
      unfold addE
      have : ((es.length : Int) == 24) = true := by rw [beq_iff_eq]; omega
      rw [h, this]
      rfl
    unfold addedR
    rw [if_neg (by simp [hN]), if_pos (by rw [h1]; omega), h1]
  · have h1 : addE names.length es.length x = 0 := by
      unfold addE
      have : ((es.length : Int) == 24) = false := by rw [beq_eq_false_iff_ne]; omega
      rw [h, this]
      rfl
    unfold addedR
    rw [if_neg (by simp [hN]), if_neg (by simp [h1])]
theorem wout_ok {names : List ByteArray} {es : List Edg} {i : Int} (hN : netF names es = 0) : (¬ (0 ≤ i ∧ i < es.length) → woutR names es i = ([], [], 10) ∧ wh (decide (i < 0) || decide ((es.length : Int) ≤ i)) 10 = 10) ∧ (0 ≤ i ∧ i < es.length → woutR names es i = (names, es.eraseIdx i.toNat, 0) ∧ wh (decide (i < 0) || decide ((es.length : Int) ≤ i)) 10 = 0) := by
  constructor
  · intro h
    have h0 : wh (decide (i < 0) || decide ((es.length : Int) ≤ i)) 10 = 10 := by
      have : (decide (i < 0) || decide ((es.length : Int) ≤ i)) = true := by
        simp only [Bool.or_eq_true, decide_eq_true_eq]
        omega
      rw [this]
      rfl
    have h1 : woutE names es i = 10 := by unfold woutE; rw [hN, h0]; rfl
    exact ⟨by unfold woutR; rw [if_pos (by rw [h1]; omega), h1], h0⟩
  · intro h
    have h0 : wh (decide (i < 0) || decide ((es.length : Int) ≤ i)) 10 = 0 := by
      have : (decide (i < 0) || decide ((es.length : Int) ≤ i)) = false := by
        simp only [Bool.or_eq_false_iff, decide_eq_false_iff_not]
        omega
      rw [this]
      rfl
    have h1 : woutE names es i = 0 := by unfold woutE; rw [hN, h0]; rfl
    exact ⟨by unfold woutR; rw [if_neg (by simp [h1])], h0⟩
theorem loop_ok {names : List ByteArray} {es : List Edg} (hN : netF names es = 0) : ∃ lL zQ lP zP, loopR names es = (lL, zQ) ∧ planR names es = (lP, zP) ∧ lL.length ≤ 1000000 ∧ ((zP = 0 ∧ lL = [] ∧ zQ = 7) ∨ (zP = 18 ∧ zQ = 0 ∧ loopE names es lL = 0)) := by
  by_cases h : Fea es names.length
  · obtain ⟨l, h1, _⟩ := plan_yes hN h
    exact ⟨_, _, _, _, loop_none hN h, h1, Nat.zero_le _, .inl ⟨rfl, rfl, rfl⟩⟩
  · obtain ⟨l, h1, h2, h3⟩ := loop_yes hN h
    exact ⟨_, _, _, _, h1, plan_none hN h, h3, .inr ⟨rfl, rfl, h2⟩⟩

theorem rAddZ_c (A A2 : Option Addr) (c c2 : Nat) (names : List ByteArray) (es : List Edg) (hn : names.length ≤ 1000000) (hm : es.length ≤ 1000000) (hA : A = none → names.length = 0 ∧ c = 0) (hA2 : A2 = none → es.length = 0 ∧ c2 = 0) (e : Edg) (h25 : es.length ≤ 25) {aN : List ByteArray} {aE : List Edg} {z : Int} (hR : (24 ≤ es.length ∧ aN = [] ∧ aE = [] ∧ z = 5) ∨ (¬ 24 ≤ es.length ∧ aN = names ∧ aE = es ++ [e] ∧ z = 0)) (w : World) (hr : Rd w A (names.map .string)) (hr2 : Rd w A2 (es.flatMap edC)) :
    Calls Tryz.prog 73 #[.agg #[.slice A names.length c, .slice A2 es.length c2], .agg #[.int .i64 e.F, .int .i64 e.T, .int .i64 e.L, .int .i64 e.H]] w fun r w' => ∃ v, r = .returned v ∧ Below w.heap.size w w' ∧ NtE w w' v aN.length aE.length (aN.map .string) (aE.flatMap edC) (.int .i64 z) := by
  have h := rAdded_c A A2 c c2 names es hn hm hA hA2 e h25 w hr hr2
  rcases hR with ⟨h1, rfl, rfl, rfl⟩ | ⟨h1, rfl, rfl, rfl⟩
  · simp only [if_pos h1] at h
    exact h
  · simp only [if_neg h1] at h
    exact h

set_option maxHeartbeats 8000000 in
/-- genlocklaw04.TimingLoops -/
theorem lLoops_c (A A2 D : Option Addr) (c c2 c4 : Nat) (names : List ByteArray) (es : List Edg) (l : List Arc) (e : Edg) (i : Int) (hn : names.length ≤ 9223372036854775807) (hm : es.length ≤ 9223372036854775807) (hl : l.length ≤ 9223372036854775807) (hs : ∀ s ∈ names, s.size ≤ maxLen) (hc : names.length ≤ c) (hA : A = none → names.length = 0 ∧ c = 0) (hc2 : es.length ≤ c2) (hA2 : A2 = none → es.length = 0 ∧ c2 = 0) (w : World) (hr : Rd w A (names.map .string)) (hr2 : Rd w A2 (es.flatMap edC)) (hr4 : Rd w D (l.flatMap arC)) (hE : Ex w) (hP : Pw w) : Calls Tryz.prog 11 #[.agg #[.slice A names.length c, .slice A2 es.length c2], .agg #[.slice D l.length c4, .int .i64 e.F, .int .i64 e.T, .int .i64 e.L, .int .i64 e.H, .int .i64 i]] w fun r w' => r = .returned (.bool true) ∧ Below w.heap.size w w' := by
  refine calls_of (args := [.agg #[.slice A names.length c, .slice A2 es.length c2], .agg #[.slice D l.length c4, .int .i64 e.F, .int .i64 e.T, .int .i64 e.L, .int .i64 e.H, .int .i64 i]]) T_ok Tryz.func11 rfl Tryz.ntmps11 (Nat.le_of_ble_eq_true rfl) rfl ?_
  cases hsh : shortB names es
  · repeat' (first
 | (refine C_id ?_; first
 | refine C_condT rfl obQ ?_
 | refine C_condF rfl obQ ?_
 | refine C_seq ?_
 | refine C_region rfl ?_
 | refine C_block ?_
 | refine C_skip ?_
 | refine C_exit ?_
 | refine C_ret0 ?_
 | refine C_draw (id := 4) rfl mixed (by kernel_rfl) ?_
 | refine C_drawT (id := 5) 8 rfl mixed (by kernel_rfl) rfl rfl ?_
 | refine C_drawT (id := 6) 8 rfl mixed (by kernel_rfl) rfl rfl ?_
 | refine C_drawT (id := 8) 8 rfl mixed (by kernel_rfl) rfl rfl ?_
 | refine C_draw (id := 18) rfl mixed (by kernel_rfl) ?_
          )
 | (refine S_id ?_; first
 | ((with_reducible (first | refine S_falseN ?_ ?_ | refine S_falseB ?_ ?_ | refine S_falseL ?_ ?_ | refine S_falseD ?_ ?_ | refine S_falseE ?_ ?_)); · (first | exact decide_eq_false (by omega) | (rw [beq_eq_false_iff_ne]; omega) | (rw [bne_eq_false_iff_eq]; first | done | omega) | rfl))
 | ((with_reducible refine S_falseO ?_ ?_ ?_); (· rfl); (· first | rfl | (first | exact decide_eq_false (by omega) | (rw [beq_eq_false_iff_ne]; omega) | (rw [bne_eq_false_iff_eq]; first | done | omega) | rfl)))
 | ((with_reducible (first | refine S_trueE ?_ ?_ | refine S_trueB ?_ ?_ | refine S_trueL ?_ ?_ | refine S_trueD ?_ ?_ | refine S_trueN ?_ ?_)); · (first | exact decide_eq_true (by omega) | (rw [beq_iff_eq]; first | done | omega) | (rw [bne_iff_ne]; omega)))
 | ((with_reducible refine S_trueA ?_ ?_ ?_); (· rfl); (· first | rfl | (first | exact decide_eq_true (by omega) | (rw [beq_iff_eq]; first | done | omega) | (rw [bne_iff_ne]; omega))))
 | refine S_unG rfl rfl rfl rfl ?_
 | refine S_offG (.v (.bool false)) rfl rfl rfl rfl rfl ?_
 | ((with_reducible refine S_notV ?_ ?_); · rfl)
 | ((with_reducible refine S_falseA ?_ ?_); · first | rfl | (simp only [Bool.and_eq_false_iff, decide_eq_false_iff_not, beq_eq_false_iff_ne, bne_eq_false_iff_eq]; omega))
 | ((with_reducible refine S_trueO ?_ ?_); · first | rfl | (simp only [Bool.or_eq_true, decide_eq_true_eq, beq_iff_eq, bne_iff_ne]; omega))
 | refine S_nil ?_
 | refine S_runN rfl rfl obQ obQ ?_
 | refine S_box (fun b => ⟨_, _, rfl, obQ, ?_⟩)
 | refine S_slice (fun b => ⟨_, _, rfl, obQ, ?_⟩)
 | refine S_call (f := 48) rfl obQ (by kernel_rfl) (fun w hw => rShort2_c A A2 c c2 names es hsh hn hm w (hw.rdm (Rd.toS hr) memQ)) ?_
 | refine S_call (f := 27) rfl obQ (by kernel_rfl) (fun w hw => awake_c w (hw.rdm hE.toS memQ) (Pw_at hP hw memQ)) ?_
          )
 | (refine D_id ?_; first
 | refine D_nil ?_
 | refine D_tail ?_
 | refine D_run rfl rfl obQ obQ ?_
 | refine D_call (f := 48) rfl obQ (by kernel_rfl) (fun w hw => rShort2_c A A2 c c2 names es hsh hn hm w (hw.rdm (Rd.toS hr) memQ)) ?_
 | refine D_call (f := 27) rfl obQ (by kernel_rfl) (fun w hw => awake_c w (hw.rdm hE.toS memQ) (Pw_at hP hw memQ)) ?_
          )
 | (refine G_id ?_; first
 | refine G_then ?_
 | refine G_block ?_
 | refine G_blockX ?_
 | refine G_blockN rfl ?_
 | refine G_blockR ?_
 | refine G_thenR ?_
 | refine G_thenX ?_
 | refine G_ret rfl obQ (fun w2 hw => ⟨?_, hw.below⟩)
          )
        )
    all_goals rfl
  by_cases hdm : l.length ≤ 20 ∨ l.length = 65
  · have hlen := shortB_len2 hsh
    have hn6 : names.length ≤ 1000000 := by omega
    have hm6 : es.length ≤ 1000000 := by omega
    have h25 : es.length ≤ 25 := by omega
    have hl6 : l.length ≤ 1000000 := by omega
    obtain ⟨zN, hNE⟩ : ∃ z, netF names es = z := ⟨_, rfl⟩
    obtain ⟨zE, hEd⟩ : ∃ z, edgeF names.length e = z := ⟨_, rfl⟩
    obtain ⟨zC, hLE⟩ : ∃ z, loopE names es l = z := ⟨_, rfl⟩
    obtain ⟨lL, zQ, hLo⟩ : ∃ l z, loopR names es = (l, z) := ⟨_, _, rfl⟩
    obtain ⟨aN, aE, zA, hAd⟩ : ∃ a b z, addedR names es e = (a, b, z) := ⟨_, _, _, rfl⟩
    obtain ⟨wN, wE, zW, hWo⟩ : ∃ a b z, woutR names es i = (a, b, z) := ⟨_, _, _, rfl⟩
    repeat' (first
 | (refine C_id ?_; first
 | refine C_seq ?_
 | refine C_regionNe 3 rfl rfl ?_
 | refine C_block ?_
 | refine C_skip ?_
 | refine C_exit ?_
 | refine C_ret0 ?_
 | refine C_draw (id := 4) rfl mixed (by kernel_rfl) ?_
 | refine C_drawT (id := 5) 8 rfl mixed (by kernel_rfl) rfl rfl ?_
 | refine C_drawT (id := 6) 8 rfl mixed (by kernel_rfl) rfl rfl ?_
 | refine C_drawT (id := 8) 8 rfl mixed (by kernel_rfl) rfl rfl ?_
 | refine C_draw (id := 18) rfl mixed (by kernel_rfl) ?_
 | refine C_condT rfl obQ ?_
 | refine C_condF rfl obQ ?_
 | (refine C_cond rfl obQ (fun h => ?_) (fun h => ?_) <;> (try simp only [Bool.or_eq_true, Bool.and_eq_true, Bool.or_eq_false_iff, Bool.and_eq_false_iff, decide_eq_true_eq, decide_eq_false_iff_not, beq_iff_eq, bne_iff_ne, beq_eq_false_iff_ne, bne_eq_false_iff_eq, ne_eq, Decidable.not_not, List.cons.injEq, and_true, Bool.not_eq_true', Bool.not_eq_false', Int.not_lt, Int.not_le] at h) <;> (try (exfalso; omega)) <;> (try (exfalso; simp at h; done)) <;> (try (exfalso; simp only [not_true_eq_false, false_or, or_false] at h; omega)) <;> (try (exfalso; simp at h; omega)))
          )
 | (refine S_id ?_; first
 | refine S_nil ?_
 | refine S_run rfl rfl obQ obQ ?_
 | refine S_box (fun b => ⟨_, _, rfl, obQ, ?_⟩)
 | refine S_slice (fun b => ⟨_, _, rfl, obQ, ?_⟩)
 | refine S_run rfl rfl obQ obQ ?_
 | refine S_call (f := 48) rfl obQ (by kernel_rfl) (fun w hw => rShort2_c A A2 c c2 names es hsh hn hm w (hw.rdm (Rd.toS hr) memQ)) ?_
 | refine S_call (f := 27) rfl obQ (by kernel_rfl) (fun w hw => awake_c w (hw.rdm hE.toS memQ) (Pw_at hP hw memQ)) ?_
          )
 | (refine D_id ?_; first
 | refine D_nil ?_
 | refine D_tail ?_
 | refine D_run rfl rfl obQ obQ ?_
 | refine D_call (f := 48) rfl obQ (by kernel_rfl) (fun w hw => rShort2_c A A2 c c2 names es hsh hn hm w (hw.rdm (Rd.toS hr) memQ)) ?_
 | refine D_call (f := 27) rfl obQ (by kernel_rfl) (fun w hw => awake_c w (hw.rdm hE.toS memQ) (Pw_at hP hw memQ)) ?_
          )
 | (refine G_id ?_; first
 | refine G_then ?_
 | refine G_block ?_
 | refine G_blockX ?_
 | refine G_blockN rfl ?_
 | refine G_blockR ?_
 | refine G_thenR ?_
 | refine G_thenX ?_
 | refine G_ret rfl obQ (fun w hw => ⟨?_, hw.below⟩)
          )
        )
    rename_i b2
    obtain ⟨b3, rfl⟩ : ∃ b3, b3 = b := ⟨_, rfl⟩
    repeat' (first
 | (refine C_id ?_; first
 | refine C_condT rfl obQ ?_
 | refine C_condF rfl obQ ?_
 | refine C_seq ?_
 | refine C_region rfl ?_
 | refine C_block ?_
 | refine C_skip ?_
 | refine C_exit ?_
 | refine C_ret0 ?_
 | refine C_drawV (id := 4) 4 [(0, true), (2, true), (3, true), (1, false)] rfl mixed (by kernel_rfl) rfl ?_
 | refine C_drawT (id := 6) 8 rfl mixed (by kernel_rfl) rfl rfl ?_
 | refine C_drawT (id := 8) 8 rfl mixed (by kernel_rfl) rfl rfl ?_
 | refine C_draw (id := 18) rfl mixed (by kernel_rfl) ?_
          )
 | (refine S_id ?_; first
 | ((with_reducible (first | refine S_falseN ?_ ?_ | refine S_falseB ?_ ?_ | refine S_falseL ?_ ?_ | refine S_falseD ?_ ?_ | refine S_falseE ?_ ?_)); · (first | exact decide_eq_false (by omega) | (rw [beq_eq_false_iff_ne]; omega) | (rw [bne_eq_false_iff_eq]; first | done | omega) | rfl))
 | ((with_reducible refine S_falseO ?_ ?_ ?_); (· rfl); (· first | rfl | (first | exact decide_eq_false (by omega) | (rw [beq_eq_false_iff_ne]; omega) | (rw [bne_eq_false_iff_eq]; first | done | omega) | rfl)))
 | ((with_reducible (first | refine S_trueE ?_ ?_ | refine S_trueB ?_ ?_ | refine S_trueL ?_ ?_ | refine S_trueD ?_ ?_ | refine S_trueN ?_ ?_)); · (first | exact decide_eq_true (by omega) | (rw [beq_iff_eq]; first | done | omega) | (rw [bne_iff_ne]; omega)))
 | ((with_reducible refine S_trueA ?_ ?_ ?_); (· rfl); (· first | rfl | (first | exact decide_eq_true (by omega) | (rw [beq_iff_eq]; first | done | omega) | (rw [bne_iff_ne]; omega))))
 | refine S_unG rfl rfl rfl rfl ?_
 | (refine S_callM (f := 50) rfl obQ (by kernel_rfl) (fun w hw => lGivenC_c A A2 c c2 names es hn6 hm6 hA w (hw.rdm (Rd.toS hr) memQ) (hw.rdm (Rd.toS hr2) memQ)) (fun w1N w2N vN hw1N hbN hRN => ?_); obtain ⟨AN, AN2, cN, cN2, rfl, hSN, hTN, hcN, hdN⟩ := hRN)
 | (refine S_callM (f := 68) rfl obQ (by kernel_rfl) (fun w hw => loopZ_c _ _ _ _ names es hn6 hm6 hs hLo w (hw.rdm hSN memQ) (hw.rdm hTN memQ)) (fun w1L w2L vL hw1L hbL hRL => ?_); obtain ⟨AL, cL, rfl, hSL⟩ := hRL)
 | (refine S_callM (f := 70) rfl obQ (by kernel_rfl) (fun w hw => lArcs_c D c4 l hl6 w (hw.rdm (Rd.toS hr4) memQ)) (fun w1X w2X vX hw1X hbX hRX => ?_); obtain ⟨AX, cX, rfl, hSX⟩ := hRX)
 | refine S_offG (.v (.bool false)) rfl rfl rfl rfl rfl ?_
 | ((with_reducible refine S_notV ?_ ?_); · rfl)
 | ((with_reducible refine S_falseA ?_ ?_); · first | rfl | (simp only [Bool.and_eq_false_iff, decide_eq_false_iff_not, beq_eq_false_iff_ne, bne_eq_false_iff_eq]; omega))
 | ((with_reducible refine S_trueO ?_ ?_); · first | rfl | (simp only [Bool.or_eq_true, decide_eq_true_eq, beq_iff_eq, bne_iff_ne]; omega))
 | refine S_nil ?_
 | refine S_runN rfl rfl obQ obQ ?_
 | refine S_box (fun b => ⟨_, _, rfl, obQ, ?_⟩)
 | refine S_slice (fun b => ⟨_, _, rfl, obQ, ?_⟩)
 | refine S_call (f := 69) rfl obQ (by kernel_rfl) (fun w hw => cklZ_c _ _ _ _ names es hn6 hm6 hs _ _ l hl6 hLE w (hw.rdm hSN memQ) (hw.rdm hTN memQ) (hw.rdm hSX memQ)) ?_
          )
 | (refine D_id ?_; first
 | refine D_nil ?_
 | refine D_tail ?_
 | refine D_run rfl rfl obQ obQ ?_
 | refine D_call (f := 69) rfl obQ (by kernel_rfl) (fun w hw => cklZ_c _ _ _ _ names es hn6 hm6 hs _ _ l hl6 hLE w (hw.rdm hSN memQ) (hw.rdm hTN memQ) (hw.rdm hSX memQ)) ?_
          )
 | (refine V_id ?_; first
 | refine V_nil ?_
 | refine V_q rfl (Yl_step rfl obQ) ?_
 | refine V_n rfl ?_
          )
 | (refine G_id ?_; first
 | refine G_V ⟨⟨_, rfl, trivial⟩, ⟨_, rfl⟩, rfl, pstQ⟩ rfl ?_
 | refine G_then ?_
 | refine G_block ?_
 | refine G_blockX ?_
 | refine G_blockN rfl ?_
 | refine G_blockR ?_
 | refine G_thenR ?_
 | refine G_thenX ?_
 | refine G_ret rfl obQ (fun w2 hw => ⟨?_, hw.below⟩)
          )
        )
    refine C_cut (fun q : NtA aN aE × Nat => ([(w2L, fun b => w1L.heap.size ≤ b ∧ b < w2L.heap.size), q.1.ps, (w, fun b => b < w.heap.size)], ⟨[(9, .s (.v (.int .i64 zA))), (8, .s (.p q.2 2 0)), (7, .s (.v (.int .i64 zC))), (6, .s (.v (.int .i64 zQ))), (5, .s (.v (.slice AL lL.length cL))), (3, .s (.p b3 1 0)), (2, .s (.p b2 0 0))], [⟨b2, 84, [.v (.slice A names.length c), .v (.slice A2 es.length c2)]⟩, ⟨b3, 127, [.v (.slice D l.length c4), .v (.int .i64 e.F), .v (.int .i64 e.T), .v (.int .i64 e.L), .v (.int .i64 e.H), .v (.int .i64 i)]⟩, ⟨q.2, 89, [.v (.slice q.1.A aN.length q.1.c), .v (.slice q.1.A2 aE.length q.1.c2)]⟩], []⟩)) ?_ (fun i0 => ?_)
    · repeat' (first
 | (refine C_id ?_; first
 | refine C_condT rfl obQ ?_
 | refine C_condF rfl obQ ?_
 | refine C_seq ?_
 | refine C_region rfl ?_
 | refine C_block ?_
 | refine C_skip ?_
 | refine C_exit ?_
 | refine C_ret0 ?_
 | refine C_draw (id := 4) rfl mixed (by kernel_rfl) ?_
 | refine C_drawTr (id := 5) 10 (.q 0 (.q 2 (.q 3 (.two 1 8 (.two 4 8 (.q 5 (.q 6 (.q 7 (.n 8 (.n 9 .nil))))) (.n 4 (.q 5 (.q 6 (.q 7 (.n 9 .nil)))))) (.n 1 (.n 4 (.q 5 (.q 6 (.q 7 (.n 9 .nil)))))))))) rfl mixed (by kernel_rfl) rfl ?_
 | refine C_drawT (id := 6) 8 rfl mixed (by kernel_rfl) rfl rfl ?_
 | refine C_drawT (id := 8) 8 rfl mixed (by kernel_rfl) rfl rfl ?_
 | refine C_draw (id := 18) rfl mixed (by kernel_rfl) ?_
            )
 | (refine S_id ?_; first
 | ((with_reducible (first | refine S_falseN ?_ ?_ | refine S_falseB ?_ ?_ | refine S_falseL ?_ ?_ | refine S_falseD ?_ ?_ | refine S_falseE ?_ ?_)); · (first | exact decide_eq_false (by omega) | (rw [beq_eq_false_iff_ne]; omega) | (rw [bne_eq_false_iff_eq]; first | done | omega) | rfl))
 | ((with_reducible refine S_falseO ?_ ?_ ?_); (· rfl); (· first | rfl | (first | exact decide_eq_false (by omega) | (rw [beq_eq_false_iff_ne]; omega) | (rw [bne_eq_false_iff_eq]; first | done | omega) | rfl)))
 | ((with_reducible (first | refine S_trueE ?_ ?_ | refine S_trueB ?_ ?_ | refine S_trueL ?_ ?_ | refine S_trueD ?_ ?_ | refine S_trueN ?_ ?_)); · (first | exact decide_eq_true (by omega) | (rw [beq_iff_eq]; first | done | omega) | (rw [bne_iff_ne]; omega)))
 | ((with_reducible refine S_trueA ?_ ?_ ?_); (· rfl); (· first | rfl | (first | exact decide_eq_true (by omega) | (rw [beq_iff_eq]; first | done | omega) | (rw [bne_iff_ne]; omega))))
 | refine S_unG rfl rfl rfl rfl ?_
 | (refine S_callM (f := 50) rfl obQ (by kernel_rfl) (fun w hw => lGivenC_c A A2 c c2 names es hn6 hm6 hA w (hw.rdm (Rd.toS hr) memQ) (hw.rdm (Rd.toS hr2) memQ)) (fun w1N w2N vN hw1N hbN hRN => ?_); obtain ⟨AN, AN2, cN, cN2, rfl, hSN, hTN, hcN, hdN⟩ := hRN)
 | (refine S_callM (f := 63) rfl obQ (by kernel_rfl) (fun w hw => addedZ_c _ _ _ _ names es hn6 hm6 hs hcN.2 hdN.2 e hAd w (hw.rdm hSN memQ) (hw.rdm hTN memQ)) (fun w1K w2K vK hw1K hbK hRK => ?_); obtain ⟨AK, AK2, cK, cK2, rfl, hSK, hTK, hcK, hdK⟩ := hRK)
 | refine S_offG (.v (.bool false)) rfl rfl rfl rfl rfl ?_
 | ((with_reducible refine S_notV ?_ ?_); · rfl)
 | ((with_reducible refine S_falseA ?_ ?_); · first | rfl | (simp only [Bool.and_eq_false_iff, decide_eq_false_iff_not, beq_eq_false_iff_ne, bne_eq_false_iff_eq]; omega))
 | ((with_reducible refine S_trueO ?_ ?_); · first | rfl | (simp only [Bool.or_eq_true, decide_eq_true_eq, beq_iff_eq, bne_iff_ne]; omega))
 | refine S_nil ?_
 | refine S_runN rfl rfl obQ obQ ?_
 | refine S_box (fun b9 => ⟨_, _, rfl, obQ, ?_⟩)
 | refine S_slice (fun b => ⟨_, _, rfl, obQ, ?_⟩)
            )
 | (refine D_id ?_; first
 | refine D_nil ?_
 | refine D_tail ?_
 | refine D_run rfl rfl obQ obQ ?_
            )
 | (refine VT_id ?_; first
 | refine VT_nil ?_
 | refine VT_q rfl (Yl_step rfl obQ) ?_
 | refine VT_n rfl ?_
 | refine VT_two rfl rfl ?_ ?_
            )
 | (refine G_id ?_; first
 | refine G_VT2 ⟨_, rfl⟩ ⟨_, rfl⟩ pstQ rfl ?_
 | refine G_cut (⟨w1K, w2K, AK, AK2, cK, cK2, hSK, hTK, hcK, hdK⟩, b9) ⟨⟨_, rfl, obQ⟩, ⟨_, rfl⟩, rfl, psQ⟩
 | refine G_then ?_
 | refine G_block ?_
 | refine G_blockX ?_
 | refine G_blockN rfl ?_
 | refine G_blockR ?_
 | refine G_thenR ?_
 | refine G_thenX ?_
 | refine G_ret rfl obQ (fun w2 hw => ⟨?_, hw.below⟩)
            )
          )
    obtain ⟨K, b8⟩ := i0
    dsimp only
    refine C_seq ?_
    refine C_cut (fun q : NtA wN wE × Nat => ([(w2L, fun b => w1L.heap.size ≤ b ∧ b < w2L.heap.size), K.ps, q.1.ps, (w, fun b => b < w.heap.size)], ⟨[(11, .s (.v (.int .i64 zW))), (10, .s (.p q.2 3 0)), (9, .s (.v (.int .i64 zA))), (8, .s (.p b8 2 0)), (7, .s (.v (.int .i64 zC))), (6, .s (.v (.int .i64 zQ))), (5, .s (.v (.slice AL lL.length cL))), (3, .s (.p b3 1 0)), (2, .s (.p b2 0 0))], [⟨b2, 84, [.v (.slice A names.length c), .v (.slice A2 es.length c2)]⟩, ⟨b3, 127, [.v (.slice D l.length c4), .v (.int .i64 e.F), .v (.int .i64 e.T), .v (.int .i64 e.L), .v (.int .i64 e.H), .v (.int .i64 i)]⟩, ⟨b8, 89, [.v (.slice K.A aN.length K.c), .v (.slice K.A2 aE.length K.c2)]⟩, ⟨q.2, 89, [.v (.slice q.1.A wN.length q.1.c), .v (.slice q.1.A2 wE.length q.1.c2)]⟩], []⟩)) ?_ (fun i0 => ?_)
    · repeat' (first
 | (refine C_id ?_; first
 | refine C_condT rfl obQ ?_
 | refine C_condF rfl obQ ?_
 | refine C_seq ?_
 | refine C_region rfl ?_
 | refine C_block ?_
 | refine C_skip ?_
 | refine C_exit ?_
 | refine C_ret0 ?_
 | refine C_draw (id := 4) rfl mixed (by kernel_rfl) ?_
 | refine C_drawT (id := 5) 8 rfl mixed (by kernel_rfl) rfl rfl ?_
 | refine C_drawTr (id := 6) 10 (.q 0 (.q 2 (.q 3 (.two 1 8 (.two 4 8 (.q 5 (.q 6 (.q 7 (.n 8 (.n 9 .nil))))) (.n 4 (.q 5 (.q 6 (.q 7 (.n 9 .nil)))))) (.n 1 (.n 4 (.q 5 (.q 6 (.q 7 (.n 9 .nil)))))))))) rfl mixed (by kernel_rfl) rfl ?_
 | refine C_drawT (id := 8) 8 rfl mixed (by kernel_rfl) rfl rfl ?_
 | refine C_draw (id := 18) rfl mixed (by kernel_rfl) ?_
            )
 | (refine S_id ?_; first
 | ((with_reducible (first | refine S_falseN ?_ ?_ | refine S_falseB ?_ ?_ | refine S_falseL ?_ ?_ | refine S_falseD ?_ ?_ | refine S_falseE ?_ ?_)); · (first | exact decide_eq_false (by omega) | (rw [beq_eq_false_iff_ne]; omega) | (rw [bne_eq_false_iff_eq]; first | done | omega) | rfl))
 | ((with_reducible refine S_falseO ?_ ?_ ?_); (· rfl); (· first | rfl | (first | exact decide_eq_false (by omega) | (rw [beq_eq_false_iff_ne]; omega) | (rw [bne_eq_false_iff_eq]; first | done | omega) | rfl)))
 | ((with_reducible (first | refine S_trueE ?_ ?_ | refine S_trueB ?_ ?_ | refine S_trueL ?_ ?_ | refine S_trueD ?_ ?_ | refine S_trueN ?_ ?_)); · (first | exact decide_eq_true (by omega) | (rw [beq_iff_eq]; first | done | omega) | (rw [bne_iff_ne]; omega)))
 | ((with_reducible refine S_trueA ?_ ?_ ?_); (· rfl); (· first | rfl | (first | exact decide_eq_true (by omega) | (rw [beq_iff_eq]; first | done | omega) | (rw [bne_iff_ne]; omega))))
 | refine S_unG rfl rfl rfl rfl ?_
 | (refine S_callM (f := 50) rfl obQ (by kernel_rfl) (fun w hw => lGivenC_c A A2 c c2 names es hn6 hm6 hA w (hw.rdm (Rd.toS hr) memQ) (hw.rdm (Rd.toS hr2) memQ)) (fun w1N w2N vN hw1N hbN hRN => ?_); obtain ⟨AN, AN2, cN, cN2, rfl, hSN, hTN, hcN, hdN⟩ := hRN)
 | (refine S_callM (f := 65) rfl obQ (by kernel_rfl) (fun w hw => woutZ_c _ _ _ _ names es hn6 hm6 hs hcN.2 hdN.1 i hWo w (hw.rdm hSN memQ) (hw.rdm hTN memQ)) (fun w1K w2K vK hw1K hbK hRK => ?_); obtain ⟨AK, AK2, cK, cK2, rfl, hSK, hTK, hcK, hdK⟩ := hRK)
 | refine S_offG (.v (.bool false)) rfl rfl rfl rfl rfl ?_
 | ((with_reducible refine S_notV ?_ ?_); · rfl)
 | ((with_reducible refine S_falseA ?_ ?_); · first | rfl | (simp only [Bool.and_eq_false_iff, decide_eq_false_iff_not, beq_eq_false_iff_ne, bne_eq_false_iff_eq]; omega))
 | ((with_reducible refine S_trueO ?_ ?_); · first | rfl | (simp only [Bool.or_eq_true, decide_eq_true_eq, beq_iff_eq, bne_iff_ne]; omega))
 | refine S_nil ?_
 | refine S_runN rfl rfl obQ obQ ?_
 | refine S_box (fun b9 => ⟨_, _, rfl, obQ, ?_⟩)
 | refine S_slice (fun b => ⟨_, _, rfl, obQ, ?_⟩)
            )
 | (refine D_id ?_; first
 | refine D_nil ?_
 | refine D_tail ?_
 | refine D_run rfl rfl obQ obQ ?_
            )
 | (refine VT_id ?_; first
 | refine VT_nil ?_
 | refine VT_q rfl (Yl_step rfl obQ) ?_
 | refine VT_n rfl ?_
 | refine VT_two rfl rfl ?_ ?_
            )
 | (refine G_id ?_; first
 | refine G_VT2 ⟨_, rfl⟩ ⟨_, rfl⟩ pstQ rfl ?_
 | refine G_cut (⟨w1K, w2K, AK, AK2, cK, cK2, hSK, hTK, hcK, hdK⟩, b9) ⟨⟨_, rfl, obQ⟩, ⟨_, rfl⟩, rfl, psQ⟩
 | refine G_then ?_
 | refine G_block ?_
 | refine G_blockX ?_
 | refine G_blockN rfl ?_
 | refine G_blockR ?_
 | refine G_thenR ?_
 | refine G_thenX ?_
 | refine G_ret rfl obQ (fun w2 hw => ⟨?_, hw.below⟩)
            )
          )
    obtain ⟨W, b10⟩ := i0
    dsimp only
    have first0 : ∀ x : Int, firstL [0, x] = x := fun x => by
      show firstL [x] = x
      exact firstL_one x
    by_cases hN0 : zN = 0
    · subst hN0
      obtain ⟨lL', zQ', lP, zP, h1, hPl, hlL, hcase⟩ := loop_ok hNE
      rw [hLo] at h1
      simp only [Prod.mk.injEq] at h1
      obtain ⟨h1a, h1b⟩ := h1
      subst h1a
      subst h1b
      have hF1 := first0 zE
      have hF2 := first0 (wh (decide (i < 0) || decide ((es.length : Int) ≤ i)) 10)
      repeat' (first
 | (refine C_id ?_; first
 | refine C_condT rfl obQ ?_
 | refine C_condF rfl obQ ?_
 | refine C_seq ?_
 | refine C_regionNe 10 rfl rfl ?_
 | refine C_block ?_
 | refine C_skip ?_
 | refine C_exit ?_
 | refine C_ret0 ?_
 | refine C_draw (id := 4) rfl mixed (by kernel_rfl) ?_
 | refine C_drawT (id := 5) 8 rfl mixed (by kernel_rfl) rfl rfl ?_
 | refine C_drawT (id := 6) 8 rfl mixed (by kernel_rfl) rfl rfl ?_
 | refine C_drawV (id := 8) 25 [(0, true), (1, true), (2, true), (3, true), (4, true), (5, true), (6, true), (10, true), (11, true), (12, true), (13, true), (7, false), (8, false), (9, false), (14, true), (15, true), (16, true), (17, true), (18, true), (19, true), (20, true), (21, true), (22, false), (23, false), (24, false)] rfl mixed (by kernel_rfl) rfl ?_
 | refine C_draw (id := 18) rfl mixed (by kernel_rfl) ?_
            )
 | (refine S_id ?_; first
 | ((with_reducible (first | refine S_falseN ?_ ?_ | refine S_falseB ?_ ?_ | refine S_falseL ?_ ?_ | refine S_falseD ?_ ?_ | refine S_falseE ?_ ?_)); · (first | exact decide_eq_false (by omega) | (rw [beq_eq_false_iff_ne]; omega) | (rw [bne_eq_false_iff_eq]; first | done | omega) | rfl))
 | ((with_reducible refine S_falseO ?_ ?_ ?_); (· rfl); (· first | rfl | (first | exact decide_eq_false (by omega) | (rw [beq_eq_false_iff_ne]; omega) | (rw [bne_eq_false_iff_eq]; first | done | omega) | rfl)))
 | ((with_reducible (first | refine S_trueE ?_ ?_ | refine S_trueB ?_ ?_ | refine S_trueL ?_ ?_ | refine S_trueD ?_ ?_ | refine S_trueN ?_ ?_)); · (first | exact decide_eq_true (by omega) | (rw [beq_iff_eq]; first | done | omega) | (rw [bne_iff_ne]; omega)))
 | ((with_reducible refine S_trueA ?_ ?_ ?_); (· rfl); (· first | rfl | (first | exact decide_eq_true (by omega) | (rw [beq_iff_eq]; first | done | omega) | (rw [bne_iff_ne]; omega))))
 | refine S_unG rfl rfl rfl rfl ?_
 | refine S_offG (.v (.bool false)) rfl rfl rfl rfl rfl ?_
 | ((with_reducible refine S_notV ?_ ?_); · rfl)
 | ((with_reducible refine S_falseA ?_ ?_); · first | rfl | (simp only [Bool.and_eq_false_iff, decide_eq_false_iff_not, beq_eq_false_iff_ne, bne_eq_false_iff_eq]; omega))
 | ((with_reducible refine S_trueO ?_ ?_); · first | rfl | (simp only [Bool.or_eq_true, decide_eq_true_eq, beq_iff_eq, bne_iff_ne]; omega))
 | refine S_nil ?_
 | refine S_runN rfl rfl obQ obQ ?_
 | refine S_box (fun bl => ⟨_, _, rfl, obQ, ?_⟩)
 | refine S_slice (fun b => ⟨_, _, rfl, obQ, ?_⟩)
 | refine S_call (f := 27) rfl obQ (by kernel_rfl) (fun w hw => awake_c w (hw.rdm hE.toS memQ) (Pw_at hP hw memQ)) ?_
 | refine S_call (f := 55) rfl obQ (by kernel_rfl) (fun w hw => rckn2_c A A2 c c2 names es hn6 hm6 hs hc hNE w (hw.rdm (Rd.toS hr) memQ) (hw.rdm (Rd.toS hr2) memQ)) ?_
 | refine S_call (f := 62) rfl obQ (by kernel_rfl) (fun w hw => rcke_c names.length e hEd w) ?_
 | refine S_call (f := 56) rfl obQ (by kernel_rfl) (fun w hw => rWhen_c _ _ w) ?_
 | refine S_call (f := 19) rfl obQ (by kernel_rfl) (fun w hw => lfirstZ_c _ _ hF1 w (by first | exact .inr ⟨_, rfl, hw.src (i := 4) rfl rfl⟩ | exact .inr ⟨_, rfl, hw.src (i := 5) rfl rfl⟩)) ?_
 | refine S_call (f := 19) rfl obQ (by kernel_rfl) (fun w hw => lfirstZ_c _ _ hF2 w (by first | exact .inr ⟨_, rfl, hw.src (i := 4) rfl rfl⟩ | exact .inr ⟨_, rfl, hw.src (i := 5) rfl rfl⟩)) ?_
 | refine S_call (f := 75) rfl obQ (by kernel_rfl) (fun w hw => lNet1_c _ _ _ _ _ _ _ _ _ _ zA hzA w) ?_
 | refine S_call (f := 75) rfl obQ (by kernel_rfl) (fun w hw => lNet1_c _ _ _ _ _ _ _ _ _ _ zW hzW w) ?_
            )
 | (refine D_id ?_; first
 | refine D_nil ?_
 | refine D_tail ?_
 | refine D_run rfl rfl obQ obQ ?_
 | refine D_call (f := 27) rfl obQ (by kernel_rfl) (fun w hw => awake_c w (hw.rdm hE.toS memQ) (Pw_at hP hw memQ)) ?_
 | refine D_call (f := 55) rfl obQ (by kernel_rfl) (fun w hw => rckn2_c A A2 c c2 names es hn6 hm6 hs hc hNE w (hw.rdm (Rd.toS hr) memQ) (hw.rdm (Rd.toS hr2) memQ)) ?_
 | refine D_call (f := 62) rfl obQ (by kernel_rfl) (fun w hw => rcke_c names.length e hEd w) ?_
 | refine D_call (f := 56) rfl obQ (by kernel_rfl) (fun w hw => rWhen_c _ _ w) ?_
 | refine D_call (f := 19) rfl obQ (by kernel_rfl) (fun w hw => lfirstZ_c _ _ hF1 w (by first | exact .inr ⟨_, rfl, hw.src (i := 4) rfl rfl⟩ | exact .inr ⟨_, rfl, hw.src (i := 5) rfl rfl⟩)) ?_
 | refine D_call (f := 19) rfl obQ (by kernel_rfl) (fun w hw => lfirstZ_c _ _ hF2 w (by first | exact .inr ⟨_, rfl, hw.src (i := 4) rfl rfl⟩ | exact .inr ⟨_, rfl, hw.src (i := 5) rfl rfl⟩)) ?_
 | refine D_call (f := 75) rfl obQ (by kernel_rfl) (fun w hw => lNet1_c _ _ _ _ _ _ _ _ _ _ zA hzA w) ?_
 | refine D_call (f := 75) rfl obQ (by kernel_rfl) (fun w hw => lNet1_c _ _ _ _ _ _ _ _ _ _ zW hzW w) ?_
            )
 | (refine V_id ?_; first
 | refine V_nil ?_
 | refine V_q rfl (Yl_step rfl obQ) ?_
 | refine V_n rfl ?_
            )
 | (refine G_id ?_; first
 | refine G_V ⟨⟨_, rfl, trivial⟩, ⟨_, rfl⟩, rfl, pstQ⟩ rfl ?_
 | refine G_then ?_
 | refine G_block ?_
 | refine G_blockX ?_
 | refine G_blockN rfl ?_
 | refine G_blockR ?_
 | refine G_thenR ?_
 | refine G_thenX ?_
 | refine G_ret rfl obQ (fun w2 hw => ⟨?_, hw.below⟩)
            )
          )
      rename_i bl1 b16
      obtain ⟨bl2, rfl⟩ : ∃ bl2, bl2 = b := ⟨_, rfl⟩
      obtain ⟨b17, rfl⟩ : ∃ b17, b17 = bl := ⟨_, rfl⟩
      repeat' (first
 | (refine C_id ?_; first
 | refine C_seq ?_
 | refine C_region rfl ?_
 | refine C_block ?_
 | refine C_skip ?_
 | refine C_exit ?_
 | refine C_ret0 ?_
 | refine C_draw (id := 4) rfl mixed (by kernel_rfl) ?_
 | refine C_drawT (id := 5) 8 rfl mixed (by kernel_rfl) rfl rfl ?_
 | refine C_drawT (id := 6) 8 rfl mixed (by kernel_rfl) rfl rfl ?_
 | refine C_drawT (id := 8) 8 rfl mixed (by kernel_rfl) rfl rfl ?_
 | refine C_draw (id := 18) rfl mixed (by kernel_rfl) ?_
            )
 | (refine S_id ?_; first
 | refine S_nil ?_
 | refine S_run rfl rfl obQ obQ ?_
 | refine S_box (fun b => ⟨_, _, rfl, obQ, ?_⟩)
 | refine S_slice (fun b => ⟨_, _, rfl, obQ, ?_⟩)
            )
 | (refine D_id ?_; first
 | refine D_nil ?_
 | refine D_tail ?_
 | refine D_run rfl rfl obQ obQ ?_
            )
 | (refine G_id ?_; first
 | refine G_then ?_
 | refine G_block ?_
 | refine G_blockX ?_
 | refine G_blockN rfl ?_
 | refine G_blockR ?_
 | refine G_thenR ?_
 | refine G_thenX ?_
 | refine G_ret rfl obQ (fun w hw => ⟨?_, hw.below⟩)
            )
          )
      refine C_cut (fun _ : Unit => ([K.ps, W.ps, (w, fun b => b < w.heap.size)], ⟨[(7, .s (.v (.int .i64 zC))), (9, .s (.v (.int .i64 zA))), (8, .s (.p b8 2 0)), (11, .s (.v (.int .i64 zW))), (10, .s (.p b10 3 0)), (13, .s (.v (.int .i64 zC))), (14, .s (.v (.int .i64 zE))), (15, .s (.v (.int .i64 (wh (decide (i < 0) || decide ((es.length : Int) ≤ i)) 10)))), (16, .s (.p b16 6 0)), (17, .s (.p b17 7 0)), (3, .s (.p b3 1 0)), (2, .s (.p b2 0 0))], [⟨b2, 84, [.v (.slice A names.length c), .v (.slice A2 es.length c2)]⟩, ⟨b3, 127, [.v (.slice D l.length c4), .v (.int .i64 e.F), .v (.int .i64 e.T), .v (.int .i64 e.L), .v (.int .i64 e.H), .v (.int .i64 i)]⟩, ⟨b8, 89, [.v (.slice K.A aN.length K.c), .v (.slice K.A2 aE.length K.c2)]⟩, ⟨b10, 89, [.v (.slice W.A wN.length W.c), .v (.slice W.A2 wE.length W.c2)]⟩, ⟨bl1, 3, [.v (.int .i64 0), .v (.int .i64 zE)]⟩, ⟨bl2, 3, [.v (.int .i64 0), .v (.int .i64 (wh (decide (i < 0) || decide ((es.length : Int) ≤ i)) 10))]⟩, ⟨b16, 84, [.v (.slice none 0 0), .v (.slice none 0 0)]⟩, ⟨b17, 84, [.v (.slice none 0 0), .v (.slice none 0 0)]⟩], []⟩)) ?_ (fun _ => ?_)
      · refine C_condF rfl obQ ?_
        have hz0 : ([] : List Arc).length = 0 := rfl
        rcases hcase with ⟨rfl, rfl, rfl⟩ | ⟨rfl, rfl, hLL⟩
        all_goals (
          repeat' (first
 | (refine C_id ?_; first
 | refine C_condT rfl obQ ?_
 | refine C_condF rfl obQ ?_
 | refine C_seq ?_
 | refine C_region rfl ?_
 | refine C_block ?_
 | refine C_skip ?_
 | refine C_exit ?_
 | refine C_ret0 ?_
 | refine C_draw (id := 4) rfl mixed (by kernel_rfl) ?_
 | refine C_drawT (id := 5) 8 rfl mixed (by kernel_rfl) rfl rfl ?_
 | refine C_drawT (id := 6) 8 rfl mixed (by kernel_rfl) rfl rfl ?_
 | refine C_drawT (id := 8) 8 rfl mixed (by kernel_rfl) rfl rfl ?_
 | refine C_drawV (id := 18) 6 [(0, true), (1, true), (2, true), (3, true), (4, true), (5, false)] rfl mixed (by kernel_rfl) rfl ?_
                )
 | (refine S_id ?_; first
 | ((with_reducible (first | refine S_falseN ?_ ?_ | refine S_falseB ?_ ?_ | refine S_falseL ?_ ?_ | refine S_falseD ?_ ?_ | refine S_falseE ?_ ?_)); · (first | exact decide_eq_false (by omega) | (rw [beq_eq_false_iff_ne]; omega) | (rw [bne_eq_false_iff_eq]; first | done | omega) | rfl))
 | ((with_reducible refine S_falseO ?_ ?_ ?_); (· rfl); (· first | rfl | (first | exact decide_eq_false (by omega) | (rw [beq_eq_false_iff_ne]; omega) | (rw [bne_eq_false_iff_eq]; first | done | omega) | rfl)))
 | ((with_reducible (first | refine S_trueE ?_ ?_ | refine S_trueB ?_ ?_ | refine S_trueL ?_ ?_ | refine S_trueD ?_ ?_ | refine S_trueN ?_ ?_)); · (first | exact decide_eq_true (by omega) | (rw [beq_iff_eq]; first | done | omega) | (rw [bne_iff_ne]; omega)))
 | ((with_reducible refine S_trueA ?_ ?_ ?_); (· rfl); (· first | rfl | (first | exact decide_eq_true (by omega) | (rw [beq_iff_eq]; first | done | omega) | (rw [bne_iff_ne]; omega))))
 | refine S_unG rfl rfl rfl rfl ?_
 | (refine S_callM (f := 57) rfl obQ (by kernel_rfl) (fun w hw => rplZ_c A A2 c c2 names es hNE hPl w (hw.rdm (Rd.toS hr2) memQ)) (fun w1P w2P vP hw1P hbP hRP => ?_); obtain ⟨AP, cP, rfl, hSP⟩ := hRP)
 | refine S_gK 123 rfl rfl ?_
 | refine S_gK 122 rfl rfl ?_
 | (refine S_callM (f := 72) rfl obQ (by kernel_rfl) (fun w hw => lTold_c AL cL lL hlL w (hw.rdm hSL memQ)) (fun w1T w2T vT hw1T hbT hRT => ?_); obtain ⟨AT, cT, rfl, hST⟩ := hRT)
 | refine S_offG (.v (.bool false)) rfl rfl rfl rfl rfl ?_
 | ((with_reducible refine S_notV ?_ ?_); · rfl)
 | ((with_reducible refine S_falseA ?_ ?_); · first | rfl | (simp only [Bool.and_eq_false_iff, decide_eq_false_iff_not, beq_eq_false_iff_ne, bne_eq_false_iff_eq]; omega))
 | ((with_reducible refine S_trueO ?_ ?_); · first | rfl | (simp only [Bool.or_eq_true, decide_eq_true_eq, beq_iff_eq, bne_iff_ne]; omega))
 | refine S_nil ?_
 | refine S_runN rfl rfl obQ obQ ?_
 | refine S_box (fun b => ⟨_, _, rfl, obQ, ?_⟩)
 | refine S_slice (fun b => ⟨_, _, rfl, obQ, ?_⟩)
 | refine S_call (f := 71) rfl obQ (by kernel_rfl) (fun w hw => rcklZ_c A A2 c c2 names es hNE _ _ l hl6 hLE w (hw.rdm (Rd.toS hr2) memQ) (hw.rdm (Rd.toS hr4) memQ)) ?_
 | refine S_call (f := 71) rfl obQ (by kernel_rfl) (fun w hw => rcklZ_c A A2 c c2 names es hNE _ _ lL hlL hLL w (hw.rdm (Rd.toS hr2) memQ) (hw.rdm hST memQ)) ?_
                )
 | (refine D_id ?_; first
 | refine D_nil ?_
 | refine D_tail ?_
 | refine D_run rfl rfl obQ obQ ?_
 | refine D_call (f := 71) rfl obQ (by kernel_rfl) (fun w hw => rcklZ_c A A2 c c2 names es hNE _ _ l hl6 hLE w (hw.rdm (Rd.toS hr2) memQ) (hw.rdm (Rd.toS hr4) memQ)) ?_
 | refine D_call (f := 71) rfl obQ (by kernel_rfl) (fun w hw => rcklZ_c A A2 c c2 names es hNE _ _ lL hlL hLL w (hw.rdm (Rd.toS hr2) memQ) (hw.rdm hST memQ)) ?_
                )
 | (refine V_id ?_; first
 | refine V_nil ?_
 | refine V_q rfl (Yl_step rfl obQ) ?_
 | refine V_n rfl ?_
                )
 | (refine G_id ?_; first
 | refine G_V ⟨⟨_, rfl, trivial⟩, ⟨_, rfl⟩, rfl, pstQ⟩ rfl ?_
 | refine G_cut () ⟨⟨_, rfl, obQ⟩, ⟨_, rfl⟩, rfl, psQ⟩
 | refine G_then ?_
 | refine G_block ?_
 | refine G_blockX ?_
 | refine G_blockN rfl ?_
 | refine G_blockR ?_
 | refine G_thenR ?_
 | refine G_thenX ?_
                )
              ))
      · dsimp only
        obtain ⟨hw1, hw2⟩ := wout_ok (i := i) hNE
        obtain ⟨ha1, ha2, ha3⟩ := added_ok (x := e) hNE
        rw [hEd] at ha1 ha2 ha3
        have hca : (zE ≠ 0 ∧ [] = aN ∧ [] = aE ∧ zE = zA) ∨ (zE = 0 ∧ 24 ≤ es.length ∧ [] = aN ∧ [] = aE ∧ 5 = zA) ∨ (zE = 0 ∧ ¬ 24 ≤ es.length ∧ names = aN ∧ es ++ [e] = aE ∧ 0 = zA) := by
          by_cases hE0 : zE = 0
          · by_cases h24 : 24 ≤ es.length
            · rw [ha2 hE0 h24] at hAd
              simp only [Prod.mk.injEq] at hAd
              exact .inr (.inl ⟨hE0, h24, hAd⟩)
            · rw [ha3 hE0 h24] at hAd
              simp only [Prod.mk.injEq] at hAd
              exact .inr (.inr ⟨hE0, h24, hAd⟩)
          · rw [ha1 hE0] at hAd
            simp only [Prod.mk.injEq] at hAd
            exact .inl ⟨hE0, hAd⟩
        have hcw : (∃ f : Nat, i = f ∧ f < es.length ∧ names = wN ∧ es.eraseIdx f = wE ∧ 0 = zW ∧ wh (decide (i < 0) || decide ((es.length : Int) ≤ i)) 10 = 0) ∨ ([] = wN ∧ [] = wE ∧ 10 = zW ∧ wh (decide (i < 0) || decide ((es.length : Int) ≤ i)) 10 = 10) := by
          by_cases hi0 : 0 ≤ i ∧ i < es.length
          · obtain ⟨g1, g2⟩ := hw2 hi0
            rw [g1] at hWo
            simp only [Prod.mk.injEq] at hWo
            obtain ⟨f, hf⟩ := toNat_eq hi0.1
            rw [hf, Int.toNat_natCast] at hWo
            exact .inl ⟨f, hf, by omega, hWo.1, hWo.2.1, hWo.2.2, g2⟩
          · obtain ⟨g1, g2⟩ := hw1 hi0
            rw [g1] at hWo
            simp only [Prod.mk.injEq] at hWo
            exact .inr ⟨hWo.1, hWo.2.1, hWo.2.2, g2⟩
        clear hw1 hw2 ha1 ha2 ha3
        rcases hcw with ⟨f, rfl, hfl, rfl, rfl, rfl, hq⟩ | ⟨rfl, rfl, rfl, hq⟩
        all_goals rw [hq]
        all_goals rcases hca with ⟨hzA, rfl, rfl, rfl⟩ | ⟨rfl, h24, rfl, rfl, rfl⟩ | ⟨rfl, h24, rfl, rfl, rfl⟩
        all_goals (
          repeat' (first
 | (refine C_id ?_; first
 | refine C_condT rfl obQ ?_
 | refine C_condF rfl obQ ?_
 | refine C_seq ?_
 | refine C_region rfl ?_
 | refine C_block ?_
 | refine C_skip ?_
 | refine C_exit ?_
 | refine C_ret0 ?_
 | refine C_draw (id := 4) rfl mixed (by kernel_rfl) ?_
 | refine C_drawT (id := 5) 8 rfl mixed (by kernel_rfl) rfl rfl ?_
 | refine C_drawT (id := 6) 8 rfl mixed (by kernel_rfl) rfl rfl ?_
 | refine C_drawT (id := 8) 8 rfl mixed (by kernel_rfl) rfl rfl ?_
 | refine C_draw (id := 18) rfl mixed (by kernel_rfl) ?_
                )
 | (refine S_id ?_; first
 | ((with_reducible (first | refine S_falseN ?_ ?_ | refine S_falseB ?_ ?_ | refine S_falseL ?_ ?_ | refine S_falseD ?_ ?_ | refine S_falseE ?_ ?_)); · (first | exact decide_eq_false (by omega) | (rw [beq_eq_false_iff_ne]; omega) | (rw [bne_eq_false_iff_eq]; first | done | omega) | rfl))
 | ((with_reducible refine S_falseO ?_ ?_ ?_); (· rfl); (· first | rfl | (first | exact decide_eq_false (by omega) | (rw [beq_eq_false_iff_ne]; omega) | (rw [bne_eq_false_iff_eq]; first | done | omega) | rfl)))
 | ((with_reducible (first | refine S_trueE ?_ ?_ | refine S_trueB ?_ ?_ | refine S_trueL ?_ ?_ | refine S_trueD ?_ ?_ | refine S_trueN ?_ ?_)); · (first | exact decide_eq_true (by omega) | (rw [beq_iff_eq]; first | done | omega) | (rw [bne_iff_ne]; omega)))
 | ((with_reducible refine S_trueA ?_ ?_ ?_); (· rfl); (· first | rfl | (first | exact decide_eq_true (by omega) | (rw [beq_iff_eq]; first | done | omega) | (rw [bne_iff_ne]; omega))))
 | refine S_unG rfl rfl rfl rfl ?_
 | (refine S_callM (f := 73) rfl obQ (by kernel_rfl) (fun w hw => rAddZ_c A A2 c c2 names es hn6 hm6 hA hA2 e h25 (by first | exact .inl ⟨h24, rfl, rfl, rfl⟩ | exact .inr ⟨h24, rfl, rfl, rfl⟩) w (hw.rdm (Rd.toS hr) memQ) (hw.rdm (Rd.toS hr2) memQ)) (fun w1Y w2Y vY hw1Y hbY hRY => ?_); obtain ⟨AY, AY2, cY, cY2, rfl, hSY, hTY, hcY, hdY⟩ := hRY)
 | (refine S_callM (f := 74) rfl obQ (by kernel_rfl) (fun w hw => rWithout_c A A2 c c2 names es hn6 hm6 hA f hfl w (hw.rdm (Rd.toS hr) memQ) (hw.rdm (Rd.toS hr2) memQ)) (fun w1Z w2Z vZ hw1Z hbZ hRZ => ?_); obtain ⟨AZ, AZ2, cZ, cZ2, rfl, hSZ, hTZ, hcZ, hdZ⟩ := hRZ)
 | refine S_offG (.v (.bool false)) rfl rfl rfl rfl rfl ?_
 | ((with_reducible refine S_notV ?_ ?_); · rfl)
 | ((with_reducible refine S_falseA ?_ ?_); · first | rfl | (simp only [Bool.and_eq_false_iff, decide_eq_false_iff_not, beq_eq_false_iff_ne, bne_eq_false_iff_eq]; omega))
 | ((with_reducible refine S_trueO ?_ ?_); · first | rfl | (simp only [Bool.or_eq_true, decide_eq_true_eq, beq_iff_eq, bne_iff_ne]; omega))
 | refine S_nil ?_
 | refine S_runN rfl rfl obQ obQ ?_
 | refine S_box (fun b => ⟨_, _, rfl, obQ, ?_⟩)
 | refine S_slice (fun b => ⟨_, _, rfl, obQ, ?_⟩)
 | refine S_call (f := 27) rfl obQ (by kernel_rfl) (fun w hw => awake_c w (hw.rdm hE.toS memQ) (Pw_at hP hw memQ)) ?_
 | refine S_call (f := 75) rfl obQ (by kernel_rfl) (fun w hw => lNet1_c _ _ _ _ _ _ _ _ _ _ _ (by omega) w) ?_
 | refine S_call (f := 75) rfl obQ (by kernel_rfl) (fun w hw => lNet2_c _ _ _ _ _ _ _ _ names (es ++ [e]) hn6 (by simp; omega) w (hw.rdm K.h memQ) (hw.rdm K.h2 memQ) (hw.rdm hSY memQ) (hw.rdm hTY memQ)) ?_
 | refine S_call (f := 75) rfl obQ (by kernel_rfl) (fun w hw => lNet2_c _ _ _ _ _ _ _ _ names (es.eraseIdx f) hn6 (by rw [List.length_eraseIdx]; split <;> omega) w (hw.rdm W.h memQ) (hw.rdm W.h2 memQ) (hw.rdm hSZ memQ) (hw.rdm hTZ memQ)) ?_
                )
 | (refine D_id ?_; first
 | refine D_nil ?_
 | refine D_tail ?_
 | refine D_run rfl rfl obQ obQ ?_
 | refine D_call (f := 27) rfl obQ (by kernel_rfl) (fun w hw => awake_c w (hw.rdm hE.toS memQ) (Pw_at hP hw memQ)) ?_
 | refine D_call (f := 75) rfl obQ (by kernel_rfl) (fun w hw => lNet1_c _ _ _ _ _ _ _ _ _ _ _ (by omega) w) ?_
 | refine D_call (f := 75) rfl obQ (by kernel_rfl) (fun w hw => lNet2_c _ _ _ _ _ _ _ _ names (es ++ [e]) hn6 (by simp; omega) w (hw.rdm K.h memQ) (hw.rdm K.h2 memQ) (hw.rdm hSY memQ) (hw.rdm hTY memQ)) ?_
 | refine D_call (f := 75) rfl obQ (by kernel_rfl) (fun w hw => lNet2_c _ _ _ _ _ _ _ _ names (es.eraseIdx f) hn6 (by rw [List.length_eraseIdx]; split <;> omega) w (hw.rdm W.h memQ) (hw.rdm W.h2 memQ) (hw.rdm hSZ memQ) (hw.rdm hTZ memQ)) ?_
                )
 | (refine G_id ?_; first
 | refine G_then ?_
 | refine G_block ?_
 | refine G_blockX ?_
 | refine G_blockN rfl ?_
 | refine G_blockR ?_
 | refine G_thenR ?_
 | refine G_thenX ?_
 | refine G_ret rfl obQ (fun w2 hw => ⟨?_, hw.below⟩)
                )
              ))
        all_goals rfl
    · obtain ⟨g1, g2, g3, g4⟩ := loop_bad (show netF names es ≠ 0 by rw [hNE]; exact hN0)
      rw [g1, hNE] at hLo
      rw [g2, hNE] at hLE
      rw [g3, hNE] at hAd
      rw [g4, hNE] at hWo
      simp only [Prod.mk.injEq] at hLo hAd hWo
      obtain ⟨rfl, rfl⟩ := hLo
      obtain ⟨rfl, rfl, rfl⟩ := hAd
      obtain ⟨rfl, rfl, hzz⟩ := hWo
      subst hzz
      subst hLE
      have hz0 : ([] : List Arc).length = 0 := rfl
      have hF1 : firstL [zN, zE] = zN := by simp [firstL, hN0]
      have hF2 : firstL [zN, wh (decide (i < 0) || decide ((es.length : Int) ≤ i)) 10] = zN := by simp [firstL, hN0]
      repeat' (first
 | (refine C_id ?_; first
 | refine C_condT rfl obQ ?_
 | refine C_condF rfl obQ ?_
 | refine C_seq ?_
 | refine C_region rfl ?_
 | refine C_block ?_
 | refine C_skip ?_
 | refine C_exit ?_
 | refine C_ret0 ?_
 | refine C_draw (id := 4) rfl mixed (by kernel_rfl) ?_
 | refine C_drawT (id := 5) 8 rfl mixed (by kernel_rfl) rfl rfl ?_
 | refine C_drawT (id := 6) 8 rfl mixed (by kernel_rfl) rfl rfl ?_
 | refine C_drawV (id := 8) 25 [(0, true), (1, true), (2, true), (3, true), (4, true), (5, true), (6, true), (10, true), (11, true), (12, true), (13, true), (7, false), (8, false), (9, false), (14, true), (15, true), (16, true), (17, true), (18, true), (19, true), (20, true), (21, true), (22, false), (23, false), (24, false)] rfl mixed (by kernel_rfl) rfl ?_
 | refine C_draw (id := 18) rfl mixed (by kernel_rfl) ?_
            )
 | (refine S_id ?_; first
 | ((with_reducible (first | refine S_falseN ?_ ?_ | refine S_falseB ?_ ?_ | refine S_falseL ?_ ?_ | refine S_falseD ?_ ?_ | refine S_falseE ?_ ?_)); · (first | exact decide_eq_false (by omega) | (rw [beq_eq_false_iff_ne]; omega) | (rw [bne_eq_false_iff_eq]; first | done | omega) | rfl))
 | ((with_reducible refine S_falseO ?_ ?_ ?_); (· rfl); (· first | rfl | (first | exact decide_eq_false (by omega) | (rw [beq_eq_false_iff_ne]; omega) | (rw [bne_eq_false_iff_eq]; first | done | omega) | rfl)))
 | ((with_reducible (first | refine S_trueE ?_ ?_ | refine S_trueB ?_ ?_ | refine S_trueL ?_ ?_ | refine S_trueD ?_ ?_ | refine S_trueN ?_ ?_)); · (first | exact decide_eq_true (by omega) | (rw [beq_iff_eq]; first | done | omega) | (rw [bne_iff_ne]; omega)))
 | ((with_reducible refine S_trueA ?_ ?_ ?_); (· rfl); (· first | rfl | (first | exact decide_eq_true (by omega) | (rw [beq_iff_eq]; first | done | omega) | (rw [bne_iff_ne]; omega))))
 | refine S_unG rfl rfl rfl rfl ?_
 | refine S_offG (.v (.bool false)) rfl rfl rfl rfl rfl ?_
 | ((with_reducible refine S_notV ?_ ?_); · rfl)
 | ((with_reducible refine S_falseA ?_ ?_); · first | rfl | (simp only [Bool.and_eq_false_iff, decide_eq_false_iff_not, beq_eq_false_iff_ne, bne_eq_false_iff_eq]; omega))
 | ((with_reducible refine S_trueO ?_ ?_); · first | rfl | (simp only [Bool.or_eq_true, decide_eq_true_eq, beq_iff_eq, bne_iff_ne]; omega))
 | refine S_nil ?_
 | refine S_runN rfl rfl obQ obQ ?_
 | refine S_box (fun bl => ⟨_, _, rfl, obQ, ?_⟩)
 | refine S_slice (fun b => ⟨_, _, rfl, obQ, ?_⟩)
 | refine S_call (f := 27) rfl obQ (by kernel_rfl) (fun w hw => awake_c w (hw.rdm hE.toS memQ) (Pw_at hP hw memQ)) ?_
 | refine S_call (f := 55) rfl obQ (by kernel_rfl) (fun w hw => rckn2_c A A2 c c2 names es hn6 hm6 hs hc hNE w (hw.rdm (Rd.toS hr) memQ) (hw.rdm (Rd.toS hr2) memQ)) ?_
 | refine S_call (f := 62) rfl obQ (by kernel_rfl) (fun w hw => rcke_c names.length e hEd w) ?_
 | refine S_call (f := 56) rfl obQ (by kernel_rfl) (fun w hw => rWhen_c _ _ w) ?_
 | refine S_call (f := 19) rfl obQ (by kernel_rfl) (fun w hw => lfirstZ_c _ _ hF1 w (by first | exact .inr ⟨_, rfl, hw.src (i := 4) rfl rfl⟩ | exact .inr ⟨_, rfl, hw.src (i := 5) rfl rfl⟩)) ?_
 | refine S_call (f := 19) rfl obQ (by kernel_rfl) (fun w hw => lfirstZ_c _ _ hF2 w (by first | exact .inr ⟨_, rfl, hw.src (i := 4) rfl rfl⟩ | exact .inr ⟨_, rfl, hw.src (i := 5) rfl rfl⟩)) ?_
 | refine S_call (f := 75) rfl obQ (by kernel_rfl) (fun w hw => lNet1_c _ _ _ _ _ _ _ _ _ _ zN hN0 w) ?_
            )
 | (refine D_id ?_; first
 | refine D_nil ?_
 | refine D_tail ?_
 | refine D_run rfl rfl obQ obQ ?_
 | refine D_call (f := 27) rfl obQ (by kernel_rfl) (fun w hw => awake_c w (hw.rdm hE.toS memQ) (Pw_at hP hw memQ)) ?_
 | refine D_call (f := 55) rfl obQ (by kernel_rfl) (fun w hw => rckn2_c A A2 c c2 names es hn6 hm6 hs hc hNE w (hw.rdm (Rd.toS hr) memQ) (hw.rdm (Rd.toS hr2) memQ)) ?_
 | refine D_call (f := 62) rfl obQ (by kernel_rfl) (fun w hw => rcke_c names.length e hEd w) ?_
 | refine D_call (f := 56) rfl obQ (by kernel_rfl) (fun w hw => rWhen_c _ _ w) ?_
 | refine D_call (f := 19) rfl obQ (by kernel_rfl) (fun w hw => lfirstZ_c _ _ hF1 w (by first | exact .inr ⟨_, rfl, hw.src (i := 4) rfl rfl⟩ | exact .inr ⟨_, rfl, hw.src (i := 5) rfl rfl⟩)) ?_
 | refine D_call (f := 19) rfl obQ (by kernel_rfl) (fun w hw => lfirstZ_c _ _ hF2 w (by first | exact .inr ⟨_, rfl, hw.src (i := 4) rfl rfl⟩ | exact .inr ⟨_, rfl, hw.src (i := 5) rfl rfl⟩)) ?_
 | refine D_call (f := 75) rfl obQ (by kernel_rfl) (fun w hw => lNet1_c _ _ _ _ _ _ _ _ _ _ zN hN0 w) ?_
            )
 | (refine V_id ?_; first
 | refine V_nil ?_
 | refine V_q rfl (Yl_step rfl obQ) ?_
 | refine V_n rfl ?_
            )
 | (refine G_id ?_; first
 | refine G_V ⟨⟨_, rfl, trivial⟩, ⟨_, rfl⟩, rfl, pstQ⟩ rfl ?_
 | refine G_then ?_
 | refine G_block ?_
 | refine G_blockX ?_
 | refine G_blockN rfl ?_
 | refine G_blockR ?_
 | refine G_thenR ?_
 | refine G_thenX ?_
 | refine G_ret rfl obQ (fun w2 hw => ⟨?_, hw.below⟩)
            )
          )
      all_goals rfl
  · repeat' (first
 | (refine C_id ?_; first
 | refine C_seq ?_
 | refine C_region rfl ?_
 | refine C_block ?_
 | refine C_skip ?_
 | refine C_exit ?_
 | refine C_ret0 ?_
 | refine C_draw (id := 4) rfl mixed (by kernel_rfl) ?_
 | refine C_drawT (id := 5) 8 rfl mixed (by kernel_rfl) rfl rfl ?_
 | refine C_drawT (id := 6) 8 rfl mixed (by kernel_rfl) rfl rfl ?_
 | refine C_drawT (id := 8) 8 rfl mixed (by kernel_rfl) rfl rfl ?_
 | refine C_draw (id := 18) rfl mixed (by kernel_rfl) ?_
 | refine C_condT rfl obQ ?_
 | refine C_condF rfl obQ ?_
 | (refine C_cond rfl obQ (fun h => ?_) (fun h => ?_) <;> (try simp only [Bool.or_eq_true, Bool.and_eq_true, Bool.or_eq_false_iff, Bool.and_eq_false_iff, decide_eq_true_eq, decide_eq_false_iff_not, beq_iff_eq, bne_iff_ne, beq_eq_false_iff_ne, bne_eq_false_iff_eq, ne_eq, Decidable.not_not, List.cons.injEq, and_true, Bool.not_eq_true', Bool.not_eq_false', Int.not_lt, Int.not_le] at h) <;> (try (exfalso; omega)) <;> (try (exfalso; simp at h; done)) <;> (try (exfalso; simp only [not_true_eq_false, false_or, or_false] at h; omega)) <;> (try (exfalso; simp at h; omega)))
          )
 | (refine S_id ?_; first
 | refine S_nil ?_
 | refine S_run rfl rfl obQ obQ ?_
 | refine S_box (fun b => ⟨_, _, rfl, obQ, ?_⟩)
 | refine S_slice (fun b => ⟨_, _, rfl, obQ, ?_⟩)
 | refine S_run rfl rfl obQ obQ ?_
 | refine S_call (f := 48) rfl obQ (by kernel_rfl) (fun w hw => rShort2_c A A2 c c2 names es hsh hn hm w (hw.rdm (Rd.toS hr) memQ)) ?_
 | refine S_call (f := 27) rfl obQ (by kernel_rfl) (fun w hw => awake_c w (hw.rdm hE.toS memQ) (Pw_at hP hw memQ)) ?_
          )
 | (refine D_id ?_; first
 | refine D_nil ?_
 | refine D_tail ?_
 | refine D_run rfl rfl obQ obQ ?_
 | refine D_call (f := 48) rfl obQ (by kernel_rfl) (fun w hw => rShort2_c A A2 c c2 names es hsh hn hm w (hw.rdm (Rd.toS hr) memQ)) ?_
 | refine D_call (f := 27) rfl obQ (by kernel_rfl) (fun w hw => awake_c w (hw.rdm hE.toS memQ) (Pw_at hP hw memQ)) ?_
          )
 | (refine G_id ?_; first
 | refine G_then ?_
 | refine G_block ?_
 | refine G_blockX ?_
 | refine G_blockN rfl ?_
 | refine G_blockR ?_
 | refine G_thenR ?_
 | refine G_thenX ?_
 | refine G_ret rfl obQ (fun w hw => ⟨?_, hw.below⟩)
          )
        )
    all_goals rfl

end Go.Proofs.YtmfophoejjcnlaaGreatDoor
