/- The law of plans: the walk. -/
import Derived.Test.YtmfophoejjcnlaaGreatDoorTiming36
import Derived.Test.YtmfophoejjcnlaaGreatDoorTiming56
import Derived.Test.YtmfophoejjcnlaaGreatDoorTiming63
import Derived.Test.YtmfophoejjcnlaaGreatDoorEng3
namespace Go.Proofs.YtmfophoejjcnlaaGreatDoor
open Go.E Go.RowKit
attribute [local irreducible] G C S D Calls
set_option maxRecDepth 100000
set_option linter.unusedSimpArgs false
set_option linter.unusedVariables false

set_option maxHeartbeats 400000 in
/-- timing.CheckPlan -/
theorem checkPlan_c (A A2 : Option Addr) (c c2 : Nat) (names : List ByteArray) (es : List Edg) (hn : names.length ≤ 1000000) (hm : es.length ≤ 1000000) (hs : ∀ s ∈ names, s.size ≤ maxLen) (B : Option Addr) (c3 : Nat) (ts : List Int) (ht : ts.length ≤ 1000000) (w : World) (hr : Rd w A (names.map .string)) (hr2 : Rd w A2 (es.flatMap edC)) (hr3 : Rd w B (ts.map (.int .i64))) : Calls Tryz.prog 51 #[.agg #[.slice A names.length c, .slice A2 es.length c2], .slice B ts.length c3] w fun r w' => r = .returned (.int .i64 (timesE names es ts)) ∧ Below w.heap.size w w' := by
  refine calls_of (args := [.agg #[.slice A names.length c, .slice A2 es.length c2], .slice B ts.length c3]) T_ok Tryz.func51 rfl Tryz.ntmps51 (Nat.le_of_ble_eq_true rfl) rfl ?_
  repeat' (first
 | (refine C_id ?_; first
 | refine C_seq ?_
 | refine C_region rfl ?_
 | refine C_block ?_
 | refine C_skip ?_
 | refine C_exit ?_
 | refine C_ret0 ?_
 | refine C_condT rfl obQ ?_
 | refine C_condF rfl obQ ?_
 | (refine C_cond rfl obQ (fun h => ?_) (fun h => ?_) <;> (try simp only [Bool.or_eq_true, Bool.and_eq_true, Bool.or_eq_false_iff, Bool.and_eq_false_iff, decide_eq_true_eq, decide_eq_false_iff_not, beq_iff_eq, bne_iff_ne, beq_eq_false_iff_ne, bne_eq_false_iff_eq, ne_eq, Decidable.not_not, List.cons.injEq, and_true, Bool.not_eq_true', Bool.not_eq_false', Int.not_lt, Int.not_le] at h))
      )
 | (refine S_id ?_; first
 | refine S_nil ?_
 | refine S_run rfl rfl obQ obQ ?_
 | refine S_box (fun b => ⟨_, _, rfl, obQ, ?_⟩)
 | refine S_call (f := 106) rfl obQ (by kernel_rfl) (fun w hw => checkTimes_c A A2 B c c2 c3 names es ts hn hm hs ht w (hw.rdm (Rd.toS hr) memQ) (hw.rdm (Rd.toS hr2) memQ) (hw.rdm (Rd.toS hr3) memQ)) ?_
      )
 | (refine G_id ?_; first
 | refine G_then ?_
 | refine G_block ?_
 | refine G_blockX ?_
 | refine G_blockN rfl ?_
 | refine G_blockR ?_
 | refine G_thenR ?_
 | refine G_thenX ?_
 | refine G_ret rfl obQ (fun w hw => ⟨?_, hw.below⟩)
      )
    )
  rfl

theorem planK_c (A A2 : Option Addr) (c c2 : Nat) (names : List ByteArray) (es : List Edg) (hn : names.length ≤ 1000000) (hm : es.length ≤ 1000000) (hs : ∀ s ∈ names, s.size ≤ maxLen) {l : List Int} {e : Int} (hp : planR names es = (l, e)) (w : World) (hr : Rd w A (names.map .string)) (hr2 : Rd w A2 (es.flatMap edC)) : Calls Tryz.prog 49 #[.agg #[.slice A names.length c, .slice A2 es.length c2]] w fun r w' => ∃ v, r = .returned v ∧ Below w.heap.size w w' ∧ Sl2 w w' v l.length (l.map (.int .i64)) (.int .i64 e) := by
  have h := plan_c A A2 c c2 names es hn hm hs w hr hr2
  rw [hp] at h
  exact h
theorem settK_c (A A2 : Option Addr) (c c2 : Nat) (names : List ByteArray) (es : List Edg) (hn : names.length ≤ 1000000) (hm : es.length ≤ 1000000) (hs : ∀ s ∈ names, s.size ≤ maxLen) (B : Option Addr) (c3 : Nat) (ts : List Int) (ht : ts.length ≤ 1000000) {l : List Int} {e : Int} (hp : settingsR names es ts = (l, e)) (w : World) (hr : Rd w A (names.map .string)) (hr2 : Rd w A2 (es.flatMap edC)) (hr3 : Rd w B (ts.map (.int .i64))) : Calls Tryz.prog 53 #[.agg #[.slice A names.length c, .slice A2 es.length c2], .slice B ts.length c3] w fun r w' => ∃ v, r = .returned v ∧ Below w.heap.size w w' ∧ Sl2 w w' v l.length (l.map (.int .i64)) (.int .i64 e) := by
  have h := settings_c A A2 B c c2 c3 names es ts hn hm hs ht w hr hr2 hr3
  rw [hp] at h
  exact h
theorem winK_c (A A2 : Option Addr) (c c2 : Nat) (names : List ByteArray) (es : List Edg) (hn : names.length ≤ 1000000) (hm : es.length ≤ 1000000) (hs : ∀ s ∈ names, s.size ≤ maxLen) {i a b e : Int} (hp : windowR names es i = (a, b, e)) (w : World) (hr : Rd w A (names.map .string)) (hr2 : Rd w A2 (es.flatMap edC)) : Calls Tryz.prog 54 #[.agg #[.slice A names.length c, .slice A2 es.length c2], .int .i64 i] w fun r w' => r = .returned (.tuple #[.agg #[.int .i64 a, .int .i64 b], .int .i64 e]) ∧ Below w.heap.size w w' := by
  have h := window_c A A2 c c2 names es i hn hm hs w hr hr2
  rw [hp] at h
  exact h
theorem ckpK_c (A A2 : Option Addr) (c c2 : Nat) (names : List ByteArray) (es : List Edg) (hn : names.length ≤ 1000000) (hm : es.length ≤ 1000000) (hs : ∀ s ∈ names, s.size ≤ maxLen) (B : Option Addr) (c3 : Nat) (ts : List Int) (ht : ts.length ≤ 1000000) {e : Int} (hp : timesE names es ts = e) (w : World) (hr : Rd w A (names.map .string)) (hr2 : Rd w A2 (es.flatMap edC)) (hr3 : Rd w B (ts.map (.int .i64))) : Calls Tryz.prog 51 #[.agg #[.slice A names.length c, .slice A2 es.length c2], .slice B ts.length c3] w fun r w' => r = .returned (.int .i64 e) ∧ Below w.heap.size w w' := by
  have h := checkPlan_c A A2 c c2 names es hn hm hs B c3 ts ht w hr hr2 hr3
  rw [hp] at h
  exact h
theorem cknK_c (A A2 : Option Addr) (c c2 : Nat) (names : List ByteArray) (es : List Edg) (hn : names.length ≤ 1000000) (hm : es.length ≤ 1000000) (hs : ∀ s ∈ names, s.size ≤ maxLen) {e : Int} (hp : netF names es = e) (w : World) (hr : Rd w A (names.map .string)) (hr2 : Rd w A2 (es.flatMap edC)) : Calls Tryz.prog 61 #[.agg #[.slice A names.length c, .slice A2 es.length c2]] w fun r w' => r = .returned (.int .i64 e) ∧ Below w.heap.size w w' := by
  have h := checkNet_c A A2 c c2 names es hn hm hs w hr hr2
  rw [hp] at h
  exact h
theorem rcknK_c (A A2 : Option Addr) (c c2 : Nat) (names : List ByteArray) (es : List Edg) (hn : names.length ≤ 1000000) (hm : es.length ≤ 1000000) (hs : ∀ s ∈ names, s.size ≤ maxLen) (hc : names.length ≤ c) {e : Int} (hp : netF names es = e) (w : World) (hr : Rd w A (names.map .string)) (hr2 : Rd w A2 (es.flatMap edC)) : Calls Tryz.prog 55 #[.agg #[.slice A names.length c, .slice A2 es.length c2]] w fun r w' => r = .returned (.int .i64 e) ∧ Below w.heap.size w w' := by
  have h := rCheckNet_c A A2 c c2 names es hn hm hs hc w hr hr2
  rw [hp] at h
  exact h
theorem rplK_c (A A2 : Option Addr) (c c2 : Nat) (names : List ByteArray) (es : List Edg) (hN : netF names es = 0) {l : List Int} {e : Int} (hp : planR names es = (l, e)) (w : World) (hr2 : Rd w A2 (es.flatMap edC)) : Calls Tryz.prog 57 #[.agg #[.slice A names.length c, .slice A2 es.length c2]] w fun r w' => ∃ v, r = .returned v ∧ Below w.heap.size w w' ∧ Sl2 w w' v l.length (l.map (.int .i64)) (.int .i64 e) := by
  have ok := netF_ok hN
  exact rPlanK_c A A2 c c2 names.length es ok.m ok.n0 ok.n ok.e ((plan_eq hN).symm.trans hp) w hr2
theorem rctK_c (A A2 : Option Addr) (c c2 : Nat) (names : List ByteArray) (es : List Edg) (hN : netF names es = 0) (B : Option Addr) (c3 : Nat) (ts : List Int) (ht : ts.length ≤ 1000000) {e : Int} (hp : timesE names es ts = e) (w : World) (hr2 : Rd w A2 (es.flatMap edC)) (hr3 : Rd w B (ts.map (.int .i64))) : Calls Tryz.prog 58 #[.agg #[.slice A names.length c, .slice A2 es.length c2], .slice B ts.length c3] w fun r w' => r = .returned (.int .i64 e) ∧ Below w.heap.size w w' := by
  have h := rCheckTimes_c A A2 B c c2 c3 names es ts hN ht w hr2 hr3
  rw [hp] at h
  exact h
theorem rseK_c (A A2 : Option Addr) (c c2 : Nat) (names : List ByteArray) (es : List Edg) (B : Option Addr) (c3 : Nat) (ts : List Int) (ht : ts.length ≤ 1000000) {l : List Int} (hT : timesE names es ts = 0) (hp : settingsR names es ts = (l, 0)) (w : World) (hr2 : Rd w A2 (es.flatMap edC)) (hr3 : Rd w B (ts.map (.int .i64))) : Calls Tryz.prog 59 #[.agg #[.slice A names.length c, .slice A2 es.length c2], .slice B ts.length c3] w fun r w' => ∃ v, r = .returned v ∧ Below w.heap.size w w' ∧ Sl w w' v l.length (l.map (.int .i64)) := by
  obtain ⟨hN, hlen, h2⟩ := timesE_ok hT
  have ok := netF_ok hN
  have h := rSettings_c A A2 B c c2 c3 names.length ts.length es ts (by have := ok.m; omega) hlen hlen.symm ok.n0 ok.e ((bdT_of (B := 10000000) (by omega) h2).le (by omega)) w hr2 hr3
  have e1 : es.map (setF ts) = l := by
    unfold settingsR at hp
    rw [if_neg (by simp [hT])] at hp
    exact (Prod.mk.inj hp).1
  have e2 : l.length = es.length := by rw [← e1, List.length_map]
  rw [e1] at h
  rw [e2]
  exact h
theorem rwiK_c (A A2 : Option Addr) (c c2 : Nat) (names : List ByteArray) (es : List Edg) {i a b e : Int} (hW : windowE names es i = 0) (hp : windowR names es i = (a, b, e)) (w : World) (hr2 : Rd w A2 (es.flatMap edC)) : Calls Tryz.prog 60 #[.agg #[.slice A names.length c, .slice A2 es.length c2], .int .i64 i] w fun r w' => r = .returned (.tuple #[.agg #[.int .i64 a, .int .i64 b], .int .i64 e]) ∧ Below w.heap.size w w' := by
  obtain ⟨hN, hi0, hi1⟩ := windowE_ok hW
  have ok := netF_ok hN
  have hq := win_eq hW
  obtain ⟨f, rfl⟩ := toNat_eq hi0
  rw [Int.toNat_natCast] at hq
  have h := rWindow_c A A2 c c2 names.length f es ok.m ok.n0 ok.n ok.e (by omega) w hr2
  rw [← hq, hp] at h
  exact h
theorem lfirstK_c {A : Option Addr} {c n : Nat} (l : List Int) {z : Int} (hn : l.length = n) (hl : n ≤ 1000000) (hz : firstL l = z) (w : World) (hr : Rd w A (l.map (.int .i64))) : Calls Tryz.prog 19 #[.slice A n c] w fun r w' => r = .returned (.int .i64 z) ∧ Below w.heap.size w w' := by
  subst hn
  have h := lfirst_c A c l hl w hr
  rw [hz] at h
  exact h
theorem sameIntsN_c (A : Option Addr) (c : Nat) (l : List Int) (h : l = []) (w : World) : Calls Tryz.prog 47 #[.slice A l.length c, .slice none 0 0] w fun r w' => r = .returned (.bool true) ∧ Below w.heap.size w w' := by
  subst h
  exact sameIntsT_c A none c 0 [] 0 rfl (Nat.zero_le _) w (.inl rfl) (.inl rfl)

theorem shortB_len {names : List ByteArray} {es : List Edg} (h : shortB names es = true) : names.length ≤ 13 ∧ es.length ≤ 25 := by
  unfold shortB at h
  simp only [Bool.and_eq_true, Bool.or_eq_true, decide_eq_true_eq, beq_iff_eq] at h
  omega
theorem planR_len (names : List ByteArray) (es : List Edg) : (planR names es).1.length ≤ names.length := by
  unfold planR
  split
  · exact Nat.zero_le _
  · split
    · exact Nat.zero_le _
    · simp [longW_len]
theorem settR_len (names : List ByteArray) (es : List Edg) (ts : List Int) : (settingsR names es ts).1.length ≤ es.length := by
  unfold settingsR
  split
  · exact Nat.zero_le _
  · simp
theorem planR_no {names : List ByteArray} {es : List Edg} (h : ¬ netF names es = 0) : planR names es = ([], netF names es) := by unfold planR; rw [if_pos h]
theorem settR_no {names : List ByteArray} {es : List Edg} {ts : List Int} (h : ¬ timesE names es ts = 0) : settingsR names es ts = ([], timesE names es ts) := by unfold settingsR; rw [if_pos h]
theorem winR_no {names : List ByteArray} {es : List Edg} {i : Int} (h : ¬ windowE names es i = 0) : windowR names es i = (0, 0, windowE names es i) := by unfold windowR; rw [if_pos h]
theorem timesE_net {names : List ByteArray} {es : List Edg} {ts : List Int} (h : ¬ netF names es = 0) : timesE names es ts = netF names es := by
  have h1 : timesE1 names es ts = netF names es := by unfold timesE1; simp [firstL, h]
  rw [timesE_1 (by rw [h1]; exact h), h1]
theorem rShort1_c (A A2 : Option Addr) (c c2 : Nat) (names : List ByteArray) (es : List Edg) (hsh : shortB names es = true) (hn : names.length ≤ 9223372036854775807) (hm : es.length ≤ 9223372036854775807) (w : World) (hr : Rd w A (names.map .string)) : Calls Tryz.prog 48 #[.agg #[.slice A names.length c, .slice A2 es.length c2]] w fun r w' => r = .returned (.bool true) ∧ Below w.heap.size w w' := by
  have h := rShort_c A A2 c c2 names es hn hm w hr
  rw [hsh] at h
  exact h
set_option maxHeartbeats 8000000 in
/-- genlocklaw04.TimingPlans -/
theorem lPlans_c (A A2 B : Option Addr) (c c2 c3 : Nat) (names : List ByteArray) (es : List Edg) (ts : List Int) (node : Int) (hn : names.length ≤ 9223372036854775807) (hm : es.length ≤ 9223372036854775807) (hs : ∀ s ∈ names, s.size ≤ maxLen) (hc : names.length ≤ c) (hA : A = none → names.length = 0 ∧ c = 0) (hB : B = none → ts.length = 0 ∧ c3 = 0) (w : World) (hr : Rd w A (names.map .string)) (hr2 : Rd w A2 (es.flatMap edC)) (hr3 : Rd w B (ts.map (.int .i64))) (hE : Ex w) (hP : Pw w) : Calls Tryz.prog 8 #[.agg #[.slice A names.length c, .slice A2 es.length c2], .slice B ts.length c3, .int .i64 node] w fun r w' => r = .returned (.bool true) ∧ Below w.heap.size w w' := by
  refine calls_of (args := [.agg #[.slice A names.length c, .slice A2 es.length c2], .slice B ts.length c3, .int .i64 node]) T_ok Tryz.func8 rfl Tryz.ntmps8 (Nat.le_of_ble_eq_true rfl) rfl ?_
  by_cases hsh : shortB names es = true ∧ ts.length ≤ 14
  · obtain ⟨hsh1, hts⟩ := hsh
    have hlen := shortB_len hsh1
    have hn6 : names.length ≤ 1000000 := by omega
    have hm6 : es.length ≤ 1000000 := by omega
    have ht6 : ts.length ≤ 1000000 := by omega
    obtain ⟨lP, eP, hPl⟩ : ∃ l e, planR names es = (l, e) := ⟨_, _, rfl⟩
    obtain ⟨lS, eS, hSt⟩ : ∃ l e, settingsR names es ts = (l, e) := ⟨_, _, rfl⟩
    obtain ⟨xa, xb, eW, hWi⟩ : ∃ a b e, windowR names es node = (a, b, e) := ⟨_, _, _, rfl⟩
    obtain ⟨zN, hNE⟩ : ∃ z, netF names es = z := ⟨_, rfl⟩
    obtain ⟨zT, hTE⟩ : ∃ z, timesE names es ts = z := ⟨_, rfl⟩
    obtain ⟨zW, hWE⟩ : ∃ z, windowE names es node = z := ⟨_, rfl⟩
    have hlP : lP.length ≤ 1000000 := by have := planR_len names es; rw [hPl] at this; dsimp only at this; omega
    have hlS : lS.length ≤ 1000000 := by have := settR_len names es ts; rw [hSt] at this; dsimp only at this; omega
    have hFi : firstL [zN, wh (decide (node < 0) || decide ((names.length : Int) ≤ node)) 10] = zW := by rw [← hWE, ← hNE]; rfl
    by_cases hN0 : zN = 0
    · subst hN0
      have hN := hNE
      by_cases hT0 : zT = 0
      · subst hT0
        have hT := hTE
        have hS1 : eS = 0 := by unfold settingsR at hSt; rw [if_neg (by simp [hT])] at hSt; exact ((Prod.mk.inj hSt).2).symm
        subst hS1
        by_cases hW0 : zW = 0
        · subst hW0
          have hW := hWE
          repeat' (first
 | (refine C_id ?_; first
 | refine C_seq ?_
 | refine C_region rfl ?_
 | refine C_block ?_
 | refine C_skip ?_
 | refine C_exit ?_
 | refine C_ret0 ?_
 | refine C_condT rfl obQ ?_
 | refine C_condF rfl obQ ?_
 | (refine C_cond rfl obQ (fun h => ?_) (fun h => ?_) <;> (try simp only [Bool.or_eq_true, Bool.and_eq_true, Bool.or_eq_false_iff, Bool.and_eq_false_iff, decide_eq_true_eq, decide_eq_false_iff_not, beq_iff_eq, bne_iff_ne, beq_eq_false_iff_ne, bne_eq_false_iff_eq, ne_eq, Decidable.not_not, List.cons.injEq, and_true, Bool.not_eq_true', Bool.not_eq_false', Int.not_lt, Int.not_le] at h) <;> (try (exfalso; omega)))
                )
 | (refine S_id ?_; first
 | ((with_reducible (first | refine S_trueE ?_ ?_ | refine S_trueB ?_ ?_ | refine S_trueL ?_ ?_ | refine S_trueD ?_ ?_ | refine S_trueN ?_ ?_)); · (first | exact beq_self_eq_true _ | (rw [beq_iff_eq]; first | rfl | assumption)))
 | ((with_reducible refine S_trueA ?_ ?_ ?_); (· rfl); (· first | rfl | (first | exact beq_self_eq_true _ | (rw [beq_iff_eq]; first | rfl | assumption))))
 | refine S_unG rfl rfl rfl rfl ?_
 | (refine S_callM (f := 50) rfl obQ (by kernel_rfl) (fun w hw => lGiven_c A A2 c c2 names es hn6 hm6 hA w (hw.rdm (Rd.toS hr) memQ) (hw.rdm (Rd.toS hr2) memQ)) (fun w1N w2N vN hw1N hbN hRN => ?_); obtain ⟨AN, AN2, cN, cN2, rfl, hSN, hTN⟩ := hRN)
 | (refine S_callM (f := 52) rfl obQ (by kernel_rfl) (fun w hw => lInts_c B c3 ts ht6 hB w (hw.rdm (Rd.toS hr3) memQ)) (fun w1I w2I vI hw1I hbI hRI => ?_); obtain ⟨AI, cI, rfl, hSI⟩ := hRI)
 | (refine S_callM (f := 49) rfl obQ (by kernel_rfl) (fun w hw => planK_c _ _ _ _ names es hn6 hm6 hs hPl w (hw.rdm hSN memQ) (hw.rdm hTN memQ)) (fun w1P w2P vP hw1P hbP hRP => ?_); obtain ⟨AP, cP, rfl, hSP⟩ := hRP)
 | (refine S_callM (f := 53) rfl obQ (by kernel_rfl) (fun w hw => settK_c _ _ _ _ names es hn6 hm6 hs _ _ ts ht6 hSt w (hw.rdm hSN memQ) (hw.rdm hTN memQ) (hw.rdm hSI memQ)) (fun w1S w2S vS hw1S hbS hRS => ?_); obtain ⟨AS, cS, rfl, hSS⟩ := hRS)
 | (refine S_callM (f := 57) rfl obQ (by kernel_rfl) (fun w hw => rplK_c A A2 c c2 names es hN hPl w (hw.rdm (Rd.toS hr2) memQ)) (fun w1Q w2Q vQ hw1Q hbQ hRQ => ?_); obtain ⟨AQ, cQ, rfl, hSQ⟩ := hRQ)
 | (refine S_callM (f := 59) rfl obQ (by kernel_rfl) (fun w hw => rseK_c A A2 c c2 names es B c3 ts ht6 hT hSt w (hw.rdm (Rd.toS hr2) memQ) (hw.rdm (Rd.toS hr3) memQ)) (fun w1Z w2Z vZ hw1Z hbZ hRZ => ?_); obtain ⟨AZ, cZ, rfl, hSZ⟩ := hRZ)
 | refine S_pure (binX_pure rfl obQ (fun w => eq_flat (k := .i64) (n := 2) (xs := [xa, xb]) (ys := [xa, xb]) (by kernel_rfl) rfl rfl _ _ w)) ?_
 | refine S_pure (binX_pure rfl obQ (fun w => eq_flat (k := .i64) (n := 2) (xs := [0, 0]) (ys := [0, 0]) (by kernel_rfl) rfl rfl _ _ w)) ?_
 | refine S_nil ?_
 | refine S_runN rfl rfl obQ obQ ?_
 | refine S_box (fun b => ⟨_, _, rfl, obQ, ?_⟩)
 | refine S_slice (fun b => ⟨_, _, rfl, obQ, ?_⟩)
 | refine S_call (f := 51) rfl obQ (by kernel_rfl) (fun w hw => ckpK_c _ _ _ _ names es hn6 hm6 hs _ _ ts ht6 hTE w (hw.rdm hSN memQ) (hw.rdm hTN memQ) (hw.rdm hSI memQ)) ?_
 | refine S_call (f := 54) rfl obQ (by kernel_rfl) (fun w hw => winK_c _ _ _ _ names es hn6 hm6 hs hWi w (hw.rdm hSN memQ) (hw.rdm hTN memQ)) ?_
 | refine S_call (f := 61) rfl obQ (by kernel_rfl) (fun w hw => cknK_c _ _ _ _ names es hn6 hm6 hs hNE w (hw.rdm hSN memQ) (hw.rdm hTN memQ)) ?_
 | refine S_call (f := 55) rfl obQ (by kernel_rfl) (fun w hw => rcknK_c A A2 c c2 names es hn6 hm6 hs hc hNE w (hw.rdm (Rd.toS hr) memQ) (hw.rdm (Rd.toS hr2) memQ)) ?_
 | refine S_call (f := 56) rfl obQ (by kernel_rfl) (fun w hw => rWhen_c _ _ w) ?_
 | refine S_call (f := 19) rfl obQ (by kernel_rfl) (fun w hw => lfirstK_c (n := 2) [_, _] rfl (by omega) hFi w (by first | exact .inr ⟨_, rfl, hw.src (i := 1) rfl rfl⟩ | exact .inr ⟨_, rfl, hw.src (i := 2) rfl rfl⟩ | exact .inr ⟨_, rfl, hw.src (i := 3) rfl rfl⟩ | exact .inr ⟨_, rfl, hw.src (i := 4) rfl rfl⟩ | exact .inr ⟨_, rfl, hw.src (i := 5) rfl rfl⟩)) ?_
 | refine S_call (f := 58) rfl obQ (by kernel_rfl) (fun w hw => rctK_c A A2 c c2 names es hN B c3 ts ht6 hTE w (hw.rdm (Rd.toS hr2) memQ) (hw.rdm (Rd.toS hr3) memQ)) ?_
 | refine S_call (f := 60) rfl obQ (by kernel_rfl) (fun w hw => rwiK_c A A2 c c2 names es hW hWi w (hw.rdm (Rd.toS hr2) memQ)) ?_
 | refine S_call (f := 27) rfl obQ (by kernel_rfl) (fun w hw => awake_c w (hw.rdm hE.toS memQ) (Pw_at hP hw memQ)) ?_
 | refine S_call (f := 47) rfl obQ (by kernel_rfl) (fun w hw => sameIntsT_c _ _ _ _ lP _ rfl hlP w (hw.rdm hSP memQ) (hw.rdm hSQ memQ)) ?_
 | refine S_call (f := 47) rfl obQ (by kernel_rfl) (fun w hw => sameIntsT_c _ _ _ _ lS _ rfl hlS w (hw.rdm hSS memQ) (hw.rdm hSZ memQ)) ?_
 | refine S_call (f := 47) rfl obQ (by kernel_rfl) (fun w hw => sameIntsN_c _ _ lP hP0 w) ?_
 | refine S_call (f := 47) rfl obQ (by kernel_rfl) (fun w hw => sameIntsN_c _ _ lS hS0 w) ?_
 | refine S_call (f := 48) rfl obQ (by kernel_rfl) (fun w hw => rShort1_c A A2 c c2 names es hsh1 hn hm w (hw.rdm (Rd.toS hr) memQ)) ?_
                )
 | (refine G_id ?_; first
 | refine G_then ?_
 | refine G_block ?_
 | refine G_blockX ?_
 | refine G_blockN rfl ?_
 | refine G_blockR ?_
 | refine G_thenR ?_
 | refine G_thenX ?_
 | refine G_ret rfl obQ (fun w hw => ⟨?_, hw.below⟩)
                )
              )
          all_goals rfl
        · have hx := winR_no (hWE ▸ hW0 : ¬ windowE names es node = 0)
          rw [hWi, hWE] at hx
          simp only [Prod.mk.injEq] at hx
          obtain ⟨rfl, rfl, rfl⟩ := hx
          repeat' (first
 | (refine C_id ?_; first
 | refine C_seq ?_
 | refine C_region rfl ?_
 | refine C_block ?_
 | refine C_skip ?_
 | refine C_exit ?_
 | refine C_ret0 ?_
 | refine C_condT rfl obQ ?_
 | refine C_condF rfl obQ ?_
 | (refine C_cond rfl obQ (fun h => ?_) (fun h => ?_) <;> (try simp only [Bool.or_eq_true, Bool.and_eq_true, Bool.or_eq_false_iff, Bool.and_eq_false_iff, decide_eq_true_eq, decide_eq_false_iff_not, beq_iff_eq, bne_iff_ne, beq_eq_false_iff_ne, bne_eq_false_iff_eq, ne_eq, Decidable.not_not, List.cons.injEq, and_true, Bool.not_eq_true', Bool.not_eq_false', Int.not_lt, Int.not_le] at h) <;> (try (exfalso; omega)))
                )
 | (refine S_id ?_; first
 | ((with_reducible (first | refine S_trueE ?_ ?_ | refine S_trueB ?_ ?_ | refine S_trueL ?_ ?_ | refine S_trueD ?_ ?_ | refine S_trueN ?_ ?_)); · (first | exact beq_self_eq_true _ | (rw [beq_iff_eq]; first | rfl | assumption)))
 | ((with_reducible refine S_trueA ?_ ?_ ?_); (· rfl); (· first | rfl | (first | exact beq_self_eq_true _ | (rw [beq_iff_eq]; first | rfl | assumption))))
 | refine S_unG rfl rfl rfl rfl ?_
 | (refine S_callM (f := 50) rfl obQ (by kernel_rfl) (fun w hw => lGiven_c A A2 c c2 names es hn6 hm6 hA w (hw.rdm (Rd.toS hr) memQ) (hw.rdm (Rd.toS hr2) memQ)) (fun w1N w2N vN hw1N hbN hRN => ?_); obtain ⟨AN, AN2, cN, cN2, rfl, hSN, hTN⟩ := hRN)
 | (refine S_callM (f := 52) rfl obQ (by kernel_rfl) (fun w hw => lInts_c B c3 ts ht6 hB w (hw.rdm (Rd.toS hr3) memQ)) (fun w1I w2I vI hw1I hbI hRI => ?_); obtain ⟨AI, cI, rfl, hSI⟩ := hRI)
 | (refine S_callM (f := 49) rfl obQ (by kernel_rfl) (fun w hw => planK_c _ _ _ _ names es hn6 hm6 hs hPl w (hw.rdm hSN memQ) (hw.rdm hTN memQ)) (fun w1P w2P vP hw1P hbP hRP => ?_); obtain ⟨AP, cP, rfl, hSP⟩ := hRP)
 | (refine S_callM (f := 53) rfl obQ (by kernel_rfl) (fun w hw => settK_c _ _ _ _ names es hn6 hm6 hs _ _ ts ht6 hSt w (hw.rdm hSN memQ) (hw.rdm hTN memQ) (hw.rdm hSI memQ)) (fun w1S w2S vS hw1S hbS hRS => ?_); obtain ⟨AS, cS, rfl, hSS⟩ := hRS)
 | (refine S_callM (f := 57) rfl obQ (by kernel_rfl) (fun w hw => rplK_c A A2 c c2 names es hN hPl w (hw.rdm (Rd.toS hr2) memQ)) (fun w1Q w2Q vQ hw1Q hbQ hRQ => ?_); obtain ⟨AQ, cQ, rfl, hSQ⟩ := hRQ)
 | (refine S_callM (f := 59) rfl obQ (by kernel_rfl) (fun w hw => rseK_c A A2 c c2 names es B c3 ts ht6 hT hSt w (hw.rdm (Rd.toS hr2) memQ) (hw.rdm (Rd.toS hr3) memQ)) (fun w1Z w2Z vZ hw1Z hbZ hRZ => ?_); obtain ⟨AZ, cZ, rfl, hSZ⟩ := hRZ)
 | refine S_pure (binX_pure rfl obQ (fun w => eq_flat (k := .i64) (n := 2) (xs := [xa, xb]) (ys := [xa, xb]) (by kernel_rfl) rfl rfl _ _ w)) ?_
 | refine S_pure (binX_pure rfl obQ (fun w => eq_flat (k := .i64) (n := 2) (xs := [0, 0]) (ys := [0, 0]) (by kernel_rfl) rfl rfl _ _ w)) ?_
 | refine S_nil ?_
 | refine S_runN rfl rfl obQ obQ ?_
 | refine S_box (fun b => ⟨_, _, rfl, obQ, ?_⟩)
 | refine S_slice (fun b => ⟨_, _, rfl, obQ, ?_⟩)
 | refine S_call (f := 51) rfl obQ (by kernel_rfl) (fun w hw => ckpK_c _ _ _ _ names es hn6 hm6 hs _ _ ts ht6 hTE w (hw.rdm hSN memQ) (hw.rdm hTN memQ) (hw.rdm hSI memQ)) ?_
 | refine S_call (f := 54) rfl obQ (by kernel_rfl) (fun w hw => winK_c _ _ _ _ names es hn6 hm6 hs hWi w (hw.rdm hSN memQ) (hw.rdm hTN memQ)) ?_
 | refine S_call (f := 61) rfl obQ (by kernel_rfl) (fun w hw => cknK_c _ _ _ _ names es hn6 hm6 hs hNE w (hw.rdm hSN memQ) (hw.rdm hTN memQ)) ?_
 | refine S_call (f := 55) rfl obQ (by kernel_rfl) (fun w hw => rcknK_c A A2 c c2 names es hn6 hm6 hs hc hNE w (hw.rdm (Rd.toS hr) memQ) (hw.rdm (Rd.toS hr2) memQ)) ?_
 | refine S_call (f := 56) rfl obQ (by kernel_rfl) (fun w hw => rWhen_c _ _ w) ?_
 | refine S_call (f := 19) rfl obQ (by kernel_rfl) (fun w hw => lfirstK_c (n := 2) [_, _] rfl (by omega) hFi w (by first | exact .inr ⟨_, rfl, hw.src (i := 1) rfl rfl⟩ | exact .inr ⟨_, rfl, hw.src (i := 2) rfl rfl⟩ | exact .inr ⟨_, rfl, hw.src (i := 3) rfl rfl⟩ | exact .inr ⟨_, rfl, hw.src (i := 4) rfl rfl⟩ | exact .inr ⟨_, rfl, hw.src (i := 5) rfl rfl⟩)) ?_
 | refine S_call (f := 58) rfl obQ (by kernel_rfl) (fun w hw => rctK_c A A2 c c2 names es hN B c3 ts ht6 hTE w (hw.rdm (Rd.toS hr2) memQ) (hw.rdm (Rd.toS hr3) memQ)) ?_
 | refine S_call (f := 60) rfl obQ (by kernel_rfl) (fun w hw => rwiK_c A A2 c c2 names es hW hWi w (hw.rdm (Rd.toS hr2) memQ)) ?_
 | refine S_call (f := 27) rfl obQ (by kernel_rfl) (fun w hw => awake_c w (hw.rdm hE.toS memQ) (Pw_at hP hw memQ)) ?_
 | refine S_call (f := 47) rfl obQ (by kernel_rfl) (fun w hw => sameIntsT_c _ _ _ _ lP _ rfl hlP w (hw.rdm hSP memQ) (hw.rdm hSQ memQ)) ?_
 | refine S_call (f := 47) rfl obQ (by kernel_rfl) (fun w hw => sameIntsT_c _ _ _ _ lS _ rfl hlS w (hw.rdm hSS memQ) (hw.rdm hSZ memQ)) ?_
 | refine S_call (f := 47) rfl obQ (by kernel_rfl) (fun w hw => sameIntsN_c _ _ lP hP0 w) ?_
 | refine S_call (f := 47) rfl obQ (by kernel_rfl) (fun w hw => sameIntsN_c _ _ lS hS0 w) ?_
 | refine S_call (f := 48) rfl obQ (by kernel_rfl) (fun w hw => rShort1_c A A2 c c2 names es hsh1 hn hm w (hw.rdm (Rd.toS hr) memQ)) ?_
                )
 | (refine G_id ?_; first
 | refine G_then ?_
 | refine G_block ?_
 | refine G_blockX ?_
 | refine G_blockN rfl ?_
 | refine G_blockR ?_
 | refine G_thenR ?_
 | refine G_thenX ?_
 | refine G_ret rfl obQ (fun w hw => ⟨?_, hw.below⟩)
                )
              )
          all_goals rfl
      · have hx := settR_no (hTE ▸ hT0 : ¬ timesE names es ts = 0)
        rw [hSt, hTE] at hx
        simp only [Prod.mk.injEq] at hx
        obtain ⟨hS0, rfl⟩ := hx
        by_cases hW0 : zW = 0
        · subst hW0
          have hW := hWE
          repeat' (first
 | (refine C_id ?_; first
 | refine C_seq ?_
 | refine C_region rfl ?_
 | refine C_block ?_
 | refine C_skip ?_
 | refine C_exit ?_
 | refine C_ret0 ?_
 | refine C_condT rfl obQ ?_
 | refine C_condF rfl obQ ?_
 | (refine C_cond rfl obQ (fun h => ?_) (fun h => ?_) <;> (try simp only [Bool.or_eq_true, Bool.and_eq_true, Bool.or_eq_false_iff, Bool.and_eq_false_iff, decide_eq_true_eq, decide_eq_false_iff_not, beq_iff_eq, bne_iff_ne, beq_eq_false_iff_ne, bne_eq_false_iff_eq, ne_eq, Decidable.not_not, List.cons.injEq, and_true, Bool.not_eq_true', Bool.not_eq_false', Int.not_lt, Int.not_le] at h) <;> (try (exfalso; omega)))
                )
 | (refine S_id ?_; first
 | ((with_reducible (first | refine S_trueE ?_ ?_ | refine S_trueB ?_ ?_ | refine S_trueL ?_ ?_ | refine S_trueD ?_ ?_ | refine S_trueN ?_ ?_)); · (first | exact beq_self_eq_true _ | (rw [beq_iff_eq]; first | rfl | assumption)))
 | ((with_reducible refine S_trueA ?_ ?_ ?_); (· rfl); (· first | rfl | (first | exact beq_self_eq_true _ | (rw [beq_iff_eq]; first | rfl | assumption))))
 | refine S_unG rfl rfl rfl rfl ?_
 | (refine S_callM (f := 50) rfl obQ (by kernel_rfl) (fun w hw => lGiven_c A A2 c c2 names es hn6 hm6 hA w (hw.rdm (Rd.toS hr) memQ) (hw.rdm (Rd.toS hr2) memQ)) (fun w1N w2N vN hw1N hbN hRN => ?_); obtain ⟨AN, AN2, cN, cN2, rfl, hSN, hTN⟩ := hRN)
 | (refine S_callM (f := 52) rfl obQ (by kernel_rfl) (fun w hw => lInts_c B c3 ts ht6 hB w (hw.rdm (Rd.toS hr3) memQ)) (fun w1I w2I vI hw1I hbI hRI => ?_); obtain ⟨AI, cI, rfl, hSI⟩ := hRI)
 | (refine S_callM (f := 49) rfl obQ (by kernel_rfl) (fun w hw => planK_c _ _ _ _ names es hn6 hm6 hs hPl w (hw.rdm hSN memQ) (hw.rdm hTN memQ)) (fun w1P w2P vP hw1P hbP hRP => ?_); obtain ⟨AP, cP, rfl, hSP⟩ := hRP)
 | (refine S_callM (f := 53) rfl obQ (by kernel_rfl) (fun w hw => settK_c _ _ _ _ names es hn6 hm6 hs _ _ ts ht6 hSt w (hw.rdm hSN memQ) (hw.rdm hTN memQ) (hw.rdm hSI memQ)) (fun w1S w2S vS hw1S hbS hRS => ?_); obtain ⟨AS, cS, rfl, hSS⟩ := hRS)
 | (refine S_callM (f := 57) rfl obQ (by kernel_rfl) (fun w hw => rplK_c A A2 c c2 names es hN hPl w (hw.rdm (Rd.toS hr2) memQ)) (fun w1Q w2Q vQ hw1Q hbQ hRQ => ?_); obtain ⟨AQ, cQ, rfl, hSQ⟩ := hRQ)
 | (refine S_callM (f := 59) rfl obQ (by kernel_rfl) (fun w hw => rseK_c A A2 c c2 names es B c3 ts ht6 hT hSt w (hw.rdm (Rd.toS hr2) memQ) (hw.rdm (Rd.toS hr3) memQ)) (fun w1Z w2Z vZ hw1Z hbZ hRZ => ?_); obtain ⟨AZ, cZ, rfl, hSZ⟩ := hRZ)
 | refine S_pure (binX_pure rfl obQ (fun w => eq_flat (k := .i64) (n := 2) (xs := [xa, xb]) (ys := [xa, xb]) (by kernel_rfl) rfl rfl _ _ w)) ?_
 | refine S_pure (binX_pure rfl obQ (fun w => eq_flat (k := .i64) (n := 2) (xs := [0, 0]) (ys := [0, 0]) (by kernel_rfl) rfl rfl _ _ w)) ?_
 | refine S_nil ?_
 | refine S_runN rfl rfl obQ obQ ?_
 | refine S_box (fun b => ⟨_, _, rfl, obQ, ?_⟩)
 | refine S_slice (fun b => ⟨_, _, rfl, obQ, ?_⟩)
 | refine S_call (f := 51) rfl obQ (by kernel_rfl) (fun w hw => ckpK_c _ _ _ _ names es hn6 hm6 hs _ _ ts ht6 hTE w (hw.rdm hSN memQ) (hw.rdm hTN memQ) (hw.rdm hSI memQ)) ?_
 | refine S_call (f := 54) rfl obQ (by kernel_rfl) (fun w hw => winK_c _ _ _ _ names es hn6 hm6 hs hWi w (hw.rdm hSN memQ) (hw.rdm hTN memQ)) ?_
 | refine S_call (f := 61) rfl obQ (by kernel_rfl) (fun w hw => cknK_c _ _ _ _ names es hn6 hm6 hs hNE w (hw.rdm hSN memQ) (hw.rdm hTN memQ)) ?_
 | refine S_call (f := 55) rfl obQ (by kernel_rfl) (fun w hw => rcknK_c A A2 c c2 names es hn6 hm6 hs hc hNE w (hw.rdm (Rd.toS hr) memQ) (hw.rdm (Rd.toS hr2) memQ)) ?_
 | refine S_call (f := 56) rfl obQ (by kernel_rfl) (fun w hw => rWhen_c _ _ w) ?_
 | refine S_call (f := 19) rfl obQ (by kernel_rfl) (fun w hw => lfirstK_c (n := 2) [_, _] rfl (by omega) hFi w (by first | exact .inr ⟨_, rfl, hw.src (i := 1) rfl rfl⟩ | exact .inr ⟨_, rfl, hw.src (i := 2) rfl rfl⟩ | exact .inr ⟨_, rfl, hw.src (i := 3) rfl rfl⟩ | exact .inr ⟨_, rfl, hw.src (i := 4) rfl rfl⟩ | exact .inr ⟨_, rfl, hw.src (i := 5) rfl rfl⟩)) ?_
 | refine S_call (f := 58) rfl obQ (by kernel_rfl) (fun w hw => rctK_c A A2 c c2 names es hN B c3 ts ht6 hTE w (hw.rdm (Rd.toS hr2) memQ) (hw.rdm (Rd.toS hr3) memQ)) ?_
 | refine S_call (f := 60) rfl obQ (by kernel_rfl) (fun w hw => rwiK_c A A2 c c2 names es hW hWi w (hw.rdm (Rd.toS hr2) memQ)) ?_
 | refine S_call (f := 27) rfl obQ (by kernel_rfl) (fun w hw => awake_c w (hw.rdm hE.toS memQ) (Pw_at hP hw memQ)) ?_
 | refine S_call (f := 47) rfl obQ (by kernel_rfl) (fun w hw => sameIntsT_c _ _ _ _ lP _ rfl hlP w (hw.rdm hSP memQ) (hw.rdm hSQ memQ)) ?_
 | refine S_call (f := 47) rfl obQ (by kernel_rfl) (fun w hw => sameIntsT_c _ _ _ _ lS _ rfl hlS w (hw.rdm hSS memQ) (hw.rdm hSZ memQ)) ?_
 | refine S_call (f := 47) rfl obQ (by kernel_rfl) (fun w hw => sameIntsN_c _ _ lP hP0 w) ?_
 | refine S_call (f := 47) rfl obQ (by kernel_rfl) (fun w hw => sameIntsN_c _ _ lS hS0 w) ?_
 | refine S_call (f := 48) rfl obQ (by kernel_rfl) (fun w hw => rShort1_c A A2 c c2 names es hsh1 hn hm w (hw.rdm (Rd.toS hr) memQ)) ?_
                )
 | (refine G_id ?_; first
 | refine G_then ?_
 | refine G_block ?_
 | refine G_blockX ?_
 | refine G_blockN rfl ?_
 | refine G_blockR ?_
 | refine G_thenR ?_
 | refine G_thenX ?_
 | refine G_ret rfl obQ (fun w hw => ⟨?_, hw.below⟩)
                )
              )
          all_goals rfl
        · have hx := winR_no (hWE ▸ hW0 : ¬ windowE names es node = 0)
          rw [hWi, hWE] at hx
          simp only [Prod.mk.injEq] at hx
          obtain ⟨rfl, rfl, rfl⟩ := hx
          repeat' (first
 | (refine C_id ?_; first
 | refine C_seq ?_
 | refine C_region rfl ?_
 | refine C_block ?_
 | refine C_skip ?_
 | refine C_exit ?_
 | refine C_ret0 ?_
 | refine C_condT rfl obQ ?_
 | refine C_condF rfl obQ ?_
 | (refine C_cond rfl obQ (fun h => ?_) (fun h => ?_) <;> (try simp only [Bool.or_eq_true, Bool.and_eq_true, Bool.or_eq_false_iff, Bool.and_eq_false_iff, decide_eq_true_eq, decide_eq_false_iff_not, beq_iff_eq, bne_iff_ne, beq_eq_false_iff_ne, bne_eq_false_iff_eq, ne_eq, Decidable.not_not, List.cons.injEq, and_true, Bool.not_eq_true', Bool.not_eq_false', Int.not_lt, Int.not_le] at h) <;> (try (exfalso; omega)))
                )
 | (refine S_id ?_; first
 | ((with_reducible (first | refine S_trueE ?_ ?_ | refine S_trueB ?_ ?_ | refine S_trueL ?_ ?_ | refine S_trueD ?_ ?_ | refine S_trueN ?_ ?_)); · (first | exact beq_self_eq_true _ | (rw [beq_iff_eq]; first | rfl | assumption)))
 | ((with_reducible refine S_trueA ?_ ?_ ?_); (· rfl); (· first | rfl | (first | exact beq_self_eq_true _ | (rw [beq_iff_eq]; first | rfl | assumption))))
 | refine S_unG rfl rfl rfl rfl ?_
 | (refine S_callM (f := 50) rfl obQ (by kernel_rfl) (fun w hw => lGiven_c A A2 c c2 names es hn6 hm6 hA w (hw.rdm (Rd.toS hr) memQ) (hw.rdm (Rd.toS hr2) memQ)) (fun w1N w2N vN hw1N hbN hRN => ?_); obtain ⟨AN, AN2, cN, cN2, rfl, hSN, hTN⟩ := hRN)
 | (refine S_callM (f := 52) rfl obQ (by kernel_rfl) (fun w hw => lInts_c B c3 ts ht6 hB w (hw.rdm (Rd.toS hr3) memQ)) (fun w1I w2I vI hw1I hbI hRI => ?_); obtain ⟨AI, cI, rfl, hSI⟩ := hRI)
 | (refine S_callM (f := 49) rfl obQ (by kernel_rfl) (fun w hw => planK_c _ _ _ _ names es hn6 hm6 hs hPl w (hw.rdm hSN memQ) (hw.rdm hTN memQ)) (fun w1P w2P vP hw1P hbP hRP => ?_); obtain ⟨AP, cP, rfl, hSP⟩ := hRP)
 | (refine S_callM (f := 53) rfl obQ (by kernel_rfl) (fun w hw => settK_c _ _ _ _ names es hn6 hm6 hs _ _ ts ht6 hSt w (hw.rdm hSN memQ) (hw.rdm hTN memQ) (hw.rdm hSI memQ)) (fun w1S w2S vS hw1S hbS hRS => ?_); obtain ⟨AS, cS, rfl, hSS⟩ := hRS)
 | (refine S_callM (f := 57) rfl obQ (by kernel_rfl) (fun w hw => rplK_c A A2 c c2 names es hN hPl w (hw.rdm (Rd.toS hr2) memQ)) (fun w1Q w2Q vQ hw1Q hbQ hRQ => ?_); obtain ⟨AQ, cQ, rfl, hSQ⟩ := hRQ)
 | (refine S_callM (f := 59) rfl obQ (by kernel_rfl) (fun w hw => rseK_c A A2 c c2 names es B c3 ts ht6 hT hSt w (hw.rdm (Rd.toS hr2) memQ) (hw.rdm (Rd.toS hr3) memQ)) (fun w1Z w2Z vZ hw1Z hbZ hRZ => ?_); obtain ⟨AZ, cZ, rfl, hSZ⟩ := hRZ)
 | refine S_pure (binX_pure rfl obQ (fun w => eq_flat (k := .i64) (n := 2) (xs := [xa, xb]) (ys := [xa, xb]) (by kernel_rfl) rfl rfl _ _ w)) ?_
 | refine S_pure (binX_pure rfl obQ (fun w => eq_flat (k := .i64) (n := 2) (xs := [0, 0]) (ys := [0, 0]) (by kernel_rfl) rfl rfl _ _ w)) ?_
 | refine S_nil ?_
 | refine S_runN rfl rfl obQ obQ ?_
 | refine S_box (fun b => ⟨_, _, rfl, obQ, ?_⟩)
 | refine S_slice (fun b => ⟨_, _, rfl, obQ, ?_⟩)
 | refine S_call (f := 51) rfl obQ (by kernel_rfl) (fun w hw => ckpK_c _ _ _ _ names es hn6 hm6 hs _ _ ts ht6 hTE w (hw.rdm hSN memQ) (hw.rdm hTN memQ) (hw.rdm hSI memQ)) ?_
 | refine S_call (f := 54) rfl obQ (by kernel_rfl) (fun w hw => winK_c _ _ _ _ names es hn6 hm6 hs hWi w (hw.rdm hSN memQ) (hw.rdm hTN memQ)) ?_
 | refine S_call (f := 61) rfl obQ (by kernel_rfl) (fun w hw => cknK_c _ _ _ _ names es hn6 hm6 hs hNE w (hw.rdm hSN memQ) (hw.rdm hTN memQ)) ?_
 | refine S_call (f := 55) rfl obQ (by kernel_rfl) (fun w hw => rcknK_c A A2 c c2 names es hn6 hm6 hs hc hNE w (hw.rdm (Rd.toS hr) memQ) (hw.rdm (Rd.toS hr2) memQ)) ?_
 | refine S_call (f := 56) rfl obQ (by kernel_rfl) (fun w hw => rWhen_c _ _ w) ?_
 | refine S_call (f := 19) rfl obQ (by kernel_rfl) (fun w hw => lfirstK_c (n := 2) [_, _] rfl (by omega) hFi w (by first | exact .inr ⟨_, rfl, hw.src (i := 1) rfl rfl⟩ | exact .inr ⟨_, rfl, hw.src (i := 2) rfl rfl⟩ | exact .inr ⟨_, rfl, hw.src (i := 3) rfl rfl⟩ | exact .inr ⟨_, rfl, hw.src (i := 4) rfl rfl⟩ | exact .inr ⟨_, rfl, hw.src (i := 5) rfl rfl⟩)) ?_
 | refine S_call (f := 58) rfl obQ (by kernel_rfl) (fun w hw => rctK_c A A2 c c2 names es hN B c3 ts ht6 hTE w (hw.rdm (Rd.toS hr2) memQ) (hw.rdm (Rd.toS hr3) memQ)) ?_
 | refine S_call (f := 60) rfl obQ (by kernel_rfl) (fun w hw => rwiK_c A A2 c c2 names es hW hWi w (hw.rdm (Rd.toS hr2) memQ)) ?_
 | refine S_call (f := 27) rfl obQ (by kernel_rfl) (fun w hw => awake_c w (hw.rdm hE.toS memQ) (Pw_at hP hw memQ)) ?_
 | refine S_call (f := 47) rfl obQ (by kernel_rfl) (fun w hw => sameIntsT_c _ _ _ _ lP _ rfl hlP w (hw.rdm hSP memQ) (hw.rdm hSQ memQ)) ?_
 | refine S_call (f := 47) rfl obQ (by kernel_rfl) (fun w hw => sameIntsT_c _ _ _ _ lS _ rfl hlS w (hw.rdm hSS memQ) (hw.rdm hSZ memQ)) ?_
 | refine S_call (f := 47) rfl obQ (by kernel_rfl) (fun w hw => sameIntsN_c _ _ lP hP0 w) ?_
 | refine S_call (f := 47) rfl obQ (by kernel_rfl) (fun w hw => sameIntsN_c _ _ lS hS0 w) ?_
 | refine S_call (f := 48) rfl obQ (by kernel_rfl) (fun w hw => rShort1_c A A2 c c2 names es hsh1 hn hm w (hw.rdm (Rd.toS hr) memQ)) ?_
                )
 | (refine G_id ?_; first
 | refine G_then ?_
 | refine G_block ?_
 | refine G_blockX ?_
 | refine G_blockN rfl ?_
 | refine G_blockR ?_
 | refine G_thenR ?_
 | refine G_thenX ?_
 | refine G_ret rfl obQ (fun w hw => ⟨?_, hw.below⟩)
                )
              )
          all_goals rfl
    · have hz1 : zT = zN := by rw [← hTE, timesE_net (hNE ▸ hN0 : ¬ netF names es = 0), hNE]
      have hz2 : zW = zN := by rw [← hFi]; simp [firstL, hN0]
      subst hz1
      have hx := settR_no (hTE ▸ hN0 : ¬ timesE names es ts = 0)
      rw [hSt, hTE] at hx
      simp only [Prod.mk.injEq] at hx
      obtain ⟨hS0, rfl⟩ := hx
      have hx := planR_no (hNE ▸ hN0 : ¬ netF names es = 0)
      rw [hPl, hNE] at hx
      simp only [Prod.mk.injEq] at hx
      obtain ⟨hP0, rfl⟩ := hx
      subst hz2
      have hx := winR_no (hWE ▸ hN0 : ¬ windowE names es node = 0)
      rw [hWi, hWE] at hx
      simp only [Prod.mk.injEq] at hx
      obtain ⟨rfl, rfl, rfl⟩ := hx
      repeat' (first
 | (refine C_id ?_; first
 | refine C_seq ?_
 | refine C_region rfl ?_
 | refine C_block ?_
 | refine C_skip ?_
 | refine C_exit ?_
 | refine C_ret0 ?_
 | refine C_condT rfl obQ ?_
 | refine C_condF rfl obQ ?_
 | (refine C_cond rfl obQ (fun h => ?_) (fun h => ?_) <;> (try simp only [Bool.or_eq_true, Bool.and_eq_true, Bool.or_eq_false_iff, Bool.and_eq_false_iff, decide_eq_true_eq, decide_eq_false_iff_not, beq_iff_eq, bne_iff_ne, beq_eq_false_iff_ne, bne_eq_false_iff_eq, ne_eq, Decidable.not_not, List.cons.injEq, and_true, Bool.not_eq_true', Bool.not_eq_false', Int.not_lt, Int.not_le] at h) <;> (try (exfalso; omega)))
            )
 | (refine S_id ?_; first
 | ((with_reducible (first | refine S_trueE ?_ ?_ | refine S_trueB ?_ ?_ | refine S_trueL ?_ ?_ | refine S_trueD ?_ ?_ | refine S_trueN ?_ ?_)); · (first | exact beq_self_eq_true _ | (rw [beq_iff_eq]; first | rfl | assumption)))
 | ((with_reducible refine S_trueA ?_ ?_ ?_); (· rfl); (· first | rfl | (first | exact beq_self_eq_true _ | (rw [beq_iff_eq]; first | rfl | assumption))))
 | refine S_unG rfl rfl rfl rfl ?_
 | (refine S_callM (f := 50) rfl obQ (by kernel_rfl) (fun w hw => lGiven_c A A2 c c2 names es hn6 hm6 hA w (hw.rdm (Rd.toS hr) memQ) (hw.rdm (Rd.toS hr2) memQ)) (fun w1N w2N vN hw1N hbN hRN => ?_); obtain ⟨AN, AN2, cN, cN2, rfl, hSN, hTN⟩ := hRN)
 | (refine S_callM (f := 52) rfl obQ (by kernel_rfl) (fun w hw => lInts_c B c3 ts ht6 hB w (hw.rdm (Rd.toS hr3) memQ)) (fun w1I w2I vI hw1I hbI hRI => ?_); obtain ⟨AI, cI, rfl, hSI⟩ := hRI)
 | (refine S_callM (f := 49) rfl obQ (by kernel_rfl) (fun w hw => planK_c _ _ _ _ names es hn6 hm6 hs hPl w (hw.rdm hSN memQ) (hw.rdm hTN memQ)) (fun w1P w2P vP hw1P hbP hRP => ?_); obtain ⟨AP, cP, rfl, hSP⟩ := hRP)
 | (refine S_callM (f := 53) rfl obQ (by kernel_rfl) (fun w hw => settK_c _ _ _ _ names es hn6 hm6 hs _ _ ts ht6 hSt w (hw.rdm hSN memQ) (hw.rdm hTN memQ) (hw.rdm hSI memQ)) (fun w1S w2S vS hw1S hbS hRS => ?_); obtain ⟨AS, cS, rfl, hSS⟩ := hRS)
 | (refine S_callM (f := 57) rfl obQ (by kernel_rfl) (fun w hw => rplK_c A A2 c c2 names es hN hPl w (hw.rdm (Rd.toS hr2) memQ)) (fun w1Q w2Q vQ hw1Q hbQ hRQ => ?_); obtain ⟨AQ, cQ, rfl, hSQ⟩ := hRQ)
 | (refine S_callM (f := 59) rfl obQ (by kernel_rfl) (fun w hw => rseK_c A A2 c c2 names es B c3 ts ht6 hT hSt w (hw.rdm (Rd.toS hr2) memQ) (hw.rdm (Rd.toS hr3) memQ)) (fun w1Z w2Z vZ hw1Z hbZ hRZ => ?_); obtain ⟨AZ, cZ, rfl, hSZ⟩ := hRZ)
 | refine S_pure (binX_pure rfl obQ (fun w => eq_flat (k := .i64) (n := 2) (xs := [xa, xb]) (ys := [xa, xb]) (by kernel_rfl) rfl rfl _ _ w)) ?_
 | refine S_pure (binX_pure rfl obQ (fun w => eq_flat (k := .i64) (n := 2) (xs := [0, 0]) (ys := [0, 0]) (by kernel_rfl) rfl rfl _ _ w)) ?_
 | refine S_nil ?_
 | refine S_runN rfl rfl obQ obQ ?_
 | refine S_box (fun b => ⟨_, _, rfl, obQ, ?_⟩)
 | refine S_slice (fun b => ⟨_, _, rfl, obQ, ?_⟩)
 | refine S_call (f := 51) rfl obQ (by kernel_rfl) (fun w hw => ckpK_c _ _ _ _ names es hn6 hm6 hs _ _ ts ht6 hTE w (hw.rdm hSN memQ) (hw.rdm hTN memQ) (hw.rdm hSI memQ)) ?_
 | refine S_call (f := 54) rfl obQ (by kernel_rfl) (fun w hw => winK_c _ _ _ _ names es hn6 hm6 hs hWi w (hw.rdm hSN memQ) (hw.rdm hTN memQ)) ?_
 | refine S_call (f := 61) rfl obQ (by kernel_rfl) (fun w hw => cknK_c _ _ _ _ names es hn6 hm6 hs hNE w (hw.rdm hSN memQ) (hw.rdm hTN memQ)) ?_
 | refine S_call (f := 55) rfl obQ (by kernel_rfl) (fun w hw => rcknK_c A A2 c c2 names es hn6 hm6 hs hc hNE w (hw.rdm (Rd.toS hr) memQ) (hw.rdm (Rd.toS hr2) memQ)) ?_
 | refine S_call (f := 56) rfl obQ (by kernel_rfl) (fun w hw => rWhen_c _ _ w) ?_
 | refine S_call (f := 19) rfl obQ (by kernel_rfl) (fun w hw => lfirstK_c (n := 2) [_, _] rfl (by omega) hFi w (by first | exact .inr ⟨_, rfl, hw.src (i := 1) rfl rfl⟩ | exact .inr ⟨_, rfl, hw.src (i := 2) rfl rfl⟩ | exact .inr ⟨_, rfl, hw.src (i := 3) rfl rfl⟩ | exact .inr ⟨_, rfl, hw.src (i := 4) rfl rfl⟩ | exact .inr ⟨_, rfl, hw.src (i := 5) rfl rfl⟩)) ?_
 | refine S_call (f := 58) rfl obQ (by kernel_rfl) (fun w hw => rctK_c A A2 c c2 names es hN B c3 ts ht6 hTE w (hw.rdm (Rd.toS hr2) memQ) (hw.rdm (Rd.toS hr3) memQ)) ?_
 | refine S_call (f := 60) rfl obQ (by kernel_rfl) (fun w hw => rwiK_c A A2 c c2 names es hW hWi w (hw.rdm (Rd.toS hr2) memQ)) ?_
 | refine S_call (f := 27) rfl obQ (by kernel_rfl) (fun w hw => awake_c w (hw.rdm hE.toS memQ) (Pw_at hP hw memQ)) ?_
 | refine S_call (f := 47) rfl obQ (by kernel_rfl) (fun w hw => sameIntsT_c _ _ _ _ lP _ rfl hlP w (hw.rdm hSP memQ) (hw.rdm hSQ memQ)) ?_
 | refine S_call (f := 47) rfl obQ (by kernel_rfl) (fun w hw => sameIntsT_c _ _ _ _ lS _ rfl hlS w (hw.rdm hSS memQ) (hw.rdm hSZ memQ)) ?_
 | refine S_call (f := 47) rfl obQ (by kernel_rfl) (fun w hw => sameIntsN_c _ _ lP hP0 w) ?_
 | refine S_call (f := 47) rfl obQ (by kernel_rfl) (fun w hw => sameIntsN_c _ _ lS hS0 w) ?_
 | refine S_call (f := 48) rfl obQ (by kernel_rfl) (fun w hw => rShort1_c A A2 c c2 names es hsh1 hn hm w (hw.rdm (Rd.toS hr) memQ)) ?_
            )
 | (refine G_id ?_; first
 | refine G_then ?_
 | refine G_block ?_
 | refine G_blockX ?_
 | refine G_blockN rfl ?_
 | refine G_blockR ?_
 | refine G_thenR ?_
 | refine G_thenX ?_
 | refine G_ret rfl obQ (fun w hw => ⟨?_, hw.below⟩)
            )
          )
      all_goals rfl
  · repeat' (first
 | (refine C_id ?_; first
 | refine C_seq ?_
 | refine C_region rfl ?_
 | refine C_block ?_
 | refine C_skip ?_
 | refine C_exit ?_
 | refine C_ret0 ?_
 | refine C_condT rfl obQ ?_
 | refine C_condF rfl obQ ?_
 | (refine C_cond rfl obQ (fun h => ?_) (fun h => ?_) <;> (try simp only [Bool.or_eq_true, Bool.and_eq_true, Bool.or_eq_false_iff, Bool.and_eq_false_iff, decide_eq_true_eq, decide_eq_false_iff_not, beq_iff_eq, bne_iff_ne, beq_eq_false_iff_ne, bne_eq_false_iff_eq, ne_eq, Decidable.not_not, List.cons.injEq, and_true, Bool.not_eq_true', Bool.not_eq_false', Int.not_lt, Int.not_le] at h) <;> (try (exfalso; omega)) <;> (try (exfalso; simp at h; done)) <;> (try (exfalso; simp only [not_true_eq_false, false_or, or_false] at h; omega)) <;> (try (exfalso; exact hsh ⟨h.1, by have := h.2; omega⟩)))
          )
 | (refine S_id ?_; first
 | refine S_nil ?_
 | refine S_run rfl rfl obQ obQ ?_
 | refine S_box (fun b => ⟨_, _, rfl, obQ, ?_⟩)
 | refine S_slice (fun b => ⟨_, _, rfl, obQ, ?_⟩)
 | refine S_call (f := 48) rfl obQ (by kernel_rfl) (fun w hw => rShort_c A A2 c c2 names es hn hm w (hw.rdm (Rd.toS hr) memQ)) ?_
 | refine S_call (f := 27) rfl obQ (by kernel_rfl) (fun w hw => awake_c w (hw.rdm hE.toS memQ) (Pw_at hP hw memQ)) ?_
          )
 | (refine G_id ?_; first
 | refine G_then ?_
 | refine G_block ?_
 | refine G_blockX ?_
 | refine G_blockN rfl ?_
 | refine G_blockR ?_
 | refine G_thenR ?_
 | refine G_thenX ?_
 | refine G_ret rfl obQ (fun w hw => ⟨?_, hw.below⟩)
          )
        )
    all_goals rfl

end Go.Proofs.YtmfophoejjcnlaaGreatDoor
