/- The law of wider nets: the walk. -/
import Derived.Test.YtmfophoejjcnlaaGreatDoorTiming36
import Derived.Test.YtmfophoejjcnlaaGreatDoorTiming70
namespace Go.Proofs.YtmfophoejjcnlaaGreatDoor
open Go.E Go.RowKit
attribute [local irreducible] G C S D Calls
set_option maxRecDepth 100000
set_option linter.unusedSimpArgs false
set_option linter.unusedVariables false

theorem lGivenL_c (A A2 : Option Addr) (c c2 m : Nat) (names : List ByteArray) (es : List Edg) (hl : es.length = m) (hn : names.length ≤ 1000000) (hm : m ≤ 1000000) (hA : A = none → names.length = 0 ∧ c = 0) (w : World) (hr : Rd w A (names.map .string)) (hr2 : Rd w A2 (es.flatMap edC)) : Calls Tryz.prog 50 #[.agg #[.slice A names.length c, .slice A2 m c2]] w fun r w' => ∃ v, r = .returned v ∧ Below w.heap.size w w' ∧ NtC w w' v names.length m (names.map .string) (es.flatMap edC) := by
  subst hl
  exact lGivenC_c A A2 c c2 names es hn hm hA w hr hr2
theorem planL_c (A A2 : Option Addr) (c c2 m : Nat) (names : List ByteArray) (es : List Edg) (hlm : es.length = m) (hn : names.length ≤ 1000000) (hm : m ≤ 1000000) (hs : ∀ s ∈ names, s.size ≤ maxLen) {l : List Int} (hp : planR names es = (l, 0)) (hl : l.length = names.length) (w : World) (hr : Rd w A (names.map .string)) (hr2 : Rd w A2 (es.flatMap edC)) : Calls Tryz.prog 49 #[.agg #[.slice A names.length c, .slice A2 m c2]] w fun r w' => ∃ v, r = .returned v ∧ Below w.heap.size w w' ∧ Sl2 w w' v names.length (l.map (.int .i64)) (.int .i64 0) := by
  subst hlm
  exact planN_c A A2 c c2 names es hn hm hs hp hl w hr hr2
theorem planZ_c (A A2 : Option Addr) (c c2 : Nat) (names : List ByteArray) (es : List Edg) (hn : names.length ≤ 1000000) (hm : es.length ≤ 1000000) (hs : ∀ s ∈ names, s.size ≤ maxLen) {l : List Int} {z : Int} (hp : planR names es = (l, z)) (w : World) (hr : Rd w A (names.map .string)) (hr2 : Rd w A2 (es.flatMap edC)) : Calls Tryz.prog 49 #[.agg #[.slice A names.length c, .slice A2 es.length c2]] w fun r w' => ∃ v, r = .returned v ∧ Below w.heap.size w w' ∧ Sl2 w w' v l.length (l.map (.int .i64)) (.int .i64 z) := by
  have h := plan_c A A2 c c2 names es hn hm hs w hr hr2
  rw [hp] at h
  exact h
theorem winZ_c (A A2 : Option Addr) (c c2 : Nat) (names : List ByteArray) (es : List Edg) (hn : names.length ≤ 1000000) (hm : es.length ≤ 1000000) (hs : ∀ s ∈ names, s.size ≤ maxLen) (i : Int) {a b e : Int} (hp : windowR names es i = (a, b, e)) (w : World) (hr : Rd w A (names.map .string)) (hr2 : Rd w A2 (es.flatMap edC)) : Calls Tryz.prog 54 #[.agg #[.slice A names.length c, .slice A2 es.length c2], .int .i64 i] w fun r w' => r = .returned (.tuple #[.agg #[.int .i64 a, .int .i64 b], .int .i64 e]) ∧ Below w.heap.size w w' := by
  have h := window_c A A2 c c2 names es i hn hm hs w hr hr2
  rw [hp] at h
  exact h
theorem plan_z {names : List ByteArray} {es : List Edg} (hN : netF names es = 0) : ∃ l z, planR names es = (l, z) ∧ (z = 0 → l.length = names.length ∧ Fea es names.length ∧ ∀ v, v < names.length → gT l v = pS es names.length v) ∧ ((z = 0 ∧ l.length = names.length) ∨ (z = 18 ∧ l.length = 0)) := by
  rcases plan_fea hN with ⟨h1, h2⟩ | ⟨l, h1, h2, h3, h4⟩
  · exact ⟨_, _, h1, (fun h => by cases h), .inr ⟨rfl, rfl⟩⟩
  · exact ⟨_, _, h1, fun _ => ⟨h3, h2, h4⟩, .inl ⟨rfl, h3⟩⟩
theorem gTk {ts : List Int} {k n : Nat} (hl : ts.length = n) (h : k < n) : ∀ (j : Nat) (u : Value), ([.int .i64 (gT ts k)] : List Value)[j]? = some u → (ts.map (Value.int .i64))[((k : Nat) : Int).toNat * 1 + j]? = some u := by
  intro j u hu
  cases j with
  | succ j => simp at hu
  | zero =>
    simp only [List.getElem?_cons_zero, Option.some.injEq] at hu
    subst hu
    rw [gT_at (by omega)]
    simp [show k < ts.length by omega]

set_option maxHeartbeats 8000000 in
/-- genlocklaw04.TimingWider -/
theorem lWider_c (A A2 : Option Addr) (c c2 : Nat) (names : List ByteArray) (es : List Edg) (e : Edg) (x0 x1 : Int) (hx0 : 0 ≤ x0 ∧ x0 ≤ 255) (hx1 : 0 ≤ x1 ∧ x1 ≤ 255) (hn : names.length ≤ 9223372036854775807) (hm : es.length ≤ 9223372036854775807) (hs : ∀ s ∈ names, s.size ≤ maxLen) (hc : names.length ≤ c) (hA : A = none → names.length = 0 ∧ c = 0) (hc2 : es.length ≤ c2) (hA2 : A2 = none → es.length = 0 ∧ c2 = 0) (w : World) (hr : Rd w A (names.map .string)) (hr2 : Rd w A2 (es.flatMap edC)) (hE : Ex w) (hP : Pw w) : Calls Tryz.prog 9 #[.agg #[.slice A names.length c, .slice A2 es.length c2], .agg #[.int .i64 e.F, .int .i64 e.T, .int .i64 e.L, .int .i64 e.H], .agg #[.int .u8 x0, .int .u8 x1]] w fun r w' => r = .returned (.bool true) ∧ Below w.heap.size w w' := by
  refine calls_of (args := [.agg #[.slice A names.length c, .slice A2 es.length c2], .agg #[.int .i64 e.F, .int .i64 e.T, .int .i64 e.L, .int .i64 e.H], .agg #[.int .u8 x0, .int .u8 x1]]) T_ok Tryz.func9 rfl Tryz.ntmps9 (Nat.le_of_ble_eq_true rfl) rfl ?_
  cases hsh : shortB names es
  · repeat' (first
 | (refine C_id ?_; first
 | refine C_condT rfl obQ ?_
 | refine C_condF rfl obQ ?_
 | refine C_seq ?_
 | refine C_region rfl ?_
 | refine C_block ?_
 | refine C_skip ?_
 | refine C_exit ?_
 | refine C_ret0 ?_
 | refine C_drawT (id := 4) 7 rfl mixed (by kernel_rfl) rfl rfl ?_
 | refine C_drawT (id := 7) 10 rfl mixed (by kernel_rfl) rfl rfl ?_
 | refine C_draw (id := 8) rfl mixed (by kernel_rfl) ?_
 | refine C_draw (id := 24) rfl mixed (by kernel_rfl) ?_
 | refine C_drawT (id := 32) 16 rfl mixed (by kernel_rfl) rfl rfl ?_
 | refine C_draw (id := 42) rfl mixed (by kernel_rfl) ?_
          )
 | (refine S_id ?_; first
 | ((with_reducible (first | refine S_falseN ?_ ?_ | refine S_falseB ?_ ?_ | refine S_falseL ?_ ?_ | refine S_falseD ?_ ?_ | refine S_falseE ?_ ?_)); · (first | exact decide_eq_false (by omega) | (rw [beq_eq_false_iff_ne]; omega) | (rw [bne_eq_false_iff_eq]; first | done | omega) | rfl))
 | ((with_reducible refine S_falseO ?_ ?_ ?_); (· rfl); (· first | rfl | (first | exact decide_eq_false (by omega) | (rw [beq_eq_false_iff_ne]; omega) | (rw [bne_eq_false_iff_eq]; first | done | omega) | rfl)))
 | ((with_reducible (first | refine S_trueE ?_ ?_ | refine S_trueB ?_ ?_ | refine S_trueL ?_ ?_ | refine S_trueD ?_ ?_ | refine S_trueN ?_ ?_)); · (first | exact decide_eq_true (by omega) | (rw [beq_iff_eq]; first | done | omega) | (rw [bne_iff_ne]; omega)))
 | ((with_reducible refine S_trueA ?_ ?_ ?_); (· rfl); (· first | rfl | (first | exact decide_eq_true (by omega) | (rw [beq_iff_eq]; first | done | omega) | (rw [bne_iff_ne]; omega))))
 | refine S_unG rfl rfl rfl rfl ?_
 | refine S_offG (.v (.bool false)) rfl rfl rfl rfl rfl ?_
 | ((with_reducible refine S_notV ?_ ?_); · rfl)
 | ((with_reducible refine S_falseA ?_ ?_); · first | rfl | (simp only [Bool.and_eq_false_iff, decide_eq_false_iff_not, beq_eq_false_iff_ne, bne_eq_false_iff_eq]; omega))
 | ((with_reducible refine S_trueO ?_ ?_); · first | rfl | (simp only [Bool.or_eq_true, decide_eq_true_eq, beq_iff_eq, bne_iff_ne]; omega))
 | refine S_nil ?_
 | refine S_runN rfl rfl obQ obQ ?_
 | refine S_box (fun b => ⟨_, _, rfl, obQ, ?_⟩)
 | refine S_call (f := 48) rfl obQ (by kernel_rfl) (fun w hw => rShort2_c A A2 c c2 names es hsh hn hm w (hw.rdm (Rd.toS hr) memQ)) ?_
 | refine S_call (f := 55) rfl obQ (by kernel_rfl) (fun w hw => rckn2_c A A2 c c2 names es hn6 hm6 hs hc hNE w (hw.rdm (Rd.toS hr) memQ) (hw.rdm (Rd.toS hr2) memQ)) ?_
 | refine S_call (f := 62) rfl obQ (by kernel_rfl) (fun w hw => rcke_c names.length e hEd w) ?_
 | refine S_call (f := 27) rfl obQ (by kernel_rfl) (fun w hw => awake_c w (hw.rdm hE.toS memQ) (Pw_at hP hw memQ)) ?_
          )
 | (refine D_id ?_; first
 | refine D_nil ?_
 | refine D_tail ?_
 | refine D_run rfl rfl obQ obQ ?_
 | refine D_call (f := 48) rfl obQ (by kernel_rfl) (fun w hw => rShort2_c A A2 c c2 names es hsh hn hm w (hw.rdm (Rd.toS hr) memQ)) ?_
 | refine D_call (f := 55) rfl obQ (by kernel_rfl) (fun w hw => rckn2_c A A2 c c2 names es hn6 hm6 hs hc hNE w (hw.rdm (Rd.toS hr) memQ) (hw.rdm (Rd.toS hr2) memQ)) ?_
 | refine D_call (f := 62) rfl obQ (by kernel_rfl) (fun w hw => rcke_c names.length e hEd w) ?_
 | refine D_call (f := 27) rfl obQ (by kernel_rfl) (fun w hw => awake_c w (hw.rdm hE.toS memQ) (Pw_at hP hw memQ)) ?_
          )
 | (refine G_id ?_; first
 | refine G_then ?_
 | refine G_block ?_
 | refine G_blockX ?_
 | refine G_blockN rfl ?_
 | refine G_blockR ?_
 | refine G_thenR ?_
 | refine G_thenX ?_
 | refine G_ret rfl obQ (fun w2 hw => ⟨?_, hw.below⟩)
          )
        )
    all_goals rfl
  have hlen := shortB_len2 hsh
  have hn6 : names.length ≤ 1000000 := by omega
  have hm6 : es.length ≤ 1000000 := by omega
  obtain ⟨zN, hNE⟩ : ∃ z, netF names es = z := ⟨_, rfl⟩
  obtain ⟨zE, hEd⟩ : ∃ z, edgeF names.length e = z := ⟨_, rfl⟩
  by_cases hN0 : zN = 0
  · subst hN0
    by_cases hn7 : names.length ≤ 6
    · by_cases hm12 : es.length ≤ 12
      · by_cases hE0 : zE = 0
        · subst hE0
          obtain ⟨hNA, hAd, hWo, hPi, hSub⟩ := wide_add hNE hm12 hEd
          obtain ⟨esA, heA⟩ : ∃ l, l = es ++ [e] := ⟨_, rfl⟩
          have hlA : esA.length = es.length + 1 := by rw [heA]; simp
          rw [← heA] at hNA hAd hWo hPi hSub
          have hmA : esA.length ≤ 1000000 := by omega
          rcases plan_fea hNE with ⟨hPl, hF⟩ | ⟨lP, hPl, hF, hlP, hgP⟩
          · have hPM := hPi hPl
            repeat' (first
 | (refine C_id ?_; first
 | refine C_condT rfl obQ ?_
 | refine C_condF rfl obQ ?_
 | refine C_seq ?_
 | refine C_region rfl ?_
 | refine C_block ?_
 | refine C_skip ?_
 | refine C_exit ?_
 | refine C_ret0 ?_
 | refine C_drawT (id := 7) 10 rfl mixed (by kernel_rfl) rfl rfl ?_
 | refine C_draw (id := 8) rfl mixed (by kernel_rfl) ?_
 | refine C_draw (id := 24) rfl mixed (by kernel_rfl) ?_
 | refine C_drawT (id := 32) 16 rfl mixed (by kernel_rfl) rfl rfl ?_
 | refine C_draw (id := 42) rfl mixed (by kernel_rfl) ?_
                  )
 | (refine S_id ?_; first
 | ((with_reducible (first | refine S_falseN ?_ ?_ | refine S_falseB ?_ ?_ | refine S_falseL ?_ ?_ | refine S_falseD ?_ ?_ | refine S_falseE ?_ ?_)); · (first | exact decide_eq_false (by omega) | (rw [beq_eq_false_iff_ne]; omega) | (rw [bne_eq_false_iff_eq]; first | done | omega) | rfl))
 | ((with_reducible refine S_falseO ?_ ?_ ?_); (· rfl); (· first | rfl | (first | exact decide_eq_false (by omega) | (rw [beq_eq_false_iff_ne]; omega) | (rw [bne_eq_false_iff_eq]; first | done | omega) | rfl)))
 | ((with_reducible (first | refine S_trueE ?_ ?_ | refine S_trueB ?_ ?_ | refine S_trueL ?_ ?_ | refine S_trueD ?_ ?_ | refine S_trueN ?_ ?_)); · (first | exact decide_eq_true (by omega) | (rw [beq_iff_eq]; first | done | omega) | (rw [bne_iff_ne]; omega)))
 | ((with_reducible refine S_trueA ?_ ?_ ?_); (· rfl); (· first | rfl | (first | exact decide_eq_true (by omega) | (rw [beq_iff_eq]; first | done | omega) | (rw [bne_iff_ne]; omega))))
 | refine S_unG rfl rfl rfl rfl ?_
 | (refine S_callM (f := 50) rfl obQ (by kernel_rfl) (fun w hw => lGivenC_c A A2 c c2 names es hn6 hm6 hA w (hw.rdm (Rd.toS hr) memQ) (hw.rdm (Rd.toS hr2) memQ)) (fun w1N w2N vN hw1N hbN hRN => ?_); obtain ⟨AN, AN2, cN, cN2, rfl, hSN, hTN, hcN, hdN⟩ := hRN)
 | (refine S_callM (f := 49) rfl obQ (by kernel_rfl) (fun w hw => plan0_c _ _ _ _ names es hn6 hm6 hs hPl w (hw.rdm hSN memQ) (hw.rdm hTN memQ)) (fun w1P w2P vP hw1P hbP hRP => ?_); obtain ⟨AP, cP, rfl, hSP⟩ := hRP)
 | (refine S_callM (f := 63) rfl obQ (by kernel_rfl) (fun w hw => addedN_c _ _ _ _ names es hn6 hm6 hs hcN.2 hdN.2 e hAd w (hw.rdm hSN memQ) (hw.rdm hTN memQ)) (fun w1K w2K vK hw1K hbK hRK => ?_); obtain ⟨AK, AK2, cK, cK2, rfl, hSK, hTK, hcK, hdK⟩ := hRK)
 | refine S_offG (.v (.bool false)) rfl rfl rfl rfl rfl ?_
 | ((with_reducible refine S_notV ?_ ?_); · rfl)
 | ((with_reducible refine S_falseA ?_ ?_); · first | rfl | (simp only [Bool.and_eq_false_iff, decide_eq_false_iff_not, beq_eq_false_iff_ne, bne_eq_false_iff_eq]; omega))
 | ((with_reducible refine S_trueO ?_ ?_); · first | rfl | (simp only [Bool.or_eq_true, decide_eq_true_eq, beq_iff_eq, bne_iff_ne]; omega))
 | refine S_nil ?_
 | refine S_runN rfl rfl obQ obQ ?_
 | refine S_box (fun b => ⟨_, _, rfl, obQ, ?_⟩)
 | refine S_call (f := 48) rfl obQ (by kernel_rfl) (fun w hw => rShort2_c A A2 c c2 names es hsh hn hm w (hw.rdm (Rd.toS hr) memQ)) ?_
 | refine S_call (f := 55) rfl obQ (by kernel_rfl) (fun w hw => rckn2_c A A2 c c2 names es hn6 hm6 hs hc hNE w (hw.rdm (Rd.toS hr) memQ) (hw.rdm (Rd.toS hr2) memQ)) ?_
 | refine S_call (f := 62) rfl obQ (by kernel_rfl) (fun w hw => rcke_c names.length e hEd w) ?_
 | refine S_call (f := 27) rfl obQ (by kernel_rfl) (fun w hw => awake_c w (hw.rdm hE.toS memQ) (Pw_at hP hw memQ)) ?_
                  )
 | (refine D_id ?_; first
 | refine D_nil ?_
 | refine D_tail ?_
 | refine D_run rfl rfl obQ obQ ?_
 | refine D_call (f := 48) rfl obQ (by kernel_rfl) (fun w hw => rShort2_c A A2 c c2 names es hsh hn hm w (hw.rdm (Rd.toS hr) memQ)) ?_
 | refine D_call (f := 55) rfl obQ (by kernel_rfl) (fun w hw => rckn2_c A A2 c c2 names es hn6 hm6 hs hc hNE w (hw.rdm (Rd.toS hr) memQ) (hw.rdm (Rd.toS hr2) memQ)) ?_
 | refine D_call (f := 62) rfl obQ (by kernel_rfl) (fun w hw => rcke_c names.length e hEd w) ?_
 | refine D_call (f := 27) rfl obQ (by kernel_rfl) (fun w hw => awake_c w (hw.rdm hE.toS memQ) (Pw_at hP hw memQ)) ?_
                  )
 | (refine G_id ?_; first
 | refine G_then ?_
 | refine G_block ?_
 | refine G_blockX ?_
 | refine G_blockN rfl ?_
 | refine G_blockR ?_
 | refine G_thenR ?_
 | refine G_thenX ?_
 | refine G_ret rfl obQ (fun w2 hw => ⟨?_, hw.below⟩)
                  )
                )
            rename_i b3 b4
            obtain ⟨b5, rfl⟩ : ∃ b5, b5 = b := ⟨_, rfl⟩
            refine C_cut (fun i : SlA (([] : List Int).map (.int .i64)) × NtA names esA × Nat => ([i.1.ps, i.2.1.ps, (w, fun b => b < w.heap.size)], ⟨[(10, .s (.v (.int .i64 0))), (9, .s (.p i.2.2 3 0)), (8, .s (.v (.int .i64 18))), (7, .s (.v (.slice i.1.A 0 i.1.c))), (5, .s (.p b5 2 0)), (4, .s (.p b4 1 0)), (3, .s (.p b3 0 0))], [⟨b3, 84, [.v (.slice A names.length c), .v (.slice A2 es.length c2)]⟩, ⟨b4, 108, [.v (.int .i64 e.F), .v (.int .i64 e.T), .v (.int .i64 e.L), .v (.int .i64 e.H)]⟩, ⟨b5, 109, [.v (.int .u8 x0), .v (.int .u8 x1)]⟩, ⟨i.2.2, 89, [.v (.slice i.2.1.A names.length i.2.1.c), .v (.slice i.2.1.A2 esA.length i.2.1.c2)]⟩], []⟩)) ?_ (fun i => ?_)
            · repeat' (first
 | (refine C_id ?_; first
 | refine C_condT rfl obQ ?_
 | refine C_condF rfl obQ ?_
 | refine C_seq ?_
 | refine C_region rfl ?_
 | refine C_block ?_
 | refine C_skip ?_
 | refine C_exit ?_
 | refine C_ret0 ?_
 | refine C_drawTr (id := 4) 9 (.q 0 (.q 2 (.two 1 7 (.two 3 7 (.q 4 (.q 5 (.q 6 (.n 7 (.n 8 .nil))))) (.n 3 (.q 4 (.q 5 (.q 6 (.n 8 .nil)))))) (.n 1 (.n 3 (.q 4 (.q 5 (.q 6 (.n 8 .nil))))))))) rfl mixed (by kernel_rfl) rfl ?_
 | refine C_drawT (id := 7) 10 rfl mixed (by kernel_rfl) rfl rfl ?_
 | refine C_draw (id := 8) rfl mixed (by kernel_rfl) ?_
 | refine C_draw (id := 24) rfl mixed (by kernel_rfl) ?_
 | refine C_drawT (id := 32) 16 rfl mixed (by kernel_rfl) rfl rfl ?_
 | refine C_draw (id := 42) rfl mixed (by kernel_rfl) ?_
                    )
 | (refine S_id ?_; first
 | ((with_reducible (first | refine S_falseN ?_ ?_ | refine S_falseB ?_ ?_ | refine S_falseL ?_ ?_ | refine S_falseD ?_ ?_ | refine S_falseE ?_ ?_)); · (first | exact decide_eq_false (by omega) | (rw [beq_eq_false_iff_ne]; omega) | (rw [bne_eq_false_iff_eq]; first | done | omega) | rfl))
 | ((with_reducible refine S_falseO ?_ ?_ ?_); (· rfl); (· first | rfl | (first | exact decide_eq_false (by omega) | (rw [beq_eq_false_iff_ne]; omega) | (rw [bne_eq_false_iff_eq]; first | done | omega) | rfl)))
 | ((with_reducible (first | refine S_trueE ?_ ?_ | refine S_trueB ?_ ?_ | refine S_trueL ?_ ?_ | refine S_trueD ?_ ?_ | refine S_trueN ?_ ?_)); · (first | exact decide_eq_true (by omega) | (rw [beq_iff_eq]; first | done | omega) | (rw [bne_iff_ne]; omega)))
 | ((with_reducible refine S_trueA ?_ ?_ ?_); (· rfl); (· first | rfl | (first | exact decide_eq_true (by omega) | (rw [beq_iff_eq]; first | done | omega) | (rw [bne_iff_ne]; omega))))
 | refine S_unG rfl rfl rfl rfl ?_
 | (refine S_callM (f := 50) rfl obQ (by kernel_rfl) (fun w hw => lGivenC_c A A2 c c2 names es hn6 hm6 hA w (hw.rdm (Rd.toS hr) memQ) (hw.rdm (Rd.toS hr2) memQ)) (fun w1N w2N vN hw1N hbN hRN => ?_); obtain ⟨AN, AN2, cN, cN2, rfl, hSN, hTN, hcN, hdN⟩ := hRN)
 | (refine S_callM (f := 63) rfl obQ (by kernel_rfl) (fun w hw => addedN_c _ _ _ _ names es hn6 hm6 hs hcN.2 hdN.2 e hAd w (hw.rdm hSN memQ) (hw.rdm hTN memQ)) (fun w1K w2K vK hw1K hbK hRK => ?_); obtain ⟨AK, AK2, cK, cK2, rfl, hSK, hTK, hcK, hdK⟩ := hRK)
 | refine S_offG (.v (.bool false)) rfl rfl rfl rfl rfl ?_
 | ((with_reducible refine S_notV ?_ ?_); · rfl)
 | ((with_reducible refine S_falseA ?_ ?_); · first | rfl | (simp only [Bool.and_eq_false_iff, decide_eq_false_iff_not, beq_eq_false_iff_ne, bne_eq_false_iff_eq]; omega))
 | ((with_reducible refine S_trueO ?_ ?_); · first | rfl | (simp only [Bool.or_eq_true, decide_eq_true_eq, beq_iff_eq, bne_iff_ne]; omega))
 | refine S_nil ?_
 | refine S_runN rfl rfl obQ obQ ?_
 | refine S_box (fun b9 => ⟨_, _, rfl, obQ, ?_⟩)
 | refine S_call (f := 48) rfl obQ (by kernel_rfl) (fun w hw => rShort2_c A A2 c c2 names es hsh hn hm w (hw.rdm (Rd.toS hr) memQ)) ?_
 | refine S_call (f := 55) rfl obQ (by kernel_rfl) (fun w hw => rckn2_c A A2 c c2 names es hn6 hm6 hs hc hNE w (hw.rdm (Rd.toS hr) memQ) (hw.rdm (Rd.toS hr2) memQ)) ?_
 | refine S_call (f := 62) rfl obQ (by kernel_rfl) (fun w hw => rcke_c names.length e hEd w) ?_
 | refine S_call (f := 27) rfl obQ (by kernel_rfl) (fun w hw => awake_c w (hw.rdm hE.toS memQ) (Pw_at hP hw memQ)) ?_
                    )
 | (refine D_id ?_; first
 | refine D_nil ?_
 | refine D_tail ?_
 | refine D_run rfl rfl obQ obQ ?_
 | refine D_call (f := 48) rfl obQ (by kernel_rfl) (fun w hw => rShort2_c A A2 c c2 names es hsh hn hm w (hw.rdm (Rd.toS hr) memQ)) ?_
 | refine D_call (f := 55) rfl obQ (by kernel_rfl) (fun w hw => rckn2_c A A2 c c2 names es hn6 hm6 hs hc hNE w (hw.rdm (Rd.toS hr) memQ) (hw.rdm (Rd.toS hr2) memQ)) ?_
 | refine D_call (f := 62) rfl obQ (by kernel_rfl) (fun w hw => rcke_c names.length e hEd w) ?_
 | refine D_call (f := 27) rfl obQ (by kernel_rfl) (fun w hw => awake_c w (hw.rdm hE.toS memQ) (Pw_at hP hw memQ)) ?_
                    )
 | (refine VT_id ?_; first
 | refine VT_nil ?_
 | refine VT_q rfl (Yl_step rfl obQ) ?_
 | refine VT_n rfl ?_
 | refine VT_two rfl rfl ?_ ?_
                    )
 | (refine G_id ?_; first
 | refine G_VT2 ⟨_, rfl⟩ ⟨_, rfl⟩ pstQ rfl ?_
 | refine G_cut (⟨w1P, w2P, AP, cP, hSP⟩, ⟨w1K, w2K, AK, AK2, cK, cK2, hSK, hTK, hcK, hdK⟩, b9) ⟨⟨_, rfl, obQ⟩, ⟨_, rfl⟩, rfl, psQ⟩
 | refine G_then ?_
 | refine G_block ?_
 | refine G_blockX ?_
 | refine G_blockN rfl ?_
 | refine G_blockR ?_
 | refine G_thenR ?_
 | refine G_thenX ?_
 | refine G_ret rfl obQ (fun w2 hw => ⟨?_, hw.below⟩)
                    )
                  )
            obtain ⟨P, K, b9⟩ := i
            dsimp only
            repeat' (first
 | (refine C_id ?_; first
 | refine C_condT rfl obQ ?_
 | refine C_condF rfl obQ ?_
 | refine C_seq ?_
 | refine C_region rfl ?_
 | refine C_block ?_
 | refine C_skip ?_
 | refine C_exit ?_
 | refine C_ret0 ?_
 | refine C_drawT (id := 4) 7 rfl mixed (by kernel_rfl) rfl rfl ?_
 | refine C_draw (id := 8) rfl mixed (by kernel_rfl) ?_
 | refine C_draw (id := 24) rfl mixed (by kernel_rfl) ?_
 | refine C_drawT (id := 32) 16 rfl mixed (by kernel_rfl) rfl rfl ?_
 | refine C_draw (id := 42) rfl mixed (by kernel_rfl) ?_
                  )
 | (refine S_id ?_; first
 | ((with_reducible (first | refine S_falseN ?_ ?_ | refine S_falseB ?_ ?_ | refine S_falseL ?_ ?_ | refine S_falseD ?_ ?_ | refine S_falseE ?_ ?_)); · (first | exact decide_eq_false (by omega) | (rw [beq_eq_false_iff_ne]; omega) | (rw [bne_eq_false_iff_eq]; first | done | omega) | rfl))
 | ((with_reducible refine S_falseO ?_ ?_ ?_); (· rfl); (· first | rfl | (first | exact decide_eq_false (by omega) | (rw [beq_eq_false_iff_ne]; omega) | (rw [bne_eq_false_iff_eq]; first | done | omega) | rfl)))
 | ((with_reducible (first | refine S_trueE ?_ ?_ | refine S_trueB ?_ ?_ | refine S_trueL ?_ ?_ | refine S_trueD ?_ ?_ | refine S_trueN ?_ ?_)); · (first | exact decide_eq_true (by omega) | (rw [beq_iff_eq]; first | done | omega) | (rw [bne_iff_ne]; omega)))
 | ((with_reducible refine S_trueA ?_ ?_ ?_); (· rfl); (· first | rfl | (first | exact decide_eq_true (by omega) | (rw [beq_iff_eq]; first | done | omega) | (rw [bne_iff_ne]; omega))))
 | refine S_unG rfl rfl rfl rfl ?_
 | (refine S_callM (f := 64) rfl obQ (by kernel_rfl) (fun w hw => lOwn_c K.A K.A2 K.c K.c2 names esA hn6 hmA w (hw.rdm K.h2 memQ)) (fun w1O w2O vO hw1O hbO hRO => ?_); obtain ⟨AO2, cO2, rfl, hSO, hcO, hcO2⟩ := hRO)
 | refine S_offG (.v (.bool false)) rfl rfl rfl rfl rfl ?_
 | ((with_reducible refine S_notV ?_ ?_); · rfl)
 | ((with_reducible refine S_falseA ?_ ?_); · first | rfl | (simp only [Bool.and_eq_false_iff, decide_eq_false_iff_not, beq_eq_false_iff_ne, bne_eq_false_iff_eq]; omega))
 | ((with_reducible refine S_trueO ?_ ?_); · first | rfl | (simp only [Bool.or_eq_true, decide_eq_true_eq, beq_iff_eq, bne_iff_ne]; omega))
 | refine S_nil ?_
 | refine S_runN rfl rfl obQ obQ ?_
 | refine S_box (fun b => ⟨_, _, rfl, obQ, ?_⟩)
 | refine S_call (f := 55) rfl obQ (by kernel_rfl) (fun w hw => rckn2_c K.A AO2 K.c cO2 names esA hn6 hmA hs K.hc.1 hNA w (hw.rdm K.h memQ) (hw.rdm hSO memQ)) ?_
                  )
 | (refine D_id ?_; first
 | refine D_nil ?_
 | refine D_tail ?_
 | refine D_run rfl rfl obQ obQ ?_
 | refine D_call (f := 55) rfl obQ (by kernel_rfl) (fun w hw => rckn2_c K.A AO2 K.c cO2 names esA hn6 hmA hs K.hc.1 hNA w (hw.rdm K.h memQ) (hw.rdm hSO memQ)) ?_
                  )
 | (refine G_id ?_; first
 | refine G_then ?_
 | refine G_block ?_
 | refine G_blockX ?_
 | refine G_blockN rfl ?_
 | refine G_blockR ?_
 | refine G_thenR ?_
 | refine G_thenX ?_
 | refine G_ret rfl obQ (fun w2 hw => ⟨?_, hw.below⟩)
                  )
                )
            refine C_cut (fun i : NtA names es × Nat => ([P.ps, K.ps, i.1.ps, (w, fun b => b < w.heap.size)], ⟨[(12, .s (.v (.int .i64 0))), (11, .s (.p i.2 4 0)), (9, .s (.p b9 3 0)), (8, .s (.v (.int .i64 18))), (7, .s (.v (.slice P.A 0 P.c))), (5, .s (.p b5 2 0)), (4, .s (.p b4 1 0)), (3, .s (.p b3 0 0))], [⟨b3, 84, [.v (.slice A names.length c), .v (.slice A2 es.length c2)]⟩, ⟨b4, 108, [.v (.int .i64 e.F), .v (.int .i64 e.T), .v (.int .i64 e.L), .v (.int .i64 e.H)]⟩, ⟨b5, 109, [.v (.int .u8 x0), .v (.int .u8 x1)]⟩, ⟨b9, 89, [.v (.slice K.A names.length K.c), .v (.slice K.A2 esA.length K.c2)]⟩, ⟨i.2, 89, [.v (.slice i.1.A names.length i.1.c), .v (.slice i.1.A2 es.length i.1.c2)]⟩], []⟩)) ?_ (fun i => ?_)
            · repeat' (first
 | (refine C_id ?_; first
 | refine C_condT rfl obQ ?_
 | refine C_condF rfl obQ ?_
 | refine C_seq ?_
 | refine C_region rfl ?_
 | refine C_block ?_
 | refine C_skip ?_
 | refine C_exit ?_
 | refine C_ret0 ?_
 | refine C_drawT (id := 4) 7 rfl mixed (by kernel_rfl) rfl rfl ?_
 | refine C_drawTr (id := 7) 12 (.q 0 (.q 3 (.q 4 (.q 5 (.two 1 10 (.two 2 10 (.two 6 10 (.q 7 (.q 8 (.q 9 (.n 10 (.n 11 .nil))))) (.n 6 (.q 7 (.q 8 (.q 9 (.n 11 .nil)))))) (.n 2 (.n 6 (.q 7 (.q 8 (.q 9 (.n 11 .nil))))))) (.n 1 (.n 2 (.n 6 (.q 7 (.q 8 (.q 9 (.n 11 .nil)))))))))))) rfl mixed (by kernel_rfl) rfl ?_
 | refine C_draw (id := 8) rfl mixed (by kernel_rfl) ?_
 | refine C_draw (id := 24) rfl mixed (by kernel_rfl) ?_
 | refine C_drawT (id := 32) 16 rfl mixed (by kernel_rfl) rfl rfl ?_
 | refine C_draw (id := 42) rfl mixed (by kernel_rfl) ?_
                    )
 | (refine S_id ?_; first
 | ((with_reducible (first | refine S_falseN ?_ ?_ | refine S_falseB ?_ ?_ | refine S_falseL ?_ ?_ | refine S_falseD ?_ ?_ | refine S_falseE ?_ ?_)); · (first | exact decide_eq_false (by omega) | (rw [beq_eq_false_iff_ne]; omega) | (rw [bne_eq_false_iff_eq]; first | done | omega) | rfl))
 | ((with_reducible refine S_falseO ?_ ?_ ?_); (· rfl); (· first | rfl | (first | exact decide_eq_false (by omega) | (rw [beq_eq_false_iff_ne]; omega) | (rw [bne_eq_false_iff_eq]; first | done | omega) | rfl)))
 | ((with_reducible (first | refine S_trueE ?_ ?_ | refine S_trueB ?_ ?_ | refine S_trueL ?_ ?_ | refine S_trueD ?_ ?_ | refine S_trueN ?_ ?_)); · (first | exact decide_eq_true (by omega) | (rw [beq_iff_eq]; first | done | omega) | (rw [bne_iff_ne]; omega)))
 | ((with_reducible refine S_trueA ?_ ?_ ?_); (· rfl); (· first | rfl | (first | exact decide_eq_true (by omega) | (rw [beq_iff_eq]; first | done | omega) | (rw [bne_iff_ne]; omega))))
 | refine S_unG rfl rfl rfl rfl ?_
 | (refine S_callM (f := 64) rfl obQ (by kernel_rfl) (fun w hw => lOwn_c K.A K.A2 K.c K.c2 names esA hn6 hmA w (hw.rdm K.h2 memQ)) (fun w1O w2O vO hw1O hbO hRO => ?_); obtain ⟨AO2, cO2, rfl, hSO, hcO, hcO2⟩ := hRO)
 | (refine S_callM (f := 50) rfl obQ (by kernel_rfl) (fun w hw => lGivenC_c K.A AO2 K.c cO2 names esA hn6 hmA K.hc.2 w (hw.rdm K.h memQ) (hw.rdm hSO memQ)) (fun w1N w2N vN hw1N hbN hRN => ?_); obtain ⟨AN, AN2, cN, cN2, rfl, hSN, hTN, hcN, hdN⟩ := hRN)
 | (refine S_callM (f := 65) rfl obQ (by kernel_rfl) (fun w hw => woutN_c _ _ _ _ names esA hn6 hmA hs hcN.2 hdN.1 es.length hWo w (hw.rdm hSN memQ) (hw.rdm hTN memQ)) (fun w1W w2W vW hw1W hbW hRW => ?_); obtain ⟨AW, AW2, cW, cW2, rfl, hSW, hTW, hcW, hdW⟩ := hRW)
 | refine S_offG (.v (.bool false)) rfl rfl rfl rfl rfl ?_
 | ((with_reducible refine S_notV ?_ ?_); · rfl)
 | ((with_reducible refine S_falseA ?_ ?_); · first | rfl | (simp only [Bool.and_eq_false_iff, decide_eq_false_iff_not, beq_eq_false_iff_ne, bne_eq_false_iff_eq]; omega))
 | ((with_reducible refine S_trueO ?_ ?_); · first | rfl | (simp only [Bool.or_eq_true, decide_eq_true_eq, beq_iff_eq, bne_iff_ne]; omega))
 | refine S_nil ?_
 | refine S_runN rfl rfl obQ obQ ?_
 | refine S_box (fun b11 => ⟨_, _, rfl, obQ, ?_⟩)
                    )
 | (refine D_id ?_; first
 | refine D_nil ?_
 | refine D_tail ?_
 | refine D_run rfl rfl obQ obQ ?_
                    )
 | (refine VT_id ?_; first
 | refine VT_nil ?_
 | refine VT_q rfl (Yl_step rfl obQ) ?_
 | refine VT_n rfl ?_
 | refine VT_two rfl rfl ?_ ?_
                    )
 | (refine G_id ?_; first
 | refine G_VT2 ⟨_, rfl⟩ ⟨_, rfl⟩ pstQ rfl ?_
 | refine G_cut (⟨w1W, w2W, AW, AW2, cW, cW2, hSW, hTW, hcW, hdW⟩, b11) ⟨⟨_, rfl, obQ⟩, ⟨_, rfl⟩, rfl, psQ⟩
 | refine G_then ?_
 | refine G_block ?_
 | refine G_blockX ?_
 | refine G_blockN rfl ?_
 | refine G_blockR ?_
 | refine G_thenR ?_
 | refine G_thenX ?_
 | refine G_ret rfl obQ (fun w2 hw => ⟨?_, hw.below⟩)
                    )
                  )
            obtain ⟨B, b11⟩ := i
            dsimp only
            repeat' (first
 | (refine C_id ?_; first
 | refine C_condT rfl obQ ?_
 | refine C_condF rfl obQ ?_
 | refine C_seq ?_
 | refine C_region rfl ?_
 | refine C_block ?_
 | refine C_skip ?_
 | refine C_exit ?_
 | refine C_ret0 ?_
 | refine C_drawT (id := 4) 7 rfl mixed (by kernel_rfl) rfl rfl ?_
 | refine C_drawT (id := 7) 10 rfl mixed (by kernel_rfl) rfl rfl ?_
 | refine C_drawV (id := 8) 6 [(0, true), (1, true), (2, true), (3, true), (5, true), (4, false)] rfl mixed (by kernel_rfl) rfl ?_
 | refine C_draw (id := 24) rfl mixed (by kernel_rfl) ?_
 | refine C_drawT (id := 32) 16 rfl mixed (by kernel_rfl) rfl rfl ?_
 | refine C_draw (id := 42) rfl mixed (by kernel_rfl) ?_
                  )
 | (refine S_id ?_; first
 | ((with_reducible (first | refine S_falseN ?_ ?_ | refine S_falseB ?_ ?_ | refine S_falseL ?_ ?_ | refine S_falseD ?_ ?_ | refine S_falseE ?_ ?_)); · (first | exact decide_eq_false (by omega) | (rw [beq_eq_false_iff_ne]; omega) | (rw [bne_eq_false_iff_eq]; first | done | omega) | rfl))
 | ((with_reducible refine S_falseO ?_ ?_ ?_); (· rfl); (· first | rfl | (first | exact decide_eq_false (by omega) | (rw [beq_eq_false_iff_ne]; omega) | (rw [bne_eq_false_iff_eq]; first | done | omega) | rfl)))
 | ((with_reducible (first | refine S_trueE ?_ ?_ | refine S_trueB ?_ ?_ | refine S_trueL ?_ ?_ | refine S_trueD ?_ ?_ | refine S_trueN ?_ ?_)); · (first | exact decide_eq_true (by omega) | (rw [beq_iff_eq]; first | done | omega) | (rw [bne_iff_ne]; omega)))
 | ((with_reducible refine S_trueA ?_ ?_ ?_); (· rfl); (· first | rfl | (first | exact decide_eq_true (by omega) | (rw [beq_iff_eq]; first | done | omega) | (rw [bne_iff_ne]; omega))))
 | refine S_unG rfl rfl rfl rfl ?_
 | refine S_gK 103 rfl rfl ?_
 | refine S_gK 105 rfl rfl ?_
 | (refine S_callM (f := 64) rfl obQ (by kernel_rfl) (fun w hw => lOwn_c B.A B.A2 B.c B.c2 names es hn6 hm6 w (hw.rdm B.h2 memQ)) (fun w1O w2O vO hw1O hbO hRO => ?_); obtain ⟨AO2, cO2, rfl, hSO, hcO, hcO2⟩ := hRO)
 | (refine S_callM (f := 64) rfl obQ (by kernel_rfl) (fun w hw => lOwn_c K.A K.A2 K.c K.c2 names esA hn6 hmA w (hw.rdm K.h2 memQ)) (fun w1O w2O vO hw1O hbO hRO => ?_); obtain ⟨AO2, cO2, rfl, hSO, hcO, hcO2⟩ := hRO)
 | (refine S_callM (f := 50) rfl obQ (by kernel_rfl) (fun w hw => lGivenC_c K.A AO2 K.c cO2 names esA hn6 hmA K.hc.2 w (hw.rdm K.h memQ) (hw.rdm hSO memQ)) (fun w1N w2N vN hw1N hbN hRN => ?_); obtain ⟨AN, AN2, cN, cN2, rfl, hSN, hTN, hcN, hdN⟩ := hRN)
 | (refine S_callM (f := 49) rfl obQ (by kernel_rfl) (fun w hw => plan0_c _ _ _ _ names esA hn6 hmA hs hPM w (hw.rdm hSN memQ) (hw.rdm hTN memQ)) (fun w1M w2M vM hw1M hbM hRM => ?_); obtain ⟨AM, cM, rfl, hSM⟩ := hRM)
 | refine S_offG (.v (.bool false)) rfl rfl rfl rfl rfl ?_
 | ((with_reducible refine S_notV ?_ ?_); · rfl)
 | ((with_reducible refine S_falseA ?_ ?_); · first | rfl | (simp only [Bool.and_eq_false_iff, decide_eq_false_iff_not, beq_eq_false_iff_ne, bne_eq_false_iff_eq]; omega))
 | ((with_reducible refine S_trueO ?_ ?_); · first | rfl | (simp only [Bool.or_eq_true, decide_eq_true_eq, beq_iff_eq, bne_iff_ne]; omega))
 | refine S_nil ?_
 | refine S_runN rfl rfl obQ obQ ?_
 | refine S_box (fun b => ⟨_, _, rfl, obQ, ?_⟩)
 | refine S_call (f := 48) rfl obQ (by kernel_rfl) (fun w hw => rShort2_c A A2 c c2 names es hsh hn hm w (hw.rdm (Rd.toS hr) memQ)) ?_
 | refine S_call (f := 55) rfl obQ (by kernel_rfl) (fun w hw => rckn2_c A A2 c c2 names es hn6 hm6 hs hc hNE w (hw.rdm (Rd.toS hr) memQ) (hw.rdm (Rd.toS hr2) memQ)) ?_
 | refine S_call (f := 62) rfl obQ (by kernel_rfl) (fun w hw => rcke_c names.length e hEd w) ?_
 | refine S_call (f := 27) rfl obQ (by kernel_rfl) (fun w hw => awake_c w (hw.rdm hE.toS memQ) (Pw_at hP hw memQ)) ?_
 | refine S_call (f := 66) rfl obQ (by kernel_rfl) (fun w hw => rSameT_c _ _ _ _ _ _ _ _ names es hn6 hm6 w (hw.rdm B.h memQ) (hw.rdm hSO memQ) (hw.rdm (Rd.toS hr) memQ) (hw.rdm (Rd.toS hr2) memQ)) ?_
                  )
 | (refine D_id ?_; first
 | refine D_nil ?_
 | refine D_tail ?_
 | refine D_run rfl rfl obQ obQ ?_
 | refine D_call (f := 48) rfl obQ (by kernel_rfl) (fun w hw => rShort2_c A A2 c c2 names es hsh hn hm w (hw.rdm (Rd.toS hr) memQ)) ?_
 | refine D_call (f := 55) rfl obQ (by kernel_rfl) (fun w hw => rckn2_c A A2 c c2 names es hn6 hm6 hs hc hNE w (hw.rdm (Rd.toS hr) memQ) (hw.rdm (Rd.toS hr2) memQ)) ?_
 | refine D_call (f := 62) rfl obQ (by kernel_rfl) (fun w hw => rcke_c names.length e hEd w) ?_
 | refine D_call (f := 27) rfl obQ (by kernel_rfl) (fun w hw => awake_c w (hw.rdm hE.toS memQ) (Pw_at hP hw memQ)) ?_
 | refine D_call (f := 66) rfl obQ (by kernel_rfl) (fun w hw => rSameT_c _ _ _ _ _ _ _ _ names es hn6 hm6 w (hw.rdm B.h memQ) (hw.rdm hSO memQ) (hw.rdm (Rd.toS hr) memQ) (hw.rdm (Rd.toS hr2) memQ)) ?_
                  )
 | (refine V_id ?_; first
 | refine V_nil ?_
 | refine V_q rfl (Yl_step rfl obQ) ?_
 | refine V_n rfl ?_
                  )
 | (refine G_id ?_; first
 | refine G_V ⟨⟨_, rfl, trivial⟩, ⟨_, rfl⟩, rfl, pstQ⟩ rfl ?_
 | refine G_then ?_
 | refine G_block ?_
 | refine G_blockX ?_
 | refine G_blockN rfl ?_
 | refine G_blockR ?_
 | refine G_thenR ?_
 | refine G_thenX ?_
 | refine G_ret rfl obQ (fun w2 hw => ⟨?_, hw.below⟩)
                  )
                )
            all_goals rfl
          · have hn0 := (netF_ok hNE).n0
            obtain ⟨lM, zM, hPM, hM0, hM1⟩ := plan_z hNA
            repeat' (first
 | (refine C_id ?_; first
 | refine C_condT rfl obQ ?_
 | refine C_condF rfl obQ ?_
 | refine C_seq ?_
 | refine C_region rfl ?_
 | refine C_block ?_
 | refine C_skip ?_
 | refine C_exit ?_
 | refine C_ret0 ?_
 | refine C_drawT (id := 7) 10 rfl mixed (by kernel_rfl) rfl rfl ?_
 | refine C_draw (id := 8) rfl mixed (by kernel_rfl) ?_
 | refine C_draw (id := 24) rfl mixed (by kernel_rfl) ?_
 | refine C_drawT (id := 32) 16 rfl mixed (by kernel_rfl) rfl rfl ?_
 | refine C_draw (id := 42) rfl mixed (by kernel_rfl) ?_
                  )
 | (refine S_id ?_; first
 | ((with_reducible (first | refine S_falseN ?_ ?_ | refine S_falseB ?_ ?_ | refine S_falseL ?_ ?_ | refine S_falseD ?_ ?_ | refine S_falseE ?_ ?_)); · (first | exact decide_eq_false (by omega) | (rw [beq_eq_false_iff_ne]; omega) | (rw [bne_eq_false_iff_eq]; first | done | omega) | rfl))
 | ((with_reducible refine S_falseO ?_ ?_ ?_); (· rfl); (· first | rfl | (first | exact decide_eq_false (by omega) | (rw [beq_eq_false_iff_ne]; omega) | (rw [bne_eq_false_iff_eq]; first | done | omega) | rfl)))
 | ((with_reducible (first | refine S_trueE ?_ ?_ | refine S_trueB ?_ ?_ | refine S_trueL ?_ ?_ | refine S_trueD ?_ ?_ | refine S_trueN ?_ ?_)); · (first | exact decide_eq_true (by omega) | (rw [beq_iff_eq]; first | done | omega) | (rw [bne_iff_ne]; omega)))
 | ((with_reducible refine S_trueA ?_ ?_ ?_); (· rfl); (· first | rfl | (first | exact decide_eq_true (by omega) | (rw [beq_iff_eq]; first | done | omega) | (rw [bne_iff_ne]; omega))))
 | refine S_unG rfl rfl rfl rfl ?_
 | (refine S_callM (f := 50) rfl obQ (by kernel_rfl) (fun w hw => lGivenC_c A A2 c c2 names es hn6 hm6 hA w (hw.rdm (Rd.toS hr) memQ) (hw.rdm (Rd.toS hr2) memQ)) (fun w1N w2N vN hw1N hbN hRN => ?_); obtain ⟨AN, AN2, cN, cN2, rfl, hSN, hTN, hcN, hdN⟩ := hRN)
 | (refine S_callM (f := 49) rfl obQ (by kernel_rfl) (fun w hw => planN_c _ _ _ _ names es hn6 hm6 hs hPl hlP w (hw.rdm hSN memQ) (hw.rdm hTN memQ)) (fun w1P w2P vP hw1P hbP hRP => ?_); obtain ⟨AP, cP, rfl, hSP⟩ := hRP)
 | (refine S_callM (f := 63) rfl obQ (by kernel_rfl) (fun w hw => addedN_c _ _ _ _ names es hn6 hm6 hs hcN.2 hdN.2 e hAd w (hw.rdm hSN memQ) (hw.rdm hTN memQ)) (fun w1K w2K vK hw1K hbK hRK => ?_); obtain ⟨AK, AK2, cK, cK2, rfl, hSK, hTK, hcK, hdK⟩ := hRK)
 | refine S_offG (.v (.bool false)) rfl rfl rfl rfl rfl ?_
 | ((with_reducible refine S_notV ?_ ?_); · rfl)
 | ((with_reducible refine S_falseA ?_ ?_); · first | rfl | (simp only [Bool.and_eq_false_iff, decide_eq_false_iff_not, beq_eq_false_iff_ne, bne_eq_false_iff_eq]; omega))
 | ((with_reducible refine S_trueO ?_ ?_); · first | rfl | (simp only [Bool.or_eq_true, decide_eq_true_eq, beq_iff_eq, bne_iff_ne]; omega))
 | refine S_nil ?_
 | refine S_runN rfl rfl obQ obQ ?_
 | refine S_box (fun b => ⟨_, _, rfl, obQ, ?_⟩)
 | refine S_call (f := 48) rfl obQ (by kernel_rfl) (fun w hw => rShort2_c A A2 c c2 names es hsh hn hm w (hw.rdm (Rd.toS hr) memQ)) ?_
 | refine S_call (f := 55) rfl obQ (by kernel_rfl) (fun w hw => rckn2_c A A2 c c2 names es hn6 hm6 hs hc hNE w (hw.rdm (Rd.toS hr) memQ) (hw.rdm (Rd.toS hr2) memQ)) ?_
 | refine S_call (f := 62) rfl obQ (by kernel_rfl) (fun w hw => rcke_c names.length e hEd w) ?_
 | refine S_call (f := 27) rfl obQ (by kernel_rfl) (fun w hw => awake_c w (hw.rdm hE.toS memQ) (Pw_at hP hw memQ)) ?_
                  )
 | (refine D_id ?_; first
 | refine D_nil ?_
 | refine D_tail ?_
 | refine D_run rfl rfl obQ obQ ?_
 | refine D_call (f := 48) rfl obQ (by kernel_rfl) (fun w hw => rShort2_c A A2 c c2 names es hsh hn hm w (hw.rdm (Rd.toS hr) memQ)) ?_
 | refine D_call (f := 55) rfl obQ (by kernel_rfl) (fun w hw => rckn2_c A A2 c c2 names es hn6 hm6 hs hc hNE w (hw.rdm (Rd.toS hr) memQ) (hw.rdm (Rd.toS hr2) memQ)) ?_
 | refine D_call (f := 62) rfl obQ (by kernel_rfl) (fun w hw => rcke_c names.length e hEd w) ?_
 | refine D_call (f := 27) rfl obQ (by kernel_rfl) (fun w hw => awake_c w (hw.rdm hE.toS memQ) (Pw_at hP hw memQ)) ?_
                  )
 | (refine G_id ?_; first
 | refine G_then ?_
 | refine G_block ?_
 | refine G_blockX ?_
 | refine G_blockN rfl ?_
 | refine G_blockR ?_
 | refine G_thenR ?_
 | refine G_thenX ?_
 | refine G_ret rfl obQ (fun w2 hw => ⟨?_, hw.below⟩)
                  )
                )
            rename_i b3 b4
            obtain ⟨b5, rfl⟩ : ∃ b5, b5 = b := ⟨_, rfl⟩
            refine C_cut (fun i : SlA (lP.map (.int .i64)) × NtA names esA × Nat => ([i.1.ps, i.2.1.ps, (w, fun b => b < w.heap.size)], ⟨[(10, .s (.v (.int .i64 0))), (9, .s (.p i.2.2 3 0)), (8, .s (.v (.int .i64 0))), (7, .s (.v (.slice i.1.A names.length i.1.c))), (5, .s (.p b5 2 0)), (4, .s (.p b4 1 0)), (3, .s (.p b3 0 0))], [⟨b3, 84, [.v (.slice A names.length c), .v (.slice A2 es.length c2)]⟩, ⟨b4, 108, [.v (.int .i64 e.F), .v (.int .i64 e.T), .v (.int .i64 e.L), .v (.int .i64 e.H)]⟩, ⟨b5, 109, [.v (.int .u8 x0), .v (.int .u8 x1)]⟩, ⟨i.2.2, 89, [.v (.slice i.2.1.A names.length i.2.1.c), .v (.slice i.2.1.A2 esA.length i.2.1.c2)]⟩], []⟩)) ?_ (fun i => ?_)
            · repeat' (first
 | (refine C_id ?_; first
 | refine C_condT rfl obQ ?_
 | refine C_condF rfl obQ ?_
 | refine C_seq ?_
 | refine C_region rfl ?_
 | refine C_block ?_
 | refine C_skip ?_
 | refine C_exit ?_
 | refine C_ret0 ?_
 | refine C_drawTr (id := 4) 9 (.q 0 (.q 2 (.two 1 7 (.two 3 7 (.q 4 (.q 5 (.q 6 (.n 7 (.n 8 .nil))))) (.n 3 (.q 4 (.q 5 (.q 6 (.n 8 .nil)))))) (.n 1 (.n 3 (.q 4 (.q 5 (.q 6 (.n 8 .nil))))))))) rfl mixed (by kernel_rfl) rfl ?_
 | refine C_drawT (id := 7) 10 rfl mixed (by kernel_rfl) rfl rfl ?_
 | refine C_draw (id := 8) rfl mixed (by kernel_rfl) ?_
 | refine C_draw (id := 24) rfl mixed (by kernel_rfl) ?_
 | refine C_drawT (id := 32) 16 rfl mixed (by kernel_rfl) rfl rfl ?_
 | refine C_draw (id := 42) rfl mixed (by kernel_rfl) ?_
                    )
 | (refine S_id ?_; first
 | ((with_reducible (first | refine S_falseN ?_ ?_ | refine S_falseB ?_ ?_ | refine S_falseL ?_ ?_ | refine S_falseD ?_ ?_ | refine S_falseE ?_ ?_)); · (first | exact decide_eq_false (by omega) | (rw [beq_eq_false_iff_ne]; omega) | (rw [bne_eq_false_iff_eq]; first | done | omega) | rfl))
 | ((with_reducible refine S_falseO ?_ ?_ ?_); (· rfl); (· first | rfl | (first | exact decide_eq_false (by omega) | (rw [beq_eq_false_iff_ne]; omega) | (rw [bne_eq_false_iff_eq]; first | done | omega) | rfl)))
 | ((with_reducible (first | refine S_trueE ?_ ?_ | refine S_trueB ?_ ?_ | refine S_trueL ?_ ?_ | refine S_trueD ?_ ?_ | refine S_trueN ?_ ?_)); · (first | exact decide_eq_true (by omega) | (rw [beq_iff_eq]; first | done | omega) | (rw [bne_iff_ne]; omega)))
 | ((with_reducible refine S_trueA ?_ ?_ ?_); (· rfl); (· first | rfl | (first | exact decide_eq_true (by omega) | (rw [beq_iff_eq]; first | done | omega) | (rw [bne_iff_ne]; omega))))
 | refine S_unG rfl rfl rfl rfl ?_
 | (refine S_callM (f := 50) rfl obQ (by kernel_rfl) (fun w hw => lGivenC_c A A2 c c2 names es hn6 hm6 hA w (hw.rdm (Rd.toS hr) memQ) (hw.rdm (Rd.toS hr2) memQ)) (fun w1N w2N vN hw1N hbN hRN => ?_); obtain ⟨AN, AN2, cN, cN2, rfl, hSN, hTN, hcN, hdN⟩ := hRN)
 | (refine S_callM (f := 63) rfl obQ (by kernel_rfl) (fun w hw => addedN_c _ _ _ _ names es hn6 hm6 hs hcN.2 hdN.2 e hAd w (hw.rdm hSN memQ) (hw.rdm hTN memQ)) (fun w1K w2K vK hw1K hbK hRK => ?_); obtain ⟨AK, AK2, cK, cK2, rfl, hSK, hTK, hcK, hdK⟩ := hRK)
 | refine S_offG (.v (.bool false)) rfl rfl rfl rfl rfl ?_
 | ((with_reducible refine S_notV ?_ ?_); · rfl)
 | ((with_reducible refine S_falseA ?_ ?_); · first | rfl | (simp only [Bool.and_eq_false_iff, decide_eq_false_iff_not, beq_eq_false_iff_ne, bne_eq_false_iff_eq]; omega))
 | ((with_reducible refine S_trueO ?_ ?_); · first | rfl | (simp only [Bool.or_eq_true, decide_eq_true_eq, beq_iff_eq, bne_iff_ne]; omega))
 | refine S_nil ?_
 | refine S_runN rfl rfl obQ obQ ?_
 | refine S_box (fun b9 => ⟨_, _, rfl, obQ, ?_⟩)
 | refine S_call (f := 48) rfl obQ (by kernel_rfl) (fun w hw => rShort2_c A A2 c c2 names es hsh hn hm w (hw.rdm (Rd.toS hr) memQ)) ?_
 | refine S_call (f := 55) rfl obQ (by kernel_rfl) (fun w hw => rckn2_c A A2 c c2 names es hn6 hm6 hs hc hNE w (hw.rdm (Rd.toS hr) memQ) (hw.rdm (Rd.toS hr2) memQ)) ?_
 | refine S_call (f := 62) rfl obQ (by kernel_rfl) (fun w hw => rcke_c names.length e hEd w) ?_
 | refine S_call (f := 27) rfl obQ (by kernel_rfl) (fun w hw => awake_c w (hw.rdm hE.toS memQ) (Pw_at hP hw memQ)) ?_
                    )
 | (refine D_id ?_; first
 | refine D_nil ?_
 | refine D_tail ?_
 | refine D_run rfl rfl obQ obQ ?_
 | refine D_call (f := 48) rfl obQ (by kernel_rfl) (fun w hw => rShort2_c A A2 c c2 names es hsh hn hm w (hw.rdm (Rd.toS hr) memQ)) ?_
 | refine D_call (f := 55) rfl obQ (by kernel_rfl) (fun w hw => rckn2_c A A2 c c2 names es hn6 hm6 hs hc hNE w (hw.rdm (Rd.toS hr) memQ) (hw.rdm (Rd.toS hr2) memQ)) ?_
 | refine D_call (f := 62) rfl obQ (by kernel_rfl) (fun w hw => rcke_c names.length e hEd w) ?_
 | refine D_call (f := 27) rfl obQ (by kernel_rfl) (fun w hw => awake_c w (hw.rdm hE.toS memQ) (Pw_at hP hw memQ)) ?_
                    )
 | (refine VT_id ?_; first
 | refine VT_nil ?_
 | refine VT_q rfl (Yl_step rfl obQ) ?_
 | refine VT_n rfl ?_
 | refine VT_two rfl rfl ?_ ?_
                    )
 | (refine G_id ?_; first
 | refine G_VT2 ⟨_, rfl⟩ ⟨_, rfl⟩ pstQ rfl ?_
 | refine G_cut (⟨w1P, w2P, AP, cP, hSP⟩, ⟨w1K, w2K, AK, AK2, cK, cK2, hSK, hTK, hcK, hdK⟩, b9) ⟨⟨_, rfl, obQ⟩, ⟨_, rfl⟩, rfl, psQ⟩
 | refine G_then ?_
 | refine G_block ?_
 | refine G_blockX ?_
 | refine G_blockN rfl ?_
 | refine G_blockR ?_
 | refine G_thenR ?_
 | refine G_thenX ?_
 | refine G_ret rfl obQ (fun w2 hw => ⟨?_, hw.below⟩)
                    )
                  )
            obtain ⟨⟨w1P, w2P, AP, cP, hSP⟩, K, b9⟩ := i
            obtain ⟨adP, rfl⟩ := hSP.rd.some (by rw [List.length_map]; omega)
            dsimp only
            repeat' (first
 | (refine C_id ?_; first
 | refine C_condT rfl obQ ?_
 | refine C_condF rfl obQ ?_
 | refine C_seq ?_
 | refine C_region rfl ?_
 | refine C_block ?_
 | refine C_skip ?_
 | refine C_exit ?_
 | refine C_ret0 ?_
 | refine C_drawT (id := 4) 7 rfl mixed (by kernel_rfl) rfl rfl ?_
 | refine C_draw (id := 8) rfl mixed (by kernel_rfl) ?_
 | refine C_draw (id := 24) rfl mixed (by kernel_rfl) ?_
 | refine C_drawT (id := 32) 16 rfl mixed (by kernel_rfl) rfl rfl ?_
 | refine C_draw (id := 42) rfl mixed (by kernel_rfl) ?_
                  )
 | (refine S_id ?_; first
 | ((with_reducible (first | refine S_falseN ?_ ?_ | refine S_falseB ?_ ?_ | refine S_falseL ?_ ?_ | refine S_falseD ?_ ?_ | refine S_falseE ?_ ?_)); · (first | exact decide_eq_false (by omega) | (rw [beq_eq_false_iff_ne]; omega) | (rw [bne_eq_false_iff_eq]; first | done | omega) | rfl))
 | ((with_reducible refine S_falseO ?_ ?_ ?_); (· rfl); (· first | rfl | (first | exact decide_eq_false (by omega) | (rw [beq_eq_false_iff_ne]; omega) | (rw [bne_eq_false_iff_eq]; first | done | omega) | rfl)))
 | ((with_reducible (first | refine S_trueE ?_ ?_ | refine S_trueB ?_ ?_ | refine S_trueL ?_ ?_ | refine S_trueD ?_ ?_ | refine S_trueN ?_ ?_)); · (first | exact decide_eq_true (by omega) | (rw [beq_iff_eq]; first | done | omega) | (rw [bne_iff_ne]; omega)))
 | ((with_reducible refine S_trueA ?_ ?_ ?_); (· rfl); (· first | rfl | (first | exact decide_eq_true (by omega) | (rw [beq_iff_eq]; first | done | omega) | (rw [bne_iff_ne]; omega))))
 | refine S_unG rfl rfl rfl rfl ?_
 | (refine S_callM (f := 64) rfl obQ (by kernel_rfl) (fun w hw => lOwn_c K.A K.A2 K.c K.c2 names esA hn6 hmA w (hw.rdm K.h2 memQ)) (fun w1O w2O vO hw1O hbO hRO => ?_); obtain ⟨AO2, cO2, rfl, hSO, hcO, hcO2⟩ := hRO)
 | refine S_offG (.v (.bool false)) rfl rfl rfl rfl rfl ?_
 | ((with_reducible refine S_notV ?_ ?_); · rfl)
 | ((with_reducible refine S_falseA ?_ ?_); · first | rfl | (simp only [Bool.and_eq_false_iff, decide_eq_false_iff_not, beq_eq_false_iff_ne, bne_eq_false_iff_eq]; omega))
 | ((with_reducible refine S_trueO ?_ ?_); · first | rfl | (simp only [Bool.or_eq_true, decide_eq_true_eq, beq_iff_eq, bne_iff_ne]; omega))
 | refine S_nil ?_
 | refine S_runN rfl rfl obQ obQ ?_
 | refine S_box (fun b => ⟨_, _, rfl, obQ, ?_⟩)
 | refine S_call (f := 55) rfl obQ (by kernel_rfl) (fun w hw => rckn2_c K.A AO2 K.c cO2 names esA hn6 hmA hs K.hc.1 hNA w (hw.rdm K.h memQ) (hw.rdm hSO memQ)) ?_
                  )
 | (refine D_id ?_; first
 | refine D_nil ?_
 | refine D_tail ?_
 | refine D_run rfl rfl obQ obQ ?_
 | refine D_call (f := 55) rfl obQ (by kernel_rfl) (fun w hw => rckn2_c K.A AO2 K.c cO2 names esA hn6 hmA hs K.hc.1 hNA w (hw.rdm K.h memQ) (hw.rdm hSO memQ)) ?_
                  )
 | (refine G_id ?_; first
 | refine G_then ?_
 | refine G_block ?_
 | refine G_blockX ?_
 | refine G_blockN rfl ?_
 | refine G_blockR ?_
 | refine G_thenR ?_
 | refine G_thenX ?_
 | refine G_ret rfl obQ (fun w2 hw => ⟨?_, hw.below⟩)
                  )
                )
            refine C_cut (fun i : NtA names es × Nat => ([(w2P, fun b => w1P.heap.size ≤ b ∧ b < w2P.heap.size), K.ps, i.1.ps, (w, fun b => b < w.heap.size)], ⟨[(12, .s (.v (.int .i64 0))), (11, .s (.p i.2 4 0)), (9, .s (.p b9 3 0)), (8, .s (.v (.int .i64 0))), (7, .s (.v (.slice (some adP) names.length cP))), (5, .s (.p b5 2 0)), (4, .s (.p b4 1 0)), (3, .s (.p b3 0 0))], [⟨b3, 84, [.v (.slice A names.length c), .v (.slice A2 es.length c2)]⟩, ⟨b4, 108, [.v (.int .i64 e.F), .v (.int .i64 e.T), .v (.int .i64 e.L), .v (.int .i64 e.H)]⟩, ⟨b5, 109, [.v (.int .u8 x0), .v (.int .u8 x1)]⟩, ⟨b9, 89, [.v (.slice K.A names.length K.c), .v (.slice K.A2 esA.length K.c2)]⟩, ⟨i.2, 89, [.v (.slice i.1.A names.length i.1.c), .v (.slice i.1.A2 es.length i.1.c2)]⟩], []⟩)) ?_ (fun i => ?_)
            · repeat' (first
 | (refine C_id ?_; first
 | refine C_condT rfl obQ ?_
 | refine C_condF rfl obQ ?_
 | refine C_seq ?_
 | refine C_region rfl ?_
 | refine C_block ?_
 | refine C_skip ?_
 | refine C_exit ?_
 | refine C_ret0 ?_
 | refine C_drawT (id := 4) 7 rfl mixed (by kernel_rfl) rfl rfl ?_
 | refine C_drawTr (id := 7) 12 (.q 0 (.q 3 (.q 4 (.q 5 (.two 1 10 (.two 2 10 (.two 6 10 (.q 7 (.q 8 (.q 9 (.n 10 (.n 11 .nil))))) (.n 6 (.q 7 (.q 8 (.q 9 (.n 11 .nil)))))) (.n 2 (.n 6 (.q 7 (.q 8 (.q 9 (.n 11 .nil))))))) (.n 1 (.n 2 (.n 6 (.q 7 (.q 8 (.q 9 (.n 11 .nil)))))))))))) rfl mixed (by kernel_rfl) rfl ?_
 | refine C_draw (id := 8) rfl mixed (by kernel_rfl) ?_
 | refine C_draw (id := 24) rfl mixed (by kernel_rfl) ?_
 | refine C_drawT (id := 32) 16 rfl mixed (by kernel_rfl) rfl rfl ?_
 | refine C_draw (id := 42) rfl mixed (by kernel_rfl) ?_
                    )
 | (refine S_id ?_; first
 | ((with_reducible (first | refine S_falseN ?_ ?_ | refine S_falseB ?_ ?_ | refine S_falseL ?_ ?_ | refine S_falseD ?_ ?_ | refine S_falseE ?_ ?_)); · (first | exact decide_eq_false (by omega) | (rw [beq_eq_false_iff_ne]; omega) | (rw [bne_eq_false_iff_eq]; first | done | omega) | rfl))
 | ((with_reducible refine S_falseO ?_ ?_ ?_); (· rfl); (· first | rfl | (first | exact decide_eq_false (by omega) | (rw [beq_eq_false_iff_ne]; omega) | (rw [bne_eq_false_iff_eq]; first | done | omega) | rfl)))
 | ((with_reducible (first | refine S_trueE ?_ ?_ | refine S_trueB ?_ ?_ | refine S_trueL ?_ ?_ | refine S_trueD ?_ ?_ | refine S_trueN ?_ ?_)); · (first | exact decide_eq_true (by omega) | (rw [beq_iff_eq]; first | done | omega) | (rw [bne_iff_ne]; omega)))
 | ((with_reducible refine S_trueA ?_ ?_ ?_); (· rfl); (· first | rfl | (first | exact decide_eq_true (by omega) | (rw [beq_iff_eq]; first | done | omega) | (rw [bne_iff_ne]; omega))))
 | refine S_unG rfl rfl rfl rfl ?_
 | (refine S_callM (f := 64) rfl obQ (by kernel_rfl) (fun w hw => lOwn_c K.A K.A2 K.c K.c2 names esA hn6 hmA w (hw.rdm K.h2 memQ)) (fun w1O w2O vO hw1O hbO hRO => ?_); obtain ⟨AO2, cO2, rfl, hSO, hcO, hcO2⟩ := hRO)
 | (refine S_callM (f := 50) rfl obQ (by kernel_rfl) (fun w hw => lGivenC_c K.A AO2 K.c cO2 names esA hn6 hmA K.hc.2 w (hw.rdm K.h memQ) (hw.rdm hSO memQ)) (fun w1N w2N vN hw1N hbN hRN => ?_); obtain ⟨AN, AN2, cN, cN2, rfl, hSN, hTN, hcN, hdN⟩ := hRN)
 | (refine S_callM (f := 65) rfl obQ (by kernel_rfl) (fun w hw => woutN_c _ _ _ _ names esA hn6 hmA hs hcN.2 hdN.1 es.length hWo w (hw.rdm hSN memQ) (hw.rdm hTN memQ)) (fun w1W w2W vW hw1W hbW hRW => ?_); obtain ⟨AW, AW2, cW, cW2, rfl, hSW, hTW, hcW, hdW⟩ := hRW)
 | refine S_offG (.v (.bool false)) rfl rfl rfl rfl rfl ?_
 | ((with_reducible refine S_notV ?_ ?_); · rfl)
 | ((with_reducible refine S_falseA ?_ ?_); · first | rfl | (simp only [Bool.and_eq_false_iff, decide_eq_false_iff_not, beq_eq_false_iff_ne, bne_eq_false_iff_eq]; omega))
 | ((with_reducible refine S_trueO ?_ ?_); · first | rfl | (simp only [Bool.or_eq_true, decide_eq_true_eq, beq_iff_eq, bne_iff_ne]; omega))
 | refine S_nil ?_
 | refine S_runN rfl rfl obQ obQ ?_
 | refine S_box (fun b11 => ⟨_, _, rfl, obQ, ?_⟩)
                    )
 | (refine D_id ?_; first
 | refine D_nil ?_
 | refine D_tail ?_
 | refine D_run rfl rfl obQ obQ ?_
                    )
 | (refine VT_id ?_; first
 | refine VT_nil ?_
 | refine VT_q rfl (Yl_step rfl obQ) ?_
 | refine VT_n rfl ?_
 | refine VT_two rfl rfl ?_ ?_
                    )
 | (refine G_id ?_; first
 | refine G_VT2 ⟨_, rfl⟩ ⟨_, rfl⟩ pstQ rfl ?_
 | refine G_cut (⟨w1W, w2W, AW, AW2, cW, cW2, hSW, hTW, hcW, hdW⟩, b11) ⟨⟨_, rfl, obQ⟩, ⟨_, rfl⟩, rfl, psQ⟩
 | refine G_then ?_
 | refine G_block ?_
 | refine G_blockX ?_
 | refine G_blockN rfl ?_
 | refine G_blockR ?_
 | refine G_thenR ?_
 | refine G_thenX ?_
 | refine G_ret rfl obQ (fun w2 hw => ⟨?_, hw.below⟩)
                    )
                  )
            obtain ⟨B, b11⟩ := i
            dsimp only
            
            repeat' (first
 | (refine C_id ?_; first
 | refine C_seq ?_
 | refine C_regionNe 15 rfl rfl ?_
 | refine C_block ?_
 | refine C_skip ?_
 | refine C_exit ?_
 | refine C_ret0 ?_
 | refine C_drawT (id := 4) 7 rfl mixed (by kernel_rfl) rfl rfl ?_
 | refine C_drawT (id := 7) 10 rfl mixed (by kernel_rfl) rfl rfl ?_
 | refine C_drawV (id := 8) 6 [(0, true), (1, true), (2, true), (3, true), (5, true), (4, false)] rfl mixed (by kernel_rfl) rfl ?_
 | refine C_draw (id := 24) rfl mixed (by kernel_rfl) ?_
 | refine C_drawT (id := 32) 16 rfl mixed (by kernel_rfl) rfl rfl ?_
 | refine C_draw (id := 42) rfl mixed (by kernel_rfl) ?_
 | refine C_condT rfl obQ ?_
 | refine C_condF rfl obQ ?_
 | (refine C_cond rfl obQ (fun h => ?_) (fun h => ?_) <;> (try simp only [Bool.or_eq_true, Bool.and_eq_true, Bool.or_eq_false_iff, Bool.and_eq_false_iff, decide_eq_true_eq, decide_eq_false_iff_not, beq_iff_eq, bne_iff_ne, beq_eq_false_iff_ne, bne_eq_false_iff_eq, ne_eq, Decidable.not_not, List.cons.injEq, and_true, Bool.not_eq_true', Bool.not_eq_false', Int.not_lt, Int.not_le] at h) <;> (try (exfalso; omega)) <;> (try (exfalso; simp at h; done)) <;> (try (exfalso; simp only [not_true_eq_false, false_or, or_false] at h; omega)) <;> (try (exfalso; simp at h; omega)))
                  )
 | (refine S_id ?_; first
 | ((with_reducible (first | refine S_falseN ?_ ?_ | refine S_falseB ?_ ?_ | refine S_falseL ?_ ?_ | refine S_falseD ?_ ?_ | refine S_falseE ?_ ?_)); · (first | exact decide_eq_false (by omega) | (rw [beq_eq_false_iff_ne]; omega) | (rw [bne_eq_false_iff_eq]; first | done | omega) | rfl))
 | ((with_reducible refine S_falseO ?_ ?_ ?_); (· rfl); (· first | rfl | (first | exact decide_eq_false (by omega) | (rw [beq_eq_false_iff_ne]; omega) | (rw [bne_eq_false_iff_eq]; first | done | omega) | rfl)))
 | ((with_reducible (first | refine S_trueE ?_ ?_ | refine S_trueB ?_ ?_ | refine S_trueL ?_ ?_ | refine S_trueD ?_ ?_ | refine S_trueN ?_ ?_)); · (first | exact decide_eq_true (by omega) | (rw [beq_iff_eq]; first | done | omega) | (rw [bne_iff_ne]; omega)))
 | ((with_reducible refine S_trueA ?_ ?_ ?_); (· rfl); (· first | rfl | (first | exact decide_eq_true (by omega) | (rw [beq_iff_eq]; first | done | omega) | (rw [bne_iff_ne]; omega))))
 | refine S_unG rfl rfl rfl rfl ?_
 | refine S_gK 103 rfl rfl ?_
 | refine S_gK 105 rfl rfl ?_
 | (refine S_callM (f := 64) rfl obQ (by kernel_rfl) (fun w hw => lOwn_c B.A B.A2 B.c B.c2 names es hn6 hm6 w (hw.rdm B.h2 memQ)) (fun w1O w2O vO hw1O hbO hRO => ?_); obtain ⟨AO2, cO2, rfl, hSO, hcO, hcO2⟩ := hRO)
 | (refine S_callM (f := 64) rfl obQ (by kernel_rfl) (fun w hw => lOwn_c K.A K.A2 K.c K.c2 names esA hn6 hmA w (hw.rdm K.h2 memQ)) (fun w1O w2O vO hw1O hbO hRO => ?_); obtain ⟨AO2, cO2, rfl, hSO, hcO, hcO2⟩ := hRO)
 | (refine S_callM (f := 50) rfl obQ (by kernel_rfl) (fun w hw => lGivenC_c K.A AO2 K.c cO2 names esA hn6 hmA K.hc.2 w (hw.rdm K.h memQ) (hw.rdm hSO memQ)) (fun w1N w2N vN hw1N hbN hRN => ?_); obtain ⟨AN, AN2, cN, cN2, rfl, hSN, hTN, hcN, hdN⟩ := hRN)
 | (refine S_callM (f := 49) rfl obQ (by kernel_rfl) (fun w hw => planZ_c _ _ _ _ names esA hn6 hmA hs hPM w (hw.rdm hSN memQ) (hw.rdm hTN memQ)) (fun w1M w2M vM hw1M hbM hRM => ?_); obtain ⟨AM, cM, rfl, hSM⟩ := hRM)
 | refine S_offG (.v (.bool false)) rfl rfl rfl rfl rfl ?_
 | ((with_reducible refine S_notV ?_ ?_); · rfl)
 | ((with_reducible refine S_falseA ?_ ?_); · first | rfl | (simp only [Bool.and_eq_false_iff, decide_eq_false_iff_not, beq_eq_false_iff_ne, bne_eq_false_iff_eq]; omega))
 | ((with_reducible refine S_trueO ?_ ?_); · first | rfl | (simp only [Bool.or_eq_true, decide_eq_true_eq, beq_iff_eq, bne_iff_ne]; omega))
 | refine S_nil ?_
 | refine S_runN rfl rfl obQ obQ ?_
 | refine S_box (fun b => ⟨_, _, rfl, obQ, ?_⟩)
 | refine S_run rfl rfl obQ obQ ?_
 | refine S_call (f := 48) rfl obQ (by kernel_rfl) (fun w hw => rShort2_c A A2 c c2 names es hsh hn hm w (hw.rdm (Rd.toS hr) memQ)) ?_
 | refine S_call (f := 55) rfl obQ (by kernel_rfl) (fun w hw => rckn2_c A A2 c c2 names es hn6 hm6 hs hc hNE w (hw.rdm (Rd.toS hr) memQ) (hw.rdm (Rd.toS hr2) memQ)) ?_
 | refine S_call (f := 62) rfl obQ (by kernel_rfl) (fun w hw => rcke_c names.length e hEd w) ?_
 | refine S_call (f := 27) rfl obQ (by kernel_rfl) (fun w hw => awake_c w (hw.rdm hE.toS memQ) (Pw_at hP hw memQ)) ?_
 | refine S_call (f := 66) rfl obQ (by kernel_rfl) (fun w hw => rSameT_c _ _ _ _ _ _ _ _ names es hn6 hm6 w (hw.rdm B.h memQ) (hw.rdm hSO memQ) (hw.rdm (Rd.toS hr) memQ) (hw.rdm (Rd.toS hr2) memQ)) ?_
                  )
 | (refine D_id ?_; first
 | refine D_nil ?_
 | refine D_tail ?_
 | refine D_run rfl rfl obQ obQ ?_
 | refine D_call (f := 48) rfl obQ (by kernel_rfl) (fun w hw => rShort2_c A A2 c c2 names es hsh hn hm w (hw.rdm (Rd.toS hr) memQ)) ?_
 | refine D_call (f := 55) rfl obQ (by kernel_rfl) (fun w hw => rckn2_c A A2 c c2 names es hn6 hm6 hs hc hNE w (hw.rdm (Rd.toS hr) memQ) (hw.rdm (Rd.toS hr2) memQ)) ?_
 | refine D_call (f := 62) rfl obQ (by kernel_rfl) (fun w hw => rcke_c names.length e hEd w) ?_
 | refine D_call (f := 27) rfl obQ (by kernel_rfl) (fun w hw => awake_c w (hw.rdm hE.toS memQ) (Pw_at hP hw memQ)) ?_
 | refine D_call (f := 66) rfl obQ (by kernel_rfl) (fun w hw => rSameT_c _ _ _ _ _ _ _ _ names es hn6 hm6 w (hw.rdm B.h memQ) (hw.rdm hSO memQ) (hw.rdm (Rd.toS hr) memQ) (hw.rdm (Rd.toS hr2) memQ)) ?_
                  )
 | (refine V_id ?_; first
 | refine V_nil ?_
 | refine V_q rfl (Yl_step rfl obQ) ?_
 | refine V_n rfl ?_
                  )
 | (refine G_id ?_; first
 | refine G_V ⟨⟨_, rfl, trivial⟩, ⟨_, rfl⟩, rfl, pstQ⟩ rfl ?_
 | refine G_then ?_
 | refine G_block ?_
 | refine G_blockX ?_
 | refine G_blockN rfl ?_
 | refine G_blockR ?_
 | refine G_thenR ?_
 | refine G_thenX ?_
 | refine G_ret rfl obQ (fun w2 hw => ⟨?_, hw.below⟩)
                  )
                )
            repeat' (first
 | (refine C_id ?_; first
 | refine C_seq ?_
 | refine C_region rfl ?_
 | refine C_block ?_
 | refine C_skip ?_
 | refine C_exit ?_
 | refine C_ret0 ?_
 | refine C_drawT (id := 4) 7 rfl mixed (by kernel_rfl) rfl rfl ?_
 | refine C_drawT (id := 7) 10 rfl mixed (by kernel_rfl) rfl rfl ?_
 | refine C_draw (id := 8) rfl mixed (by kernel_rfl) ?_
 | refine C_draw (id := 24) rfl mixed (by kernel_rfl) ?_
 | refine C_drawT (id := 32) 16 rfl mixed (by kernel_rfl) rfl rfl ?_
 | refine C_draw (id := 42) rfl mixed (by kernel_rfl) ?_
                  )
 | (refine S_id ?_; first
 | refine S_nil ?_
 | refine S_run rfl rfl obQ obQ ?_
 | refine S_box (fun b => ⟨_, _, rfl, obQ, ?_⟩)
                  )
 | (refine D_id ?_; first
 | refine D_nil ?_
 | refine D_tail ?_
 | refine D_run rfl rfl obQ obQ ?_
                  )
 | (refine G_id ?_; first
 | refine G_then ?_
 | refine G_block ?_
 | refine G_blockX ?_
 | refine G_blockN rfl ?_
 | refine G_blockR ?_
 | refine G_thenR ?_
 | refine G_thenX ?_
 | refine G_ret rfl obQ (fun w hw => ⟨?_, hw.below⟩)
                  )
                )
            refine C_cut (fun _ : Unit => ([(w2P, fun b => w1P.heap.size ≤ b ∧ b < w2P.heap.size), (w, fun b => b < w.heap.size)], ⟨[(7, .s (.v (.slice (some adP) names.length cP))), (5, .s (.p b5 2 0)), (4, .s (.p b4 1 0)), (3, .s (.p b3 0 0))], [⟨b3, 84, [.v (.slice A names.length c), .v (.slice A2 es.length c2)]⟩, ⟨b4, 108, [.v (.int .i64 e.F), .v (.int .i64 e.T), .v (.int .i64 e.L), .v (.int .i64 e.H)]⟩, ⟨b5, 109, [.v (.int .u8 x0), .v (.int .u8 x1)]⟩], []⟩)) ?_ (fun i => ?_)
            · refine C_cond rfl obQ (fun h => ?_) (fun h => ?_)
              · have hz0 : zM = 0 := by simpa using h
                obtain ⟨hlM, hFM, hgM⟩ := hM0 hz0
                obtain ⟨adM, rfl⟩ := hSM.rd.some (by rw [List.length_map]; omega)
                obtain ⟨f, hf⟩ := toNat_eq (Int.emod_nonneg x0 (show (names.length : Int) ≠ 0 by omega))
                have hfl : f < names.length := by
                  have := Int.emod_lt_of_pos x0 (show (0 : Int) < names.length by omega)
                  omega
                obtain ⟨va, vb, ve, hVe, hvz, _⟩ := win_zero hNE hF hfl
                obtain ⟨wa, wb, we, hWe, hwz, _⟩ := win_zero hNA hFM hfl
                have hsw : ve = 0 → we = 0 ∧ va ≤ wa ∧ wb ≤ vb := fun h0 => by
                  subst h0
                  obtain ⟨a', b', h1, h2, h3⟩ := win_sub hNA hNE hSub hFM hfl hVe
                  rw [hWe] at h1
                  simp only [Prod.mk.injEq] at h1
                  obtain ⟨rfl, rfl, rfl⟩ := h1
                  exact ⟨rfl, h2, h3⟩
                rw [← hf] at hVe hWe
                have hge : ∀ v, v < names.length → gT lP v ≤ gT lM v := fun v hv => by
                  rw [hgP v hv, hgM v hv]
                  exact (sub_fea (netF_ok hNA).e (netF_ok hNE).e (netF_ok hNE).n0 (netF_ok hNE).n (netF_ok hNA).m (netF_ok hNE).m hSub hFM).2 v hv
                have hxm := Int.emod_lt_of_pos x0 (show (0 : Int) < names.length by omega)
                repeat' (first
 | (refine C_id ?_; first
 | (refine C_cond rfl obQ (fun h => ?_) (fun h => ?_); (· exfalso; simp only [Bool.and_eq_true, Bool.or_eq_true, beq_iff_eq, bne_iff_ne, decide_eq_true_eq, ne_eq] at h; obtain ⟨h1, h2⟩ := h; have h3 := hsw h1; omega))
 | refine C_seq ?_
 | refine C_region rfl ?_
 | refine C_block ?_
 | refine C_skip ?_
 | refine C_exit ?_
 | refine C_ret0 ?_
 | refine C_drawT (id := 4) 7 rfl mixed (by kernel_rfl) rfl rfl ?_
 | refine C_drawT (id := 7) 10 rfl mixed (by kernel_rfl) rfl rfl ?_
 | refine C_draw (id := 8) rfl mixed (by kernel_rfl) ?_
 | refine C_draw (id := 24) rfl mixed (by kernel_rfl) ?_
 | refine C_drawT (id := 32) 16 rfl mixed (by kernel_rfl) rfl rfl ?_
 | refine C_draw (id := 42) rfl mixed (by kernel_rfl) ?_
 | refine C_condT rfl obQ ?_
 | refine C_condF rfl obQ ?_
 | (refine C_cond rfl obQ (fun h => ?_) (fun h => ?_) <;> (try simp only [Bool.or_eq_true, Bool.and_eq_true, Bool.or_eq_false_iff, Bool.and_eq_false_iff, decide_eq_true_eq, decide_eq_false_iff_not, beq_iff_eq, bne_iff_ne, beq_eq_false_iff_ne, bne_eq_false_iff_eq, ne_eq, Decidable.not_not, List.cons.injEq, and_true, Bool.not_eq_true', Bool.not_eq_false', Int.not_lt, Int.not_le] at h) <;> (try (exfalso; omega)))
                      )
 | (refine S_id ?_; first
 | (refine S_callM (f := 64) rfl obQ (by kernel_rfl) (fun w hw => lOwn_c K.A K.A2 K.c K.c2 names esA hn6 hmA w (hw.rdm K.h2 memQ)) (fun w1O w2O vO hw1O hbO hRO => ?_); obtain ⟨AO2, cO2, rfl, hSO, hcO, hcO2⟩ := hRO)
 | (refine S_callM (f := 50) rfl obQ (by kernel_rfl) (fun w hw => lGivenC_c K.A AO2 K.c cO2 names esA hn6 hmA K.hc.2 w (hw.rdm K.h memQ) (hw.rdm hSO memQ)) (fun w1N w2N vN hw1N hbN hRN => ?_); obtain ⟨AN, AN2, cN, cN2, rfl, hSN, hTN, hcN, hdN⟩ := hRN)
 | (refine S_callM (f := 50) rfl obQ (by kernel_rfl) (fun w hw => lGivenC_c A A2 c c2 names es hn6 hm6 hA w (hw.rdm (Rd.toS hr) memQ) (hw.rdm (Rd.toS hr2) memQ)) (fun w1N w2N vN hw1N hbN hRN => ?_); obtain ⟨AN, AN2, cN, cN2, rfl, hSN, hTN, hcN, hdN⟩ := hRN)
 | refine S_nil ?_
 | refine S_run rfl rfl obQ obQ ?_
 | refine S_box (fun b => ⟨_, _, rfl, obQ, ?_⟩)
 | refine S_call (f := 54) rfl obQ (by kernel_rfl) (fun w hw => winZ_c _ _ _ _ names es hn6 hm6 hs _ hVe w (hw.rdm hSN memQ) (hw.rdm hTN memQ)) ?_
 | refine S_call (f := 54) rfl obQ (by kernel_rfl) (fun w hw => winZ_c _ _ _ _ names esA hn6 hmA hs _ hWe w (hw.rdm hSN memQ) (hw.rdm hTN memQ)) ?_
                      )
 | (refine D_id ?_; first
 | refine D_nil ?_
 | refine D_tail ?_
 | refine D_run rfl rfl obQ obQ ?_
 | refine D_call (f := 54) rfl obQ (by kernel_rfl) (fun w hw => winZ_c _ _ _ _ names es hn6 hm6 hs _ hVe w (hw.rdm hSN memQ) (hw.rdm hTN memQ)) ?_
 | refine D_call (f := 54) rfl obQ (by kernel_rfl) (fun w hw => winZ_c _ _ _ _ names esA hn6 hmA hs _ hWe w (hw.rdm hSN memQ) (hw.rdm hTN memQ)) ?_
                      )
 | (refine G_id ?_; first
 | refine G_then ?_
 | refine G_block ?_
 | refine G_blockX ?_
 | refine G_blockN rfl ?_
 | refine G_blockR ?_
 | refine G_thenR ?_
 | refine G_thenX ?_
 | refine G_ret rfl obQ (fun w hw => ⟨?_, hw.below⟩)
                      )
                    )
                refine C_loopS (fun k : Nat => ⟨[(197, .s (.v (.int .i64 k))), (196, .s (.v (.int .i64 names.length))), (13, .s (.v (.slice (some adM) lM.length cM))), (7, .s (.v (.slice (some adP) names.length cP))), (5, .s (.p b5 2 0)), (4, .s (.p b4 1 0)), (3, .s (.p b3 0 0))], [⟨b3, 84, [.v (.slice A names.length c), .v (.slice A2 es.length c2)]⟩, ⟨b4, 108, [.v (.int .i64 e.F), .v (.int .i64 e.T), .v (.int .i64 e.L), .v (.int .i64 e.H)]⟩, ⟨b5, 109, [.v (.int .u8 x0), .v (.int .u8 x1)]⟩], []⟩) (fun k => k ≤ names.length) (fun k => names.length - k) 0 (Nat.zero_le _) ?_ (fun k hk => ?_)
                · exact ⟨⟨_, rfl, obQ⟩, ⟨_, rfl⟩, rfl, pstQ⟩
                try dsimp only
                by_cases hlt : k < names.length
                · have h1 := hge k hlt
                  repeat' (first
 | (refine C_id ?_; first
 | refine C_seq ?_
 | refine C_region rfl ?_
 | refine C_block ?_
 | refine C_skip ?_
 | refine C_exit ?_
 | refine C_ret0 ?_
 | refine C_drawT (id := 4) 7 rfl mixed (by kernel_rfl) rfl rfl ?_
 | refine C_drawT (id := 7) 10 rfl mixed (by kernel_rfl) rfl rfl ?_
 | refine C_draw (id := 8) rfl mixed (by kernel_rfl) ?_
 | refine C_draw (id := 24) rfl mixed (by kernel_rfl) ?_
 | refine C_drawT (id := 32) 16 rfl mixed (by kernel_rfl) rfl rfl ?_
 | refine C_draw (id := 42) rfl mixed (by kernel_rfl) ?_
 | refine C_condT rfl obQ ?_
 | refine C_condF rfl obQ ?_
 | (refine C_cond rfl obQ (fun h => ?_) (fun h => ?_) <;> (try simp only [Bool.or_eq_true, Bool.and_eq_true, Bool.or_eq_false_iff, Bool.and_eq_false_iff, decide_eq_true_eq, decide_eq_false_iff_not, beq_iff_eq, bne_iff_ne, beq_eq_false_iff_ne, bne_eq_false_iff_eq, ne_eq, Decidable.not_not, List.cons.injEq, and_true, Bool.not_eq_true', Bool.not_eq_false', Int.not_lt, Int.not_le] at h) <;> (try (exfalso; omega)))
                        )
 | (refine S_id ?_; first
 | refine S_nil ?_
 | refine S_run rfl rfl obQ obQ ?_
 | refine S_box (fun b => ⟨_, _, rfl, obQ, ?_⟩)
                        )
 | (refine D_id ?_; first
 | refine D_load rfl obQ rfl [.int .i64 (gT lM k)] (.past (w2M, fun b => w1M.heap.size ≤ b ∧ b < w2M.heap.size) memQ _ _ hSM (((k : Nat) : Int).toNat * 1) _ rfl rfl (gTk hlM hlt)) rfl (.inr ⟨rfl, rfl⟩) ?_
 | refine D_load rfl obQ rfl [.int .i64 (gT lP k)] (.past (w2P, fun b => w1P.heap.size ≤ b ∧ b < w2P.heap.size) memQ _ _ hSP (((k : Nat) : Int).toNat * 1) _ rfl rfl (gTk hlP hlt)) rfl (.inr ⟨rfl, rfl⟩) ?_
 | refine D_nil ?_
 | refine D_tail ?_
 | refine D_run rfl rfl obQ obQ ?_
                        )
 | (refine G_id ?_; first
 | refine G_loop (k + 1) (by show k + 1 ≤ _; omega) (by show names.length - (k + 1) < names.length - k; omega) ⟨⟨_, rfl, obQ⟩, ⟨_, rfl⟩, rfl, pstQ⟩
 | refine G_then ?_
 | refine G_block ?_
 | refine G_blockX ?_
 | refine G_blockN rfl ?_
 | refine G_blockR ?_
 | refine G_thenR ?_
 | refine G_thenX ?_
 | refine G_ret rfl obQ (fun w hw => ⟨?_, hw.below⟩)
                        )
                      )
                · repeat' (first
 | (refine C_id ?_; first
 | refine C_seq ?_
 | refine C_region rfl ?_
 | refine C_block ?_
 | refine C_skip ?_
 | refine C_exit ?_
 | refine C_ret0 ?_
 | refine C_drawT (id := 4) 7 rfl mixed (by kernel_rfl) rfl rfl ?_
 | refine C_drawT (id := 7) 10 rfl mixed (by kernel_rfl) rfl rfl ?_
 | refine C_draw (id := 8) rfl mixed (by kernel_rfl) ?_
 | refine C_draw (id := 24) rfl mixed (by kernel_rfl) ?_
 | refine C_drawT (id := 32) 16 rfl mixed (by kernel_rfl) rfl rfl ?_
 | refine C_draw (id := 42) rfl mixed (by kernel_rfl) ?_
 | refine C_condT rfl obQ ?_
 | refine C_condF rfl obQ ?_
 | (refine C_cond rfl obQ (fun h => ?_) (fun h => ?_) <;> (try simp only [Bool.or_eq_true, Bool.and_eq_true, Bool.or_eq_false_iff, Bool.and_eq_false_iff, decide_eq_true_eq, decide_eq_false_iff_not, beq_iff_eq, bne_iff_ne, beq_eq_false_iff_ne, bne_eq_false_iff_eq, ne_eq, Decidable.not_not, List.cons.injEq, and_true, Bool.not_eq_true', Bool.not_eq_false', Int.not_lt, Int.not_le] at h) <;> (try (exfalso; omega)))
                        )
 | (refine S_id ?_; first
 | refine S_nil ?_
 | refine S_run rfl rfl obQ obQ ?_
 | refine S_box (fun b => ⟨_, _, rfl, obQ, ?_⟩)
                        )
 | (refine D_id ?_; first
 | refine D_nil ?_
 | refine D_tail ?_
 | refine D_run rfl rfl obQ obQ ?_
                        )
 | (refine G_id ?_; first
 | refine G_cut () ⟨⟨_, rfl, obQ⟩, ⟨_, rfl⟩, rfl, psQ⟩
 | refine G_then ?_
 | refine G_block ?_
 | refine G_blockX ?_
 | refine G_blockN rfl ?_
 | refine G_blockR ?_
 | refine G_thenR ?_
 | refine G_thenX ?_
                        )
                      )
              · repeat' (first
 | (refine C_id ?_; first
 | refine C_seq ?_
 | refine C_region rfl ?_
 | refine C_block ?_
 | refine C_skip ?_
 | refine C_exit ?_
 | refine C_ret0 ?_
 | refine C_drawT (id := 4) 7 rfl mixed (by kernel_rfl) rfl rfl ?_
 | refine C_drawT (id := 7) 10 rfl mixed (by kernel_rfl) rfl rfl ?_
 | refine C_draw (id := 8) rfl mixed (by kernel_rfl) ?_
 | refine C_draw (id := 24) rfl mixed (by kernel_rfl) ?_
 | refine C_drawT (id := 32) 16 rfl mixed (by kernel_rfl) rfl rfl ?_
 | refine C_draw (id := 42) rfl mixed (by kernel_rfl) ?_
 | refine C_condT rfl obQ ?_
 | refine C_condF rfl obQ ?_
 | (refine C_cond rfl obQ (fun h => ?_) (fun h => ?_) <;> (try simp only [Bool.or_eq_true, Bool.and_eq_true, Bool.or_eq_false_iff, Bool.and_eq_false_iff, decide_eq_true_eq, decide_eq_false_iff_not, beq_iff_eq, bne_iff_ne, beq_eq_false_iff_ne, bne_eq_false_iff_eq, ne_eq, Decidable.not_not, List.cons.injEq, and_true, Bool.not_eq_true', Bool.not_eq_false', Int.not_lt, Int.not_le] at h) <;> (try (exfalso; omega)))
                      )
 | (refine S_id ?_; first
 | refine S_nil ?_
 | refine S_run rfl rfl obQ obQ ?_
 | refine S_box (fun b => ⟨_, _, rfl, obQ, ?_⟩)
                      )
 | (refine D_id ?_; first
 | refine D_nil ?_
 | refine D_tail ?_
 | refine D_run rfl rfl obQ obQ ?_
                      )
 | (refine G_id ?_; first
 | refine G_cut () ⟨⟨_, rfl, obQ⟩, ⟨_, rfl⟩, rfl, psQ⟩
 | refine G_then ?_
 | refine G_block ?_
 | refine G_blockX ?_
 | refine G_blockN rfl ?_
 | refine G_blockR ?_
 | refine G_thenR ?_
 | refine G_thenX ?_
                      )
                    )
            · by_cases hm0 : es.length = 0
              · repeat' (first
 | (refine C_id ?_; first
 | refine C_condT rfl obQ ?_
 | refine C_condF rfl obQ ?_
 | refine C_seq ?_
 | refine C_region rfl ?_
 | refine C_block ?_
 | refine C_skip ?_
 | refine C_exit ?_
 | refine C_ret0 ?_
 | refine C_drawT (id := 4) 7 rfl mixed (by kernel_rfl) rfl rfl ?_
 | refine C_drawT (id := 7) 10 rfl mixed (by kernel_rfl) rfl rfl ?_
 | refine C_draw (id := 8) rfl mixed (by kernel_rfl) ?_
 | refine C_draw (id := 24) rfl mixed (by kernel_rfl) ?_
 | refine C_drawT (id := 32) 16 rfl mixed (by kernel_rfl) rfl rfl ?_
 | refine C_draw (id := 42) rfl mixed (by kernel_rfl) ?_
                      )
 | (refine S_id ?_; first
 | ((with_reducible (first | refine S_falseN ?_ ?_ | refine S_falseB ?_ ?_ | refine S_falseL ?_ ?_ | refine S_falseD ?_ ?_ | refine S_falseE ?_ ?_)); · (first | exact decide_eq_false (by omega) | (rw [beq_eq_false_iff_ne]; omega) | (rw [bne_eq_false_iff_eq]; first | done | omega) | rfl))
 | ((with_reducible refine S_falseO ?_ ?_ ?_); (· rfl); (· first | rfl | (first | exact decide_eq_false (by omega) | (rw [beq_eq_false_iff_ne]; omega) | (rw [bne_eq_false_iff_eq]; first | done | omega) | rfl)))
 | ((with_reducible (first | refine S_trueE ?_ ?_ | refine S_trueB ?_ ?_ | refine S_trueL ?_ ?_ | refine S_trueD ?_ ?_ | refine S_trueN ?_ ?_)); · (first | exact decide_eq_true (by omega) | (rw [beq_iff_eq]; first | done | omega) | (rw [bne_iff_ne]; omega)))
 | ((with_reducible refine S_trueA ?_ ?_ ?_); (· rfl); (· first | rfl | (first | exact decide_eq_true (by omega) | (rw [beq_iff_eq]; first | done | omega) | (rw [bne_iff_ne]; omega))))
 | refine S_unG rfl rfl rfl rfl ?_
 | refine S_offG (.v (.bool false)) rfl rfl rfl rfl rfl ?_
 | ((with_reducible refine S_notV ?_ ?_); · rfl)
 | ((with_reducible refine S_falseA ?_ ?_); · first | rfl | (simp only [Bool.and_eq_false_iff, decide_eq_false_iff_not, beq_eq_false_iff_ne, bne_eq_false_iff_eq]; omega))
 | ((with_reducible refine S_trueO ?_ ?_); · first | rfl | (simp only [Bool.or_eq_true, decide_eq_true_eq, beq_iff_eq, bne_iff_ne]; omega))
 | refine S_nil ?_
 | refine S_runN rfl rfl obQ obQ ?_
 | refine S_box (fun b => ⟨_, _, rfl, obQ, ?_⟩)
 | refine S_call (f := 48) rfl obQ (by kernel_rfl) (fun w hw => rShort2_c A A2 c c2 names es hsh hn hm w (hw.rdm (Rd.toS hr) memQ)) ?_
 | refine S_call (f := 55) rfl obQ (by kernel_rfl) (fun w hw => rckn2_c A A2 c c2 names es hn6 hm6 hs hc hNE w (hw.rdm (Rd.toS hr) memQ) (hw.rdm (Rd.toS hr2) memQ)) ?_
 | refine S_call (f := 62) rfl obQ (by kernel_rfl) (fun w hw => rcke_c names.length e hEd w) ?_
 | refine S_call (f := 27) rfl obQ (by kernel_rfl) (fun w hw => awake_c w (hw.rdm hE.toS memQ) (Pw_at hP hw memQ)) ?_
                      )
 | (refine D_id ?_; first
 | refine D_nil ?_
 | refine D_tail ?_
 | refine D_run rfl rfl obQ obQ ?_
 | refine D_call (f := 48) rfl obQ (by kernel_rfl) (fun w hw => rShort2_c A A2 c c2 names es hsh hn hm w (hw.rdm (Rd.toS hr) memQ)) ?_
 | refine D_call (f := 55) rfl obQ (by kernel_rfl) (fun w hw => rckn2_c A A2 c c2 names es hn6 hm6 hs hc hNE w (hw.rdm (Rd.toS hr) memQ) (hw.rdm (Rd.toS hr2) memQ)) ?_
 | refine D_call (f := 62) rfl obQ (by kernel_rfl) (fun w hw => rcke_c names.length e hEd w) ?_
 | refine D_call (f := 27) rfl obQ (by kernel_rfl) (fun w hw => awake_c w (hw.rdm hE.toS memQ) (Pw_at hP hw memQ)) ?_
                      )
 | (refine G_id ?_; first
 | refine G_then ?_
 | refine G_block ?_
 | refine G_blockX ?_
 | refine G_blockN rfl ?_
 | refine G_blockR ?_
 | refine G_thenR ?_
 | refine G_thenX ?_
 | refine G_ret rfl obQ (fun w2 hw => ⟨?_, hw.below⟩)
                      )
                    )
                all_goals rfl
              · obtain ⟨k, hk⟩ := toNat_eq (Int.emod_nonneg x0 (show (es.length : Int) ≠ 0 by omega))
                have hkl : k < es.length := by
                  have := Int.emod_lt_of_pos x0 (show (0 : Int) < es.length by omega)
                  omega
                obtain ⟨⟨hNF, hWk, lD, hPD, hlD, hgD⟩, lC, hPC, hlC, hgC⟩ := wide_less hNE hF hkl (x := x1) hx1.1
                have hek := (netF_ok hNE).e _ (List.getElem_mem hkl)
                have hekH := hek.H
                obtain ⟨esF, heF⟩ : ∃ l, l = es.eraseIdx k := ⟨_, rfl⟩
                have hlF : esF.length + 1 = es.length := by rw [heF, List.length_eraseIdx, if_pos hkl]; omega
                obtain ⟨esW, heW⟩ : ∃ l, l = es.set k (⟨es[k].F, es[k].T, es[k].L, min 100000 (es[k].H + x1)⟩ : Edg) := ⟨_, rfl⟩
                have hlW : esW.length = es.length := by rw [heW, List.length_set]
                rw [← heF] at hNF hWk hPD
                rw [← heW] at hPC
                have hmF : esF.length ≤ 1000000 := by omega
                repeat' (first
 | (refine C_id ?_; first
 | refine C_condT rfl obQ ?_
 | refine C_condF rfl obQ ?_
 | refine C_seq ?_
 | refine C_region rfl ?_
 | refine C_block ?_
 | refine C_skip ?_
 | refine C_exit ?_
 | refine C_ret0 ?_
 | refine C_drawT (id := 4) 7 rfl mixed (by kernel_rfl) rfl rfl ?_
 | refine C_drawT (id := 7) 10 rfl mixed (by kernel_rfl) rfl rfl ?_
 | refine C_draw (id := 8) rfl mixed (by kernel_rfl) ?_
 | refine C_draw (id := 24) rfl mixed (by kernel_rfl) ?_
 | refine C_drawT (id := 32) 16 rfl mixed (by kernel_rfl) rfl rfl ?_
 | refine C_draw (id := 42) rfl mixed (by kernel_rfl) ?_
                      )
 | (refine S_id ?_; first
 | ((with_reducible (first | refine S_falseN ?_ ?_ | refine S_falseB ?_ ?_ | refine S_falseL ?_ ?_ | refine S_falseD ?_ ?_ | refine S_falseE ?_ ?_)); · (first | exact decide_eq_false (by omega) | (rw [beq_eq_false_iff_ne]; omega) | (rw [bne_eq_false_iff_eq]; first | done | omega) | rfl))
 | ((with_reducible refine S_falseO ?_ ?_ ?_); (· rfl); (· first | rfl | (first | exact decide_eq_false (by omega) | (rw [beq_eq_false_iff_ne]; omega) | (rw [bne_eq_false_iff_eq]; first | done | omega) | rfl)))
 | ((with_reducible (first | refine S_trueE ?_ ?_ | refine S_trueB ?_ ?_ | refine S_trueL ?_ ?_ | refine S_trueD ?_ ?_ | refine S_trueN ?_ ?_)); · (first | exact decide_eq_true (by omega) | (rw [beq_iff_eq]; first | done | omega) | (rw [bne_iff_ne]; omega)))
 | ((with_reducible refine S_trueA ?_ ?_ ?_); (· rfl); (· first | rfl | (first | exact decide_eq_true (by omega) | (rw [beq_iff_eq]; first | done | omega) | (rw [bne_iff_ne]; omega))))
 | refine S_unG rfl rfl rfl rfl ?_
 | refine S_valD 21 (v := .int .i64 (x0 % (es.length : Int))) (v' := .int .i64 (k : Int)) rfl (by rw [hk]) ?_
 | (refine S_callM (f := 50) rfl obQ (by kernel_rfl) (fun w hw => lGivenC_c A A2 c c2 names es hn6 hm6 hA w (hw.rdm (Rd.toS hr) memQ) (hw.rdm (Rd.toS hr2) memQ)) (fun w1N w2N vN hw1N hbN hRN => ?_); obtain ⟨AN, AN2, cN, cN2, rfl, hSN, hTN, hcN, hdN⟩ := hRN)
 | (refine S_callM (f := 65) rfl obQ (by kernel_rfl) (fun w hw => woutN_c _ _ _ _ names es hn6 hm6 hs hcN.2 hdN.1 (k : Int) hWk w (hw.rdm hSN memQ) (hw.rdm hTN memQ)) (fun w1F w2F vF hw1F hbF hRF => ?_); obtain ⟨AF, AF2, cF, cF2, rfl, hSF, hTF, hcF, hdF⟩ := hRF)
 | (refine S_callRws (f := 67) rfl obQ (by kernel_rfl) (fun w hw => rOwn_c A A2 c c2 names es hn6 hm6 hA hA2 w (hw.rdm (Rd.toS hr) memQ) (hw.rdm (Rd.toS hr2) memQ)) (fun v rs hR => ?_); obtain ⟨AR, cR, AR2, cR2, rfl, rfl, hcR, hcR2, hgR⟩ := hR; obtain ⟨g, rfl⟩ := hgR (by omega))
 | refine S_storeRow rfl obQ rfl rfl rfl 1 rfl rfl (((k : Nat) : Int).toNat * 4 + 3) (add_of_add _ _ _) (by dsimp only; rw [len4]; omega) (xs' := esW.flatMap edC) (by rw [heW]; exact (flat_put (f := edC) (s := 4) (fun _ => rfl) hkl (o := 3) (vs := [.int .i64 (min 100000 (es[k].H + x1))]) (by simp) (x := (⟨es[k].F, es[k].T, es[k].L, min 100000 (es[k].H + x1)⟩ : Edg)) (by simp [edC])).symm) rfl ?_
 | (refine S_callM (f := 50) rfl obQ (by kernel_rfl) (fun w hw => lGivenL_c AR (some ⟨g, 0, none⟩) cR cR2 es.length names esW hlW hn6 hm6 hcR.2 w (hw.rdRow (i := 0) rfl rfl) (hw.rdRow (i := 1) rfl rfl)) (fun w1N w2N vN hw1N hbN hRN => ?_); obtain ⟨AN, AN2, cN, cN2, rfl, hSN, hTN, hcN, hdN⟩ := hRN)
 | (refine S_callM (f := 49) rfl obQ (by kernel_rfl) (fun w hw => planL_c _ _ _ _ es.length names esW hlW hn6 hm6 hs hPC hlC w (hw.rdm hSN memQ) (hw.rdm hTN memQ)) (fun w1C w2C vC hw1C hbC hRC => ?_); obtain ⟨AC, cC, rfl, hSC⟩ := hRC; obtain ⟨adC, rfl⟩ := hSC.rd.some (by rw [List.length_map]; omega))
 | (refine S_callM (f := 64) rfl obQ (by kernel_rfl) (fun w hw => lOwn_c AF AF2 cF cF2 names esF hn6 hmF w (hw.rdm hTF memQ)) (fun w1O w2O vO hw1O hbO hRO => ?_); obtain ⟨AO2, cO2, rfl, hSO, hcO, hcO2⟩ := hRO)
 | (refine S_callM (f := 50) rfl obQ (by kernel_rfl) (fun w hw => lGivenC_c AF AO2 cF cO2 names esF hn6 hmF hcF.2 w (hw.rdm hSF memQ) (hw.rdm hSO memQ)) (fun w1N w2N vN hw1N hbN hRN => ?_); obtain ⟨AN, AN2, cN, cN2, rfl, hSN, hTN, hcN, hdN⟩ := hRN)
 | (refine S_callM (f := 49) rfl obQ (by kernel_rfl) (fun w hw => planN_c _ _ _ _ names esF hn6 hmF hs hPD hlD w (hw.rdm hSN memQ) (hw.rdm hTN memQ)) (fun w1D w2D vD hw1D hbD hRD => ?_); obtain ⟨AD, cD, rfl, hSD⟩ := hRD; obtain ⟨adD, rfl⟩ := hSD.rd.some (by rw [List.length_map]; omega))
 | refine S_offG (.v (.bool false)) rfl rfl rfl rfl rfl ?_
 | ((with_reducible refine S_notV ?_ ?_); · rfl)
 | ((with_reducible refine S_falseA ?_ ?_); · first | rfl | (simp only [Bool.and_eq_false_iff, decide_eq_false_iff_not, beq_eq_false_iff_ne, bne_eq_false_iff_eq]; omega))
 | ((with_reducible refine S_trueO ?_ ?_); · first | rfl | (simp only [Bool.or_eq_true, decide_eq_true_eq, beq_iff_eq, bne_iff_ne]; omega))
 | refine S_nil ?_
 | refine S_runN rfl rfl obQ obQ ?_
 | refine S_box (fun b => ⟨_, _, rfl, obQ, ?_⟩)
 | refine S_call (f := 48) rfl obQ (by kernel_rfl) (fun w hw => rShort2_c A A2 c c2 names es hsh hn hm w (hw.rdm (Rd.toS hr) memQ)) ?_
 | refine S_call (f := 55) rfl obQ (by kernel_rfl) (fun w hw => rckn2_c AF AO2 cF cO2 names esF hn6 hmF hs hcF.1 hNF w (hw.rdm hSF memQ) (hw.rdm hSO memQ)) ?_
 | refine S_call (f := 62) rfl obQ (by kernel_rfl) (fun w hw => rcke_c names.length e hEd w) ?_
 | refine S_call (f := 27) rfl obQ (by kernel_rfl) (fun w hw => awake_c w (hw.rdm hE.toS memQ) (Pw_at hP hw memQ)) ?_
                      )
 | (refine D_id ?_; first
 | refine D_load rfl obQ rfl [.int .i64 es[k].H] (.row 1 _ rfl g es.length cR2 (((k : Nat) : Int).toNat * 4 + 3) rfl (add_of_add _ _ _) (row_at (f := edC) (s := 4) (fun _ => rfl) hkl 3 rfl)) rfl (.inr ⟨rfl, rfl⟩) ?_
 | refine D_nil ?_
 | refine D_tail ?_
 | refine D_run rfl rfl obQ obQ ?_
 | refine D_call (f := 48) rfl obQ (by kernel_rfl) (fun w hw => rShort2_c A A2 c c2 names es hsh hn hm w (hw.rdm (Rd.toS hr) memQ)) ?_
 | refine D_call (f := 55) rfl obQ (by kernel_rfl) (fun w hw => rckn2_c AF AO2 cF cO2 names esF hn6 hmF hs hcF.1 hNF w (hw.rdm hSF memQ) (hw.rdm hSO memQ)) ?_
 | refine D_call (f := 62) rfl obQ (by kernel_rfl) (fun w hw => rcke_c names.length e hEd w) ?_
 | refine D_call (f := 27) rfl obQ (by kernel_rfl) (fun w hw => awake_c w (hw.rdm hE.toS memQ) (Pw_at hP hw memQ)) ?_
                      )
 | (refine G_id ?_; first
 | refine G_then ?_
 | refine G_block ?_
 | refine G_blockX ?_
 | refine G_blockN rfl ?_
 | refine G_blockR ?_
 | refine G_thenR ?_
 | refine G_thenX ?_
 | refine G_ret rfl obQ (fun w2 hw => ⟨?_, hw.below⟩)
                      )
                    )
                refine C_loopS (fun k : Nat => ⟨[(298, .s (.v (.int .i64 k))), (297, .s (.v (.int .i64 names.length))), (27, .s (.v (.slice (some adD) names.length cD))), (25, .s (.v (.slice (some adC) names.length cC))), (7, .s (.v (.slice (some adP) names.length cP)))], [], [⟨9, 1, names.length, names.map .string, .slice AR names.length cR⟩, ⟨108, 4, es.length, esW.flatMap edC, .slice (some ⟨g, 0, none⟩) es.length cR2⟩]⟩) (fun k => k ≤ names.length) (fun k => names.length - k) 0 (Nat.zero_le _) ?_ (fun k hk => ?_)
                · exact ⟨⟨_, rfl, obQ⟩, ⟨_, rfl⟩, rfl, pstQ⟩
                dsimp only
                by_cases hlt : k < names.length
                · have h1 := hgC k hlt
                  have h2 := hgD k hlt
                  have h3 := hgP k hlt
                  rw [← h3] at h1 h2
                  repeat' (first
 | (refine C_id ?_; first
 | refine C_seq ?_
 | refine C_region rfl ?_
 | refine C_block ?_
 | refine C_skip ?_
 | refine C_exit ?_
 | refine C_ret0 ?_
 | refine C_drawT (id := 4) 7 rfl mixed (by kernel_rfl) rfl rfl ?_
 | refine C_drawT (id := 7) 10 rfl mixed (by kernel_rfl) rfl rfl ?_
 | refine C_draw (id := 8) rfl mixed (by kernel_rfl) ?_
 | refine C_draw (id := 24) rfl mixed (by kernel_rfl) ?_
 | refine C_drawT (id := 32) 16 rfl mixed (by kernel_rfl) rfl rfl ?_
 | refine C_draw (id := 42) rfl mixed (by kernel_rfl) ?_
 | refine C_condT rfl obQ ?_
 | refine C_condF rfl obQ ?_
 | (refine C_cond rfl obQ (fun h => ?_) (fun h => ?_) <;> (try simp only [Bool.or_eq_true, Bool.and_eq_true, Bool.or_eq_false_iff, Bool.and_eq_false_iff, decide_eq_true_eq, decide_eq_false_iff_not, beq_iff_eq, bne_iff_ne, beq_eq_false_iff_ne, bne_eq_false_iff_eq, ne_eq, Decidable.not_not, List.cons.injEq, and_true, Bool.not_eq_true', Bool.not_eq_false', Int.not_lt, Int.not_le] at h) <;> (try (exfalso; omega)))
                        )
 | (refine S_id ?_; first
 | refine S_load rfl obQ rfl [.int .i64 (gT lC k)] (.past (w2C, fun b => w1C.heap.size ≤ b ∧ b < w2C.heap.size) memQ _ _ hSC (((k : Nat) : Int).toNat * 1) _ rfl rfl (gTk hlC hlt)) rfl (.inr ⟨rfl, rfl⟩) ?_
 | refine S_nil ?_
 | refine S_run rfl rfl obQ obQ ?_
 | refine S_box (fun b => ⟨_, _, rfl, obQ, ?_⟩)
                        )
 | (refine D_id ?_; first
 | refine D_load rfl obQ rfl [.int .i64 (gT lC k)] (.past (w2C, fun b => w1C.heap.size ≤ b ∧ b < w2C.heap.size) memQ _ _ hSC (((k : Nat) : Int).toNat * 1) _ rfl rfl (gTk hlC hlt)) rfl (.inr ⟨rfl, rfl⟩) ?_
 | refine D_load rfl obQ rfl [.int .i64 (gT lP k)] (.past (w2P, fun b => w1P.heap.size ≤ b ∧ b < w2P.heap.size) memQ _ _ hSP (((k : Nat) : Int).toNat * 1) _ rfl rfl (gTk hlP hlt)) rfl (.inr ⟨rfl, rfl⟩) ?_
 | refine D_loadG rfl rfl (fun hg => obQ) rfl [.int .i64 (gT lD k)] (fun hg => .past (w2D, fun b => w1D.heap.size ≤ b ∧ b < w2D.heap.size) memQ _ _ hSD (((k : Nat) : Int).toNat * 1) _ rfl rfl (gTk hlD hlt)) rfl (.inr ⟨rfl, rfl⟩) ?_
 | refine D_loadG rfl rfl (fun hg => obQ) rfl [.int .i64 (gT lP k)] (fun hg => .past (w2P, fun b => w1P.heap.size ≤ b ∧ b < w2P.heap.size) memQ _ _ hSP (((k : Nat) : Int).toNat * 1) _ rfl rfl (gTk hlP hlt)) rfl (.inr ⟨rfl, rfl⟩) ?_
 | refine D_nil ?_
 | refine D_tail ?_
 | refine D_run rfl rfl obQ obQ ?_
                        )
 | (refine G_id ?_; first
 | refine G_loop (k + 1) (by show k + 1 ≤ _; omega) (by show names.length - (k + 1) < names.length - k; omega) ⟨⟨_, rfl, obQ⟩, ⟨_, rfl⟩, rfl, pstQ⟩
 | refine G_then ?_
 | refine G_block ?_
 | refine G_blockX ?_
 | refine G_blockN rfl ?_
 | refine G_blockR ?_
 | refine G_thenR ?_
 | refine G_thenX ?_
 | refine G_ret rfl obQ (fun w hw => ⟨?_, hw.below⟩)
                        )
                      )
                · repeat' (first
 | (refine C_id ?_; first
 | refine C_seq ?_
 | refine C_region rfl ?_
 | refine C_block ?_
 | refine C_skip ?_
 | refine C_exit ?_
 | refine C_ret0 ?_
 | refine C_drawT (id := 4) 7 rfl mixed (by kernel_rfl) rfl rfl ?_
 | refine C_drawT (id := 7) 10 rfl mixed (by kernel_rfl) rfl rfl ?_
 | refine C_draw (id := 8) rfl mixed (by kernel_rfl) ?_
 | refine C_draw (id := 24) rfl mixed (by kernel_rfl) ?_
 | refine C_drawT (id := 32) 16 rfl mixed (by kernel_rfl) rfl rfl ?_
 | refine C_draw (id := 42) rfl mixed (by kernel_rfl) ?_
 | refine C_condT rfl obQ ?_
 | refine C_condF rfl obQ ?_
 | (refine C_cond rfl obQ (fun h => ?_) (fun h => ?_) <;> (try simp only [Bool.or_eq_true, Bool.and_eq_true, Bool.or_eq_false_iff, Bool.and_eq_false_iff, decide_eq_true_eq, decide_eq_false_iff_not, beq_iff_eq, bne_iff_ne, beq_eq_false_iff_ne, bne_eq_false_iff_eq, ne_eq, Decidable.not_not, List.cons.injEq, and_true, Bool.not_eq_true', Bool.not_eq_false', Int.not_lt, Int.not_le] at h) <;> (try (exfalso; omega)))
                        )
 | (refine S_id ?_; first
 | refine S_nil ?_
 | refine S_run rfl rfl obQ obQ ?_
 | refine S_box (fun b => ⟨_, _, rfl, obQ, ?_⟩)
 | refine S_call (f := 27) rfl obQ (by kernel_rfl) (fun w hw => awake_c w (hw.rdm hE.toS memQ) (Pw_at hP hw memQ)) ?_
                        )
 | (refine D_id ?_; first
 | refine D_nil ?_
 | refine D_tail ?_
 | refine D_run rfl rfl obQ obQ ?_
 | refine D_call (f := 27) rfl obQ (by kernel_rfl) (fun w hw => awake_c w (hw.rdm hE.toS memQ) (Pw_at hP hw memQ)) ?_
                        )
 | (refine G_id ?_; first
 | refine G_then ?_
 | refine G_block ?_
 | refine G_blockX ?_
 | refine G_blockN rfl ?_
 | refine G_blockR ?_
 | refine G_thenR ?_
 | refine G_thenX ?_
 | refine G_ret rfl obQ (fun w hw => ⟨?_, hw.below⟩)
                        )
                      )
                  all_goals rfl
        · repeat' (first
 | (refine C_id ?_; first
 | refine C_condT rfl obQ ?_
 | refine C_condF rfl obQ ?_
 | refine C_seq ?_
 | refine C_region rfl ?_
 | refine C_block ?_
 | refine C_skip ?_
 | refine C_exit ?_
 | refine C_ret0 ?_
 | refine C_drawT (id := 4) 7 rfl mixed (by kernel_rfl) rfl rfl ?_
 | refine C_drawT (id := 7) 10 rfl mixed (by kernel_rfl) rfl rfl ?_
 | refine C_draw (id := 8) rfl mixed (by kernel_rfl) ?_
 | refine C_draw (id := 24) rfl mixed (by kernel_rfl) ?_
 | refine C_drawT (id := 32) 16 rfl mixed (by kernel_rfl) rfl rfl ?_
 | refine C_draw (id := 42) rfl mixed (by kernel_rfl) ?_
                )
 | (refine S_id ?_; first
 | ((with_reducible (first | refine S_falseN ?_ ?_ | refine S_falseB ?_ ?_ | refine S_falseL ?_ ?_ | refine S_falseD ?_ ?_ | refine S_falseE ?_ ?_)); · (first | exact decide_eq_false (by omega) | (rw [beq_eq_false_iff_ne]; omega) | (rw [bne_eq_false_iff_eq]; first | done | omega) | rfl))
 | ((with_reducible refine S_falseO ?_ ?_ ?_); (· rfl); (· first | rfl | (first | exact decide_eq_false (by omega) | (rw [beq_eq_false_iff_ne]; omega) | (rw [bne_eq_false_iff_eq]; first | done | omega) | rfl)))
 | ((with_reducible (first | refine S_trueE ?_ ?_ | refine S_trueB ?_ ?_ | refine S_trueL ?_ ?_ | refine S_trueD ?_ ?_ | refine S_trueN ?_ ?_)); · (first | exact decide_eq_true (by omega) | (rw [beq_iff_eq]; first | done | omega) | (rw [bne_iff_ne]; omega)))
 | ((with_reducible refine S_trueA ?_ ?_ ?_); (· rfl); (· first | rfl | (first | exact decide_eq_true (by omega) | (rw [beq_iff_eq]; first | done | omega) | (rw [bne_iff_ne]; omega))))
 | refine S_unG rfl rfl rfl rfl ?_
 | refine S_offG (.v (.bool false)) rfl rfl rfl rfl rfl ?_
 | ((with_reducible refine S_notV ?_ ?_); · rfl)
 | ((with_reducible refine S_falseA ?_ ?_); · first | rfl | (simp only [Bool.and_eq_false_iff, decide_eq_false_iff_not, beq_eq_false_iff_ne, bne_eq_false_iff_eq]; omega))
 | ((with_reducible refine S_trueO ?_ ?_); · first | rfl | (simp only [Bool.or_eq_true, decide_eq_true_eq, beq_iff_eq, bne_iff_ne]; omega))
 | refine S_nil ?_
 | refine S_runN rfl rfl obQ obQ ?_
 | refine S_box (fun b => ⟨_, _, rfl, obQ, ?_⟩)
 | refine S_call (f := 48) rfl obQ (by kernel_rfl) (fun w hw => rShort2_c A A2 c c2 names es hsh hn hm w (hw.rdm (Rd.toS hr) memQ)) ?_
 | refine S_call (f := 55) rfl obQ (by kernel_rfl) (fun w hw => rckn2_c A A2 c c2 names es hn6 hm6 hs hc hNE w (hw.rdm (Rd.toS hr) memQ) (hw.rdm (Rd.toS hr2) memQ)) ?_
 | refine S_call (f := 62) rfl obQ (by kernel_rfl) (fun w hw => rcke_c names.length e hEd w) ?_
 | refine S_call (f := 27) rfl obQ (by kernel_rfl) (fun w hw => awake_c w (hw.rdm hE.toS memQ) (Pw_at hP hw memQ)) ?_
                )
 | (refine D_id ?_; first
 | refine D_nil ?_
 | refine D_tail ?_
 | refine D_run rfl rfl obQ obQ ?_
 | refine D_call (f := 48) rfl obQ (by kernel_rfl) (fun w hw => rShort2_c A A2 c c2 names es hsh hn hm w (hw.rdm (Rd.toS hr) memQ)) ?_
 | refine D_call (f := 55) rfl obQ (by kernel_rfl) (fun w hw => rckn2_c A A2 c c2 names es hn6 hm6 hs hc hNE w (hw.rdm (Rd.toS hr) memQ) (hw.rdm (Rd.toS hr2) memQ)) ?_
 | refine D_call (f := 62) rfl obQ (by kernel_rfl) (fun w hw => rcke_c names.length e hEd w) ?_
 | refine D_call (f := 27) rfl obQ (by kernel_rfl) (fun w hw => awake_c w (hw.rdm hE.toS memQ) (Pw_at hP hw memQ)) ?_
                )
 | (refine G_id ?_; first
 | refine G_then ?_
 | refine G_block ?_
 | refine G_blockX ?_
 | refine G_blockN rfl ?_
 | refine G_blockR ?_
 | refine G_thenR ?_
 | refine G_thenX ?_
 | refine G_ret rfl obQ (fun w2 hw => ⟨?_, hw.below⟩)
                )
              )
          all_goals rfl
      · repeat' (first
 | (refine C_id ?_; first
 | refine C_condT rfl obQ ?_
 | refine C_condF rfl obQ ?_
 | refine C_seq ?_
 | refine C_region rfl ?_
 | refine C_block ?_
 | refine C_skip ?_
 | refine C_exit ?_
 | refine C_ret0 ?_
 | refine C_drawT (id := 4) 7 rfl mixed (by kernel_rfl) rfl rfl ?_
 | refine C_drawT (id := 7) 10 rfl mixed (by kernel_rfl) rfl rfl ?_
 | refine C_draw (id := 8) rfl mixed (by kernel_rfl) ?_
 | refine C_draw (id := 24) rfl mixed (by kernel_rfl) ?_
 | refine C_drawT (id := 32) 16 rfl mixed (by kernel_rfl) rfl rfl ?_
 | refine C_draw (id := 42) rfl mixed (by kernel_rfl) ?_
              )
 | (refine S_id ?_; first
 | ((with_reducible (first | refine S_falseN ?_ ?_ | refine S_falseB ?_ ?_ | refine S_falseL ?_ ?_ | refine S_falseD ?_ ?_ | refine S_falseE ?_ ?_)); · (first | exact decide_eq_false (by omega) | (rw [beq_eq_false_iff_ne]; omega) | (rw [bne_eq_false_iff_eq]; first | done | omega) | rfl))
 | ((with_reducible refine S_falseO ?_ ?_ ?_); (· rfl); (· first | rfl | (first | exact decide_eq_false (by omega) | (rw [beq_eq_false_iff_ne]; omega) | (rw [bne_eq_false_iff_eq]; first | done | omega) | rfl)))
 | ((with_reducible (first | refine S_trueE ?_ ?_ | refine S_trueB ?_ ?_ | refine S_trueL ?_ ?_ | refine S_trueD ?_ ?_ | refine S_trueN ?_ ?_)); · (first | exact decide_eq_true (by omega) | (rw [beq_iff_eq]; first | done | omega) | (rw [bne_iff_ne]; omega)))
 | ((with_reducible refine S_trueA ?_ ?_ ?_); (· rfl); (· first | rfl | (first | exact decide_eq_true (by omega) | (rw [beq_iff_eq]; first | done | omega) | (rw [bne_iff_ne]; omega))))
 | refine S_unG rfl rfl rfl rfl ?_
 | refine S_offG (.v (.bool false)) rfl rfl rfl rfl rfl ?_
 | ((with_reducible refine S_notV ?_ ?_); · rfl)
 | ((with_reducible refine S_falseA ?_ ?_); · first | rfl | (simp only [Bool.and_eq_false_iff, decide_eq_false_iff_not, beq_eq_false_iff_ne, bne_eq_false_iff_eq]; omega))
 | ((with_reducible refine S_trueO ?_ ?_); · first | rfl | (simp only [Bool.or_eq_true, decide_eq_true_eq, beq_iff_eq, bne_iff_ne]; omega))
 | refine S_nil ?_
 | refine S_runN rfl rfl obQ obQ ?_
 | refine S_box (fun b => ⟨_, _, rfl, obQ, ?_⟩)
 | refine S_call (f := 48) rfl obQ (by kernel_rfl) (fun w hw => rShort2_c A A2 c c2 names es hsh hn hm w (hw.rdm (Rd.toS hr) memQ)) ?_
 | refine S_call (f := 55) rfl obQ (by kernel_rfl) (fun w hw => rckn2_c A A2 c c2 names es hn6 hm6 hs hc hNE w (hw.rdm (Rd.toS hr) memQ) (hw.rdm (Rd.toS hr2) memQ)) ?_
 | refine S_call (f := 62) rfl obQ (by kernel_rfl) (fun w hw => rcke_c names.length e hEd w) ?_
 | refine S_call (f := 27) rfl obQ (by kernel_rfl) (fun w hw => awake_c w (hw.rdm hE.toS memQ) (Pw_at hP hw memQ)) ?_
              )
 | (refine D_id ?_; first
 | refine D_nil ?_
 | refine D_tail ?_
 | refine D_run rfl rfl obQ obQ ?_
 | refine D_call (f := 48) rfl obQ (by kernel_rfl) (fun w hw => rShort2_c A A2 c c2 names es hsh hn hm w (hw.rdm (Rd.toS hr) memQ)) ?_
 | refine D_call (f := 55) rfl obQ (by kernel_rfl) (fun w hw => rckn2_c A A2 c c2 names es hn6 hm6 hs hc hNE w (hw.rdm (Rd.toS hr) memQ) (hw.rdm (Rd.toS hr2) memQ)) ?_
 | refine D_call (f := 62) rfl obQ (by kernel_rfl) (fun w hw => rcke_c names.length e hEd w) ?_
 | refine D_call (f := 27) rfl obQ (by kernel_rfl) (fun w hw => awake_c w (hw.rdm hE.toS memQ) (Pw_at hP hw memQ)) ?_
              )
 | (refine G_id ?_; first
 | refine G_then ?_
 | refine G_block ?_
 | refine G_blockX ?_
 | refine G_blockN rfl ?_
 | refine G_blockR ?_
 | refine G_thenR ?_
 | refine G_thenX ?_
 | refine G_ret rfl obQ (fun w2 hw => ⟨?_, hw.below⟩)
              )
            )
        all_goals rfl
    · repeat' (first
 | (refine C_id ?_; first
 | refine C_condT rfl obQ ?_
 | refine C_condF rfl obQ ?_
 | refine C_seq ?_
 | refine C_region rfl ?_
 | refine C_block ?_
 | refine C_skip ?_
 | refine C_exit ?_
 | refine C_ret0 ?_
 | refine C_drawT (id := 4) 7 rfl mixed (by kernel_rfl) rfl rfl ?_
 | refine C_drawT (id := 7) 10 rfl mixed (by kernel_rfl) rfl rfl ?_
 | refine C_draw (id := 8) rfl mixed (by kernel_rfl) ?_
 | refine C_draw (id := 24) rfl mixed (by kernel_rfl) ?_
 | refine C_drawT (id := 32) 16 rfl mixed (by kernel_rfl) rfl rfl ?_
 | refine C_draw (id := 42) rfl mixed (by kernel_rfl) ?_
            )
 | (refine S_id ?_; first
 | ((with_reducible (first | refine S_falseN ?_ ?_ | refine S_falseB ?_ ?_ | refine S_falseL ?_ ?_ | refine S_falseD ?_ ?_ | refine S_falseE ?_ ?_)); · (first | exact decide_eq_false (by omega) | (rw [beq_eq_false_iff_ne]; omega) | (rw [bne_eq_false_iff_eq]; first | done | omega) | rfl))
 | ((with_reducible refine S_falseO ?_ ?_ ?_); (· rfl); (· first | rfl | (first | exact decide_eq_false (by omega) | (rw [beq_eq_false_iff_ne]; omega) | (rw [bne_eq_false_iff_eq]; first | done | omega) | rfl)))
 | ((with_reducible (first | refine S_trueE ?_ ?_ | refine S_trueB ?_ ?_ | refine S_trueL ?_ ?_ | refine S_trueD ?_ ?_ | refine S_trueN ?_ ?_)); · (first | exact decide_eq_true (by omega) | (rw [beq_iff_eq]; first | done | omega) | (rw [bne_iff_ne]; omega)))
 | ((with_reducible refine S_trueA ?_ ?_ ?_); (· rfl); (· first | rfl | (first | exact decide_eq_true (by omega) | (rw [beq_iff_eq]; first | done | omega) | (rw [bne_iff_ne]; omega))))
 | refine S_unG rfl rfl rfl rfl ?_
 | refine S_offG (.v (.bool false)) rfl rfl rfl rfl rfl ?_
 | ((with_reducible refine S_notV ?_ ?_); · rfl)
 | ((with_reducible refine S_falseA ?_ ?_); · first | rfl | (simp only [Bool.and_eq_false_iff, decide_eq_false_iff_not, beq_eq_false_iff_ne, bne_eq_false_iff_eq]; omega))
 | ((with_reducible refine S_trueO ?_ ?_); · first | rfl | (simp only [Bool.or_eq_true, decide_eq_true_eq, beq_iff_eq, bne_iff_ne]; omega))
 | refine S_nil ?_
 | refine S_runN rfl rfl obQ obQ ?_
 | refine S_box (fun b => ⟨_, _, rfl, obQ, ?_⟩)
 | refine S_call (f := 48) rfl obQ (by kernel_rfl) (fun w hw => rShort2_c A A2 c c2 names es hsh hn hm w (hw.rdm (Rd.toS hr) memQ)) ?_
 | refine S_call (f := 55) rfl obQ (by kernel_rfl) (fun w hw => rckn2_c A A2 c c2 names es hn6 hm6 hs hc hNE w (hw.rdm (Rd.toS hr) memQ) (hw.rdm (Rd.toS hr2) memQ)) ?_
 | refine S_call (f := 62) rfl obQ (by kernel_rfl) (fun w hw => rcke_c names.length e hEd w) ?_
 | refine S_call (f := 27) rfl obQ (by kernel_rfl) (fun w hw => awake_c w (hw.rdm hE.toS memQ) (Pw_at hP hw memQ)) ?_
            )
 | (refine D_id ?_; first
 | refine D_nil ?_
 | refine D_tail ?_
 | refine D_run rfl rfl obQ obQ ?_
 | refine D_call (f := 48) rfl obQ (by kernel_rfl) (fun w hw => rShort2_c A A2 c c2 names es hsh hn hm w (hw.rdm (Rd.toS hr) memQ)) ?_
 | refine D_call (f := 55) rfl obQ (by kernel_rfl) (fun w hw => rckn2_c A A2 c c2 names es hn6 hm6 hs hc hNE w (hw.rdm (Rd.toS hr) memQ) (hw.rdm (Rd.toS hr2) memQ)) ?_
 | refine D_call (f := 62) rfl obQ (by kernel_rfl) (fun w hw => rcke_c names.length e hEd w) ?_
 | refine D_call (f := 27) rfl obQ (by kernel_rfl) (fun w hw => awake_c w (hw.rdm hE.toS memQ) (Pw_at hP hw memQ)) ?_
            )
 | (refine G_id ?_; first
 | refine G_then ?_
 | refine G_block ?_
 | refine G_blockX ?_
 | refine G_blockN rfl ?_
 | refine G_blockR ?_
 | refine G_thenR ?_
 | refine G_thenX ?_
 | refine G_ret rfl obQ (fun w2 hw => ⟨?_, hw.below⟩)
            )
          )
      all_goals rfl
  · repeat' (first
 | (refine C_id ?_; first
 | refine C_condT rfl obQ ?_
 | refine C_condF rfl obQ ?_
 | refine C_seq ?_
 | refine C_region rfl ?_
 | refine C_block ?_
 | refine C_skip ?_
 | refine C_exit ?_
 | refine C_ret0 ?_
 | refine C_drawT (id := 4) 7 rfl mixed (by kernel_rfl) rfl rfl ?_
 | refine C_drawT (id := 7) 10 rfl mixed (by kernel_rfl) rfl rfl ?_
 | refine C_draw (id := 8) rfl mixed (by kernel_rfl) ?_
 | refine C_draw (id := 24) rfl mixed (by kernel_rfl) ?_
 | refine C_drawT (id := 32) 16 rfl mixed (by kernel_rfl) rfl rfl ?_
 | refine C_draw (id := 42) rfl mixed (by kernel_rfl) ?_
          )
 | (refine S_id ?_; first
 | ((with_reducible (first | refine S_falseN ?_ ?_ | refine S_falseB ?_ ?_ | refine S_falseL ?_ ?_ | refine S_falseD ?_ ?_ | refine S_falseE ?_ ?_)); · (first | exact decide_eq_false (by omega) | (rw [beq_eq_false_iff_ne]; omega) | (rw [bne_eq_false_iff_eq]; first | done | omega) | rfl))
 | ((with_reducible refine S_falseO ?_ ?_ ?_); (· rfl); (· first | rfl | (first | exact decide_eq_false (by omega) | (rw [beq_eq_false_iff_ne]; omega) | (rw [bne_eq_false_iff_eq]; first | done | omega) | rfl)))
 | ((with_reducible (first | refine S_trueE ?_ ?_ | refine S_trueB ?_ ?_ | refine S_trueL ?_ ?_ | refine S_trueD ?_ ?_ | refine S_trueN ?_ ?_)); · (first | exact decide_eq_true (by omega) | (rw [beq_iff_eq]; first | done | omega) | (rw [bne_iff_ne]; omega)))
 | ((with_reducible refine S_trueA ?_ ?_ ?_); (· rfl); (· first | rfl | (first | exact decide_eq_true (by omega) | (rw [beq_iff_eq]; first | done | omega) | (rw [bne_iff_ne]; omega))))
 | refine S_unG rfl rfl rfl rfl ?_
 | refine S_offG (.v (.bool false)) rfl rfl rfl rfl rfl ?_
 | ((with_reducible refine S_notV ?_ ?_); · rfl)
 | ((with_reducible refine S_falseA ?_ ?_); · first | rfl | (simp only [Bool.and_eq_false_iff, decide_eq_false_iff_not, beq_eq_false_iff_ne, bne_eq_false_iff_eq]; omega))
 | ((with_reducible refine S_trueO ?_ ?_); · first | rfl | (simp only [Bool.or_eq_true, decide_eq_true_eq, beq_iff_eq, bne_iff_ne]; omega))
 | refine S_nil ?_
 | refine S_runN rfl rfl obQ obQ ?_
 | refine S_box (fun b => ⟨_, _, rfl, obQ, ?_⟩)
 | refine S_call (f := 48) rfl obQ (by kernel_rfl) (fun w hw => rShort2_c A A2 c c2 names es hsh hn hm w (hw.rdm (Rd.toS hr) memQ)) ?_
 | refine S_call (f := 55) rfl obQ (by kernel_rfl) (fun w hw => rckn2_c A A2 c c2 names es hn6 hm6 hs hc hNE w (hw.rdm (Rd.toS hr) memQ) (hw.rdm (Rd.toS hr2) memQ)) ?_
 | refine S_call (f := 62) rfl obQ (by kernel_rfl) (fun w hw => rcke_c names.length e hEd w) ?_
 | refine S_call (f := 27) rfl obQ (by kernel_rfl) (fun w hw => awake_c w (hw.rdm hE.toS memQ) (Pw_at hP hw memQ)) ?_
          )
 | (refine D_id ?_; first
 | refine D_nil ?_
 | refine D_tail ?_
 | refine D_run rfl rfl obQ obQ ?_
 | refine D_call (f := 48) rfl obQ (by kernel_rfl) (fun w hw => rShort2_c A A2 c c2 names es hsh hn hm w (hw.rdm (Rd.toS hr) memQ)) ?_
 | refine D_call (f := 55) rfl obQ (by kernel_rfl) (fun w hw => rckn2_c A A2 c c2 names es hn6 hm6 hs hc hNE w (hw.rdm (Rd.toS hr) memQ) (hw.rdm (Rd.toS hr2) memQ)) ?_
 | refine D_call (f := 62) rfl obQ (by kernel_rfl) (fun w hw => rcke_c names.length e hEd w) ?_
 | refine D_call (f := 27) rfl obQ (by kernel_rfl) (fun w hw => awake_c w (hw.rdm hE.toS memQ) (Pw_at hP hw memQ)) ?_
          )
 | (refine G_id ?_; first
 | refine G_then ?_
 | refine G_block ?_
 | refine G_blockX ?_
 | refine G_blockN rfl ?_
 | refine G_blockR ?_
 | refine G_thenR ?_
 | refine G_thenX ?_
 | refine G_ret rfl obQ (fun w2 hw => ⟨?_, hw.below⟩)
          )
        )
    all_goals rfl

end Go.Proofs.YtmfophoejjcnlaaGreatDoor
