/- Settings. -/
import Derived.Test.YtmfophoejjcnlaaGreatDoorTiming26
namespace Go.Proofs.YtmfophoejjcnlaaGreatDoor
open Go.E Go.RowKit
attribute [local irreducible] G C S D Calls
set_option maxRecDepth 100000
set_option linter.unusedSimpArgs false
set_option linter.unusedVariables false

theorem timesE_1 {names : List ByteArray} {es : List Edg} {ts : List Int} (h : timesE1 names es ts ≠ 0) : timesE names es ts = timesE1 names es ts := by
  unfold timesE; simp [firstL, h]
theorem timesE_2 {names : List ByteArray} {es : List Edg} {ts : List Int} (h : timesE1 names es ts = 0) (h2 : timesE2 ts ≠ 0) : timesE names es ts = timesE2 ts := by
  unfold timesE; simp [firstL, h, h2]
theorem timesE_3 {names : List ByteArray} {es : List Edg} {ts : List Int} (h : timesE1 names es ts = 0) (h2 : timesE2 ts = 0) : timesE names es ts = timesE3 es ts := by
  unfold timesE; simp [firstL, h, h2]; omega
theorem timesE_ok {names : List ByteArray} {es : List Edg} {ts : List Int} (h : timesE names es ts = 0) : netF names es = 0 ∧ ts.length = names.length ∧ ∀ t ∈ ts, 0 ≤ t ∧ t ≤ 10000000 := by
  unfold timesE at h
  rw [firstL_zero] at h
  simp only [List.mem_cons, List.mem_nil_iff, or_false, forall_eq_or_imp, forall_eq] at h
  exact ⟨(timesE1_ok h.1).1, (timesE1_ok h.1).2, timesE2_ok h.2.1⟩
theorem gT0_at {ts : List Int} (h : 0 < ts.length) : ∀ (j : Nat) (u : Value), ([.int .i64 (gT ts 0)] : List Value)[j]? = some u → (ts.map (.int .i64))[0 + j]? = some u := by
  intro j u hu
  cases j with
  | succ j => simp at hu
  | zero =>
    simp only [List.getElem?_cons_zero, Option.some.injEq] at hu
    subst hu
    rw [gT_at h]
    simp [h]
set_option maxHeartbeats 1000000 in
/-- timing.checkTimes -/
theorem checkTimes_c (A A2 B : Option Addr) (c c2 c3 : Nat) (names : List ByteArray) (es : List Edg) (ts : List Int) (hn : names.length ≤ 1000000) (hm : es.length ≤ 1000000) (hs : ∀ s ∈ names, s.size ≤ maxLen) (ht : ts.length ≤ 1000000) (w : World) (hr : Rd w A (names.map .string)) (hr2 : Rd w A2 (es.flatMap edC)) (hr3 : Rd w B (ts.map (.int .i64))) : Calls Tryz.prog 106 #[.agg #[.slice A names.length c, .slice A2 es.length c2], .slice B ts.length c3] w fun r w' => r = .returned (.int .i64 (timesE names es ts)) ∧ Below w.heap.size w w' := by
  refine calls_of (args := [.agg #[.slice A names.length c, .slice A2 es.length c2], .slice B ts.length c3]) T_ok Tryz.func106 rfl Tryz.ntmps106 (Nat.le_of_ble_eq_true rfl) rfl ?_
  by_cases h1 : timesE1 names es ts = 0
  · have h1' : firstL [netF names es, wh ((ts.length : Int) != names.length) 2] = 0 := h1
    obtain ⟨hN, hlen⟩ := timesE1_ok h1
    have ok := netF_ok hN
    have hl0 : 0 < ts.length := by have := ok.n0; omega
    by_cases h2' : timesE2 ts = 0
    · have h2 := timesE2_ok h2'
      have h2'' : firstL (ts.map fun t => wi t 0 10000000) = 0 := h2'
      obtain ⟨ad, rfl⟩ := hr3.some (by simp; omega)
      rw [timesE_3 h1 h2']
      repeat' (first
 | (refine C_id ?_; first
 | refine C_seq ?_
 | refine C_region rfl ?_
 | refine C_skip ?_
 | refine C_drawT (id := 1) 9 rfl mixed (by kernel_rfl) rfl rfl ?_
 | (refine C_cond rfl obQ (fun h => ?_) (fun h => ?_) <;> (try simp only [Bool.or_eq_true, Bool.and_eq_true, Bool.or_eq_false_iff, Bool.and_eq_false_iff, decide_eq_true_eq, decide_eq_false_iff_not, beq_iff_eq, bne_iff_ne, beq_eq_false_iff_ne, bne_eq_false_iff_eq, ne_eq, Decidable.not_not, List.cons.injEq, and_true, Bool.not_eq_true', Bool.not_eq_false', Int.not_lt, Int.not_le] at h) <;> (try (exfalso; omega)) <;> (try (exfalso; simp at h; done)) <;> (try (exfalso; simp only [not_true_eq_false, false_or, or_false] at h; omega)) <;> (try contradiction))
       )
 | (refine S_id ?_; first
 | refine S_nil ?_
 | refine S_run rfl rfl obQ obQ ?_
 | refine S_box (fun b0 => ⟨_, _, rfl, obQ, ?_⟩)
 | refine S_slice (fun b => ⟨_, _, rfl, obQ, ?_⟩)
 | refine S_call (f := 87) rfl obQ (by kernel_rfl) (fun w hw => first_c _ _ [netF names es, wh ((ts.length : Int) != names.length) 2] (by simp) w (.inr ⟨_, rfl, hw.src (i := 2) rfl rfl⟩)) ?_
 | refine S_call (f := 87) rfl obQ (by kernel_rfl) (fun w hw => firstM_c _ _ (fun t => wi t 0 10000000) ts ht w (hw.rdm hSM memQ)) ?_
 | refine S_call (f := 148) rfl obQ (by kernel_rfl) (fun w hw => containsF_c 149 (.pointer (some ⟨b0, 0, none⟩)) (offF ts) A2 c2 es hm (by kernel_rfl) w (hw.rdm (Rd.toS hr2) memQ) (fun x hx W hW => ct2e_c x ts _ c3 (by rw [hlen]; exact ok.e x hx) h2 _ W ((hw.rdBox (i := 1) rfl rfl).below hW) ((hw.rdm (Rd.toS hr3) memQ).below hW))) ?_
 | (refine S_callM (f := 146) rfl obQ (by kernel_rfl) (fun w hw => mappedIE_c 147 (g := fun t => wi t 0 10000000) (some ad) c3 ts ht (by kernel_rfl) w (hw.rdm (Rd.toS hr3) memQ) (fun x hx W hW => ct1_c x W)) (fun w1M w2M vM hw1M hbM hRM => ?_); obtain ⟨AM, cM, rfl, hSM⟩ := hRM)
       )
 | (refine D_id ?_; first
 | refine D_tail ?_
 | refine D_run rfl rfl obQ obQ ?_
 | refine D_call (f := 61) rfl obQ (by kernel_rfl) (fun w hw => checkNet_c A A2 c c2 names es hn hm hs w (hw.rdm (Rd.toS hr) memQ) (hw.rdm (Rd.toS hr2) memQ)) ?_
 | refine D_call (f := 99) rfl obQ (by kernel_rfl) (fun w hw => when_c _ _ w) ?_
       )
 | (refine G_id ?_; first
 | refine G_then ?_
       )
       )
      refine S_id ?_
      refine S_loadG rfl rfl (fun hg => obQ) rfl [.int .i64 (gT ts 0)] (fun hg => .past (w, fun b => b < w.heap.size) memQ _ _ hr3.toS 0 ad rfl rfl (gT0_at hl0)) rfl (.inr ⟨rfl, rfl⟩) ?_
      repeat' (first
 | (refine C_id ?_; first
 | refine C_ret0 ?_
       )
 | (refine S_id ?_; first
 | refine S_nil ?_
 | refine S_run rfl rfl obQ obQ ?_
 | refine S_call (f := 99) rfl obQ (by kernel_rfl) (fun w hw => when_c _ _ w) ?_
       )
 | (refine G_id ?_; first
 | refine G_then ?_
 | refine G_ret rfl obQ (fun w hw => ⟨?_, hw.below⟩)
       )
       )
      all_goals first | contradiction | rfl
    · have h2'' : ¬ firstL (ts.map fun t => wi t 0 10000000) = 0 := h2'
      rw [timesE_2 h1 h2']
      repeat' (first
 | (refine C_id ?_; first
 | refine C_seq ?_
 | refine C_region rfl ?_
 | refine C_skip ?_
 | refine C_ret0 ?_
 | refine C_drawT (id := 1) 9 rfl mixed (by kernel_rfl) rfl rfl ?_
 | (refine C_cond rfl obQ (fun h => ?_) (fun h => ?_) <;> (try simp only [Bool.or_eq_true, Bool.and_eq_true, Bool.or_eq_false_iff, Bool.and_eq_false_iff, decide_eq_true_eq, decide_eq_false_iff_not, beq_iff_eq, bne_iff_ne, beq_eq_false_iff_ne, bne_eq_false_iff_eq, ne_eq, Decidable.not_not, List.cons.injEq, and_true, Bool.not_eq_true', Bool.not_eq_false', Int.not_lt, Int.not_le] at h))
       )
 | (refine S_id ?_; first
 | refine S_nil ?_
 | refine S_run rfl rfl obQ obQ ?_
 | refine S_box (fun b => ⟨_, _, rfl, obQ, ?_⟩)
 | refine S_slice (fun b => ⟨_, _, rfl, obQ, ?_⟩)
 | refine S_call (f := 87) rfl obQ (by kernel_rfl) (fun w hw => first_c _ _ [netF names es, wh ((ts.length : Int) != names.length) 2] (by simp) w (.inr ⟨_, rfl, hw.src (i := 2) rfl rfl⟩)) ?_
 | refine S_call (f := 87) rfl obQ (by kernel_rfl) (fun w hw => firstM_c _ _ (fun t => wi t 0 10000000) ts ht w (hw.rdm hSM memQ)) ?_
 | (refine S_callM (f := 146) rfl obQ (by kernel_rfl) (fun w hw => mappedIE_c 147 (g := fun t => wi t 0 10000000) B c3 ts ht (by kernel_rfl) w (hw.rdm (Rd.toS hr3) memQ) (fun x hx W hW => ct1_c x W)) (fun w1M w2M vM hw1M hbM hRM => ?_); obtain ⟨AM, cM, rfl, hSM⟩ := hRM)
       )
 | (refine D_id ?_; first
 | refine D_tail ?_
 | refine D_run rfl rfl obQ obQ ?_
 | refine D_call (f := 61) rfl obQ (by kernel_rfl) (fun w hw => checkNet_c A A2 c c2 names es hn hm hs w (hw.rdm (Rd.toS hr) memQ) (hw.rdm (Rd.toS hr2) memQ)) ?_
 | refine D_call (f := 99) rfl obQ (by kernel_rfl) (fun w hw => when_c _ _ w) ?_
       )
 | (refine G_id ?_; first
 | refine G_then ?_
 | refine G_thenR ?_
 | refine G_ret rfl obQ (fun w hw => ⟨?_, hw.below⟩)
       )
       )
      all_goals first | contradiction | rfl
  · have h1' : ¬ firstL [netF names es, wh ((ts.length : Int) != names.length) 2] = 0 := h1
    rw [timesE_1 h1]
    repeat' (first
 | (refine C_id ?_; first
 | refine C_seq ?_
 | refine C_region rfl ?_
 | refine C_skip ?_
 | refine C_ret0 ?_
 | refine C_drawT (id := 1) 9 rfl mixed (by kernel_rfl) rfl rfl ?_
 | (refine C_cond rfl obQ (fun h => ?_) (fun h => ?_) <;> (try simp only [Bool.or_eq_true, Bool.and_eq_true, Bool.or_eq_false_iff, Bool.and_eq_false_iff, decide_eq_true_eq, decide_eq_false_iff_not, beq_iff_eq, bne_iff_ne, beq_eq_false_iff_ne, bne_eq_false_iff_eq, ne_eq, Decidable.not_not, List.cons.injEq, and_true, Bool.not_eq_true', Bool.not_eq_false', Int.not_lt, Int.not_le] at h))
     )
 | (refine S_id ?_; first
 | refine S_nil ?_
 | refine S_run rfl rfl obQ obQ ?_
 | refine S_box (fun b => ⟨_, _, rfl, obQ, ?_⟩)
 | refine S_slice (fun b => ⟨_, _, rfl, obQ, ?_⟩)
 | refine S_call (f := 87) rfl obQ (by kernel_rfl) (fun w hw => first_c _ _ [netF names es, wh ((ts.length : Int) != names.length) 2] (by simp) w (.inr ⟨_, rfl, hw.src (i := 2) rfl rfl⟩)) ?_
     )
 | (refine D_id ?_; first
 | refine D_tail ?_
 | refine D_run rfl rfl obQ obQ ?_
 | refine D_call (f := 61) rfl obQ (by kernel_rfl) (fun w hw => checkNet_c A A2 c c2 names es hn hm hs w (hw.rdm (Rd.toS hr) memQ) (hw.rdm (Rd.toS hr2) memQ)) ?_
 | refine D_call (f := 99) rfl obQ (by kernel_rfl) (fun w hw => when_c _ _ w) ?_
     )
 | (refine G_id ?_; first
 | refine G_then ?_
 | refine G_thenR ?_
 | refine G_ret rfl obQ (fun w hw => ⟨?_, hw.below⟩)
     )
     )
    all_goals first | contradiction | rfl

set_option maxHeartbeats 1000000 in
/-- timing.Settings -/
theorem settings_c (A A2 B : Option Addr) (c c2 c3 : Nat) (names : List ByteArray) (es : List Edg) (ts : List Int) (hn : names.length ≤ 1000000) (hm : es.length ≤ 1000000) (hs : ∀ s ∈ names, s.size ≤ maxLen) (ht : ts.length ≤ 1000000) (w : World) (hr : Rd w A (names.map .string)) (hr2 : Rd w A2 (es.flatMap edC)) (hr3 : Rd w B (ts.map (.int .i64))) : Calls Tryz.prog 53 #[.agg #[.slice A names.length c, .slice A2 es.length c2], .slice B ts.length c3] w fun r w' => ∃ v, r = .returned v ∧ Below w.heap.size w w' ∧ Sl2 w w' v (settingsR names es ts).1.length ((settingsR names es ts).1.map (.int .i64)) (.int .i64 (settingsR names es ts).2) := by
  refine calls_of (args := [.agg #[.slice A names.length c, .slice A2 es.length c2], .slice B ts.length c3]) T_ok Tryz.func53 rfl Tryz.ntmps53 (Nat.le_of_ble_eq_true rfl) rfl ?_
  by_cases h1 : timesE names es ts = 0
  · obtain ⟨hN, hlen, h2⟩ := timesE_ok h1
    have ok := netF_ok hN
    have hR : settingsR names es ts = (es.map (setF ts), 0) := by unfold settingsR; rw [if_neg (by simp [h1])]
    repeat' (first
 | (refine C_id ?_; first
 | refine C_seq ?_
 | refine C_region rfl ?_
 | refine C_skip ?_
 | refine C_ret0 ?_
 | (refine C_cond rfl obQ (fun h => ?_) (fun h => ?_) <;> (try simp only [Bool.or_eq_true, Bool.and_eq_true, Bool.or_eq_false_iff, Bool.and_eq_false_iff, decide_eq_true_eq, decide_eq_false_iff_not, beq_iff_eq, bne_iff_ne, beq_eq_false_iff_ne, bne_eq_false_iff_eq, ne_eq, Decidable.not_not, List.cons.injEq, and_true, Bool.not_eq_true', Bool.not_eq_false', Int.not_lt, Int.not_le] at h) <;> (try (exfalso; omega)) <;> (try (exfalso; simp at h; done)) <;> (try (exfalso; simp only [not_true_eq_false, false_or, or_false] at h; omega)) <;> (try contradiction))
     )
 | (refine S_id ?_; first
 | refine S_nil ?_
 | refine S_run rfl rfl obQ obQ ?_
 | refine S_box (fun b => ⟨_, _, rfl, obQ, ?_⟩)
 | refine S_call (f := 106) rfl obQ (by kernel_rfl) (fun w hw => checkTimes_c A A2 B c c2 c3 names es ts hn hm hs ht w (hw.rdm (Rd.toS hr) memQ) (hw.rdm (Rd.toS hr2) memQ) (hw.rdm (Rd.toS hr3) memQ)) ?_
 | (refine S_callM (f := 107) rfl obQ (by kernel_rfl) (fun w hw => mappedES_c 108 (.pointer (some ⟨b, 0, none⟩)) (g := setF ts) A2 c2 es hm (by kernel_rfl) w (hw.rdm (Rd.toS hr2) memQ) (fun x hx W hW => set1e_c x ts _ c3 (by rw [hlen]; exact ok.e x hx) h2 _ W ((hw.rdBox (i := 1) rfl rfl).below hW) ((hw.rdm (Rd.toS hr3) memQ).below hW))) (fun w1M w2M vM hw1M hbM hRM => ?_); obtain ⟨AM, cM, rfl, hSM⟩ := hRM)
     )
 | (refine G_id ?_; first
 | refine G_then ?_
 | refine G_ret rfl obQ (fun w2 hw => ⟨_, rfl, hw.below, Sl.two (v := .slice AM es.length cM) (by rw [hR]; simp only [List.length_map, List.map_map]; exact HW.callSl hw hSM memQ hw1M.bsize) (by rw [hR])⟩)
     )
     )
  · have hR : settingsR names es ts = ([], timesE names es ts) := by unfold settingsR; rw [if_pos h1]
    repeat' (first
 | (refine C_id ?_; first
 | refine C_seq ?_
 | refine C_region rfl ?_
 | refine C_ret0 ?_
 | (refine C_cond rfl obQ (fun h => ?_) (fun h => ?_) <;> (try simp only [Bool.or_eq_true, Bool.and_eq_true, Bool.or_eq_false_iff, Bool.and_eq_false_iff, decide_eq_true_eq, decide_eq_false_iff_not, beq_iff_eq, bne_iff_ne, beq_eq_false_iff_ne, bne_eq_false_iff_eq, ne_eq, Decidable.not_not, List.cons.injEq, and_true, Bool.not_eq_true', Bool.not_eq_false', Int.not_lt, Int.not_le] at h) <;> (try (exfalso; omega)) <;> (try (exfalso; simp at h; done)) <;> (try (exfalso; simp only [not_true_eq_false, false_or, or_false] at h; omega)) <;> (try contradiction))
     )
 | (refine S_id ?_; first
 | refine S_nil ?_
 | refine S_run rfl rfl obQ obQ ?_
 | refine S_box (fun b => ⟨_, _, rfl, obQ, ?_⟩)
 | refine S_call (f := 106) rfl obQ (by kernel_rfl) (fun w hw => checkTimes_c A A2 B c c2 c3 names es ts hn hm hs ht w (hw.rdm (Rd.toS hr) memQ) (hw.rdm (Rd.toS hr2) memQ) (hw.rdm (Rd.toS hr3) memQ)) ?_
     )
 | (refine G_id ?_; first
 | refine G_then ?_
 | refine G_thenR ?_
 | refine G_ret rfl obQ (fun w2 hw => ⟨_, rfl, hw.below, Sl.two (v := .slice none 0 0) (by rw [hR]; exact Sl.nil_ _ _) (by rw [hR])⟩)
     )
     )

end Go.Proofs.YtmfophoejjcnlaaGreatDoor
