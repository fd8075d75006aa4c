/- The least plan of a net. -/
import Derived.Test.YtmfophoejjcnlaaGreatDoorTiming23
namespace Go.Proofs.YtmfophoejjcnlaaGreatDoor
open Go.E Go.RowKit
attribute [local irreducible] G C S D Calls
set_option maxRecDepth 100000
set_option linter.unusedSimpArgs false
set_option linter.unusedVariables false

/-- What a call handed back in memory, handed back once more. -/
theorem HW.callSl {w0 w w1 w2 : World} {Ps : Past} {σ : St} (hw : HW w0.heap.size w0 Ps σ w) {A : Option Addr} {n c : Nat} {xs : List Value} (h : RdS (fun b => w1.heap.size ≤ b ∧ b < w2.heap.size) w2 A xs) (hp : (w2, fun b => w1.heap.size ≤ b ∧ b < w2.heap.size) ∈ Ps) (h1 : w0.heap.size ≤ w1.heap.size) : Sl w0 w (.slice A n c) n xs := by
  refine ⟨A, c, rfl, ?_⟩
  have hr := hw.rdm h hp
  rcases h with h | ⟨ad, e1, h2, h3⟩
  · exact .inl h
  · refine .inr ⟨ad, e1, ⟨?_, (hw.past _ hp _ h2).1.1⟩, ?_⟩
    · have := h2.1
      omega
    · rcases hr with hr | ⟨ad', e2, h4⟩
      · rw [hr]; intro j u hu; simp at hu
      · rw [e1] at e2; cases e2; exact h4
theorem wh_zero {b : Bool} {e : Int} (he : e ≠ 0) : wh b e = 0 ↔ b = false := by unfold wh; cases b <;> simp [he]
theorem edgeF_ok {n : Nat} {e : Edg} (h : edgeF n e = 0) : EdOk n e := by
  unfold edgeF edgeL at h
  rw [firstL_zero] at h
  simp only [List.mem_cons, List.mem_nil_iff, or_false, forall_eq_or_imp, forall_eq, wi_eq, wh_zero (show (10 : Int) ≠ 0 by omega), wh_zero (show (24 : Int) ≠ 0 by omega), wh_zero (show (11 : Int) ≠ 0 by omega), Bool.or_eq_false_iff, Bool.and_eq_false_iff, decide_eq_false_iff_not] at h
  exact ⟨by omega, by omega, by omega, by omega, by omega, by omega⟩
/-- A net without an error. -/
structure NetOk (names : List ByteArray) (es : List Edg) : Prop where
  n0 : 0 < names.length
  n : names.length ≤ 12
  m : es.length ≤ 24
  e : ∀ e ∈ es, EdOk names.length e
theorem netF_ok {names : List ByteArray} {es : List Edg} (h : netF names es = 0) : NetOk names es := by
  unfold netF at h
  rw [firstL_zero] at h
  simp only [List.mem_cons, List.mem_nil_iff, or_false, forall_eq_or_imp, forall_eq, wh_zero (show (5 : Int) ≠ 0 by omega), decide_eq_false_iff_not] at h
  obtain ⟨h1, _, h3, h4⟩ := h
  unfold netN at h1
  rw [firstL_zero] at h1 h4
  simp only [List.mem_cons, List.mem_nil_iff, or_false, forall_eq_or_imp, forall_eq, wh_zero (show (5 : Int) ≠ 0 by omega), wh_zero (show (12 : Int) ≠ 0 by omega), decide_eq_false_iff_not, beq_eq_false_iff_ne, ne_eq] at h1
  refine ⟨by omega, by omega, by omega, fun e he => edgeF_ok (h4 _ (List.mem_map.2 ⟨e, he, rfl⟩))⟩
/-- The least plan, and the error. -/
def planR (names : List ByteArray) (es : List Edg) : List Int × Int :=
  if netF names es ≠ 0 then ([], netF names es) else if 0 ≤ (longW es names.length 0).2 then ([], 18) else ((longW es names.length 0).1.map (·.S), 0)
theorem longW_len (es : List Edg) (nn f : Nat) : (longW es nn f).1.length = nn := roundsW_len es nn f _

set_option maxHeartbeats 400000 in
/-- timing.Plan$1 -/
theorem plan1_c (s : Seen) (w : World) : Calls Tryz.prog 105 #[.agg #[.int .i64 s.E, .bool s.B, .int .i64 s.N, .int .i64 s.S, .bool s.R]] w fun r w' => r = .returned (.int .i64 s.S) ∧ Below w.heap.size w w' := by
  refine calls_of (args := [.agg #[.int .i64 s.E, .bool s.B, .int .i64 s.N, .int .i64 s.S, .bool s.R]]) T_ok Tryz.func105 rfl Tryz.ntmps105 (Nat.le_of_ble_eq_true rfl) rfl ?_
  repeat' (first
 | (refine C_id ?_; first
 | refine C_seq ?_
 | refine C_region rfl ?_
 | refine C_block ?_
 | refine C_skip ?_
 | refine C_ret0 ?_
 | (refine C_cond rfl obQ (fun h => ?_) (fun h => ?_) <;> (try simp only [Bool.or_eq_true, Bool.and_eq_true, Bool.or_eq_false_iff, Bool.and_eq_false_iff, decide_eq_true_eq, decide_eq_false_iff_not, beq_iff_eq, bne_iff_ne, beq_eq_false_iff_ne, bne_eq_false_iff_eq, ne_eq, Decidable.not_not, List.cons.injEq, and_true, Bool.not_eq_true', Bool.not_eq_false', Int.not_lt, Int.not_le] at h))
 )
 | (refine S_id ?_; first
 | refine S_nil ?_
 | refine S_run rfl rfl obQ obQ ?_
 | refine S_box (fun b => ⟨_, _, rfl, obQ, ?_⟩)
 )
 | (refine G_id ?_; first
 | refine G_then ?_
 | refine G_thenR ?_
 | refine G_ret rfl obQ (fun w hw => ⟨?_, hw.below⟩)
 )
 )
  rfl

set_option maxHeartbeats 400000 in
/-- mapped[genlock/timing.seen,int] -/
theorem mappedSI_c (q : FuncId) {g : Seen → Int} (A : Option Addr) (c : Nat) (l : List (Seen)) (hl : l.length ≤ 1000000) (he : entB Tryz.prog q = true) (w : World) (hr : Rd w A (l.flatMap fun x => [Value.int .i64 x.E, Value.bool x.B, Value.int .i64 x.N, Value.int .i64 x.S, Value.bool x.R])) (hg : ∀ x ∈ l, ∀ W, Below w.heap.size w W → Calls Tryz.prog q #[Value.agg #[Value.int .i64 x.E, Value.bool x.B, Value.int .i64 x.N, Value.int .i64 x.S, Value.bool x.R]] W fun e w' => e = .returned (Value.int .i64 (g x)) ∧ Below W.heap.size W w') : Calls Tryz.prog 104 #[.slice A l.length c, .func (.func q) #[] #[]] w fun r w' => ∃ v, r = .returned v ∧ Below w.heap.size w w' ∧ Sl w w' v l.length (l.map fun x => Value.int .i64 (g x)) := by
  refine calls_of (args := [.slice A l.length c, .func (.func q) #[] #[]]) T_ok Tryz.func104 rfl Tryz.ntmps104 (Nat.le_of_ble_eq_true rfl) rfl ?_
  repeat' (first
 | (refine C_id ?_; first
 | refine C_seq ?_
 | refine C_region rfl ?_
 | refine C_block ?_
 )
 | (refine S_id ?_; first
 | refine S_nil ?_
 | refine S_run rfl rfl obQ obQ ?_
 | refine S_box (fun b => ⟨_, _, rfl, obQ, ?_⟩)
 )
 | (refine G_id ?_; first
 | refine G_then ?_
 )
 )
  refine C_row0 5 3 1 rfl ?_
  refine C_loopS (fun i : Nat × Option Addr × Nat => ⟨[(5, .s (.r i.2.1 i.1 i.2.2 0)), (8, .s (.v (.slice A l.length c))), (9, .s (.v (.int .i64 l.length))), (10, .s (.v (.int .i64 i.1))), (1, .s (.v (.func (.func q) #[] #[])))], [], [⟨3, 1, i.1, (l.take i.1).map fun x => Value.int .i64 (g x), .slice i.2.1 i.1 i.2.2⟩]⟩) (fun i => i.1 ≤ l.length) (fun i => l.length - i.1) (0, none, 0) (Nat.zero_le _) ?_ (fun i hi => ?_)
  · exact ⟨⟨_, rfl, obQ⟩, ⟨_, rfl⟩, rfl, pstQ⟩
  obtain ⟨k, A', c'⟩ := i
  have hi' : k ≤ l.length := hi
  dsimp only
  by_cases hlt : k < l.length
  · obtain ⟨ad, rfl⟩ := hr.some (by simp [flat_len (s := 5)]; omega)
    have hmt := map_take_succ (f := fun x => Value.int .i64 (g x)) hlt
    repeat' (first
 | (refine C_id ?_; first
 | refine C_seq ?_
 | refine C_region rfl ?_
 | refine C_block ?_
 | refine C_skip ?_
 | (refine C_cond rfl obQ (fun h => ?_) (fun h => ?_) <;> (try simp only [Bool.or_eq_true, Bool.and_eq_true, Bool.or_eq_false_iff, Bool.and_eq_false_iff, decide_eq_true_eq, decide_eq_false_iff_not, beq_iff_eq, bne_iff_ne, beq_eq_false_iff_ne, bne_eq_false_iff_eq, ne_eq, Decidable.not_not, List.cons.injEq, and_true, Bool.not_eq_true', Bool.not_eq_false', Int.not_lt, Int.not_le] at h) <;> (try (exfalso; omega)))
     )
 | (refine S_id ?_; first
 | refine S_load rfl obQ rfl [Value.int .i64 l[k].E, Value.bool l[k].B, Value.int .i64 l[k].N, Value.int .i64 l[k].S, Value.bool l[k].R] (.past _ memQ _ _ hr.toS _ _ rfl rfl (idxS (f := fun x => [Value.int .i64 x.E, Value.bool x.B, Value.int .i64 x.N, Value.int .i64 x.S, Value.bool x.R]) (fun _ => rfl) hlt)) rfl (.inl ⟨rfl, rfl⟩) ?_
 | refine S_call rfl obQ he (fun W hW => hg l[k] (List.getElem_mem hlt) W hW.below) ?_
 | refine S_append rfl obQ rfl rfl rfl ⟨by decide, rfl⟩ rfl ⟨rfl, rfl, rfl, rfl⟩ [Value.int .i64 (g l[k])] ⟨by decide, rfl⟩ (by simp [Value.oneCell']) (fun w hw => by first | exact hw.src (i := 0) rfl rfl | exact hw.src (i := 1) rfl rfl | exact hw.src (i := 2) rfl rfl | exact hw.src (i := 3) rfl rfl | exact hw.src (i := 4) rfl rfl | exact hw.src (i := 5) rfl rfl | exact hw.src (i := 6) rfl rfl | exact hw.src (i := 7) rfl rfl | exact hw.src (i := 8) rfl rfl) (by unfold maxLen; dsimp only; omega) (fun gb cap' => ⟨_, rfl, ?_⟩)
 | refine S_nil ?_
 | refine S_run rfl rfl obQ obQ ?_
 | refine S_box (fun b => ⟨_, _, rfl, obQ, ?_⟩)
 | refine S_slice (fun b => ⟨_, _, rfl, obQ, ?_⟩)
     )
 | (refine G_id ?_; first
 | refine G_loop (k + 1, some ⟨gb, 0, none⟩, cap') (by show k + 1 ≤ _; omega) (by show l.length - (k + 1) < l.length - k; omega) ⟨⟨_, rfl, obQ⟩, ⟨_, rfl⟩, (by dsimp only; rw [hmt]), pstQ⟩
 | refine G_then ?_
 | refine G_block ?_
     )
     )
  · obtain rfl : k = l.length := by omega
    repeat' (first
 | (refine C_id ?_; first
 | refine C_seq ?_
 | refine C_region rfl ?_
 | refine C_exit ?_
 | refine C_ret0 ?_
 | (refine C_cond rfl obQ (fun h => ?_) (fun h => ?_) <;> (try simp only [Bool.or_eq_true, Bool.and_eq_true, Bool.or_eq_false_iff, Bool.and_eq_false_iff, decide_eq_true_eq, decide_eq_false_iff_not, beq_iff_eq, bne_iff_ne, beq_eq_false_iff_ne, bne_eq_false_iff_eq, ne_eq, Decidable.not_not, List.cons.injEq, and_true, Bool.not_eq_true', Bool.not_eq_false', Int.not_lt, Int.not_le] at h) <;> (try (exfalso; omega)))
     )
 | (refine S_id ?_; first
 | refine S_nil ?_
 | refine S_run rfl rfl obQ obQ ?_
     )
 | (refine G_id ?_; first
 | refine G_then ?_
 | refine G_blockX ?_
 | refine G_thenX ?_
 | refine G_ret rfl obQ (fun w2 hw => ⟨_, rfl, hw.below, HW.rowSl (i := 0) hw rfl rfl rfl (by rw [List.take_length])⟩)
     )
     )

theorem mappedSIn_c (q : FuncId) {g : Seen → Int} (A : Option Addr) (c n : Nat) (l : List Seen) (hn : l.length = n) (hl : n ≤ 1000000) (he : entB Tryz.prog q = true) (w : World) (hr : Rd w A (l.flatMap seC)) (hg : ∀ x ∈ l, ∀ W, Below w.heap.size w W → Calls Tryz.prog q #[.agg #[.int .i64 x.E, .bool x.B, .int .i64 x.N, .int .i64 x.S, .bool x.R]] W fun e w' => e = .returned (.int .i64 (g x)) ∧ Below W.heap.size W w') :
    Calls Tryz.prog 104 #[.slice A n c, .func (.func q) #[] #[]] w fun r w' => ∃ v, r = .returned v ∧ Below w.heap.size w w' ∧ Sl w w' v n (l.map fun x => .int .i64 (g x)) := by
  subst hn
  exact mappedSI_c q A c l hl he w hr hg

set_option maxHeartbeats 400000 in
/-- timing.Plan -/
theorem plan_c (A A2 : Option Addr) (c c2 : Nat) (names : List ByteArray) (es : List Edg) (hn : names.length ≤ 1000000) (hm : es.length ≤ 1000000) (hs : ∀ s ∈ names, s.size ≤ maxLen) (w : World) (hr : Rd w A (names.map .string)) (hr2 : Rd w A2 (es.flatMap edC)) : Calls Tryz.prog 49 #[.agg #[.slice A names.length c, .slice A2 es.length c2]] w fun r w' => ∃ v, r = .returned v ∧ Below w.heap.size w w' ∧ Sl2 w w' v (planR names es).1.length ((planR names es).1.map (.int .i64)) (.int .i64 (planR names es).2) := by
  refine calls_of (args := [.agg #[.slice A names.length c, .slice A2 es.length c2]]) T_ok Tryz.func49 rfl Tryz.ntmps49 (Nat.le_of_ble_eq_true rfl) rfl ?_
  by_cases h0 : netF names es = 0
  · have ok := netF_ok h0
    have hL := longW_len es names.length 0
    by_cases h1 : 0 ≤ (longW es names.length 0).2
    · have hR : planR names es = ([], 18) := by unfold planR; rw [if_neg (by simp [h0]), if_pos h1]
      repeat' (first
 | (refine C_id ?_; first
 | refine C_seq ?_
 | refine C_region rfl ?_
 | refine C_skip ?_
 | refine C_ret0 ?_
 | (refine C_cond rfl obQ (fun h => ?_) (fun h => ?_) <;> (try simp only [Bool.or_eq_true, Bool.and_eq_true, Bool.or_eq_false_iff, Bool.and_eq_false_iff, decide_eq_true_eq, decide_eq_false_iff_not, beq_iff_eq, bne_iff_ne, beq_eq_false_iff_ne, bne_eq_false_iff_eq, ne_eq, Decidable.not_not, List.cons.injEq, and_true, Bool.not_eq_true', Bool.not_eq_false', Int.not_lt, Int.not_le] at h) <;> (try (exfalso; omega)))
       )
 | (refine S_id ?_; first
 | refine S_nil ?_
 | refine S_run rfl rfl obQ obQ ?_
 | refine S_box (fun b => ⟨_, _, rfl, obQ, ?_⟩)
 | refine S_call (f := 61) rfl obQ (by kernel_rfl) (fun w hw => checkNet_c A A2 c c2 names es hn hm hs w (hw.rdm (Rd.toS hr) memQ) (hw.rdm (Rd.toS hr2) memQ)) ?_
 | (refine S_callM (f := 103) rfl obQ (by kernel_rfl) (fun w hw => longest_c A A2 c c2 names.length es 0 ok.n0 (by have := ok.n; omega) (by have := ok.m; omega) ok.e w (hw.rdm (Rd.toS hr2) memQ)) (fun w1L w2L vL hw1L hbL hRL => ?_); obtain ⟨AL, cL, rfl, hSL⟩ := hRL)
       )
 | (refine G_id ?_; first
 | refine G_then ?_
 | refine G_thenR ?_
 | refine G_ret rfl obQ (fun w2 hw => ⟨_, rfl, hw.below, Sl.two (v := .slice none 0 0) (by rw [hR]; exact Sl.nil_ _ _) (by rw [hR])⟩)
       )
       )
    · have hR : planR names es = ((longW es names.length 0).1.map (·.S), 0) := by unfold planR; rw [if_neg (by simp [h0]), if_neg h1]
      repeat' (first
 | (refine C_id ?_; first
 | refine C_seq ?_
 | refine C_region rfl ?_
 | refine C_skip ?_
 | refine C_ret0 ?_
 | (refine C_cond rfl obQ (fun h => ?_) (fun h => ?_) <;> (try simp only [Bool.or_eq_true, Bool.and_eq_true, Bool.or_eq_false_iff, Bool.and_eq_false_iff, decide_eq_true_eq, decide_eq_false_iff_not, beq_iff_eq, bne_iff_ne, beq_eq_false_iff_ne, bne_eq_false_iff_eq, ne_eq, Decidable.not_not, List.cons.injEq, and_true, Bool.not_eq_true', Bool.not_eq_false', Int.not_lt, Int.not_le] at h) <;> (try (exfalso; omega)))
       )
 | (refine S_id ?_; first
 | refine S_nil ?_
 | refine S_run rfl rfl obQ obQ ?_
 | refine S_box (fun b => ⟨_, _, rfl, obQ, ?_⟩)
 | refine S_call (f := 61) rfl obQ (by kernel_rfl) (fun w hw => checkNet_c A A2 c c2 names es hn hm hs w (hw.rdm (Rd.toS hr) memQ) (hw.rdm (Rd.toS hr2) memQ)) ?_
 | (refine S_callM (f := 103) rfl obQ (by kernel_rfl) (fun w hw => longest_c A A2 c c2 names.length es 0 ok.n0 (by have := ok.n; omega) (by have := ok.m; omega) ok.e w (hw.rdm (Rd.toS hr2) memQ)) (fun w1L w2L vL hw1L hbL hRL => ?_); obtain ⟨AL, cL, rfl, hSL⟩ := hRL)
 | (refine S_callM (f := 104) rfl obQ (by kernel_rfl) (fun w hw => mappedSIn_c 105 (g := fun s => s.S) AL cL names.length (longW es names.length 0).1 hL (by have := ok.n; omega) (by kernel_rfl) w (hw.rdm hSL memQ) (fun x hx W hW => plan1_c x W)) (fun w1M w2M vM hw1M hbM hRM => ?_); obtain ⟨AM, cM, rfl, hSM⟩ := hRM)
       )
 | (refine G_id ?_; first
 | refine G_then ?_
 | refine G_ret rfl obQ (fun w2 hw => ⟨_, rfl, hw.below, Sl.two (v := .slice AM names.length cM) (by rw [hR]; simp only [List.length_map, hL, List.map_map]; exact HW.callSl hw hSM memQ hw1M.bsize) (by rw [hR])⟩)
       )
       )
  · have hR : planR names es = ([], netF names es) := by unfold planR; rw [if_pos h0]
    repeat' (first
 | (refine C_id ?_; first
 | refine C_seq ?_
 | refine C_region rfl ?_
 | refine C_skip ?_
 | refine C_ret0 ?_
 | (refine C_cond rfl obQ (fun h => ?_) (fun h => ?_) <;> (try simp only [Bool.or_eq_true, Bool.and_eq_true, Bool.or_eq_false_iff, Bool.and_eq_false_iff, decide_eq_true_eq, decide_eq_false_iff_not, beq_iff_eq, bne_iff_ne, beq_eq_false_iff_ne, bne_eq_false_iff_eq, ne_eq, Decidable.not_not, List.cons.injEq, and_true, Bool.not_eq_true', Bool.not_eq_false', Int.not_lt, Int.not_le] at h) <;> (try (exfalso; omega)))
     )
 | (refine S_id ?_; first
 | refine S_nil ?_
 | refine S_run rfl rfl obQ obQ ?_
 | refine S_box (fun b => ⟨_, _, rfl, obQ, ?_⟩)
 | refine S_call (f := 61) rfl obQ (by kernel_rfl) (fun w hw => checkNet_c A A2 c c2 names es hn hm hs w (hw.rdm (Rd.toS hr) memQ) (hw.rdm (Rd.toS hr2) memQ)) ?_
 | (refine S_callM (f := 103) rfl obQ (by kernel_rfl) (fun w hw => longest_c A A2 c c2 names.length es 0 ok.n0 (by have := ok.n; omega) (by have := ok.m; omega) ok.e w (hw.rdm (Rd.toS hr2) memQ)) (fun w1L w2L vL hw1L hbL hRL => ?_); obtain ⟨AL, cL, rfl, hSL⟩ := hRL)
     )
 | (refine G_id ?_; first
 | refine G_then ?_
 | refine G_thenR ?_
 | refine G_ret rfl obQ (fun w2 hw => ⟨_, rfl, hw.below, Sl.two (v := .slice none 0 0) (by rw [hR]; exact Sl.nil_ _ _) (by rw [hR])⟩)
     )
     )

end Go.Proofs.YtmfophoejjcnlaaGreatDoor
