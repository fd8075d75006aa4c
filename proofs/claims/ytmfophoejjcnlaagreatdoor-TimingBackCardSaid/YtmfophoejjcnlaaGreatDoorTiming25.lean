/- The window of a node. -/
import Derived.Test.YtmfophoejjcnlaaGreatDoorTiming24
namespace Go.Proofs.YtmfophoejjcnlaaGreatDoor
open Go.E Go.RowKit
attribute [local irreducible] G C S D Calls
set_option maxRecDepth 100000
set_option linter.unusedSimpArgs false
set_option linter.unusedVariables false

/-- The error of a node of a net. -/
def windowE (names : List ByteArray) (es : List Edg) (i : Int) : Int := firstL [netF names es, wh (decide (i < 0) || decide ((names.length : Int) ≤ i)) 10]
def windowR (names : List ByteArray) (es : List Edg) (i : Int) : Int × Int × Int :=
  if ¬ windowE names es i = 0 then (0, 0, windowE names es i) else if 0 ≤ (longW es names.length 0).2 then (0, 0, 18)
  else if (gS (longW es names.length i.toNat).1 0).R = false then (0, 0, 32) else ((gS (longW es names.length 0).1 i.toNat).S, IntKind.i64.wrap (0 - (gS (longW es names.length i.toNat).1 0).S), 0)
theorem windowE_ok {names : List ByteArray} {es : List Edg} {i : Int} (h : windowE names es i = 0) : netF names es = 0 ∧ 0 ≤ i ∧ i < names.length := by
  unfold windowE at h
  rw [firstL_zero] at h
  simp only [List.mem_cons, List.mem_nil_iff, or_false, forall_eq_or_imp, forall_eq, wh_zero (show (10 : Int) ≠ 0 by omega), Bool.or_eq_false_iff, decide_eq_false_iff_not] at h
  omega
theorem ret3 {a b c : Int} {q : Int × Int × Int} (h : q = (a, b, c)) : Ending.returned (.tuple #[.agg #[.int .i64 a, .int .i64 b], .int .i64 c]) = Ending.returned (.tuple #[.agg #[.int .i64 q.1, .int .i64 q.2.1], .int .i64 q.2.2]) := by subst h; rfl

set_option maxHeartbeats 400000 in
/-- timing.Window -/
theorem window_c (A A2 : Option Addr) (c c2 : Nat) (names : List ByteArray) (es : List Edg) (i : Int) (hn : names.length ≤ 1000000) (hm : es.length ≤ 1000000) (hs : ∀ s ∈ names, s.size ≤ maxLen) (w : World) (hr : Rd w A (names.map .string)) (hr2 : Rd w A2 (es.flatMap edC)) : Calls Tryz.prog 54 #[.agg #[.slice A names.length c, .slice A2 es.length c2], .int .i64 i] w fun r w' => r = .returned (.tuple #[.agg #[.int .i64 (windowR names es i).1, .int .i64 (windowR names es i).2.1], .int .i64 (windowR names es i).2.2]) ∧ Below w.heap.size w w' := by
  refine calls_of (args := [.agg #[.slice A names.length c, .slice A2 es.length c2], .int .i64 i]) T_ok Tryz.func54 rfl Tryz.ntmps54 (Nat.le_of_ble_eq_true rfl) rfl ?_
  by_cases h0 : windowE names es i = 0
  · obtain ⟨hN, hi0, hi1⟩ := windowE_ok h0
    have ok := netF_ok hN
    have hE : firstL [netF names es, wh (decide (i < 0) || decide ((names.length : Int) ≤ i)) 10] = 0 := h0
    obtain ⟨f, rfl⟩ := toNat_eq hi0
    have hf : f < names.length := by omega
    have hk0 : 0 < (longW es names.length f).1.length := by rw [longW_len]; exact ok.n0
    have hkf : f < (longW es names.length 0).1.length := by rw [longW_len]; exact hf
    by_cases h1 : 0 ≤ (longW es names.length 0).2
    · have hR : windowR names es (f : Int) = (0, 0, 18) := by unfold windowR; rw [if_neg (by simp [h0]), if_pos h1]
      repeat' (first
 | (refine C_id ?_; first
 | refine C_seq ?_
 | refine C_region rfl ?_
 | refine C_skip ?_
 | refine C_ret0 ?_
 | refine C_drawT (id := 10) 11 rfl mixed (by kernel_rfl) rfl rfl ?_
 | (refine C_cond rfl obQ (fun h => ?_) (fun h => ?_) <;> (try simp only [Bool.or_eq_true, Bool.and_eq_true, Bool.or_eq_false_iff, Bool.and_eq_false_iff, decide_eq_true_eq, decide_eq_false_iff_not, beq_iff_eq, bne_iff_ne, beq_eq_false_iff_ne, bne_eq_false_iff_eq, ne_eq, Decidable.not_not, List.cons.injEq, and_true, Bool.not_eq_true', Bool.not_eq_false', Int.not_lt, Int.not_le] at h) <;> (try (exfalso; omega)))
       )
 | (refine S_id ?_; first
 | (refine S_callM rfl obQ (by kernel_rfl) (fun w hw => longest_c A A2 c c2 names.length es 0 ok.n0 (by have := ok.n; omega) (by have := ok.m; omega) ok.e w (hw.rdm (Rd.toS hr2) memQ)) (fun w1L w2L vL hw1L hbL hRL => ?_); obtain ⟨AL, cL, rfl, hSL⟩ := hRL; obtain ⟨adL, rfl⟩ := hSL.rd.some (by rw [flat_len (f := seC) (s := 5) _ (fun _ _ => rfl), longW_len]; have := ok.n0; omega))
 | (refine S_callM rfl obQ (by kernel_rfl) (fun w hw => longest_c A A2 c c2 names.length es f hf (by have := ok.n; omega) (by have := ok.m; omega) ok.e w (hw.rdm (Rd.toS hr2) memQ)) (fun w1K w2K vK hw1K hbK hRK => ?_); obtain ⟨AK, cK, rfl, hSK⟩ := hRK; obtain ⟨adK, rfl⟩ := hSK.rd.some (by rw [flat_len (f := seC) (s := 5) _ (fun _ _ => rfl), longW_len]; have := ok.n0; omega))
 | refine S_load rfl obQ rfl [.bool (gS (longW es names.length f).1 0).R] (.past (w2K, fun b => w1K.heap.size ≤ b ∧ b < w2K.heap.size) memQ _ _ hSK (((0 : Nat) : Int).toNat * 5 + 4) _ rfl (add_of_add _ _ _) (row_gS hk0 4 rfl)) rfl (.inr ⟨rfl, rfl⟩) ?_
 | refine S_nil ?_
 | refine S_run rfl rfl obQ obQ ?_
 | refine S_box (fun b => ⟨_, _, rfl, obQ, ?_⟩)
 | refine S_slice (fun b => ⟨_, _, rfl, obQ, ?_⟩)
 | refine S_call (f := 61) rfl obQ (by kernel_rfl) (fun w hw => checkNet_c A A2 c c2 names es hn hm hs w (hw.rdm (Rd.toS hr) memQ) (hw.rdm (Rd.toS hr2) memQ)) ?_
 | refine S_call (f := 99) rfl obQ (by kernel_rfl) (fun w hw => when_c _ _ w) ?_
 | refine S_call (f := 87) rfl obQ (by kernel_rfl) (fun w hw => first_c _ _ [netF names es, wh (decide (_ < 0) || decide ((names.length : Int) ≤ _)) 10] (by simp) w (.inr ⟨_, rfl, hw.src (i := 2) rfl rfl⟩)) ?_
       )
 | (refine D_id ?_; first
 | refine D_load rfl obQ rfl [.int .i64 (gS (longW es names.length 0).1 f).S] (.past (w2L, fun b => w1L.heap.size ≤ b ∧ b < w2L.heap.size) memQ _ _ hSL (((f : Nat) : Int).toNat * 5 + 3) _ rfl (add_of_add _ _ _) (row_gS hkf 3 rfl)) rfl (.inr ⟨rfl, rfl⟩) ?_
 | refine D_load rfl obQ rfl [.int .i64 (gS (longW es names.length f).1 0).S] (.past (w2K, fun b => w1K.heap.size ≤ b ∧ b < w2K.heap.size) memQ _ _ hSK (((0 : Nat) : Int).toNat * 5 + 3) _ rfl (add_of_add _ _ _) (row_gS hk0 3 rfl)) rfl (.inr ⟨rfl, rfl⟩) ?_
 | refine D_pure (neg_pure rfl obQ) ?_
 | refine D_tail ?_
 | refine D_run rfl rfl obQ obQ ?_
       )
 | (refine G_id ?_; first
 | refine G_then ?_
 | refine G_thenR ?_
 | refine G_ret rfl obQ (fun w hw => ⟨?_, hw.below⟩)
       )
       )
      all_goals first | exact ret3 hR | contradiction | (exfalso; simp_all)
    · cases hb : (gS (longW es names.length f).1 0).R
      · have hR : windowR names es (f : Int) = (0, 0, 32) := by unfold windowR; rw [if_neg (by simp [h0]), if_neg h1, if_pos (by simpa using hb)]
        repeat' (first
 | (refine C_id ?_; first
 | refine C_seq ?_
 | refine C_region rfl ?_
 | refine C_skip ?_
 | refine C_ret0 ?_
 | refine C_drawT (id := 10) 11 rfl mixed (by kernel_rfl) rfl rfl ?_
 | (refine C_cond rfl obQ (fun h => ?_) (fun h => ?_) <;> (try simp only [Bool.or_eq_true, Bool.and_eq_true, Bool.or_eq_false_iff, Bool.and_eq_false_iff, decide_eq_true_eq, decide_eq_false_iff_not, beq_iff_eq, bne_iff_ne, beq_eq_false_iff_ne, bne_eq_false_iff_eq, ne_eq, Decidable.not_not, List.cons.injEq, and_true, Bool.not_eq_true', Bool.not_eq_false', Int.not_lt, Int.not_le] at h) <;> (try (exfalso; omega)))
         )
 | (refine S_id ?_; first
 | (refine S_callM rfl obQ (by kernel_rfl) (fun w hw => longest_c A A2 c c2 names.length es 0 ok.n0 (by have := ok.n; omega) (by have := ok.m; omega) ok.e w (hw.rdm (Rd.toS hr2) memQ)) (fun w1L w2L vL hw1L hbL hRL => ?_); obtain ⟨AL, cL, rfl, hSL⟩ := hRL; obtain ⟨adL, rfl⟩ := hSL.rd.some (by rw [flat_len (f := seC) (s := 5) _ (fun _ _ => rfl), longW_len]; have := ok.n0; omega))
 | (refine S_callM rfl obQ (by kernel_rfl) (fun w hw => longest_c A A2 c c2 names.length es f hf (by have := ok.n; omega) (by have := ok.m; omega) ok.e w (hw.rdm (Rd.toS hr2) memQ)) (fun w1K w2K vK hw1K hbK hRK => ?_); obtain ⟨AK, cK, rfl, hSK⟩ := hRK; obtain ⟨adK, rfl⟩ := hSK.rd.some (by rw [flat_len (f := seC) (s := 5) _ (fun _ _ => rfl), longW_len]; have := ok.n0; omega))
 | refine S_load rfl obQ rfl [.bool (gS (longW es names.length f).1 0).R] (.past (w2K, fun b => w1K.heap.size ≤ b ∧ b < w2K.heap.size) memQ _ _ hSK (((0 : Nat) : Int).toNat * 5 + 4) _ rfl (add_of_add _ _ _) (row_gS hk0 4 rfl)) rfl (.inr ⟨rfl, rfl⟩) ?_
 | refine S_nil ?_
 | refine S_run rfl rfl obQ obQ ?_
 | refine S_box (fun b => ⟨_, _, rfl, obQ, ?_⟩)
 | refine S_slice (fun b => ⟨_, _, rfl, obQ, ?_⟩)
 | refine S_call (f := 61) rfl obQ (by kernel_rfl) (fun w hw => checkNet_c A A2 c c2 names es hn hm hs w (hw.rdm (Rd.toS hr) memQ) (hw.rdm (Rd.toS hr2) memQ)) ?_
 | refine S_call (f := 99) rfl obQ (by kernel_rfl) (fun w hw => when_c _ _ w) ?_
 | refine S_call (f := 87) rfl obQ (by kernel_rfl) (fun w hw => first_c _ _ [netF names es, wh (decide (_ < 0) || decide ((names.length : Int) ≤ _)) 10] (by simp) w (.inr ⟨_, rfl, hw.src (i := 2) rfl rfl⟩)) ?_
         )
 | (refine D_id ?_; first
 | refine D_load rfl obQ rfl [.int .i64 (gS (longW es names.length 0).1 f).S] (.past (w2L, fun b => w1L.heap.size ≤ b ∧ b < w2L.heap.size) memQ _ _ hSL (((f : Nat) : Int).toNat * 5 + 3) _ rfl (add_of_add _ _ _) (row_gS hkf 3 rfl)) rfl (.inr ⟨rfl, rfl⟩) ?_
 | refine D_load rfl obQ rfl [.int .i64 (gS (longW es names.length f).1 0).S] (.past (w2K, fun b => w1K.heap.size ≤ b ∧ b < w2K.heap.size) memQ _ _ hSK (((0 : Nat) : Int).toNat * 5 + 3) _ rfl (add_of_add _ _ _) (row_gS hk0 3 rfl)) rfl (.inr ⟨rfl, rfl⟩) ?_
 | refine D_pure (neg_pure rfl obQ) ?_
 | refine D_tail ?_
 | refine D_run rfl rfl obQ obQ ?_
         )
 | (refine G_id ?_; first
 | refine G_then ?_
 | refine G_thenR ?_
 | refine G_ret rfl obQ (fun w hw => ⟨?_, hw.below⟩)
         )
         )
        all_goals first | exact ret3 hR | contradiction | (exfalso; simp_all)
      · have hR : windowR names es (f : Int) = ((gS (longW es names.length 0).1 f).S, IntKind.i64.wrap (0 - (gS (longW es names.length f).1 0).S), 0) := by unfold windowR; rw [if_neg (by simp [h0]), if_neg h1, if_neg (by simp [hb])]; rfl
        repeat' (first
 | (refine C_id ?_; first
 | refine C_seq ?_
 | refine C_region rfl ?_
 | refine C_skip ?_
 | refine C_ret0 ?_
 | refine C_drawT (id := 10) 11 rfl mixed (by kernel_rfl) rfl rfl ?_
 | (refine C_cond rfl obQ (fun h => ?_) (fun h => ?_) <;> (try simp only [Bool.or_eq_true, Bool.and_eq_true, Bool.or_eq_false_iff, Bool.and_eq_false_iff, decide_eq_true_eq, decide_eq_false_iff_not, beq_iff_eq, bne_iff_ne, beq_eq_false_iff_ne, bne_eq_false_iff_eq, ne_eq, Decidable.not_not, List.cons.injEq, and_true, Bool.not_eq_true', Bool.not_eq_false', Int.not_lt, Int.not_le] at h) <;> (try (exfalso; omega)))
         )
 | (refine S_id ?_; first
 | (refine S_callM rfl obQ (by kernel_rfl) (fun w hw => longest_c A A2 c c2 names.length es 0 ok.n0 (by have := ok.n; omega) (by have := ok.m; omega) ok.e w (hw.rdm (Rd.toS hr2) memQ)) (fun w1L w2L vL hw1L hbL hRL => ?_); obtain ⟨AL, cL, rfl, hSL⟩ := hRL; obtain ⟨adL, rfl⟩ := hSL.rd.some (by rw [flat_len (f := seC) (s := 5) _ (fun _ _ => rfl), longW_len]; have := ok.n0; omega))
 | (refine S_callM rfl obQ (by kernel_rfl) (fun w hw => longest_c A A2 c c2 names.length es f hf (by have := ok.n; omega) (by have := ok.m; omega) ok.e w (hw.rdm (Rd.toS hr2) memQ)) (fun w1K w2K vK hw1K hbK hRK => ?_); obtain ⟨AK, cK, rfl, hSK⟩ := hRK; obtain ⟨adK, rfl⟩ := hSK.rd.some (by rw [flat_len (f := seC) (s := 5) _ (fun _ _ => rfl), longW_len]; have := ok.n0; omega))
 | refine S_load rfl obQ rfl [.bool (gS (longW es names.length f).1 0).R] (.past (w2K, fun b => w1K.heap.size ≤ b ∧ b < w2K.heap.size) memQ _ _ hSK (((0 : Nat) : Int).toNat * 5 + 4) _ rfl (add_of_add _ _ _) (row_gS hk0 4 rfl)) rfl (.inr ⟨rfl, rfl⟩) ?_
 | refine S_nil ?_
 | refine S_run rfl rfl obQ obQ ?_
 | refine S_box (fun b => ⟨_, _, rfl, obQ, ?_⟩)
 | refine S_slice (fun b => ⟨_, _, rfl, obQ, ?_⟩)
 | refine S_call (f := 61) rfl obQ (by kernel_rfl) (fun w hw => checkNet_c A A2 c c2 names es hn hm hs w (hw.rdm (Rd.toS hr) memQ) (hw.rdm (Rd.toS hr2) memQ)) ?_
 | refine S_call (f := 99) rfl obQ (by kernel_rfl) (fun w hw => when_c _ _ w) ?_
 | refine S_call (f := 87) rfl obQ (by kernel_rfl) (fun w hw => first_c _ _ [netF names es, wh (decide (_ < 0) || decide ((names.length : Int) ≤ _)) 10] (by simp) w (.inr ⟨_, rfl, hw.src (i := 2) rfl rfl⟩)) ?_
         )
 | (refine D_id ?_; first
 | refine D_load rfl obQ rfl [.int .i64 (gS (longW es names.length 0).1 f).S] (.past (w2L, fun b => w1L.heap.size ≤ b ∧ b < w2L.heap.size) memQ _ _ hSL (((f : Nat) : Int).toNat * 5 + 3) _ rfl (add_of_add _ _ _) (row_gS hkf 3 rfl)) rfl (.inr ⟨rfl, rfl⟩) ?_
 | refine D_load rfl obQ rfl [.int .i64 (gS (longW es names.length f).1 0).S] (.past (w2K, fun b => w1K.heap.size ≤ b ∧ b < w2K.heap.size) memQ _ _ hSK (((0 : Nat) : Int).toNat * 5 + 3) _ rfl (add_of_add _ _ _) (row_gS hk0 3 rfl)) rfl (.inr ⟨rfl, rfl⟩) ?_
 | refine D_pure (neg_pure rfl obQ) ?_
 | refine D_tail ?_
 | refine D_run rfl rfl obQ obQ ?_
         )
 | (refine G_id ?_; first
 | refine G_then ?_
 | refine G_thenR ?_
 | refine G_ret rfl obQ (fun w hw => ⟨?_, hw.below⟩)
         )
         )
        all_goals first | exact ret3 hR | contradiction | (exfalso; simp_all)
  · have hE : ¬ firstL [netF names es, wh (decide (i < 0) || decide ((names.length : Int) ≤ i)) 10] = 0 := h0
    have hR : windowR names es i = (0, 0, windowE names es i) := by unfold windowR; rw [if_pos h0]
    repeat' (first
 | (refine C_id ?_; first
 | refine C_seq ?_
 | refine C_region rfl ?_
 | refine C_skip ?_
 | refine C_ret0 ?_
 | refine C_drawT (id := 10) 11 rfl mixed (by kernel_rfl) rfl rfl ?_
 | (refine C_cond rfl obQ (fun h => ?_) (fun h => ?_) <;> (try simp only [Bool.or_eq_true, Bool.and_eq_true, Bool.or_eq_false_iff, Bool.and_eq_false_iff, decide_eq_true_eq, decide_eq_false_iff_not, beq_iff_eq, bne_iff_ne, beq_eq_false_iff_ne, bne_eq_false_iff_eq, ne_eq, Decidable.not_not, List.cons.injEq, and_true, Bool.not_eq_true', Bool.not_eq_false', Int.not_lt, Int.not_le] at h) <;> (try (exfalso; omega)))
     )
 | (refine S_id ?_; first
 | (refine S_callM rfl obQ (by kernel_rfl) (fun w hw => longest_c A A2 c c2 names.length es 0 ok.n0 (by have := ok.n; omega) (by have := ok.m; omega) ok.e w (hw.rdm (Rd.toS hr2) memQ)) (fun w1L w2L vL hw1L hbL hRL => ?_); obtain ⟨AL, cL, rfl, hSL⟩ := hRL; obtain ⟨adL, rfl⟩ := hSL.rd.some (by rw [flat_len (f := seC) (s := 5) _ (fun _ _ => rfl), longW_len]; have := ok.n0; omega))
 | (refine S_callM rfl obQ (by kernel_rfl) (fun w hw => longest_c A A2 c c2 names.length es f hf (by have := ok.n; omega) (by have := ok.m; omega) ok.e w (hw.rdm (Rd.toS hr2) memQ)) (fun w1K w2K vK hw1K hbK hRK => ?_); obtain ⟨AK, cK, rfl, hSK⟩ := hRK; obtain ⟨adK, rfl⟩ := hSK.rd.some (by rw [flat_len (f := seC) (s := 5) _ (fun _ _ => rfl), longW_len]; have := ok.n0; omega))
 | refine S_load rfl obQ rfl [.bool (gS (longW es names.length f).1 0).R] (.past (w2K, fun b => w1K.heap.size ≤ b ∧ b < w2K.heap.size) memQ _ _ hSK (((0 : Nat) : Int).toNat * 5 + 4) _ rfl (add_of_add _ _ _) (row_gS hk0 4 rfl)) rfl (.inr ⟨rfl, rfl⟩) ?_
 | refine S_nil ?_
 | refine S_run rfl rfl obQ obQ ?_
 | refine S_box (fun b => ⟨_, _, rfl, obQ, ?_⟩)
 | refine S_slice (fun b => ⟨_, _, rfl, obQ, ?_⟩)
 | refine S_call (f := 61) rfl obQ (by kernel_rfl) (fun w hw => checkNet_c A A2 c c2 names es hn hm hs w (hw.rdm (Rd.toS hr) memQ) (hw.rdm (Rd.toS hr2) memQ)) ?_
 | refine S_call (f := 99) rfl obQ (by kernel_rfl) (fun w hw => when_c _ _ w) ?_
 | refine S_call (f := 87) rfl obQ (by kernel_rfl) (fun w hw => first_c _ _ [netF names es, wh (decide (_ < 0) || decide ((names.length : Int) ≤ _)) 10] (by simp) w (.inr ⟨_, rfl, hw.src (i := 2) rfl rfl⟩)) ?_
     )
 | (refine D_id ?_; first
 | refine D_load rfl obQ rfl [.int .i64 (gS (longW es names.length 0).1 f).S] (.past (w2L, fun b => w1L.heap.size ≤ b ∧ b < w2L.heap.size) memQ _ _ hSL (((f : Nat) : Int).toNat * 5 + 3) _ rfl (add_of_add _ _ _) (row_gS hkf 3 rfl)) rfl (.inr ⟨rfl, rfl⟩) ?_
 | refine D_load rfl obQ rfl [.int .i64 (gS (longW es names.length f).1 0).S] (.past (w2K, fun b => w1K.heap.size ≤ b ∧ b < w2K.heap.size) memQ _ _ hSK (((0 : Nat) : Int).toNat * 5 + 3) _ rfl (add_of_add _ _ _) (row_gS hk0 3 rfl)) rfl (.inr ⟨rfl, rfl⟩) ?_
 | refine D_pure (neg_pure rfl obQ) ?_
 | refine D_tail ?_
 | refine D_run rfl rfl obQ obQ ?_
     )
 | (refine G_id ?_; first
 | refine G_then ?_
 | refine G_thenR ?_
 | refine G_ret rfl obQ (fun w hw => ⟨?_, hw.below⟩)
     )
     )
    all_goals first | exact ret3 hR | contradiction | (exfalso; simp_all)

end Go.Proofs.YtmfophoejjcnlaaGreatDoor
