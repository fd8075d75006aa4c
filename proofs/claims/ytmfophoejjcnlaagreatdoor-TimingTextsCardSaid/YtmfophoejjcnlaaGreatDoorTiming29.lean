/- Loops that prove that there is no plan. -/
import Derived.Test.YtmfophoejjcnlaaGreatDoorTiming28
namespace Go.Proofs.YtmfophoejjcnlaaGreatDoor
open Go.E Go.RowKit
attribute [local irreducible] G C S D Calls
set_option maxRecDepth 100000
set_option linter.unusedSimpArgs false
set_option linter.unusedVariables false

def walkW (es : List Edg) : List Arc → Int → Int → Int
  | [], s, _ => wh (decide (s ≤ 0)) 19
  | a :: r, s, t => if (endsF es a).1 ≠ t then 11 else walkW es r (IntKind.i64.wrap (s + boundF es a)) (endsF es a).2
def lastA (l : List Arc) : Arc := l.getD (l.length - 1) ⟨0, false, 0⟩
def loopE1 (names : List ByteArray) (es : List Edg) (l : List Arc) : Int := firstL [netF names es, wh ((l.length : Int) == 0) 12, wh (decide (64 < (l.length : Int))) 5]
def loopE2 (nn m : Nat) (l : List Arc) : Int := firstL (l.map (arcF nn m))
/-- The error of a loop. -/
def loopE (names : List ByteArray) (es : List Edg) (l : List Arc) : Int :=
  if ¬ loopE1 names es l = 0 then loopE1 names es l else if ¬ loopE2 names.length es.length l = 0 then loopE2 names.length es.length l else walkW es l 0 (endsF es (lastA l)).2
theorem loopE1_ok {names : List ByteArray} {es : List Edg} {l : List Arc} (h : loopE1 names es l = 0) : netF names es = 0 ∧ 0 < l.length ∧ l.length ≤ 64 := by
  unfold loopE1 at h
  rw [firstL_zero] at h
  simp only [List.mem_cons, List.mem_nil_iff, or_false, forall_eq_or_imp, forall_eq, wh_zero (show (12 : Int) ≠ 0 by omega), wh_zero (show (5 : Int) ≠ 0 by omega), decide_eq_false_iff_not, beq_eq_false_iff_ne, ne_eq] at h
  omega
theorem loopE2_ok {nn m : Nat} {l : List Arc} (h : loopE2 nn m l = 0) : ∀ a ∈ l, arO m nn a := by
  unfold loopE2 at h
  rw [firstL_zero] at h
  exact fun a ha => (arcF_ok (h _ (List.mem_map.2 ⟨a, ha, rfl⟩))).1
theorem last_at {l : List Arc} (h : 0 < l.length) : ∀ (j : Nat) (u : Value), ([.int .i64 (lastA l).E, .bool (lastA l).B, .int .i64 (lastA l).N] : List Value)[j]? = some u → (l.flatMap arC)[((l.length : Int) - 1).toNat * 3 + j]? = some u := by
  have hk : l.length - 1 < l.length := by omega
  have e : lastA l = l[l.length - 1] := by simp [lastA, hk]
  rw [e, show ((l.length : Int) - 1).toNat = ((l.length - 1 : Nat) : Int).toNat by omega]
  exact idxS (f := arC) (fun _ => rfl) hk
theorem lastA_mem {l : List Arc} (h : 0 < l.length) : lastA l ∈ l := by
  have hk : l.length - 1 < l.length := by omega
  have e : lastA l = l[l.length - 1] := by simp [lastA, hk]
  rw [e]
  exact List.getElem_mem hk
theorem walkW_drop {es : List Edg} {l : List Arc} {k : Nat} (h : k < l.length) (s t : Int) : walkW es (l.drop k) s t = if (endsF es l[k]).1 ≠ t then 11 else walkW es (l.drop (k + 1)) (IntKind.i64.wrap (s + boundF es l[k])) (endsF es l[k]).2 := by
  rw [List.drop_eq_getElem_cons h]
  rfl

set_option maxHeartbeats 1000000 in
/-- timing.CheckLoop -/
theorem checkLoop_c (A A2 B : Option Addr) (c c2 c3 : Nat) (names : List ByteArray) (es : List Edg) (l : List Arc) (hn : names.length ≤ 1000000) (hm : es.length ≤ 1000000) (hs : ∀ s ∈ names, s.size ≤ maxLen) (hl : l.length ≤ 1000000) (w : World) (hr : Rd w A (names.map .string)) (hr2 : Rd w A2 (es.flatMap edC)) (hr3 : Rd w B (l.flatMap arC)) : Calls Tryz.prog 69 #[.agg #[.slice A names.length c, .slice A2 es.length c2], .slice B l.length c3] w fun r w' => r = .returned (.int .i64 (loopE names es l)) ∧ Below w.heap.size w w' := by
  refine calls_of (args := [.agg #[.slice A names.length c, .slice A2 es.length c2], .slice B l.length c3]) T_ok Tryz.func69 rfl Tryz.ntmps69 (Nat.le_of_ble_eq_true rfl) rfl ?_
  by_cases h1 : loopE1 names es l = 0
  · have h1' : firstL [netF names es, wh ((l.length : Int) == 0) 12, wh (decide (64 < (l.length : Int))) 5] = 0 := h1
    obtain ⟨hN, hl0, hl64⟩ := loopE1_ok h1
    have ok := netF_ok hN
    by_cases h2 : loopE2 names.length es.length l = 0
    · have h2' : firstL (l.map (arcF names.length es.length)) = 0 := h2
      have hao := loopE2_ok h2
      have hEb : ∀ e ∈ es, -9223372036854775807 ≤ e.H ∧ e.H ≤ 9223372036854775807 := fun e he => by have := (ok.e e he).H; omega
      have hR : loopE names es l = walkW es l 0 (endsF es (lastA l)).2 := by unfold loopE; rw [if_neg (by simp [h1]), if_neg (by simp [h2])]
      rw [hR]
      obtain ⟨ad, rfl⟩ := hr3.some (by rw [flat_len (f := arC) (s := 3) l (fun _ _ => rfl)]; omega)
      repeat' (first
 | (refine C_id ?_; first
 | refine C_seq ?_
 | refine C_region rfl ?_
 | refine C_block ?_
 | refine C_skip ?_
 | refine C_draw (id := 7) rfl mixed (by kernel_rfl) ?_
 | (refine C_cond rfl obQ (fun h => ?_) (fun h => ?_) <;> (try simp only [Bool.or_eq_true, Bool.and_eq_true, Bool.or_eq_false_iff, Bool.and_eq_false_iff, decide_eq_true_eq, decide_eq_false_iff_not, beq_iff_eq, bne_iff_ne, beq_eq_false_iff_ne, bne_eq_false_iff_eq, ne_eq, Decidable.not_not, List.cons.injEq, and_true, Bool.not_eq_true', Bool.not_eq_false', Int.not_lt, Int.not_le] at h) <;> (try (exfalso; omega)) <;> (try (exfalso; simp at h; done)) <;> (try (exfalso; simp only [not_true_eq_false, false_or, or_false] at h; omega)) <;> (try contradiction))
       )
 | (refine S_id ?_; first
 | refine S_nil ?_
 | refine S_run rfl rfl obQ obQ ?_
 | refine S_box (fun b0 => ⟨_, _, rfl, obQ, ?_⟩)
 | refine S_slice (fun b => ⟨_, _, rfl, obQ, ?_⟩)
 | refine S_call (f := 61) rfl obQ (by kernel_rfl) (fun w hw => checkNet_c A A2 c c2 names es hn hm hs w (hw.rdm (Rd.toS hr) memQ) (hw.rdm (Rd.toS hr2) memQ)) ?_
 | refine S_call (f := 99) rfl obQ (by kernel_rfl) (fun w hw => when_c _ _ w) ?_
 | refine S_call (f := 87) rfl obQ (by kernel_rfl) (fun w hw => first_c _ _ [netF names es, wh ((l.length : Int) == 0) 12, wh (decide (64 < (l.length : Int))) 5] (by simp) w (.inr ⟨_, rfl, hw.src (i := 1) rfl rfl⟩)) ?_
 | refine S_call (f := 87) rfl obQ (by kernel_rfl) (fun w hw => firstM_c _ _ (arcF names.length es.length) l hl w (hw.rdm hSM memQ)) ?_
 | (refine S_callM (f := 121) rfl obQ (by kernel_rfl) (fun w hw => mappedAE_c 122 (.agg #[.slice A names.length c, .slice A2 es.length c2]) (g := arcF names.length es.length) _ c3 l hl (by kernel_rfl) w (hw.rdm (Rd.toS hr3) memQ) (fun x hx W hW => checkArc_c A A2 c c2 names.length es.length x W)) (fun w1M w2M vM hw1M hbM hRM => ?_); obtain ⟨AM, cM, rfl, hSM⟩ := hRM)
       )
 | (refine D_id ?_; first
 | refine D_load rfl obQ rfl [.int .i64 (lastA l).E, .bool (lastA l).B, .int .i64 (lastA l).N] (.past (w, fun b => b < w.heap.size) memQ _ _ hr3.toS _ _ rfl rfl (last_at hl0)) rfl (.inl ⟨rfl, rfl⟩) ?_
 | refine D_nil ?_
 | refine D_run rfl rfl obQ obQ ?_
 | refine D_call (f := 119) rfl obQ (by kernel_rfl) (fun w hw => ends_c A A2 c c2 names.length es (lastA l) hm (hao _ (lastA_mem hl0)).1 w (hw.rdm (Rd.toS hr2) memQ)) ?_
       )
 | (refine G_id ?_; first
 | refine G_then ?_
       )
       )
      refine C_loopS (fun i : Nat × Int × Int => ⟨[(46, .s (.v (.int .i64 i.1))), (45, .s (.v (.int .i64 l.length))), (44, .s (.v (.slice (some ad) l.length c3))), (2, .s (.p b0 0 0)), (7, .s (.v (.int .i64 i.2.1))), (8, .s (.v (.int .i64 i.2.2)))], [⟨b0, 89, [.v (.slice A names.length c), .v (.slice A2 es.length c2)]⟩], []⟩) (fun i => i.1 ≤ l.length ∧ walkW es l 0 (endsF es (lastA l)).2 = walkW es (l.drop i.1) i.2.1 i.2.2) (fun i => l.length - i.1) (0, 0, (endsF es (lastA l)).2) ⟨Nat.zero_le _, rfl⟩ ?_ (fun i hi => ?_)
      · exact ⟨⟨_, rfl, obQ⟩, ⟨[_], rfl⟩, rfl, pstQ⟩
      obtain ⟨k, s, t⟩ := i
      obtain ⟨hk, hI⟩ := hi
      dsimp only at hk hI ⊢
      by_cases hlt : k < l.length
      · have hwd := walkW_drop (es := es) hlt s t
        have hok := hao _ (List.getElem_mem hlt)
        repeat' (first
 | (refine C_id ?_; first
 | refine C_seq ?_
 | refine C_region rfl ?_
 | refine C_block ?_
 | refine C_skip ?_
 | refine C_ret0 ?_
 | refine C_draw (id := 14) rfl mixed (by kernel_rfl) ?_
 | (refine C_cond rfl obQ (fun h => ?_) (fun h => ?_) <;> (try simp only [Bool.or_eq_true, Bool.and_eq_true, Bool.or_eq_false_iff, Bool.and_eq_false_iff, decide_eq_true_eq, decide_eq_false_iff_not, beq_iff_eq, bne_iff_ne, beq_eq_false_iff_ne, bne_eq_false_iff_eq, ne_eq, Decidable.not_not, List.cons.injEq, and_true, Bool.not_eq_true', Bool.not_eq_false', Int.not_lt, Int.not_le] at h) <;> (try (exfalso; omega)))
         )
 | (refine S_id ?_; first
 | refine S_load rfl obQ rfl [.int .i64 l[k].E, .bool l[k].B, .int .i64 l[k].N] (.past (w, fun b => b < w.heap.size) memQ _ _ hr3.toS _ _ rfl rfl (idxS (f := arC) (fun _ => rfl) hlt)) rfl (.inl ⟨rfl, rfl⟩) ?_
 | refine S_nil ?_
 | refine S_run rfl rfl obQ obQ ?_
 | refine S_box (fun b => ⟨_, _, rfl, obQ, ?_⟩)
 | refine S_call (f := 119) rfl obQ (by kernel_rfl) (fun w hw => ends_c A A2 c c2 names.length es l[k] hm hok.1 w (hw.rdm (Rd.toS hr2) memQ)) ?_
         )
 | (refine D_id ?_; first
 | refine D_pure (binX_pure rfl obQ (fun w => wrap_add _ _ _ _ _ _ w)) ?_
 | refine D_nil ?_
 | refine D_run rfl rfl obQ obQ ?_
 | refine D_call (f := 123) rfl obQ (by kernel_rfl) (fun w hw => bound_c A A2 c c2 names.length es l[k] hm hok.1 hEb w (hw.rdm (Rd.toS hr2) memQ)) ?_
         )
 | (refine G_id ?_; first
 | refine G_loop (k + 1, IntKind.i64.wrap (s + boundF es l[k]), (endsF es l[k]).2) ?_ (by show l.length - (k + 1) < l.length - k; omega) ⟨⟨_, rfl, obQ⟩, ⟨_, rfl⟩, rfl, pstQ⟩
 | refine G_then ?_
 | refine G_block ?_
 | refine G_blockR ?_
 | refine G_thenR ?_
 | refine G_ret rfl obQ (fun w hw => ⟨?_, hw.below⟩)
         )
         )
        · rw [hI, hwd, if_pos h]
        · exact ⟨by show k + 1 ≤ l.length; omega, by rw [hI, hwd, if_neg (by simpa using h)]⟩
      · obtain rfl : k = l.length := by omega
        repeat' (first
 | (refine C_id ?_; first
 | refine C_seq ?_
 | refine C_region rfl ?_
 | refine C_exit ?_
 | refine C_ret0 ?_
 | (refine C_cond rfl obQ (fun h => ?_) (fun h => ?_) <;> (try simp only [Bool.or_eq_true, Bool.and_eq_true, Bool.or_eq_false_iff, Bool.and_eq_false_iff, decide_eq_true_eq, decide_eq_false_iff_not, beq_iff_eq, bne_iff_ne, beq_eq_false_iff_ne, bne_eq_false_iff_eq, ne_eq, Decidable.not_not, List.cons.injEq, and_true, Bool.not_eq_true', Bool.not_eq_false', Int.not_lt, Int.not_le] at h) <;> (try (exfalso; omega)))
         )
 | (refine S_id ?_; first
 | refine S_nil ?_
 | refine S_run rfl rfl obQ obQ ?_
 | refine S_call (f := 99) rfl obQ (by kernel_rfl) (fun w hw => when_c _ _ w) ?_
         )
 | (refine G_id ?_; first
 | refine G_then ?_
 | refine G_blockX ?_
 | refine G_thenX ?_
 | refine G_ret rfl obQ (fun w hw => ⟨?_, hw.below⟩)
         )
         )
        rw [hI, List.drop_of_length_le (Nat.le_refl _)]
        rfl
    · have h2' : ¬ firstL (l.map (arcF names.length es.length)) = 0 := h2
      have hR : loopE names es l = loopE2 names.length es.length l := by unfold loopE; rw [if_neg (by simp [h1]), if_pos h2]
      rw [hR]
      repeat' (first
 | (refine C_id ?_; first
 | refine C_seq ?_
 | refine C_region rfl ?_
 | refine C_skip ?_
 | refine C_ret0 ?_
 | (refine C_cond rfl obQ (fun h => ?_) (fun h => ?_) <;> (try simp only [Bool.or_eq_true, Bool.and_eq_true, Bool.or_eq_false_iff, Bool.and_eq_false_iff, decide_eq_true_eq, decide_eq_false_iff_not, beq_iff_eq, bne_iff_ne, beq_eq_false_iff_ne, bne_eq_false_iff_eq, ne_eq, Decidable.not_not, List.cons.injEq, and_true, Bool.not_eq_true', Bool.not_eq_false', Int.not_lt, Int.not_le] at h) <;> (try (exfalso; omega)) <;> (try (exfalso; simp at h; done)) <;> (try (exfalso; simp only [not_true_eq_false, false_or, or_false] at h; omega)) <;> (try contradiction))
       )
 | (refine S_id ?_; first
 | refine S_nil ?_
 | refine S_run rfl rfl obQ obQ ?_
 | refine S_box (fun b0 => ⟨_, _, rfl, obQ, ?_⟩)
 | refine S_slice (fun b => ⟨_, _, rfl, obQ, ?_⟩)
 | refine S_call (f := 61) rfl obQ (by kernel_rfl) (fun w hw => checkNet_c A A2 c c2 names es hn hm hs w (hw.rdm (Rd.toS hr) memQ) (hw.rdm (Rd.toS hr2) memQ)) ?_
 | refine S_call (f := 99) rfl obQ (by kernel_rfl) (fun w hw => when_c _ _ w) ?_
 | refine S_call (f := 87) rfl obQ (by kernel_rfl) (fun w hw => first_c _ _ [netF names es, wh ((l.length : Int) == 0) 12, wh (decide (64 < (l.length : Int))) 5] (by simp) w (.inr ⟨_, rfl, hw.src (i := 1) rfl rfl⟩)) ?_
 | refine S_call (f := 87) rfl obQ (by kernel_rfl) (fun w hw => firstM_c _ _ (arcF names.length es.length) l hl w (hw.rdm hSM memQ)) ?_
 | (refine S_callM (f := 121) rfl obQ (by kernel_rfl) (fun w hw => mappedAE_c 122 (.agg #[.slice A names.length c, .slice A2 es.length c2]) (g := arcF names.length es.length) _ c3 l hl (by kernel_rfl) w (hw.rdm (Rd.toS hr3) memQ) (fun x hx W hW => checkArc_c A A2 c c2 names.length es.length x W)) (fun w1M w2M vM hw1M hbM hRM => ?_); obtain ⟨AM, cM, rfl, hSM⟩ := hRM)
       )
 | (refine G_id ?_; first
 | refine G_then ?_
 | refine G_thenR ?_
 | refine G_ret rfl obQ (fun w hw => ⟨?_, hw.below⟩)
       )
       )
      all_goals rfl
  · have h1' : ¬ firstL [netF names es, wh ((l.length : Int) == 0) 12, wh (decide (64 < (l.length : Int))) 5] = 0 := h1
    have hR : loopE names es l = loopE1 names es l := by unfold loopE; rw [if_pos h1]
    rw [hR]
    repeat' (first
 | (refine C_id ?_; first
 | refine C_seq ?_
 | refine C_region rfl ?_
 | refine C_ret0 ?_
 | (refine C_cond rfl obQ (fun h => ?_) (fun h => ?_) <;> (try simp only [Bool.or_eq_true, Bool.and_eq_true, Bool.or_eq_false_iff, Bool.and_eq_false_iff, decide_eq_true_eq, decide_eq_false_iff_not, beq_iff_eq, bne_iff_ne, beq_eq_false_iff_ne, bne_eq_false_iff_eq, ne_eq, Decidable.not_not, List.cons.injEq, and_true, Bool.not_eq_true', Bool.not_eq_false', Int.not_lt, Int.not_le] at h) <;> (try (exfalso; omega)) <;> (try (exfalso; simp at h; done)) <;> (try (exfalso; simp only [not_true_eq_false, false_or, or_false] at h; omega)) <;> (try contradiction))
     )
 | (refine S_id ?_; first
 | refine S_nil ?_
 | refine S_run rfl rfl obQ obQ ?_
 | refine S_box (fun b0 => ⟨_, _, rfl, obQ, ?_⟩)
 | refine S_slice (fun b => ⟨_, _, rfl, obQ, ?_⟩)
 | refine S_call (f := 61) rfl obQ (by kernel_rfl) (fun w hw => checkNet_c A A2 c c2 names es hn hm hs w (hw.rdm (Rd.toS hr) memQ) (hw.rdm (Rd.toS hr2) memQ)) ?_
 | refine S_call (f := 99) rfl obQ (by kernel_rfl) (fun w hw => when_c _ _ w) ?_
 | refine S_call (f := 87) rfl obQ (by kernel_rfl) (fun w hw => first_c _ _ [netF names es, wh ((l.length : Int) == 0) 12, wh (decide (64 < (l.length : Int))) 5] (by simp) w (.inr ⟨_, rfl, hw.src (i := 1) rfl rfl⟩)) ?_
     )
 | (refine G_id ?_; first
 | refine G_then ?_
 | refine G_thenR ?_
 | refine G_ret rfl obQ (fun w hw => ⟨?_, hw.below⟩)
     )
     )
    all_goals rfl

end Go.Proofs.YtmfophoejjcnlaaGreatDoor
