/- The reference: plans of a net. -/
import Derived.Test.YtmfophoejjcnlaaGreatDoorTiming55
import Derived.Test.YtmfophoejjcnlaaGreatDoorTiming27
import Derived.Test.YtmfophoejjcnlaaGreatDoorEng3
namespace Go.Proofs.YtmfophoejjcnlaaGreatDoor
open Go.E Go.RowKit
attribute [local irreducible] G C S D DY DS V Yl QV Calls
set_option maxRecDepth 100000
set_option linter.unusedSimpArgs false
set_option linter.unusedVariables false

theorem ldv {xs : List Value} {m : Nat} {v : Value} (h : xs[m]? = some v) : ∀ (j : Nat) (u : Value), ([v] : List Value)[j]? = some u → xs[m + j]? = some u := by
  intro j u hu
  cases j with
  | succ j => simp at hu
  | zero =>
    simp only [List.getElem?_cons_zero, Option.some.injEq] at hu
    subst hu
    exact h
theorem gTl {ts : List Int} {z : Int} (h : 0 ≤ z ∧ z < ts.length) : (ts.map (Value.int .i64))[z.toNat * 1]? = some (.int .i64 (gT ts z.toNat)) := by
  have hk : z.toNat < ts.length := by omega
  rw [Nat.mul_one, gT_at hk]
  simp [hk]
theorem setL {ts : List Int} {z v : Int} (h : 0 ≤ z ∧ z < ts.length) : (ts.set z.toNat v).map (Value.int .i64) = (ts.map (Value.int .i64)).take (z.toNat * 1) ++ ([Value.int .i64 v] ++ (ts.map (Value.int .i64)).drop (z.toNat * 1 + 1)) := by
  have hk : z.toNat < (ts.map (Value.int .i64)).length := by rw [List.length_map]; omega
  rw [List.map_set, List.set_eq_take_append_cons_drop, if_pos hk, Nat.mul_one]
  rfl
theorem gT_set {ts : List Int} {k j : Nat} {v : Int} : gT (ts.set k v) j = if j = k ∧ k < ts.length then v else gT ts j := by
  unfold gT
  rw [List.getD_eq_getElem?_getD, List.getD_eq_getElem?_getD, List.getElem?_set]
  by_cases h : k = j
  · subst h
    by_cases h2 : k < ts.length
    · simp [h2]
    · simp [h2]
  · rw [if_neg h, if_neg (by omega)]
def bdT (B : Int) (ts : List Int) : Prop := ∀ k, 0 ≤ gT ts k ∧ gT ts k ≤ B
theorem bdT_of {ts : List Int} {B : Int} (h0 : 0 ≤ B) (h : ∀ t ∈ ts, 0 ≤ t ∧ t ≤ B) : bdT B ts := fun k => by
  rcases Nat.lt_or_ge k ts.length with h1 | h1
  · rw [gT_at h1]; exact h _ (List.getElem_mem h1)
  · have : gT ts k = 0 := by simp [gT, h1]
    omega
theorem bdT.le {ts : List Int} {B C : Int} (h : bdT B ts) (h1 : B ≤ C) : bdT C ts := fun k => by have := h k; omega
/-- Is it a plan? -/
def isPlanB (es : List Edg) (ts : List Int) : Bool := !(es.any (offF ts) || (gT ts 0 != 0))

set_option maxHeartbeats 1000000 in
/-- genlockref04.IsPlan -/
theorem rIsPlan_c (A A2 B : Option Addr) (c c2 c3 nn n3 : Nat) (es : List Edg) (ts : List Int) (hm : es.length ≤ 1000000) (hl : ts.length = nn) (h3 : nn = n3) (h0 : 0 < nn) (hok : ∀ e ∈ es, EdOk nn e) (hb : bdT 1000000000 ts) (w : World) (hr2 : Rd w A2 (es.flatMap edC)) (hr3 : Rd w B (ts.map (.int .i64))) : Calls Tryz.prog 111 #[.agg #[.slice A nn c, .slice A2 es.length c2], .slice B n3 c3] w fun r w' => r = .returned (.bool (isPlanB es ts)) ∧ Below w.heap.size w w' := by
  refine calls_of (args := [.agg #[.slice A nn c, .slice A2 es.length c2], .slice B n3 c3]) T_ok Tryz.func111 rfl Tryz.ntmps111 (Nat.le_of_ble_eq_true rfl) rfl ?_
  subst h3
  obtain ⟨ad3, rfl⟩ := hr3.some (by rw [List.length_map]; omega)
  repeat' (first
 | (refine C_id ?_; first
 | refine C_seq ?_
 | refine C_region rfl ?_
 | refine C_block ?_
 | refine C_skip ?_
 | refine C_exit ?_
 | refine C_ret0 ?_
 | refine C_draw (id := 5) rfl mixed (by kernel_rfl) ?_
 | refine C_condT rfl obQ ?_
 | refine C_condF rfl obQ ?_
 | (refine C_cond rfl obQ (fun h => ?_) (fun h => ?_) <;> (try simp only [Bool.or_eq_true, Bool.and_eq_true, Bool.or_eq_false_iff, Bool.and_eq_false_iff, decide_eq_true_eq, decide_eq_false_iff_not, beq_iff_eq, bne_iff_ne, beq_eq_false_iff_ne, bne_eq_false_iff_eq, ne_eq, Decidable.not_not, List.cons.injEq, and_true, Bool.not_eq_true', Bool.not_eq_false', Int.not_lt, Int.not_le] at h))
        )
 | (refine S_id ?_; first
 | refine S_nil ?_
 | refine S_run rfl rfl obQ obQ ?_
 | refine S_box (fun b => ⟨_, _, rfl, obQ, ?_⟩)
        )
 | (refine D_id ?_; first
 | refine D_nil ?_
 | refine D_tail ?_
 | refine D_run rfl rfl obQ obQ ?_
        )
 | (refine G_id ?_; first
 | refine G_then ?_
 | refine G_block ?_
 | refine G_blockX ?_
 | refine G_blockN rfl ?_
 | refine G_blockR ?_
 | refine G_thenR ?_
 | refine G_thenX ?_
 | refine G_ret rfl obQ (fun w hw => ⟨?_, hw.below⟩)
        )
      )
  refine C_loopS (fun k : Nat => ⟨[(5, .s (.v (.int .i64 k))), (2, .s (.p b 0 0)), (1, .s (.v (.slice (some ad3) nn c3)))], [⟨b, 84, [.v (.slice A nn c), .v (.slice A2 es.length c2)]⟩], []⟩) (fun k => k ≤ es.length ∧ ∀ i (h : i < es.length), i < k → offF ts es[i] = false) (fun k => es.length - k) 0 ⟨Nat.zero_le _, fun i _ h => absurd h (Nat.not_lt_zero _)⟩ ?_ (fun k hk => ?_)
  · exact ⟨⟨_, rfl, obQ⟩, ⟨_, rfl⟩, rfl, pstQ⟩
  dsimp only
  by_cases hlt : k < es.length
  · obtain ⟨ad2, rfl⟩ := hr2.some (by rw [flat_len (f := edC) (s := 4) es (fun _ _ => rfl)]; omega)
    have hek := hok _ (List.getElem_mem hlt)
    have hbT := hb es[k].T.toNat
    have hbF := hb es[k].F.toNat
    have hT := hek.T
    have hF := hek.F
    repeat' (first
 | (refine C_id ?_; first
 | refine C_seq ?_
 | refine C_region rfl ?_
 | refine C_block ?_
 | refine C_skip ?_
 | refine C_exit ?_
 | refine C_ret0 ?_
 | refine C_draw (id := 5) rfl mixed (by kernel_rfl) ?_
 | refine C_condT rfl obQ ?_
 | refine C_condF rfl obQ ?_
 | (refine C_cond rfl obQ (fun h => ?_) (fun h => ?_) <;> (try simp only [Bool.or_eq_true, Bool.and_eq_true, Bool.or_eq_false_iff, Bool.and_eq_false_iff, decide_eq_true_eq, decide_eq_false_iff_not, beq_iff_eq, bne_iff_ne, beq_eq_false_iff_ne, bne_eq_false_iff_eq, ne_eq, Decidable.not_not, List.cons.injEq, and_true, Bool.not_eq_true', Bool.not_eq_false', Int.not_lt, Int.not_le] at h) <;> (try (exfalso; omega)))
          )
 | (refine S_id ?_; first
 | refine S_load rfl obQ rfl [.int .i64 es[k].F, .int .i64 es[k].T, .int .i64 es[k].L, .int .i64 es[k].H] (.past (w, fun b => b < w.heap.size) memQ _ _ hr2.toS _ _ rfl rfl (idxS (f := edC) (fun _ => rfl) hlt)) rfl (.inl ⟨rfl, rfl⟩) ?_
 | refine S_load rfl obQ rfl [.int .i64 (gT ts es[k].T.toNat)] (.past (w, fun b => b < w.heap.size) memQ _ _ hr3.toS (es[k].T.toNat * 1) _ rfl rfl (ldv (gTl (by have := hek.T; rw [hl]; exact this)))) rfl (.inr ⟨rfl, rfl⟩) ?_
 | refine S_load rfl obQ rfl [.int .i64 (gT ts es[k].F.toNat)] (.past (w, fun b => b < w.heap.size) memQ _ _ hr3.toS (es[k].F.toNat * 1) _ rfl rfl (ldv (gTl (by have := hek.F; rw [hl]; exact this)))) rfl (.inr ⟨rfl, rfl⟩) ?_
 | refine S_nil ?_
 | refine S_run rfl rfl obQ obQ ?_
 | refine S_box (fun b9 => ⟨_, _, rfl, obQ, ?_⟩)
 | refine S_call (f := 43) rfl obQ (by kernel_rfl) (fun w hw => rRange_c _ _ _ w) ?_
          )
 | (refine D_id ?_; first
 | refine D_load rfl obQ rfl [.int .i64 es[k].F, .int .i64 es[k].T, .int .i64 es[k].L, .int .i64 es[k].H] (.past (w, fun b => b < w.heap.size) memQ _ _ hr2.toS _ _ rfl rfl (idxS (f := edC) (fun _ => rfl) hlt)) rfl (.inl ⟨rfl, rfl⟩) ?_
 | refine D_load rfl obQ rfl [.int .i64 (gT ts es[k].T.toNat)] (.past (w, fun b => b < w.heap.size) memQ _ _ hr3.toS (es[k].T.toNat * 1) _ rfl rfl (ldv (gTl (by have := hek.T; rw [hl]; exact this)))) rfl (.inr ⟨rfl, rfl⟩) ?_
 | refine D_load rfl obQ rfl [.int .i64 (gT ts es[k].F.toNat)] (.past (w, fun b => b < w.heap.size) memQ _ _ hr3.toS (es[k].F.toNat * 1) _ rfl rfl (ldv (gTl (by have := hek.F; rw [hl]; exact this)))) rfl (.inr ⟨rfl, rfl⟩) ?_
 | refine D_nil ?_
 | refine D_tail ?_
 | refine D_run rfl rfl obQ obQ ?_
 | refine D_call (f := 43) rfl obQ (by kernel_rfl) (fun w hw => rRange_c _ _ _ w) ?_
          )
 | (refine G_id ?_; first
 | refine G_loop (k + 1) ?_ (by show es.length - (k + 1) < es.length - k; omega) ⟨⟨_, rfl, obQ⟩, ⟨_, rfl⟩, rfl, pstQ⟩
 | refine G_then ?_
 | refine G_block ?_
 | refine G_blockX ?_
 | refine G_blockN rfl ?_
 | refine G_blockR ?_
 | refine G_thenR ?_
 | refine G_thenX ?_
 | refine G_ret rfl obQ (fun w hw => ⟨?_, hw.below⟩)
          )
        )
    · have : isPlanB es ts = false := by
        have h1 : es.any (offF ts) = true := by
          rw [List.any_eq_true]
          exact ⟨_, List.getElem_mem hlt, by unfold offF setF; simpa using h⟩
        unfold isPlanB
        rw [h1]
        rfl
      rw [this]
    · exact ⟨by omega, fun i h1 h2 => by
        by_cases h3 : i < k
        · exact hk.2 i h1 h3
        · obtain rfl : i = k := by omega
          unfold offF setF
          simpa using h⟩
  · have hany : es.any (offF ts) = false := by
      rw [List.any_eq_false]
      intro e he
      obtain ⟨i, hi, rfl⟩ := List.getElem_of_mem he
      simpa using hk.2 i hi (by omega)
    have hP : isPlanB es ts = (gT ts 0 == 0) := by
      unfold isPlanB
      rw [hany, Bool.false_or, bne, Bool.not_not]
    rw [hP]
    repeat' (first
 | (refine C_id ?_; first
 | refine C_seq ?_
 | refine C_region rfl ?_
 | refine C_block ?_
 | refine C_skip ?_
 | refine C_exit ?_
 | refine C_ret0 ?_
 | refine C_draw (id := 5) rfl mixed (by kernel_rfl) ?_
 | refine C_condT rfl obQ ?_
 | refine C_condF rfl obQ ?_
 | (refine C_cond rfl obQ (fun h => ?_) (fun h => ?_) <;> (try simp only [Bool.or_eq_true, Bool.and_eq_true, Bool.or_eq_false_iff, Bool.and_eq_false_iff, decide_eq_true_eq, decide_eq_false_iff_not, beq_iff_eq, bne_iff_ne, beq_eq_false_iff_ne, bne_eq_false_iff_eq, ne_eq, Decidable.not_not, List.cons.injEq, and_true, Bool.not_eq_true', Bool.not_eq_false', Int.not_lt, Int.not_le] at h) <;> (try (exfalso; omega)))
          )
 | (refine S_id ?_; first
 | refine S_load rfl obQ rfl [.int .i64 (gT ts 0)] (.past (w, fun b => b < w.heap.size) memQ _ _ hr3.toS 0 ad3 rfl rfl (gT0_at (by omega))) rfl (.inr ⟨rfl, rfl⟩) ?_
 | refine S_nil ?_
 | refine S_run rfl rfl obQ obQ ?_
 | refine S_box (fun b => ⟨_, _, rfl, obQ, ?_⟩)
          )
 | (refine D_id ?_; first
 | refine D_load rfl obQ rfl [.int .i64 (gT ts 0)] (.past (w, fun b => b < w.heap.size) memQ _ _ hr3.toS 0 ad3 rfl rfl (gT0_at (by omega))) rfl (.inr ⟨rfl, rfl⟩) ?_
 | refine D_nil ?_
 | refine D_tail ?_
 | refine D_run rfl rfl obQ obQ ?_
          )
 | (refine G_id ?_; first
 | refine G_then ?_
 | refine G_block ?_
 | refine G_blockX ?_
 | refine G_blockN rfl ?_
 | refine G_blockR ?_
 | refine G_thenR ?_
 | refine G_thenX ?_
 | refine G_ret rfl obQ (fun w hw => ⟨?_, hw.below⟩)
          )
        )
    all_goals rfl

theorem rt_1 {names : List ByteArray} {es : List Edg} {ts : List Int} (hN : netF names es = 0) (h : ts.length ≠ names.length) : timesE names es ts = 2 := by
  have h1 : timesE1 names es ts = 2 := by
    unfold timesE1
    have : ((ts.length : Int) != names.length) = true := by rw [bne_iff_ne]; omega
    rw [this]
    simp [firstL, hN, wh]
  rw [timesE_1 (by omega), h1]
theorem rt_2 {names : List ByteArray} {es : List Edg} {ts : List Int} (hN : netF names es = 0) (h : ts.length = names.length) : timesE1 names es ts = 0 := by
  unfold timesE1
  have : ((ts.length : Int) != names.length) = false := by rw [bne_eq_false_iff_eq]; omega
  rw [this]
  simp [firstL, hN, wh]
theorem rt_drop {ts : List Int} {k : Nat} (h : k < ts.length) : timesE2 (ts.drop k) = if wi ts[k] 0 10000000 = 0 then timesE2 (ts.drop (k + 1)) else wi ts[k] 0 10000000 := by
  unfold timesE2
  rw [List.drop_eq_getElem_cons h, List.map_cons]
  rfl
theorem isPlanB_3 (es : List Edg) (ts : List Int) : wh (!isPlanB es ts) 24 = timesE3 es ts := by
  unfold isPlanB timesE3
  rw [Bool.not_not]

set_option maxHeartbeats 1000000 in
/-- genlockref04.CheckTimes -/
theorem rCheckTimes_c (A A2 B : Option Addr) (c c2 c3 : Nat) (names : List ByteArray) (es : List Edg) (ts : List Int) (hN : netF names es = 0) (ht : ts.length ≤ 1000000) (w : World) (hr2 : Rd w A2 (es.flatMap edC)) (hr3 : Rd w B (ts.map (.int .i64))) : Calls Tryz.prog 58 #[.agg #[.slice A names.length c, .slice A2 es.length c2], .slice B ts.length c3] w fun r w' => r = .returned (.int .i64 (timesE names es ts)) ∧ Below w.heap.size w w' := by
  refine calls_of (args := [.agg #[.slice A names.length c, .slice A2 es.length c2], .slice B ts.length c3]) T_ok Tryz.func58 rfl Tryz.ntmps58 (Nat.le_of_ble_eq_true rfl) rfl ?_
  have ok := netF_ok hN
  have hn12 := ok.n
  have hm24 := ok.m
  by_cases hlen : ts.length = names.length
  · have h1 := rt_2 (es := es) hN hlen
    repeat' (first
 | (refine C_id ?_; first
 | refine C_seq ?_
 | refine C_region rfl ?_
 | refine C_block ?_
 | refine C_skip ?_
 | refine C_exit ?_
 | refine C_ret0 ?_
 | refine C_condT rfl obQ ?_
 | refine C_condF rfl obQ ?_
 | (refine C_cond rfl obQ (fun h => ?_) (fun h => ?_) <;> (try simp only [Bool.or_eq_true, Bool.and_eq_true, Bool.or_eq_false_iff, Bool.and_eq_false_iff, decide_eq_true_eq, decide_eq_false_iff_not, beq_iff_eq, bne_iff_ne, beq_eq_false_iff_ne, bne_eq_false_iff_eq, ne_eq, Decidable.not_not, List.cons.injEq, and_true, Bool.not_eq_true', Bool.not_eq_false', Int.not_lt, Int.not_le] at h) <;> (try (exfalso; omega)))
          )
 | (refine S_id ?_; first
 | refine S_nil ?_
 | refine S_run rfl rfl obQ obQ ?_
 | refine S_box (fun b => ⟨_, _, rfl, obQ, ?_⟩)
          )
 | (refine G_id ?_; first
 | refine G_then ?_
 | refine G_block ?_
 | refine G_blockX ?_
 | refine G_blockN rfl ?_
 | refine G_blockR ?_
 | refine G_thenR ?_
 | refine G_thenX ?_
 | refine G_ret rfl obQ (fun w hw => ⟨?_, hw.below⟩)
          )
        )
    refine C_loopS (fun k : Nat => ⟨[(5, .s (.v (.int .i64 k))), (2, .s (.p b 0 0)), (1, .s (.v (.slice B ts.length c3)))], [⟨b, 84, [.v (.slice A names.length c), .v (.slice A2 es.length c2)]⟩], []⟩) (fun k => k ≤ ts.length ∧ timesE2 ts = timesE2 (ts.drop k)) (fun k => ts.length - k) 0 ⟨Nat.zero_le _, rfl⟩ ?_ (fun k hk => ?_)
    · exact ⟨⟨_, rfl, obQ⟩, ⟨_, rfl⟩, rfl, pstQ⟩
    dsimp only
    by_cases hlt : k < ts.length
    · obtain ⟨ad, rfl⟩ := hr3.some (by simp; omega)
      have hd := rt_drop hlt
      repeat' (first
 | (refine C_id ?_; first
 | refine C_seq ?_
 | refine C_region rfl ?_
 | refine C_block ?_
 | refine C_skip ?_
 | refine C_exit ?_
 | refine C_ret0 ?_
 | refine C_condT rfl obQ ?_
 | refine C_condF rfl obQ ?_
 | (refine C_cond rfl obQ (fun h => ?_) (fun h => ?_) <;> (try simp only [Bool.or_eq_true, Bool.and_eq_true, Bool.or_eq_false_iff, Bool.and_eq_false_iff, decide_eq_true_eq, decide_eq_false_iff_not, beq_iff_eq, bne_iff_ne, beq_eq_false_iff_ne, bne_eq_false_iff_eq, ne_eq, Decidable.not_not, List.cons.injEq, and_true, Bool.not_eq_true', Bool.not_eq_false', Int.not_lt, Int.not_le] at h) <;> (try (exfalso; omega)))
            )
 | (refine S_id ?_; first
 | refine S_load rfl obQ rfl [.int .i64 ts[k]] (.past (w, fun b => b < w.heap.size) memQ _ _ hr3.toS _ _ rfl rfl (idx1 hlt)) rfl (.inr ⟨rfl, rfl⟩) ?_
 | refine S_nil ?_
 | refine S_run rfl rfl obQ obQ ?_
 | refine S_box (fun b => ⟨_, _, rfl, obQ, ?_⟩)
 | refine S_call (f := 20) rfl obQ (by kernel_rfl) (fun w hw => rCheckTick_c ts[k] w) ?_
            )
 | (refine G_id ?_; first
 | refine G_loop (k + 1) ?_ (by show ts.length - (k + 1) < ts.length - k; omega) ⟨⟨_, rfl, obQ⟩, ⟨_, rfl⟩, rfl, pstQ⟩
 | refine G_then ?_
 | refine G_block ?_
 | refine G_blockX ?_
 | refine G_blockN rfl ?_
 | refine G_blockR ?_
 | refine G_thenR ?_
 | refine G_thenX ?_
 | refine G_ret rfl obQ (fun w hw => ⟨?_, hw.below⟩)
            )
          )
      · have h2 : timesE2 ts = wi ts[k] 0 10000000 := by rw [hk.2, hd, if_neg h]
        rw [timesE_2 h1 (by rw [h2]; exact h), h2]
      · exact ⟨by omega, by rw [hk.2, hd, if_pos h]⟩
    · have h2 : timesE2 ts = 0 := by rw [hk.2, List.drop_of_length_le (by omega)]; rfl
      have hbd := bdT_of (B := 10000000) (by omega) (timesE2_ok h2)
      rw [timesE_3 h1 h2, ← isPlanB_3]
      repeat' (first
 | (refine C_id ?_; first
 | refine C_seq ?_
 | refine C_region rfl ?_
 | refine C_block ?_
 | refine C_skip ?_
 | refine C_exit ?_
 | refine C_ret0 ?_
 | refine C_condT rfl obQ ?_
 | refine C_condF rfl obQ ?_
 | (refine C_cond rfl obQ (fun h => ?_) (fun h => ?_) <;> (try simp only [Bool.or_eq_true, Bool.and_eq_true, Bool.or_eq_false_iff, Bool.and_eq_false_iff, decide_eq_true_eq, decide_eq_false_iff_not, beq_iff_eq, bne_iff_ne, beq_eq_false_iff_ne, bne_eq_false_iff_eq, ne_eq, Decidable.not_not, List.cons.injEq, and_true, Bool.not_eq_true', Bool.not_eq_false', Int.not_lt, Int.not_le] at h) <;> (try (exfalso; omega)))
            )
 | (refine S_id ?_; first
 | refine S_nil ?_
 | refine S_run rfl rfl obQ obQ ?_
 | refine S_box (fun b => ⟨_, _, rfl, obQ, ?_⟩)
 | refine S_call (f := 111) rfl obQ (by kernel_rfl) (fun w hw => rIsPlan_c A A2 B c c2 c3 names.length ts.length es ts (by omega) hlen hlen.symm ok.n0 ok.e (hbd.le (by omega)) w (hw.rdm (Rd.toS hr2) memQ) (hw.rdm (Rd.toS hr3) memQ)) ?_
 | refine S_call (f := 56) rfl obQ (by kernel_rfl) (fun w hw => rWhen_c _ _ w) ?_
            )
 | (refine G_id ?_; first
 | refine G_then ?_
 | refine G_block ?_
 | refine G_blockX ?_
 | refine G_blockN rfl ?_
 | refine G_blockR ?_
 | refine G_thenR ?_
 | refine G_thenX ?_
 | refine G_ret rfl obQ (fun w hw => ⟨?_, hw.below⟩)
            )
          )
      all_goals rfl
  · rw [rt_1 hN hlen]
    repeat' (first
 | (refine C_id ?_; first
 | refine C_seq ?_
 | refine C_region rfl ?_
 | refine C_block ?_
 | refine C_skip ?_
 | refine C_exit ?_
 | refine C_ret0 ?_
 | refine C_condT rfl obQ ?_
 | refine C_condF rfl obQ ?_
 | (refine C_cond rfl obQ (fun h => ?_) (fun h => ?_) <;> (try simp only [Bool.or_eq_true, Bool.and_eq_true, Bool.or_eq_false_iff, Bool.and_eq_false_iff, decide_eq_true_eq, decide_eq_false_iff_not, beq_iff_eq, bne_iff_ne, beq_eq_false_iff_ne, bne_eq_false_iff_eq, ne_eq, Decidable.not_not, List.cons.injEq, and_true, Bool.not_eq_true', Bool.not_eq_false', Int.not_lt, Int.not_le] at h) <;> (try (exfalso; omega)))
          )
 | (refine S_id ?_; first
 | refine S_nil ?_
 | refine S_run rfl rfl obQ obQ ?_
 | refine S_box (fun b => ⟨_, _, rfl, obQ, ?_⟩)
          )
 | (refine G_id ?_; first
 | refine G_then ?_
 | refine G_block ?_
 | refine G_blockX ?_
 | refine G_blockN rfl ?_
 | refine G_blockR ?_
 | refine G_thenR ?_
 | refine G_thenX ?_
 | refine G_ret rfl obQ (fun w hw => ⟨?_, hw.below⟩)
          )
        )
    all_goals rfl

set_option maxHeartbeats 1000000 in
/-- genlockref04.Settings -/
theorem rSettings_c (A A2 B : Option Addr) (c c2 c3 nn n3 : Nat) (es : List Edg) (ts : List Int) (hm : es.length ≤ 1000000) (hl : ts.length = nn) (h3 : nn = n3) (h0 : 0 < nn) (hok : ∀ e ∈ es, EdOk nn e) (hb : bdT 1000000000 ts) (w : World) (hr2 : Rd w A2 (es.flatMap edC)) (hr3 : Rd w B (ts.map (.int .i64))) : Calls Tryz.prog 59 #[.agg #[.slice A nn c, .slice A2 es.length c2], .slice B n3 c3] w fun r w' => ∃ v, r = .returned v ∧ Below w.heap.size w w' ∧ Sl w w' v es.length ((es.map (setF ts)).map (.int .i64)) := by
  refine calls_of (args := [.agg #[.slice A nn c, .slice A2 es.length c2], .slice B n3 c3]) T_ok Tryz.func59 rfl Tryz.ntmps59 (Nat.le_of_ble_eq_true rfl) rfl ?_
  subst h3
  obtain ⟨ad3, rfl⟩ := hr3.some (by rw [List.length_map]; omega)
  repeat' (first
 | (refine C_id ?_; first
 | refine C_seq ?_
 | refine C_region rfl ?_
 | refine C_block ?_
 | refine C_skip ?_
 | refine C_exit ?_
 | refine C_ret0 ?_
 | refine C_drawT (id := 5) 20 rfl mixed (by kernel_rfl) rfl rfl ?_
 | refine C_condT rfl obQ ?_
 | refine C_condF rfl obQ ?_
 | (refine C_cond rfl obQ (fun h => ?_) (fun h => ?_) <;> (try simp only [Bool.or_eq_true, Bool.and_eq_true, Bool.or_eq_false_iff, Bool.and_eq_false_iff, decide_eq_true_eq, decide_eq_false_iff_not, beq_iff_eq, bne_iff_ne, beq_eq_false_iff_ne, bne_eq_false_iff_eq, ne_eq, Decidable.not_not, List.cons.injEq, and_true, Bool.not_eq_true', Bool.not_eq_false', Int.not_lt, Int.not_le] at h))
        )
 | (refine S_id ?_; first
 | refine S_nil ?_
 | refine S_run rfl rfl obQ obQ ?_
 | refine S_box (fun b => ⟨_, _, rfl, obQ, ?_⟩)
 | refine S_slice (fun b => ⟨_, _, rfl, obQ, ?_⟩)
        )
 | (refine D_id ?_; first
 | refine D_nil ?_
 | refine D_tail ?_
 | refine D_run rfl rfl obQ obQ ?_
        )
 | (refine G_id ?_; first
 | refine G_then ?_
 | refine G_block ?_
 | refine G_blockX ?_
 | refine G_blockN rfl ?_
 | refine G_blockR ?_
 | refine G_thenR ?_
 | refine G_thenX ?_
 | refine G_ret rfl obQ (fun w hw => ⟨?_, hw.below⟩)
        )
      )
  refine C_row0 5 3 1 rfl ?_
  refine C_loopS (fun i : Nat × Option Addr × Nat => ⟨[(5, .s (.r i.2.1 i.1 i.2.2 0)), (6, .s (.v (.int .i64 i.1))), (2, .s (.p b 0 0)), (1, .s (.v (.slice (some ad3) nn c3)))], [⟨b, 84, [.v (.slice A nn c), .v (.slice A2 es.length c2)]⟩], [⟨3, 1, i.1, ((es.take i.1).map (setF ts)).map (.int .i64), .slice i.2.1 i.1 i.2.2⟩]⟩) (fun i => i.1 ≤ es.length) (fun i => es.length - i.1) (0, none, 0) (Nat.zero_le _) ?_ (fun i hi => ?_)
  · exact ⟨⟨_, rfl, obQ⟩, ⟨_, rfl⟩, rfl, pstQ⟩
  obtain ⟨k, A', c'⟩ := i
  have hi' : k ≤ es.length := hi
  dsimp only
  by_cases hlt : k < es.length
  · obtain ⟨ad2, rfl⟩ := hr2.some (by rw [flat_len (f := edC) (s := 4) es (fun _ _ => rfl)]; omega)
    have hek := hok _ (List.getElem_mem hlt)
    have hbT := hb es[k].T.toNat
    have hbF := hb es[k].F.toNat
    have hT := hek.T
    have hF := hek.F
    have hmt := map_take_succ (f := setF ts) hlt
    have fe := fun o v => row_at (f := edC) (s := 4) (fun _ => rfl) hlt o (v := v)
    repeat' (first
 | (refine C_id ?_; first
 | refine C_seq ?_
 | refine C_region rfl ?_
 | refine C_block ?_
 | refine C_skip ?_
 | refine C_exit ?_
 | refine C_ret0 ?_
 | refine C_drawV (id := 5) 21 [(0, true), (1, true), (2, true), (3, true), (4, true), (5, true), (6, true), (7, true), (8, true), (9, true), (10, true), (11, true), (12, true), (13, true), (14, true), (15, true), (16, true), (17, true), (18, true), (19, true), (20, false)] rfl mixed (by kernel_rfl) rfl ?_
 | refine C_condT rfl obQ ?_
 | refine C_condF rfl obQ ?_
 | (refine C_cond rfl obQ (fun h => ?_) (fun h => ?_) <;> (try simp only [Bool.or_eq_true, Bool.and_eq_true, Bool.or_eq_false_iff, Bool.and_eq_false_iff, decide_eq_true_eq, decide_eq_false_iff_not, beq_iff_eq, bne_iff_ne, beq_eq_false_iff_ne, bne_eq_false_iff_eq, ne_eq, Decidable.not_not, List.cons.injEq, and_true, Bool.not_eq_true', Bool.not_eq_false', Int.not_lt, Int.not_le] at h) <;> (try (exfalso; omega)))
          )
 | (refine S_id ?_; first
 | refine S_load rfl obQ rfl [.int .i64 es[k].T] (.past (w, fun b => b < w.heap.size) memQ _ _ hr2.toS (((k : Nat) : Int).toNat * 4 + 1) _ rfl (add_of_add _ _ _) (fe 1 _ rfl)) rfl (.inr ⟨rfl, rfl⟩) ?_
 | refine S_load rfl obQ rfl [.int .i64 es[k].F] (.past (w, fun b => b < w.heap.size) memQ _ _ hr2.toS (((k : Nat) : Int).toNat * 4 + 0) _ rfl (add_of_add _ _ _) (fe 0 _ rfl)) rfl (.inr ⟨rfl, rfl⟩) ?_
 | refine S_load rfl obQ rfl [.int .i64 (gT ts es[k].T.toNat)] (.past (w, fun b => b < w.heap.size) memQ _ _ hr3.toS (es[k].T.toNat * 1) _ rfl rfl (ldv (gTl (by have := hek.T; rw [hl]; exact this)))) rfl (.inr ⟨rfl, rfl⟩) ?_
 | refine S_load rfl obQ rfl [.int .i64 (gT ts es[k].F.toNat)] (.past (w, fun b => b < w.heap.size) memQ _ _ hr3.toS (es[k].F.toNat * 1) _ rfl rfl (ldv (gTl (by have := hek.F; rw [hl]; exact this)))) rfl (.inr ⟨rfl, rfl⟩) ?_
 | refine S_append rfl obQ rfl rfl rfl ⟨by decide, rfl⟩ rfl ⟨rfl, rfl, rfl, rfl⟩ [.int .i64 (setF ts es[k])] ⟨by decide, rfl⟩ (by simp [Value.oneCell']) (fun w hw => by first | exact hw.src (i := 0) rfl rfl | exact hw.src (i := 1) rfl rfl | exact hw.src (i := 2) rfl rfl | exact hw.src (i := 3) rfl rfl | exact hw.src (i := 4) rfl rfl | exact hw.src (i := 5) rfl rfl) (by unfold maxLen; dsimp only; omega) (fun gb cap' => ⟨_, rfl, ?_⟩)
 | refine S_nil ?_
 | refine S_run rfl rfl obQ obQ ?_
 | refine S_box (fun b9 => ⟨_, _, rfl, obQ, ?_⟩)
 | refine S_slice (fun b => ⟨_, _, rfl, obQ, ?_⟩)
          )
 | (refine D_id ?_; first
 | refine D_nil ?_
 | refine D_tail ?_
 | refine D_run rfl rfl obQ obQ ?_
          )
 | (refine V_id ?_; first
 | refine V_nil ?_
 | refine V_q rfl (Yl_load rfl obQ rfl [.int .i64 es[k].T] (.past (w, fun b => b < w.heap.size) memQ _ _ hr2.toS (((k : Nat) : Int).toNat * 4 + 1) _ rfl (add_of_add _ _ _) (fe 1 _ rfl)) rfl (.inr ⟨rfl, rfl⟩)) ?_
 | refine V_q rfl (Yl_load rfl obQ rfl [.int .i64 es[k].F] (.past (w, fun b => b < w.heap.size) memQ _ _ hr2.toS (((k : Nat) : Int).toNat * 4 + 0) _ rfl (add_of_add _ _ _) (fe 0 _ rfl)) rfl (.inr ⟨rfl, rfl⟩)) ?_
 | refine V_q rfl (Yl_load rfl obQ rfl [.int .i64 (gT ts es[k].T.toNat)] (.past (w, fun b => b < w.heap.size) memQ _ _ hr3.toS (es[k].T.toNat * 1) _ rfl rfl (ldv (gTl (by have := hek.T; rw [hl]; exact this)))) rfl (.inr ⟨rfl, rfl⟩)) ?_
 | refine V_q rfl (Yl_load rfl obQ rfl [.int .i64 (gT ts es[k].F.toNat)] (.past (w, fun b => b < w.heap.size) memQ _ _ hr3.toS (es[k].F.toNat * 1) _ rfl rfl (ldv (gTl (by have := hek.F; rw [hl]; exact this)))) rfl (.inr ⟨rfl, rfl⟩)) ?_
 | refine V_q rfl (Yl_step rfl obQ) ?_
 | refine V_n rfl ?_
          )
 | (refine G_id ?_; first
 | refine G_V ⟨⟨_, rfl, trivial⟩, ⟨_, rfl⟩, rfl, pstQ⟩ rfl ?_
 | refine G_loop (k + 1, some ⟨gb, 0, none⟩, cap') (by show k + 1 ≤ _; omega) (by show es.length - (k + 1) < es.length - k; omega) ⟨⟨_, rfl, obQ⟩, ⟨_, rfl⟩, (by dsimp only; rw [hmt, List.map_append]; rfl), pstQ⟩
 | refine G_then ?_
 | refine G_block ?_
 | refine G_blockX ?_
 | refine G_blockN rfl ?_
 | refine G_blockR ?_
 | refine G_thenR ?_
 | refine G_thenX ?_
 | refine G_ret rfl obQ (fun w hw => ⟨?_, hw.below⟩)
          )
        )
  · obtain rfl : k = es.length := by omega
    repeat' (first
 | (refine C_id ?_; first
 | refine C_seq ?_
 | refine C_region rfl ?_
 | refine C_block ?_
 | refine C_skip ?_
 | refine C_exit ?_
 | refine C_ret0 ?_
 | refine C_drawT (id := 5) 20 rfl mixed (by kernel_rfl) rfl rfl ?_
 | refine C_condT rfl obQ ?_
 | refine C_condF rfl obQ ?_
 | (refine C_cond rfl obQ (fun h => ?_) (fun h => ?_) <;> (try simp only [Bool.or_eq_true, Bool.and_eq_true, Bool.or_eq_false_iff, Bool.and_eq_false_iff, decide_eq_true_eq, decide_eq_false_iff_not, beq_iff_eq, bne_iff_ne, beq_eq_false_iff_ne, bne_eq_false_iff_eq, ne_eq, Decidable.not_not, List.cons.injEq, and_true, Bool.not_eq_true', Bool.not_eq_false', Int.not_lt, Int.not_le] at h) <;> (try (exfalso; omega)))
          )
 | (refine S_id ?_; first
 | refine S_nil ?_
 | refine S_run rfl rfl obQ obQ ?_
 | refine S_box (fun b => ⟨_, _, rfl, obQ, ?_⟩)
 | refine S_slice (fun b => ⟨_, _, rfl, obQ, ?_⟩)
          )
 | (refine D_id ?_; first
 | refine D_nil ?_
 | refine D_tail ?_
 | refine D_run rfl rfl obQ obQ ?_
          )
 | (refine G_id ?_; first
 | refine G_then ?_
 | refine G_block ?_
 | refine G_blockX ?_
 | refine G_blockN rfl ?_
 | refine G_blockR ?_
 | refine G_thenR ?_
 | refine G_thenX ?_
 | refine G_ret rfl obQ (fun w2 hw => ⟨_, rfl, hw.below, HW.rowSl (i := 0) hw rfl rfl rfl (by rw [List.take_length])⟩)
          )
        )

end Go.Proofs.YtmfophoejjcnlaaGreatDoor
