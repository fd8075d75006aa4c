/- Nets, given and told; what the laws call, in the words of the laws. -/
import Derived.Test.YtmfophoejjcnlaaGreatDoorTiming57
import Derived.Test.YtmfophoejjcnlaaGreatDoorTiming56
import Derived.Test.YtmfophoejjcnlaaGreatDoorEngAA
import Derived.Test.YtmfophoejjcnlaaGreatDoorTiming86
namespace Go.Proofs.YtmfophoejjcnlaaGreatDoor
open Go.E Go.RowKit
attribute [local irreducible] G C S D Calls
set_option maxRecDepth 100000
set_option linter.unusedSimpArgs false
set_option linter.unusedVariables false

/-- A net whose edges are new. -/
def OwR (w w' : World) (v : Value) (A : Option Addr) (n c m : Nat) (ys : List Value) : Prop := ∃ A2 c2, v = .agg #[.slice A n c, .slice A2 m c2] ∧ RdS (fun b => w.heap.size ≤ b ∧ b < w'.heap.size) w' A2 ys ∧ m ≤ c2 ∧ (A2 = none → m = 0 ∧ c2 = 0)
theorem OwR.mk1 {w w' : World} {v v2 : Value} {A : Option Addr} {n c m : Nat} {ys : List Value} (h : SlC w w' v2 m ys) (hv : v = .agg #[.slice A n c, v2]) : OwR w w' v A n c m ys := by
  obtain ⟨A2, c2, rfl, r2, r3, _, r4⟩ := h
  exact ⟨A2, c2, hv, r2, r3, r4⟩
/-- A net, all of it new, with what is known of its room. -/
def NtC (w w' : World) (v : Value) (n m : Nat) (xs ys : List Value) : Prop := ∃ A A2 c c2, v = .agg #[.slice A n c, .slice A2 m c2] ∧ RdS (fun b => w.heap.size ≤ b ∧ b < w'.heap.size) w' A xs ∧ RdS (fun b => w.heap.size ≤ b ∧ b < w'.heap.size) w' A2 ys ∧ (n ≤ c ∧ (A = none → n = 0 ∧ c = 0)) ∧ m ≤ c2 ∧ (A2 = none → m = 0 ∧ c2 = 0)
theorem NtC.mk2 {w w' : World} {v v1 v2 : Value} {n m : Nat} {xs ys : List Value} (h1 : SlC w w' v1 n xs) (h2 : SlC w w' v2 m ys) (hv : v = .agg #[v1, v2]) : NtC w w' v n m xs ys := by
  obtain ⟨A, c, rfl, r1, a1, _, b1⟩ := h1
  obtain ⟨A2, c2, rfl, r2, a2, _, b2⟩ := h2
  exact ⟨A, A2, c, c2, hv, r1, r2, ⟨a1, b1⟩, a2, b2⟩
/-- The same, and an error. -/
def NtE (w w' : World) (v : Value) (n m : Nat) (xs ys : List Value) (e : Value) : Prop := ∃ A A2 c c2, v = .tuple #[.agg #[.slice A n c, .slice A2 m c2], e] ∧ RdS (fun b => w.heap.size ≤ b ∧ b < w'.heap.size) w' A xs ∧ RdS (fun b => w.heap.size ≤ b ∧ b < w'.heap.size) w' A2 ys ∧ (n ≤ c ∧ (A = none → n = 0 ∧ c = 0)) ∧ m ≤ c2 ∧ (A2 = none → m = 0 ∧ c2 = 0)
theorem NtE.mk2 {w w' : World} {v v1 v2 e : Value} {n m : Nat} {xs ys : List Value} (h1 : SlC w w' v1 n xs) (h2 : SlC w w' v2 m ys) (hv : v = .tuple #[.agg #[v1, v2], e]) : NtE w w' v n m xs ys e := by
  obtain ⟨A, c, rfl, r1, a1, _, b1⟩ := h1
  obtain ⟨A2, c2, rfl, r2, a2, _, b2⟩ := h2
  exact ⟨A, A2, c, c2, hv, r1, r2, ⟨a1, b1⟩, a2, b2⟩
theorem HW.callSlC {w0 w w1 w2 : World} {Ps : Past} {σ : St} (hw : HW w0.heap.size w0 Ps σ w) {A : Option Addr} {n c : Nat} {xs : List Value} (h : RdS (fun b => w1.heap.size ≤ b ∧ b < w2.heap.size) w2 A xs) (hp : (w2, fun b => w1.heap.size ≤ b ∧ b < w2.heap.size) ∈ Ps) (h1 : w0.heap.size ≤ w1.heap.size)
    (hc : n ≤ c ∧ c ≤ maxLen ∧ (A = none → n = 0 ∧ c = 0)) : SlC w0 w (.slice A n c) n xs := by
  obtain ⟨A', c', e, hr⟩ := HW.callSl (n := n) (c := c) hw h hp h1
  cases e
  exact ⟨_, _, rfl, hr, hc⟩
theorem one_edg (l : List Edg) : ∀ u ∈ l.flatMap edC, u.oneCell' = true := by
  intro u hu
  obtain ⟨e, _, h⟩ := List.mem_flatMap.1 hu
  simp only [edC, List.mem_cons, List.mem_nil_iff, or_false] at h
  rcases h with rfl | rfl | rfl | rfl <;> rfl

set_option maxHeartbeats 400000 in
/-- slices.Clone[[]string,string] -/
theorem cloneS_c (A : Option Addr) (c n : Nat) (l : List ByteArray) (hn : l.length = n) (hl : n ≤ 1000000) (hA : A = none → n = 0 ∧ c = 0) (w : World) (hr : Rd w A (l.map .string)) : Calls Tryz.prog 116 #[.slice A n c] w fun r w' => ∃ v, r = .returned v ∧ Below w.heap.size w w' ∧ SlC w w' v n (l.map .string) := by
  refine calls_of (args := [.slice A n c]) T_ok Tryz.func116 rfl Tryz.ntmps116 (Nat.le_of_ble_eq_true rfl) rfl ?_
  subst hn
  cases A with
  | none =>
    obtain ⟨h1, h2⟩ := hA rfl
    obtain rfl := List.eq_nil_of_length_eq_zero h1
    repeat' (first
 | (refine C_id ?_; first
 | refine C_condT rfl obQ ?_
 | refine C_seq ?_
 | refine C_region rfl ?_
 | refine C_block ?_
 | refine C_skip ?_
 | refine C_exit ?_
 | refine C_ret0 ?_
          )
 | (refine S_id ?_; first
 | refine S_pure (binX_pure rfl obQ (fun w => eq_nilT rfl rfl _ _ _ _ _ _ _ w)) ?_
 | refine S_nil ?_
 | refine S_run rfl rfl obQ obQ ?_
 | refine S_slice (fun b => ⟨_, _, rfl, obQ, ?_⟩)
          )
 | (refine G_id ?_; first
 | refine G_then ?_
 | refine G_block ?_
 | refine G_blockX ?_
 | refine G_blockN rfl ?_
 | refine G_blockR ?_
 | refine G_thenR ?_
 | refine G_thenX ?_
 | refine G_ret rfl obQ (fun w2 hw => ⟨_, rfl, hw.below, SlC.nil_ _ _⟩)
          )
        )
  | some ad =>
    repeat' (first
 | (refine C_id ?_; first
 | refine C_condF rfl obQ ?_
 | refine C_seq ?_
 | refine C_region rfl ?_
 | refine C_block ?_
 | refine C_skip ?_
 | refine C_exit ?_
 | refine C_ret0 ?_
          )
 | (refine S_id ?_; first
 | refine S_pure (binX_pure rfl obQ (fun w => eq_nilT rfl rfl _ _ _ _ _ _ _ w)) ?_
 | refine S_row00 rfl rfl rfl (fun g => ?_)
 | refine S_appendS rfl obQ rfl rfl rfl ⟨by decide, rfl⟩ rfl ⟨rfl, rfl, rfl, rfl⟩ (l.map .string) (by simp) (fun h => by cases h) (one_str _) (srcS hr memQ) (by unfold maxLen; dsimp only; omega) (fun A' cap' => ⟨_, rfl, ?_⟩)
 | refine S_nil ?_
 | refine S_run rfl rfl obQ obQ ?_
 | refine S_slice (fun b => ⟨_, _, rfl, obQ, ?_⟩)
          )
 | (refine G_id ?_; first
 | refine G_then ?_
 | refine G_block ?_
 | refine G_blockX ?_
 | refine G_blockN rfl ?_
 | refine G_blockR ?_
 | refine G_thenR ?_
 | refine G_thenX ?_
 | refine G_ret rfl obQ (fun w2 hw => ⟨_, rfl, hw.below, HW.rowSlC (i := 0) hw rfl rfl (by simp) (by simp)⟩)
          )
        )

set_option maxHeartbeats 400000 in
/-- slices.Clone[[]genlock/timing.Edge,genlock/timing.Edge] -/
theorem cloneE_c (A : Option Addr) (c n : Nat) (l : List Edg) (hn : l.length = n) (hl : n ≤ 1000000) (hA : A = none → n = 0 ∧ c = 0) (w : World) (hr : Rd w A (l.flatMap edC)) : Calls Tryz.prog 117 #[.slice A n c] w fun r w' => ∃ v, r = .returned v ∧ Below w.heap.size w w' ∧ w'.ownsRow w.heap.size 113 4 v n (l.flatMap edC) := by
  refine calls_of (args := [.slice A n c]) T_ok Tryz.func117 rfl Tryz.ntmps117 (Nat.le_of_ble_eq_true rfl) rfl ?_
  subst hn
  cases A with
  | none =>
    obtain ⟨h1, h2⟩ := hA rfl
    obtain rfl := List.eq_nil_of_length_eq_zero h1
    repeat' (first
 | (refine C_id ?_; first
 | refine C_condT rfl obQ ?_
 | refine C_seq ?_
 | refine C_region rfl ?_
 | refine C_block ?_
 | refine C_skip ?_
 | refine C_exit ?_
 | refine C_ret0 ?_
          )
 | (refine S_id ?_; first
 | refine S_pure (binX_pure rfl obQ (fun w => eq_nilT rfl rfl _ _ _ _ _ _ _ w)) ?_
 | refine S_nil ?_
 | refine S_run rfl rfl obQ obQ ?_
 | refine S_slice (fun b => ⟨_, _, rfl, obQ, ?_⟩)
          )
 | (refine G_id ?_; first
 | refine G_then ?_
 | refine G_block ?_
 | refine G_blockX ?_
 | refine G_blockN rfl ?_
 | refine G_blockR ?_
 | refine G_thenR ?_
 | refine G_thenX ?_
 | refine G_ret rfl obQ (fun w2 hw => ⟨_, rfl, hw.below, World.ownsRow_nil _ _ _ _⟩)
          )
        )
  | some ad =>
    repeat' (first
 | (refine C_id ?_; first
 | refine C_condF rfl obQ ?_
 | refine C_seq ?_
 | refine C_region rfl ?_
 | refine C_block ?_
 | refine C_skip ?_
 | refine C_exit ?_
 | refine C_ret0 ?_
          )
 | (refine S_id ?_; first
 | refine S_pure (binX_pure rfl obQ (fun w => eq_nilT rfl rfl _ _ _ _ _ _ _ w)) ?_
 | refine S_row00 rfl rfl rfl (fun g => ?_)
 | refine S_appendS rfl obQ rfl rfl rfl ⟨by decide, rfl⟩ rfl ⟨rfl, rfl, rfl, rfl⟩ (l.flatMap edC) (by rw [flat_len (f := edC) (s := 4) l (fun _ _ => rfl)]) (fun h => by cases h) (one_edg _) (srcS hr memQ) (by unfold maxLen; dsimp only; omega) (fun A' cap' => ⟨_, rfl, ?_⟩)
 | refine S_nil ?_
 | refine S_run rfl rfl obQ obQ ?_
 | refine S_slice (fun b => ⟨_, _, rfl, obQ, ?_⟩)
          )
 | (refine G_id ?_; first
 | refine G_then ?_
 | refine G_block ?_
 | refine G_blockX ?_
 | refine G_blockN rfl ?_
 | refine G_blockR ?_
 | refine G_thenR ?_
 | refine G_thenX ?_
 | refine G_ret rfl obQ (fun w2 hw => ⟨_, rfl, hw.below, (by have h := HW.ownRow (i := 0) hw rfl rfl rfl rfl; simpa using h)⟩)
          )
        )

set_option maxHeartbeats 1000000 in
/-- genlocklaw04.given -/
theorem lGivenC_c (A A2 : Option Addr) (c c2 : Nat) (names : List ByteArray) (es : List Edg) (hn : names.length ≤ 1000000) (hm : es.length ≤ 1000000) (hA : A = none → names.length = 0 ∧ c = 0) (w : World) (hr : Rd w A (names.map .string)) (hr2 : Rd w A2 (es.flatMap edC)) : Calls Tryz.prog 50 #[.agg #[.slice A names.length c, .slice A2 es.length c2]] w fun r w' => ∃ v, r = .returned v ∧ Below w.heap.size w w' ∧ NtC w w' v names.length es.length (names.map .string) (es.flatMap edC) := by
  refine calls_of (args := [.agg #[.slice A names.length c, .slice A2 es.length c2]]) T_ok Tryz.func50 rfl Tryz.ntmps50 (Nat.le_of_ble_eq_true rfl) rfl ?_
  repeat' (first
 | (refine C_id ?_; first
 | refine C_seq ?_
 | refine C_region rfl ?_
 | refine C_block ?_
 | refine C_skip ?_
 | refine C_exit ?_
 | refine C_ret0 ?_
 | refine C_condT rfl obQ ?_
 | refine C_condF rfl obQ ?_
 | (refine C_cond rfl obQ (fun h => ?_) (fun h => ?_) <;> (try simp only [Bool.or_eq_true, Bool.and_eq_true, Bool.or_eq_false_iff, Bool.and_eq_false_iff, decide_eq_true_eq, decide_eq_false_iff_not, beq_iff_eq, bne_iff_ne, beq_eq_false_iff_ne, bne_eq_false_iff_eq, ne_eq, Decidable.not_not, List.cons.injEq, and_true, Bool.not_eq_true', Bool.not_eq_false', Int.not_lt, Int.not_le] at h))
      )
 | (refine S_id ?_; first
 | refine S_row00 rfl rfl rfl (fun g => ?_)
 | refine S_appendS rfl obQ rfl rfl rfl ⟨by decide, rfl⟩ rfl ⟨rfl, rfl, rfl, rfl⟩ (names.map .string) (by simp) hA (one_str _) (srcS hr memQ) (by unfold maxLen; dsimp only; omega) (fun A' cap' => ⟨_, rfl, ?_⟩)
 | refine S_nil ?_
 | refine S_run rfl rfl obQ obQ ?_
 | refine S_box (fun b => ⟨_, _, rfl, obQ, ?_⟩)
 | refine S_slice (fun b => ⟨_, _, rfl, obQ, ?_⟩)
      )
 | (refine G_id ?_; first
 | refine G_then ?_
 | refine G_block ?_
 | refine G_blockX ?_
 | refine G_blockN rfl ?_
 | refine G_blockR ?_
 | refine G_thenR ?_
 | refine G_thenX ?_
 | refine G_ret rfl obQ (fun w hw => ⟨?_, hw.below⟩)
      )
    )
  rename_i b1 b2
  refine C_rowB 113 4 [⟨b1, 84, [.v (.slice A names.length c), .v (.slice A2 es.length c2)]⟩, ⟨b2, 89, [.v (.slice none 0 0), .v (.slice none 0 0)]⟩, ⟨b, 89, [.v (.slice A' (0 + names.length) cap'), .r none 0 0 1]⟩] rfl ?_
  refine C_loopS (fun i : Nat × Option Addr × Nat => ⟨[(14, .s (.v (.int .i64 i.1))), (13, .s (.v (.int .i64 es.length))), (12, .s (.v (.slice A2 es.length c2))), (3, .s (.p b 2 0)), (2, .s (.p b2 1 0))], [⟨b1, 84, [.v (.slice A names.length c), .v (.slice A2 es.length c2)]⟩, ⟨b2, 89, [.v (.slice none 0 0), .v (.slice none 0 0)]⟩, ⟨b, 89, [.v (.slice A' (0 + names.length) cap'), .r i.2.1 i.1 i.2.2 1]⟩], [⟨9, 1, 0 + names.length, [] ++ names.map .string, .slice A' (0 + names.length) cap'⟩, ⟨113, 4, i.1, (es.take i.1).flatMap edC, .slice i.2.1 i.1 i.2.2⟩]⟩) (fun i => i.1 ≤ es.length) (fun i => es.length - i.1) (0, none, 0) (Nat.zero_le _) ?_ (fun i hi => ?_)
  · exact ⟨⟨_, rfl, obQ⟩, ⟨_, rfl⟩, rfl, pstQ⟩
  obtain ⟨k, A3, c3⟩ := i
  have hi' : k ≤ es.length := hi
  dsimp only
  by_cases hlt : k < es.length
  · obtain ⟨ad, rfl⟩ := hr2.some (by rw [flat_len (f := edC) (s := 4) es (fun _ _ => rfl)]; omega)
    have hmt := flatMap_take_succ (f := edC) hlt
    repeat' (first
 | (refine C_id ?_; first
 | refine C_seq ?_
 | refine C_region rfl ?_
 | refine C_block ?_
 | refine C_skip ?_
 | refine C_exit ?_
 | refine C_ret0 ?_
 | refine C_condT rfl obQ ?_
 | refine C_condF rfl obQ ?_
 | (refine C_cond rfl obQ (fun h => ?_) (fun h => ?_) <;> (try simp only [Bool.or_eq_true, Bool.and_eq_true, Bool.or_eq_false_iff, Bool.and_eq_false_iff, decide_eq_true_eq, decide_eq_false_iff_not, beq_iff_eq, bne_iff_ne, beq_eq_false_iff_ne, bne_eq_false_iff_eq, ne_eq, Decidable.not_not, List.cons.injEq, and_true, Bool.not_eq_true', Bool.not_eq_false', Int.not_lt, Int.not_le] at h) <;> (try (exfalso; omega)))
          )
 | (refine S_id ?_; first
 | refine S_load rfl obQ rfl [.int .i64 es[k].F, .int .i64 es[k].T, .int .i64 es[k].L, .int .i64 es[k].H] (.past _ memQ _ _ hr2.toS _ _ rfl rfl (idxS (f := edC) (fun _ => rfl) hlt)) rfl (.inl ⟨rfl, rfl⟩) ?_
 | refine S_append rfl obQ rfl rfl rfl ⟨by decide, rfl⟩ rfl ⟨rfl, rfl, rfl, rfl⟩ [.int .i64 es[k].F, .int .i64 es[k].T, .int .i64 es[k].L, .int .i64 es[k].H] ⟨by decide, rfl⟩ (by simp [Value.oneCell']) (fun w hw => by first | exact hw.src (i := 0) rfl rfl | exact hw.src (i := 1) rfl rfl | exact hw.src (i := 2) rfl rfl | exact hw.src (i := 3) rfl rfl | exact hw.src (i := 4) rfl rfl | exact hw.src (i := 5) rfl rfl) (by unfold maxLen; dsimp only; omega) (fun gb cap'_1 => ⟨_, rfl, ?_⟩)
 | refine S_nil ?_
 | refine S_run rfl rfl obQ obQ ?_
 | refine S_box (fun b9 => ⟨_, _, rfl, obQ, ?_⟩)
 | refine S_slice (fun b => ⟨_, _, rfl, obQ, ?_⟩)
          )
 | (refine G_id ?_; first
 | refine G_loop (k + 1, some ⟨gb, 0, none⟩, cap'_1) (by show k + 1 ≤ _; omega) (by show es.length - (k + 1) < es.length - k; omega) ⟨⟨_, rfl, obQ⟩, ⟨_, rfl⟩, (by dsimp only; rw [hmt]; rfl), pstQ⟩
 | refine G_then ?_
 | refine G_block ?_
 | refine G_blockX ?_
 | refine G_blockN rfl ?_
 | refine G_blockR ?_
 | refine G_thenR ?_
 | refine G_thenX ?_
 | refine G_ret rfl obQ (fun w hw => ⟨?_, hw.below⟩)
          )
        )
  · obtain rfl : k = es.length := by omega
    repeat' (first
 | (refine C_id ?_; first
 | refine C_seq ?_
 | refine C_region rfl ?_
 | refine C_block ?_
 | refine C_skip ?_
 | refine C_exit ?_
 | refine C_ret0 ?_
 | refine C_condT rfl obQ ?_
 | refine C_condF rfl obQ ?_
 | (refine C_cond rfl obQ (fun h => ?_) (fun h => ?_) <;> (try simp only [Bool.or_eq_true, Bool.and_eq_true, Bool.or_eq_false_iff, Bool.and_eq_false_iff, decide_eq_true_eq, decide_eq_false_iff_not, beq_iff_eq, bne_iff_ne, beq_eq_false_iff_ne, bne_eq_false_iff_eq, ne_eq, Decidable.not_not, List.cons.injEq, and_true, Bool.not_eq_true', Bool.not_eq_false', Int.not_lt, Int.not_le] at h) <;> (try (exfalso; omega)))
          )
 | (refine S_id ?_; first
 | refine S_nil ?_
 | refine S_run rfl rfl obQ obQ ?_
 | refine S_box (fun b => ⟨_, _, rfl, obQ, ?_⟩)
 | refine S_slice (fun b => ⟨_, _, rfl, obQ, ?_⟩)
          )
 | (refine G_id ?_; first
 | refine G_then ?_
 | refine G_block ?_
 | refine G_blockX ?_
 | refine G_blockN rfl ?_
 | refine G_blockR ?_
 | refine G_thenR ?_
 | refine G_thenX ?_
 | refine G_ret rfl obQ (fun w2 hw => ⟨_, rfl, hw.below, NtC.mk2 (HW.rowSlC (i := 0) hw rfl rfl (by simp) (by simp)) (HW.rowSlC (i := 1) hw rfl rfl rfl (by simp)) rfl⟩)
          )
        )

set_option maxHeartbeats 1000000 in
/-- genlocklaw04.own -/
theorem lOwn_c (A A2 : Option Addr) (c c2 : Nat) (names : List ByteArray) (es : List Edg) (hn : names.length ≤ 1000000) (hm : es.length ≤ 1000000) (w : World) (hr2 : Rd w A2 (es.flatMap edC)) : Calls Tryz.prog 64 #[.agg #[.slice A names.length c, .slice A2 es.length c2]] w fun r w' => ∃ v, r = .returned v ∧ Below w.heap.size w w' ∧ OwR w w' v A names.length c es.length (es.flatMap edC) := by
  refine calls_of (args := [.agg #[.slice A names.length c, .slice A2 es.length c2]]) T_ok Tryz.func64 rfl Tryz.ntmps64 (Nat.le_of_ble_eq_true rfl) rfl ?_
  repeat' (first
 | (refine C_id ?_; first
 | refine C_seq ?_
 | refine C_region rfl ?_
 | refine C_block ?_
 | refine C_skip ?_
 | refine C_exit ?_
 | refine C_ret0 ?_
 | refine C_condT rfl obQ ?_
 | refine C_condF rfl obQ ?_
 | (refine C_cond rfl obQ (fun h => ?_) (fun h => ?_) <;> (try simp only [Bool.or_eq_true, Bool.and_eq_true, Bool.or_eq_false_iff, Bool.and_eq_false_iff, decide_eq_true_eq, decide_eq_false_iff_not, beq_iff_eq, bne_iff_ne, beq_eq_false_iff_ne, bne_eq_false_iff_eq, ne_eq, Decidable.not_not, List.cons.injEq, and_true, Bool.not_eq_true', Bool.not_eq_false', Int.not_lt, Int.not_le] at h))
      )
 | (refine S_id ?_; first
 | refine S_nil ?_
 | refine S_run rfl rfl obQ obQ ?_
 | refine S_box (fun b => ⟨_, _, rfl, obQ, ?_⟩)
 | refine S_slice (fun b => ⟨_, _, rfl, obQ, ?_⟩)
      )
 | (refine G_id ?_; first
 | refine G_then ?_
 | refine G_block ?_
 | refine G_blockX ?_
 | refine G_blockN rfl ?_
 | refine G_blockR ?_
 | refine G_thenR ?_
 | refine G_thenX ?_
 | refine G_ret rfl obQ (fun w hw => ⟨?_, hw.below⟩)
      )
    )
  rename_i b1 b2
  refine C_rowB 108 4 [⟨b1, 89, [.v (.slice A names.length c), .v (.slice A2 es.length c2)]⟩, ⟨b2, 84, [.v (.slice none 0 0), .v (.slice none 0 0)]⟩, ⟨b, 84, [.v (.slice A names.length c), .r none 0 0 0]⟩] rfl ?_
  refine C_loopS (fun i : Nat × Option Addr × Nat => ⟨[(12, .s (.v (.int .i64 i.1))), (11, .s (.v (.int .i64 es.length))), (10, .s (.v (.slice A2 es.length c2))), (3, .s (.p b 2 0)), (2, .s (.p b2 1 0))], [⟨b1, 89, [.v (.slice A names.length c), .v (.slice A2 es.length c2)]⟩, ⟨b2, 84, [.v (.slice none 0 0), .v (.slice none 0 0)]⟩, ⟨b, 84, [.v (.slice A names.length c), .r i.2.1 i.1 i.2.2 0]⟩], [⟨108, 4, i.1, (es.take i.1).flatMap edC, .slice i.2.1 i.1 i.2.2⟩]⟩) (fun i => i.1 ≤ es.length) (fun i => es.length - i.1) (0, none, 0) (Nat.zero_le _) ?_ (fun i hi => ?_)
  · exact ⟨⟨_, rfl, obQ⟩, ⟨_, rfl⟩, rfl, pstQ⟩
  obtain ⟨k, A3, c3⟩ := i
  have hi' : k ≤ es.length := hi
  dsimp only
  by_cases hlt : k < es.length
  · obtain ⟨ad, rfl⟩ := hr2.some (by rw [flat_len (f := edC) (s := 4) es (fun _ _ => rfl)]; omega)
    have hmt := flatMap_take_succ (f := edC) hlt
    repeat' (first
 | (refine C_id ?_; first
 | refine C_seq ?_
 | refine C_region rfl ?_
 | refine C_block ?_
 | refine C_skip ?_
 | refine C_exit ?_
 | refine C_ret0 ?_
 | refine C_condT rfl obQ ?_
 | refine C_condF rfl obQ ?_
 | (refine C_cond rfl obQ (fun h => ?_) (fun h => ?_) <;> (try simp only [Bool.or_eq_true, Bool.and_eq_true, Bool.or_eq_false_iff, Bool.and_eq_false_iff, decide_eq_true_eq, decide_eq_false_iff_not, beq_iff_eq, bne_iff_ne, beq_eq_false_iff_ne, bne_eq_false_iff_eq, ne_eq, Decidable.not_not, List.cons.injEq, and_true, Bool.not_eq_true', Bool.not_eq_false', Int.not_lt, Int.not_le] at h) <;> (try (exfalso; omega)))
          )
 | (refine S_id ?_; first
 | refine S_load rfl obQ rfl [.int .i64 es[k].F, .int .i64 es[k].T, .int .i64 es[k].L, .int .i64 es[k].H] (.past _ memQ _ _ hr2.toS _ _ rfl rfl (idxS (f := edC) (fun _ => rfl) hlt)) rfl (.inl ⟨rfl, rfl⟩) ?_
 | refine S_append rfl obQ rfl rfl rfl ⟨by decide, rfl⟩ rfl ⟨rfl, rfl, rfl, rfl⟩ [.int .i64 es[k].F, .int .i64 es[k].T, .int .i64 es[k].L, .int .i64 es[k].H] ⟨by decide, rfl⟩ (by simp [Value.oneCell']) (fun w hw => by first | exact hw.src (i := 0) rfl rfl | exact hw.src (i := 1) rfl rfl | exact hw.src (i := 2) rfl rfl | exact hw.src (i := 3) rfl rfl | exact hw.src (i := 4) rfl rfl | exact hw.src (i := 5) rfl rfl) (by unfold maxLen; dsimp only; omega) (fun gb cap'_1 => ⟨_, rfl, ?_⟩)
 | refine S_nil ?_
 | refine S_run rfl rfl obQ obQ ?_
 | refine S_box (fun b9 => ⟨_, _, rfl, obQ, ?_⟩)
 | refine S_slice (fun b => ⟨_, _, rfl, obQ, ?_⟩)
          )
 | (refine G_id ?_; first
 | refine G_loop (k + 1, some ⟨gb, 0, none⟩, cap'_1) (by show k + 1 ≤ _; omega) (by show es.length - (k + 1) < es.length - k; omega) ⟨⟨_, rfl, obQ⟩, ⟨_, rfl⟩, (by dsimp only; rw [hmt]; rfl), pstQ⟩
 | refine G_then ?_
 | refine G_block ?_
 | refine G_blockX ?_
 | refine G_blockN rfl ?_
 | refine G_blockR ?_
 | refine G_thenR ?_
 | refine G_thenX ?_
 | refine G_ret rfl obQ (fun w hw => ⟨?_, hw.below⟩)
          )
        )
  · obtain rfl : k = es.length := by omega
    repeat' (first
 | (refine C_id ?_; first
 | refine C_seq ?_
 | refine C_region rfl ?_
 | refine C_block ?_
 | refine C_skip ?_
 | refine C_exit ?_
 | refine C_ret0 ?_
 | refine C_condT rfl obQ ?_
 | refine C_condF rfl obQ ?_
 | (refine C_cond rfl obQ (fun h => ?_) (fun h => ?_) <;> (try simp only [Bool.or_eq_true, Bool.and_eq_true, Bool.or_eq_false_iff, Bool.and_eq_false_iff, decide_eq_true_eq, decide_eq_false_iff_not, beq_iff_eq, bne_iff_ne, beq_eq_false_iff_ne, bne_eq_false_iff_eq, ne_eq, Decidable.not_not, List.cons.injEq, and_true, Bool.not_eq_true', Bool.not_eq_false', Int.not_lt, Int.not_le] at h) <;> (try (exfalso; omega)))
          )
 | (refine S_id ?_; first
 | refine S_nil ?_
 | refine S_run rfl rfl obQ obQ ?_
 | refine S_box (fun b => ⟨_, _, rfl, obQ, ?_⟩)
 | refine S_slice (fun b => ⟨_, _, rfl, obQ, ?_⟩)
          )
 | (refine G_id ?_; first
 | refine G_then ?_
 | refine G_block ?_
 | refine G_blockX ?_
 | refine G_blockN rfl ?_
 | refine G_blockR ?_
 | refine G_thenR ?_
 | refine G_thenX ?_
 | refine G_ret rfl obQ (fun w2 hw => ⟨_, rfl, hw.below, OwR.mk1 (HW.rowSlC (i := 0) hw rfl rfl rfl (by simp)) rfl⟩)
          )
        )

end Go.Proofs.YtmfophoejjcnlaaGreatDoor
namespace Go.Proofs.YtmfophoejjcnlaaGreatDoor
open Go.E Go.RowKit
attribute [local irreducible] G C S D Calls
set_option maxRecDepth 100000
set_option linter.unusedSimpArgs false
set_option linter.unusedVariables false

theorem planN_c (A A2 : Option Addr) (c c2 : Nat) (names : List ByteArray) (es : List Edg) (hn : names.length ≤ 1000000) (hm : es.length ≤ 1000000) (hs : ∀ s ∈ names, s.size ≤ maxLen) {l : List Int} (hp : planR names es = (l, 0)) (hl : l.length = names.length) (w : World) (hr : Rd w A (names.map .string)) (hr2 : Rd w A2 (es.flatMap edC)) : Calls Tryz.prog 49 #[.agg #[.slice A names.length c, .slice A2 es.length c2]] w fun r w' => ∃ v, r = .returned v ∧ Below w.heap.size w w' ∧ Sl2 w w' v names.length (l.map (.int .i64)) (.int .i64 0) := by
  have h := plan_c A A2 c c2 names es hn hm hs w hr hr2
  rw [hp] at h
  dsimp only at h
  rw [hl] at h
  exact h
theorem plan0_c (A A2 : Option Addr) (c c2 : Nat) (names : List ByteArray) (es : List Edg) (hn : names.length ≤ 1000000) (hm : es.length ≤ 1000000) (hs : ∀ s ∈ names, s.size ≤ maxLen) (hp : planR names es = ([], 18)) (w : World) (hr : Rd w A (names.map .string)) (hr2 : Rd w A2 (es.flatMap edC)) : Calls Tryz.prog 49 #[.agg #[.slice A names.length c, .slice A2 es.length c2]] w fun r w' => ∃ v, r = .returned v ∧ Below w.heap.size w w' ∧ Sl2 w w' v 0 [] (.int .i64 18) := by
  have h := plan_c A A2 c c2 names es hn hm hs w hr hr2
  rw [hp] at h
  exact h
theorem win2_c (A A2 : Option Addr) (c c2 : Nat) (names : List ByteArray) (es : List Edg) (hn : names.length ≤ 1000000) (hm : es.length ≤ 1000000) (hs : ∀ s ∈ names, s.size ≤ maxLen) {i a b e : Int} (hp : windowR names es i = (a, b, e)) (w : World) (hr : Rd w A (names.map .string)) (hr2 : Rd w A2 (es.flatMap edC)) : Calls Tryz.prog 54 #[.agg #[.slice A names.length c, .slice A2 es.length c2], .int .i64 i] w fun r w' => r = .returned (.tuple #[.agg #[.int .i64 a, .int .i64 b], .int .i64 e]) ∧ Below w.heap.size w w' := by
  have h := window_c A A2 c c2 names es i hn hm hs w hr hr2
  rw [hp] at h
  exact h
theorem rckn2_c (A A2 : Option Addr) (c c2 : Nat) (names : List ByteArray) (es : List Edg) (hn : names.length ≤ 1000000) (hm : es.length ≤ 1000000) (hs : ∀ s ∈ names, s.size ≤ maxLen) (hc : names.length ≤ c) {e : Int} (hp : netF names es = e) (w : World) (hr : Rd w A (names.map .string)) (hr2 : Rd w A2 (es.flatMap edC)) : Calls Tryz.prog 55 #[.agg #[.slice A names.length c, .slice A2 es.length c2]] w fun r w' => r = .returned (.int .i64 e) ∧ Below w.heap.size w w' := by
  have h := rCheckNet_c A A2 c c2 names es hn hm hs hc w hr hr2
  rw [hp] at h
  exact h
theorem shortB_len2 {names : List ByteArray} {es : List Edg} (h : shortB names es = true) : names.length ≤ 13 ∧ es.length ≤ 25 := by
  unfold shortB at h
  simp only [Bool.and_eq_true, Bool.or_eq_true, decide_eq_true_eq, beq_iff_eq] at h
  omega
theorem rShort2_c (A A2 : Option Addr) (c c2 : Nat) (names : List ByteArray) (es : List Edg) {b : Bool} (hsh : shortB names es = b) (hn : names.length ≤ 9223372036854775807) (hm : es.length ≤ 9223372036854775807) (w : World) (hr : Rd w A (names.map .string)) : Calls Tryz.prog 48 #[.agg #[.slice A names.length c, .slice A2 es.length c2]] w fun r w' => r = .returned (.bool b) ∧ Below w.heap.size w w' := by
  have h := rShort_c A A2 c c2 names es hn hm w hr
  rw [hsh] at h
  exact h

/-- What a plan tells. -/
theorem plan_fea {names : List ByteArray} {es : List Edg} (hN : netF names es = 0) : (planR names es = ([], 18) ∧ ¬ Fea es names.length) ∨ ∃ l, planR names es = (l, 0) ∧ Fea es names.length ∧ l.length = names.length ∧ ∀ v, v < names.length → gT l v = pS es names.length v := by
  by_cases h0 : Fea es names.length
  · obtain ⟨l, h1, h2, h3⟩ := plan_yes hN h0
    exact .inr ⟨l, h1, h0, h2, h3⟩
  · exact .inl ⟨plan_none hN h0, h0⟩

theorem len4 (l : List Edg) : (l.flatMap edC).length = l.length * 4 := flat_len (f := edC) (s := 4) l (fun _ _ => rfl)

end Go.Proofs.YtmfophoejjcnlaaGreatDoor
namespace Go.Proofs.YtmfophoejjcnlaaGreatDoor
open Go.E Go.RowKit
attribute [local irreducible] G C S D Calls
set_option maxRecDepth 100000
set_option linter.unusedSimpArgs false
set_option linter.unusedVariables false

theorem arc_take {l : List Arc} {k : Nat} (h : k < l.length) : (l.take (k + 1)).flatMap arC = (l.take k).flatMap arC ++ arC l[k] := flatMap_take_succ h

set_option maxHeartbeats 400000 in
/-- genlocklaw04.arcs -/
theorem lArcs_c (A : Option Addr) (c : Nat) (l : List Arc) (hl : l.length ≤ 1000000) (w : World) (hr : Rd w A (l.flatMap arC)) : Calls Tryz.prog 70 #[.slice A l.length c] w fun r w' => ∃ v, r = .returned v ∧ Below w.heap.size w w' ∧ Sl w w' v l.length (l.flatMap arC) := by
  refine calls_of (args := [.slice A l.length c]) T_ok Tryz.func70 rfl Tryz.ntmps70 (Nat.le_of_ble_eq_true rfl) rfl ?_
  repeat' (first
 | (refine C_id ?_; first
 | refine C_seq ?_
 | refine C_region rfl ?_
 | refine C_block ?_
 | refine C_skip ?_
 | refine C_exit ?_
 | refine C_ret0 ?_
 | refine C_condT rfl obQ ?_
 | refine C_condF rfl obQ ?_
 | (refine C_cond rfl obQ (fun h => ?_) (fun h => ?_) <;> (try simp only [Bool.or_eq_true, Bool.and_eq_true, Bool.or_eq_false_iff, Bool.and_eq_false_iff, decide_eq_true_eq, decide_eq_false_iff_not, beq_iff_eq, bne_iff_ne, beq_eq_false_iff_ne, bne_eq_false_iff_eq, ne_eq, Decidable.not_not, List.cons.injEq, and_true, Bool.not_eq_true', Bool.not_eq_false', Int.not_lt, Int.not_le] at h))
      )
 | (refine S_id ?_; first
 | refine S_nil ?_
 | refine S_run rfl rfl obQ obQ ?_
 | refine S_box (fun b => ⟨_, _, rfl, obQ, ?_⟩)
 | refine S_slice (fun b => ⟨_, _, rfl, obQ, ?_⟩)
      )
 | (refine G_id ?_; first
 | refine G_then ?_
 | refine G_block ?_
 | refine G_blockX ?_
 | refine G_blockN rfl ?_
 | refine G_blockR ?_
 | refine G_thenR ?_
 | refine G_thenX ?_
 | refine G_ret rfl obQ (fun w hw => ⟨?_, hw.below⟩)
      )
    )
  refine C_row0 3 171 3 rfl ?_
  refine C_loopS (fun i : Nat × Option Addr × Nat => ⟨[(3, .s (.r i.2.1 i.1 i.2.2 0)), (8, .s (.v (.int .i64 i.1))), (7, .s (.v (.int .i64 l.length))), (6, .s (.v (.slice A l.length c)))], [], [⟨171, 3, i.1, (l.take i.1).flatMap arC, .slice i.2.1 i.1 i.2.2⟩]⟩) (fun i => i.1 ≤ l.length) (fun i => l.length - i.1) (0, none, 0) (Nat.zero_le _) ?_ (fun i hi => ?_)
  · exact ⟨⟨_, rfl, obQ⟩, ⟨_, rfl⟩, rfl, pstQ⟩
  obtain ⟨k, A', c'⟩ := i
  have hi' : k ≤ l.length := hi
  dsimp only
  by_cases hlt : k < l.length
  · obtain ⟨ad, rfl⟩ := hr.some (by rw [flat_len (f := arC) (s := 3) l (fun _ _ => rfl)]; omega)
    have hmt := arc_take hlt
    repeat' (first
 | (refine C_id ?_; first
 | refine C_seq ?_
 | refine C_region rfl ?_
 | refine C_block ?_
 | refine C_skip ?_
 | refine C_exit ?_
 | refine C_ret0 ?_
 | refine C_condT rfl obQ ?_
 | refine C_condF rfl obQ ?_
 | (refine C_cond rfl obQ (fun h => ?_) (fun h => ?_) <;> (try simp only [Bool.or_eq_true, Bool.and_eq_true, Bool.or_eq_false_iff, Bool.and_eq_false_iff, decide_eq_true_eq, decide_eq_false_iff_not, beq_iff_eq, bne_iff_ne, beq_eq_false_iff_ne, bne_eq_false_iff_eq, ne_eq, Decidable.not_not, List.cons.injEq, and_true, Bool.not_eq_true', Bool.not_eq_false', Int.not_lt, Int.not_le] at h) <;> (try (exfalso; omega)))
          )
 | (refine S_id ?_; first
 | refine S_load rfl obQ rfl [.int .i64 l[k].E, .bool l[k].B, .int .i64 l[k].N] (.past _ memQ _ _ hr.toS _ _ rfl rfl (idxS (f := arC) (fun _ => rfl) hlt)) rfl (.inl ⟨rfl, rfl⟩) ?_
 | refine S_append rfl obQ rfl rfl rfl ⟨by decide, rfl⟩ rfl ⟨rfl, rfl, rfl, rfl⟩ [.int .i64 l[k].E, .bool l[k].B, .int .i64 l[k].N] ⟨by decide, rfl⟩ (by simp [Value.oneCell']) (fun w hw => by first | exact hw.src (i := 0) rfl rfl | exact hw.src (i := 1) rfl rfl | exact hw.src (i := 2) rfl rfl | exact hw.src (i := 3) rfl rfl | exact hw.src (i := 4) rfl rfl | exact hw.src (i := 5) rfl rfl) (by unfold maxLen; dsimp only; omega) (fun gb cap' => ⟨_, rfl, ?_⟩)
 | refine S_nil ?_
 | refine S_run rfl rfl obQ obQ ?_
 | refine S_box (fun b9 => ⟨_, _, rfl, obQ, ?_⟩)
 | refine S_slice (fun b => ⟨_, _, rfl, obQ, ?_⟩)
          )
 | (refine G_id ?_; first
 | refine G_loop (k + 1, some ⟨gb, 0, none⟩, cap') (by show k + 1 ≤ _; omega) (by show l.length - (k + 1) < l.length - k; omega) ⟨⟨_, rfl, obQ⟩, ⟨_, rfl⟩, (by dsimp only; rw [hmt]; rfl), pstQ⟩
 | refine G_then ?_
 | refine G_block ?_
 | refine G_blockX ?_
 | refine G_blockN rfl ?_
 | refine G_blockR ?_
 | refine G_thenR ?_
 | refine G_thenX ?_
 | refine G_ret rfl obQ (fun w hw => ⟨?_, hw.below⟩)
          )
        )
  · obtain rfl : k = l.length := by omega
    repeat' (first
 | (refine C_id ?_; first
 | refine C_seq ?_
 | refine C_region rfl ?_
 | refine C_block ?_
 | refine C_skip ?_
 | refine C_exit ?_
 | refine C_ret0 ?_
 | refine C_condT rfl obQ ?_
 | refine C_condF rfl obQ ?_
 | (refine C_cond rfl obQ (fun h => ?_) (fun h => ?_) <;> (try simp only [Bool.or_eq_true, Bool.and_eq_true, Bool.or_eq_false_iff, Bool.and_eq_false_iff, decide_eq_true_eq, decide_eq_false_iff_not, beq_iff_eq, bne_iff_ne, beq_eq_false_iff_ne, bne_eq_false_iff_eq, ne_eq, Decidable.not_not, List.cons.injEq, and_true, Bool.not_eq_true', Bool.not_eq_false', Int.not_lt, Int.not_le] at h) <;> (try (exfalso; omega)))
          )
 | (refine S_id ?_; first
 | refine S_nil ?_
 | refine S_run rfl rfl obQ obQ ?_
 | refine S_box (fun b => ⟨_, _, rfl, obQ, ?_⟩)
 | refine S_slice (fun b => ⟨_, _, rfl, obQ, ?_⟩)
          )
 | (refine G_id ?_; first
 | refine G_then ?_
 | refine G_block ?_
 | refine G_blockX ?_
 | refine G_blockN rfl ?_
 | refine G_blockR ?_
 | refine G_thenR ?_
 | refine G_thenX ?_
 | refine G_ret rfl obQ (fun w2 hw => ⟨_, rfl, hw.below, HW.rowSl (i := 0) hw rfl rfl rfl (by rw [List.take_length])⟩)
          )
        )

set_option maxHeartbeats 400000 in
/-- genlocklaw04.told -/
theorem lTold_c (A : Option Addr) (c : Nat) (l : List Arc) (hl : l.length ≤ 1000000) (w : World) (hr : Rd w A (l.flatMap arC)) : Calls Tryz.prog 72 #[.slice A l.length c] w fun r w' => ∃ v, r = .returned v ∧ Below w.heap.size w w' ∧ Sl w w' v l.length (l.flatMap arC) := by
  refine calls_of (args := [.slice A l.length c]) T_ok Tryz.func72 rfl Tryz.ntmps72 (Nat.le_of_ble_eq_true rfl) rfl ?_
  repeat' (first
 | (refine C_id ?_; first
 | refine C_seq ?_
 | refine C_region rfl ?_
 | refine C_block ?_
 | refine C_skip ?_
 | refine C_exit ?_
 | refine C_ret0 ?_
 | refine C_condT rfl obQ ?_
 | refine C_condF rfl obQ ?_
 | (refine C_cond rfl obQ (fun h => ?_) (fun h => ?_) <;> (try simp only [Bool.or_eq_true, Bool.and_eq_true, Bool.or_eq_false_iff, Bool.and_eq_false_iff, decide_eq_true_eq, decide_eq_false_iff_not, beq_iff_eq, bne_iff_ne, beq_eq_false_iff_ne, bne_eq_false_iff_eq, ne_eq, Decidable.not_not, List.cons.injEq, and_true, Bool.not_eq_true', Bool.not_eq_false', Int.not_lt, Int.not_le] at h))
      )
 | (refine S_id ?_; first
 | refine S_nil ?_
 | refine S_run rfl rfl obQ obQ ?_
 | refine S_box (fun b => ⟨_, _, rfl, obQ, ?_⟩)
 | refine S_slice (fun b => ⟨_, _, rfl, obQ, ?_⟩)
      )
 | (refine G_id ?_; first
 | refine G_then ?_
 | refine G_block ?_
 | refine G_blockX ?_
 | refine G_blockN rfl ?_
 | refine G_blockR ?_
 | refine G_thenR ?_
 | refine G_thenX ?_
 | refine G_ret rfl obQ (fun w hw => ⟨?_, hw.below⟩)
      )
    )
  refine C_row0 3 195 3 rfl ?_
  refine C_loopS (fun i : Nat × Option Addr × Nat => ⟨[(3, .s (.r i.2.1 i.1 i.2.2 0)), (8, .s (.v (.int .i64 i.1))), (7, .s (.v (.int .i64 l.length))), (6, .s (.v (.slice A l.length c)))], [], [⟨195, 3, i.1, (l.take i.1).flatMap arC, .slice i.2.1 i.1 i.2.2⟩]⟩) (fun i => i.1 ≤ l.length) (fun i => l.length - i.1) (0, none, 0) (Nat.zero_le _) ?_ (fun i hi => ?_)
  · exact ⟨⟨_, rfl, obQ⟩, ⟨_, rfl⟩, rfl, pstQ⟩
  obtain ⟨k, A', c'⟩ := i
  have hi' : k ≤ l.length := hi
  dsimp only
  by_cases hlt : k < l.length
  · obtain ⟨ad, rfl⟩ := hr.some (by rw [flat_len (f := arC) (s := 3) l (fun _ _ => rfl)]; omega)
    have hmt := arc_take hlt
    repeat' (first
 | (refine C_id ?_; first
 | refine C_seq ?_
 | refine C_region rfl ?_
 | refine C_block ?_
 | refine C_skip ?_
 | refine C_exit ?_
 | refine C_ret0 ?_
 | refine C_condT rfl obQ ?_
 | refine C_condF rfl obQ ?_
 | (refine C_cond rfl obQ (fun h => ?_) (fun h => ?_) <;> (try simp only [Bool.or_eq_true, Bool.and_eq_true, Bool.or_eq_false_iff, Bool.and_eq_false_iff, decide_eq_true_eq, decide_eq_false_iff_not, beq_iff_eq, bne_iff_ne, beq_eq_false_iff_ne, bne_eq_false_iff_eq, ne_eq, Decidable.not_not, List.cons.injEq, and_true, Bool.not_eq_true', Bool.not_eq_false', Int.not_lt, Int.not_le] at h) <;> (try (exfalso; omega)))
          )
 | (refine S_id ?_; first
 | refine S_load rfl obQ rfl [.int .i64 l[k].E, .bool l[k].B, .int .i64 l[k].N] (.past _ memQ _ _ hr.toS _ _ rfl rfl (idxS (f := arC) (fun _ => rfl) hlt)) rfl (.inl ⟨rfl, rfl⟩) ?_
 | refine S_append rfl obQ rfl rfl rfl ⟨by decide, rfl⟩ rfl ⟨rfl, rfl, rfl, rfl⟩ [.int .i64 l[k].E, .bool l[k].B, .int .i64 l[k].N] ⟨by decide, rfl⟩ (by simp [Value.oneCell']) (fun w hw => by first | exact hw.src (i := 0) rfl rfl | exact hw.src (i := 1) rfl rfl | exact hw.src (i := 2) rfl rfl | exact hw.src (i := 3) rfl rfl | exact hw.src (i := 4) rfl rfl | exact hw.src (i := 5) rfl rfl) (by unfold maxLen; dsimp only; omega) (fun gb cap' => ⟨_, rfl, ?_⟩)
 | refine S_nil ?_
 | refine S_run rfl rfl obQ obQ ?_
 | refine S_box (fun b9 => ⟨_, _, rfl, obQ, ?_⟩)
 | refine S_slice (fun b => ⟨_, _, rfl, obQ, ?_⟩)
          )
 | (refine G_id ?_; first
 | refine G_loop (k + 1, some ⟨gb, 0, none⟩, cap') (by show k + 1 ≤ _; omega) (by show l.length - (k + 1) < l.length - k; omega) ⟨⟨_, rfl, obQ⟩, ⟨_, rfl⟩, (by dsimp only; rw [hmt]; rfl), pstQ⟩
 | refine G_then ?_
 | refine G_block ?_
 | refine G_blockX ?_
 | refine G_blockN rfl ?_
 | refine G_blockR ?_
 | refine G_thenR ?_
 | refine G_thenX ?_
 | refine G_ret rfl obQ (fun w hw => ⟨?_, hw.below⟩)
          )
        )
  · obtain rfl : k = l.length := by omega
    repeat' (first
 | (refine C_id ?_; first
 | refine C_seq ?_
 | refine C_region rfl ?_
 | refine C_block ?_
 | refine C_skip ?_
 | refine C_exit ?_
 | refine C_ret0 ?_
 | refine C_condT rfl obQ ?_
 | refine C_condF rfl obQ ?_
 | (refine C_cond rfl obQ (fun h => ?_) (fun h => ?_) <;> (try simp only [Bool.or_eq_true, Bool.and_eq_true, Bool.or_eq_false_iff, Bool.and_eq_false_iff, decide_eq_true_eq, decide_eq_false_iff_not, beq_iff_eq, bne_iff_ne, beq_eq_false_iff_ne, bne_eq_false_iff_eq, ne_eq, Decidable.not_not, List.cons.injEq, and_true, Bool.not_eq_true', Bool.not_eq_false', Int.not_lt, Int.not_le] at h) <;> (try (exfalso; omega)))
          )
 | (refine S_id ?_; first
 | refine S_nil ?_
 | refine S_run rfl rfl obQ obQ ?_
 | refine S_box (fun b => ⟨_, _, rfl, obQ, ?_⟩)
 | refine S_slice (fun b => ⟨_, _, rfl, obQ, ?_⟩)
          )
 | (refine G_id ?_; first
 | refine G_then ?_
 | refine G_block ?_
 | refine G_blockX ?_
 | refine G_blockN rfl ?_
 | refine G_blockR ?_
 | refine G_thenR ?_
 | refine G_thenX ?_
 | refine G_ret rfl obQ (fun w2 hw => ⟨_, rfl, hw.below, HW.rowSl (i := 0) hw rfl rfl rfl (by rw [List.take_length])⟩)
          )
        )

end Go.Proofs.YtmfophoejjcnlaaGreatDoor
