/- Nets with an edge more, with an edge less; the reference of these. -/
import Derived.Test.YtmfophoejjcnlaaGreatDoorTiming57
import Derived.Test.YtmfophoejjcnlaaGreatDoorTiming56
import Derived.Test.YtmfophoejjcnlaaGreatDoorEngAA
import Derived.Test.YtmfophoejjcnlaaGreatDoorTiming86
namespace Go.Proofs.YtmfophoejjcnlaaGreatDoor
open Go.E Go.RowKit
attribute [local irreducible] G C S D Calls
set_option maxRecDepth 100000
set_option linter.unusedSimpArgs false
set_option linter.unusedVariables false

/-- A net whose edges are new. -/
def OwR (w w' : World) (v : Value) (A : Option Addr) (n c m : Nat) (ys : List Value) : Prop := ∃ A2 c2, v = .agg #[.slice A n c, .slice A2 m c2] ∧ RdS (fun b => w.heap.size ≤ b ∧ b < w'.heap.size) w' A2 ys ∧ m ≤ c2 ∧ (A2 = none → m = 0 ∧ c2 = 0)
theorem OwR.mk1 {w w' : World} {v v2 : Value} {A : Option Addr} {n c m : Nat} {ys : List Value} (h : SlC w w' v2 m ys) (hv : v = .agg #[.slice A n c, v2]) : OwR w w' v A n c m ys := by
  obtain ⟨A2, c2, rfl, r2, r3, _, r4⟩ := h
  exact ⟨A2, c2, hv, r2, r3, r4⟩
/-- A net, all of it new, with what is known of its room. -/
def NtC (w w' : World) (v : Value) (n m : Nat) (xs ys : List Value) : Prop := ∃ A A2 c c2, v = .agg #[.slice A n c, .slice A2 m c2] ∧ RdS (fun b => w.heap.size ≤ b ∧ b < w'.heap.size) w' A xs ∧ RdS (fun b => w.heap.size ≤ b ∧ b < w'.heap.size) w' A2 ys ∧ (n ≤ c ∧ (A = none → n = 0 ∧ c = 0)) ∧ m ≤ c2 ∧ (A2 = none → m = 0 ∧ c2 = 0)
theorem NtC.mk2 {w w' : World} {v v1 v2 : Value} {n m : Nat} {xs ys : List Value} (h1 : SlC w w' v1 n xs) (h2 : SlC w w' v2 m ys) (hv : v = .agg #[v1, v2]) : NtC w w' v n m xs ys := by
  obtain ⟨A, c, rfl, r1, a1, _, b1⟩ := h1
  obtain ⟨A2, c2, rfl, r2, a2, _, b2⟩ := h2
  exact ⟨A, A2, c, c2, hv, r1, r2, ⟨a1, b1⟩, a2, b2⟩
/-- The same, and an error. -/
def NtE (w w' : World) (v : Value) (n m : Nat) (xs ys : List Value) (e : Value) : Prop := ∃ A A2 c c2, v = .tuple #[.agg #[.slice A n c, .slice A2 m c2], e] ∧ RdS (fun b => w.heap.size ≤ b ∧ b < w'.heap.size) w' A xs ∧ RdS (fun b => w.heap.size ≤ b ∧ b < w'.heap.size) w' A2 ys ∧ (n ≤ c ∧ (A = none → n = 0 ∧ c = 0)) ∧ m ≤ c2 ∧ (A2 = none → m = 0 ∧ c2 = 0)
theorem NtE.mk2 {w w' : World} {v v1 v2 e : Value} {n m : Nat} {xs ys : List Value} (h1 : SlC w w' v1 n xs) (h2 : SlC w w' v2 m ys) (hv : v = .tuple #[.agg #[v1, v2], e]) : NtE w w' v n m xs ys e := by
  obtain ⟨A, c, rfl, r1, a1, _, b1⟩ := h1
  obtain ⟨A2, c2, rfl, r2, a2, _, b2⟩ := h2
  exact ⟨A, A2, c, c2, hv, r1, r2, ⟨a1, b1⟩, a2, b2⟩
theorem HW.callSlC {w0 w w1 w2 : World} {Ps : Past} {σ : St} (hw : HW w0.heap.size w0 Ps σ w) {A : Option Addr} {n c : Nat} {xs : List Value} (h : RdS (fun b => w1.heap.size ≤ b ∧ b < w2.heap.size) w2 A xs) (hp : (w2, fun b => w1.heap.size ≤ b ∧ b < w2.heap.size) ∈ Ps) (h1 : w0.heap.size ≤ w1.heap.size)
    (hc : n ≤ c ∧ c ≤ maxLen ∧ (A = none → n = 0 ∧ c = 0)) : SlC w0 w (.slice A n c) n xs := by
  obtain ⟨A', c', e, hr⟩ := HW.callSl (n := n) (c := c) hw h hp h1
  cases e
  exact ⟨_, _, rfl, hr, hc⟩
theorem one_edg (l : List Edg) : ∀ u ∈ l.flatMap edC, u.oneCell' = true := by
  intro u hu
  obtain ⟨e, _, h⟩ := List.mem_flatMap.1 hu
  simp only [edC, List.mem_cons, List.mem_nil_iff, or_false] at h
  rcases h with rfl | rfl | rfl | rfl <;> rfl

set_option maxHeartbeats 400000 in
/-- slices.Clone[[]string,string] -/
theorem cloneS_c (A : Option Addr) (c n : Nat) (l : List ByteArray) (hn : l.length = n) (hl : n ≤ 1000000) (hA : A = none → n = 0 ∧ c = 0) (w : World) (hr : Rd w A (l.map .string)) : Calls Tryz.prog 116 #[.slice A n c] w fun r w' => ∃ v, r = .returned v ∧ Below w.heap.size w w' ∧ SlC w w' v n (l.map .string) := by
  refine calls_of (args := [.slice A n c]) T_ok Tryz.func116 rfl Tryz.ntmps116 (Nat.le_of_ble_eq_true rfl) rfl ?_
  subst hn
  cases A with
  | none =>
    obtain ⟨h1, h2⟩ := hA rfl
    obtain rfl := List.eq_nil_of_length_eq_zero h1
    repeat' (first
 | (refine C_id ?_; first
 | refine C_condT rfl obQ ?_
 | refine C_seq ?_
 | refine C_region rfl ?_
 | refine C_block ?_
 | refine C_skip ?_
 | refine C_exit ?_
 | refine C_ret0 ?_
          )
 | (refine S_id ?_; first
 | refine S_pure (binX_pure rfl obQ (fun w => eq_nilT rfl rfl _ _ _ _ _ _ _ w)) ?_
 | refine S_nil ?_
 | refine S_run rfl rfl obQ obQ ?_
 | refine S_slice (fun b => ⟨_, _, rfl, obQ, ?_⟩)
          )
 | (refine G_id ?_; first
 | refine G_then ?_
 | refine G_block ?_
 | refine G_blockX ?_
 | refine G_blockN rfl ?_
 | refine G_blockR ?_
 | refine G_thenR ?_
 | refine G_thenX ?_
 | refine G_ret rfl obQ (fun w2 hw => ⟨_, rfl, hw.below, SlC.nil_ _ _⟩)
          )
        )
  | some ad =>
    repeat' (first
 | (refine C_id ?_; first
 | refine C_condF rfl obQ ?_
 | refine C_seq ?_
 | refine C_region rfl ?_
 | refine C_block ?_
 | refine C_skip ?_
 | refine C_exit ?_
 | refine C_ret0 ?_
          )
 | (refine S_id ?_; first
 | refine S_pure (binX_pure rfl obQ (fun w => eq_nilT rfl rfl _ _ _ _ _ _ _ w)) ?_
 | refine S_row00 rfl rfl rfl (fun g => ?_)
 | refine S_appendS rfl obQ rfl rfl rfl ⟨by decide, rfl⟩ rfl ⟨rfl, rfl, rfl, rfl⟩ (l.map .string) (by simp) (fun h => by cases h) (one_str _) (srcS hr memQ) (by unfold maxLen; dsimp only; omega) (fun A' cap' => ⟨_, rfl, ?_⟩)
 | refine S_nil ?_
 | refine S_run rfl rfl obQ obQ ?_
 | refine S_slice (fun b => ⟨_, _, rfl, obQ, ?_⟩)
          )
 | (refine G_id ?_; first
 | refine G_then ?_
 | refine G_block ?_
 | refine G_blockX ?_
 | refine G_blockN rfl ?_
 | refine G_blockR ?_
 | refine G_thenR ?_
 | refine G_thenX ?_
 | refine G_ret rfl obQ (fun w2 hw => ⟨_, rfl, hw.below, HW.rowSlC (i := 0) hw rfl rfl (by simp) (by simp)⟩)
          )
        )

set_option maxHeartbeats 400000 in
/-- slices.Clone[[]genlock/timing.Edge,genlock/timing.Edge] -/
theorem cloneE_c (A : Option Addr) (c n : Nat) (l : List Edg) (hn : l.length = n) (hl : n ≤ 1000000) (hA : A = none → n = 0 ∧ c = 0) (w : World) (hr : Rd w A (l.flatMap edC)) : Calls Tryz.prog 117 #[.slice A n c] w fun r w' => ∃ v, r = .returned v ∧ Below w.heap.size w w' ∧ w'.ownsRow w.heap.size 113 4 v n (l.flatMap edC) := by
  refine calls_of (args := [.slice A n c]) T_ok Tryz.func117 rfl Tryz.ntmps117 (Nat.le_of_ble_eq_true rfl) rfl ?_
  subst hn
  cases A with
  | none =>
    obtain ⟨h1, h2⟩ := hA rfl
    obtain rfl := List.eq_nil_of_length_eq_zero h1
    repeat' (first
 | (refine C_id ?_; first
 | refine C_condT rfl obQ ?_
 | refine C_seq ?_
 | refine C_region rfl ?_
 | refine C_block ?_
 | refine C_skip ?_
 | refine C_exit ?_
 | refine C_ret0 ?_
          )
 | (refine S_id ?_; first
 | refine S_pure (binX_pure rfl obQ (fun w => eq_nilT rfl rfl _ _ _ _ _ _ _ w)) ?_
 | refine S_nil ?_
 | refine S_run rfl rfl obQ obQ ?_
 | refine S_slice (fun b => ⟨_, _, rfl, obQ, ?_⟩)
          )
 | (refine G_id ?_; first
 | refine G_then ?_
 | refine G_block ?_
 | refine G_blockX ?_
 | refine G_blockN rfl ?_
 | refine G_blockR ?_
 | refine G_thenR ?_
 | refine G_thenX ?_
 | refine G_ret rfl obQ (fun w2 hw => ⟨_, rfl, hw.below, World.ownsRow_nil _ _ _ _⟩)
          )
        )
  | some ad =>
    repeat' (first
 | (refine C_id ?_; first
 | refine C_condF rfl obQ ?_
 | refine C_seq ?_
 | refine C_region rfl ?_
 | refine C_block ?_
 | refine C_skip ?_
 | refine C_exit ?_
 | refine C_ret0 ?_
          )
 | (refine S_id ?_; first
 | refine S_pure (binX_pure rfl obQ (fun w => eq_nilT rfl rfl _ _ _ _ _ _ _ w)) ?_
 | refine S_row00 rfl rfl rfl (fun g => ?_)
 | refine S_appendS rfl obQ rfl rfl rfl ⟨by decide, rfl⟩ rfl ⟨rfl, rfl, rfl, rfl⟩ (l.flatMap edC) (by rw [flat_len (f := edC) (s := 4) l (fun _ _ => rfl)]) (fun h => by cases h) (one_edg _) (srcS hr memQ) (by unfold maxLen; dsimp only; omega) (fun A' cap' => ⟨_, rfl, ?_⟩)
 | refine S_nil ?_
 | refine S_run rfl rfl obQ obQ ?_
 | refine S_slice (fun b => ⟨_, _, rfl, obQ, ?_⟩)
          )
 | (refine G_id ?_; first
 | refine G_then ?_
 | refine G_block ?_
 | refine G_blockX ?_
 | refine G_blockN rfl ?_
 | refine G_blockR ?_
 | refine G_thenR ?_
 | refine G_thenX ?_
 | refine G_ret rfl obQ (fun w2 hw => ⟨_, rfl, hw.below, (by have h := HW.ownRow (i := 0) hw rfl rfl rfl rfl; simpa using h)⟩)
          )
        )

set_option maxHeartbeats 1000000 in
/-- genlocklaw04.given -/
theorem lGivenC_c (A A2 : Option Addr) (c c2 : Nat) (names : List ByteArray) (es : List Edg) (hn : names.length ≤ 1000000) (hm : es.length ≤ 1000000) (hA : A = none → names.length = 0 ∧ c = 0) (w : World) (hr : Rd w A (names.map .string)) (hr2 : Rd w A2 (es.flatMap edC)) : Calls Tryz.prog 50 #[.agg #[.slice A names.length c, .slice A2 es.length c2]] w fun r w' => ∃ v, r = .returned v ∧ Below w.heap.size w w' ∧ NtC w w' v names.length es.length (names.map .string) (es.flatMap edC) := by
  refine calls_of (args := [.agg #[.slice A names.length c, .slice A2 es.length c2]]) T_ok Tryz.func50 rfl Tryz.ntmps50 (Nat.le_of_ble_eq_true rfl) rfl ?_
  repeat' (first
 | (refine C_id ?_; first
 | refine C_seq ?_
 | refine C_region rfl ?_
 | refine C_block ?_
 | refine C_skip ?_
 | refine C_exit ?_
 | refine C_ret0 ?_
 | refine C_condT rfl obQ ?_
 | refine C_condF rfl obQ ?_
 | (refine C_cond rfl obQ (fun h => ?_) (fun h => ?_) <;> (try simp only [Bool.or_eq_true, Bool.and_eq_true, Bool.or_eq_false_iff, Bool.and_eq_false_iff, decide_eq_true_eq, decide_eq_false_iff_not, beq_iff_eq, bne_iff_ne, beq_eq_false_iff_ne, bne_eq_false_iff_eq, ne_eq, Decidable.not_not, List.cons.injEq, and_true, Bool.not_eq_true', Bool.not_eq_false', Int.not_lt, Int.not_le] at h))
      )
 | (refine S_id ?_; first
 | refine S_row00 rfl rfl rfl (fun g => ?_)
 | refine S_appendS rfl obQ rfl rfl rfl ⟨by decide, rfl⟩ rfl ⟨rfl, rfl, rfl, rfl⟩ (names.map .string) (by simp) hA (one_str _) (srcS hr memQ) (by unfold maxLen; dsimp only; omega) (fun A' cap' => ⟨_, rfl, ?_⟩)
 | refine S_nil ?_
 | refine S_run rfl rfl obQ obQ ?_
 | refine S_box (fun b => ⟨_, _, rfl, obQ, ?_⟩)
 | refine S_slice (fun b => ⟨_, _, rfl, obQ, ?_⟩)
      )
 | (refine G_id ?_; first
 | refine G_then ?_
 | refine G_block ?_
 | refine G_blockX ?_
 | refine G_blockN rfl ?_
 | refine G_blockR ?_
 | refine G_thenR ?_
 | refine G_thenX ?_
 | refine G_ret rfl obQ (fun w hw => ⟨?_, hw.below⟩)
      )
    )
  rename_i b1 b2
  refine C_rowB 113 4 [⟨b1, 84, [.v (.slice A names.length c), .v (.slice A2 es.length c2)]⟩, ⟨b2, 89, [.v (.slice none 0 0), .v (.slice none 0 0)]⟩, ⟨b, 89, [.v (.slice A' (0 + names.length) cap'), .r none 0 0 1]⟩] rfl ?_
  refine C_loopS (fun i : Nat × Option Addr × Nat => ⟨[(14, .s (.v (.int .i64 i.1))), (13, .s (.v (.int .i64 es.length))), (12, .s (.v (.slice A2 es.length c2))), (3, .s (.p b 2 0)), (2, .s (.p b2 1 0))], [⟨b1, 84, [.v (.slice A names.length c), .v (.slice A2 es.length c2)]⟩, ⟨b2, 89, [.v (.slice none 0 0), .v (.slice none 0 0)]⟩, ⟨b, 89, [.v (.slice A' (0 + names.length) cap'), .r i.2.1 i.1 i.2.2 1]⟩], [⟨9, 1, 0 + names.length, [] ++ names.map .string, .slice A' (0 + names.length) cap'⟩, ⟨113, 4, i.1, (es.take i.1).flatMap edC, .slice i.2.1 i.1 i.2.2⟩]⟩) (fun i => i.1 ≤ es.length) (fun i => es.length - i.1) (0, none, 0) (Nat.zero_le _) ?_ (fun i hi => ?_)
  · exact ⟨⟨_, rfl, obQ⟩, ⟨_, rfl⟩, rfl, pstQ⟩
  obtain ⟨k, A3, c3⟩ := i
  have hi' : k ≤ es.length := hi
  dsimp only
  by_cases hlt : k < es.length
  · obtain ⟨ad, rfl⟩ := hr2.some (by rw [flat_len (f := edC) (s := 4) es (fun _ _ => rfl)]; omega)
    have hmt := flatMap_take_succ (f := edC) hlt
    repeat' (first
 | (refine C_id ?_; first
 | refine C_seq ?_
 | refine C_region rfl ?_
 | refine C_block ?_
 | refine C_skip ?_
 | refine C_exit ?_
 | refine C_ret0 ?_
 | refine C_condT rfl obQ ?_
 | refine C_condF rfl obQ ?_
 | (refine C_cond rfl obQ (fun h => ?_) (fun h => ?_) <;> (try simp only [Bool.or_eq_true, Bool.and_eq_true, Bool.or_eq_false_iff, Bool.and_eq_false_iff, decide_eq_true_eq, decide_eq_false_iff_not, beq_iff_eq, bne_iff_ne, beq_eq_false_iff_ne, bne_eq_false_iff_eq, ne_eq, Decidable.not_not, List.cons.injEq, and_true, Bool.not_eq_true', Bool.not_eq_false', Int.not_lt, Int.not_le] at h) <;> (try (exfalso; omega)))
          )
 | (refine S_id ?_; first
 | refine S_load rfl obQ rfl [.int .i64 es[k].F, .int .i64 es[k].T, .int .i64 es[k].L, .int .i64 es[k].H] (.past _ memQ _ _ hr2.toS _ _ rfl rfl (idxS (f := edC) (fun _ => rfl) hlt)) rfl (.inl ⟨rfl, rfl⟩) ?_
 | refine S_append rfl obQ rfl rfl rfl ⟨by decide, rfl⟩ rfl ⟨rfl, rfl, rfl, rfl⟩ [.int .i64 es[k].F, .int .i64 es[k].T, .int .i64 es[k].L, .int .i64 es[k].H] ⟨by decide, rfl⟩ (by simp [Value.oneCell']) (fun w hw => by first | exact hw.src (i := 0) rfl rfl | exact hw.src (i := 1) rfl rfl | exact hw.src (i := 2) rfl rfl | exact hw.src (i := 3) rfl rfl | exact hw.src (i := 4) rfl rfl | exact hw.src (i := 5) rfl rfl) (by unfold maxLen; dsimp only; omega) (fun gb cap'_1 => ⟨_, rfl, ?_⟩)
 | refine S_nil ?_
 | refine S_run rfl rfl obQ obQ ?_
 | refine S_box (fun b9 => ⟨_, _, rfl, obQ, ?_⟩)
 | refine S_slice (fun b => ⟨_, _, rfl, obQ, ?_⟩)
          )
 | (refine G_id ?_; first
 | refine G_loop (k + 1, some ⟨gb, 0, none⟩, cap'_1) (by show k + 1 ≤ _; omega) (by show es.length - (k + 1) < es.length - k; omega) ⟨⟨_, rfl, obQ⟩, ⟨_, rfl⟩, (by dsimp only; rw [hmt]; rfl), pstQ⟩
 | refine G_then ?_
 | refine G_block ?_
 | refine G_blockX ?_
 | refine G_blockN rfl ?_
 | refine G_blockR ?_
 | refine G_thenR ?_
 | refine G_thenX ?_
 | refine G_ret rfl obQ (fun w hw => ⟨?_, hw.below⟩)
          )
        )
  · obtain rfl : k = es.length := by omega
    repeat' (first
 | (refine C_id ?_; first
 | refine C_seq ?_
 | refine C_region rfl ?_
 | refine C_block ?_
 | refine C_skip ?_
 | refine C_exit ?_
 | refine C_ret0 ?_
 | refine C_condT rfl obQ ?_
 | refine C_condF rfl obQ ?_
 | (refine C_cond rfl obQ (fun h => ?_) (fun h => ?_) <;> (try simp only [Bool.or_eq_true, Bool.and_eq_true, Bool.or_eq_false_iff, Bool.and_eq_false_iff, decide_eq_true_eq, decide_eq_false_iff_not, beq_iff_eq, bne_iff_ne, beq_eq_false_iff_ne, bne_eq_false_iff_eq, ne_eq, Decidable.not_not, List.cons.injEq, and_true, Bool.not_eq_true', Bool.not_eq_false', Int.not_lt, Int.not_le] at h) <;> (try (exfalso; omega)))
          )
 | (refine S_id ?_; first
 | refine S_nil ?_
 | refine S_run rfl rfl obQ obQ ?_
 | refine S_box (fun b => ⟨_, _, rfl, obQ, ?_⟩)
 | refine S_slice (fun b => ⟨_, _, rfl, obQ, ?_⟩)
          )
 | (refine G_id ?_; first
 | refine G_then ?_
 | refine G_block ?_
 | refine G_blockX ?_
 | refine G_blockN rfl ?_
 | refine G_blockR ?_
 | refine G_thenR ?_
 | refine G_thenX ?_
 | refine G_ret rfl obQ (fun w2 hw => ⟨_, rfl, hw.below, NtC.mk2 (HW.rowSlC (i := 0) hw rfl rfl (by simp) (by simp)) (HW.rowSlC (i := 1) hw rfl rfl rfl (by simp)) rfl⟩)
          )
        )

set_option maxHeartbeats 1000000 in
/-- genlocklaw04.own -/
theorem lOwn_c (A A2 : Option Addr) (c c2 : Nat) (names : List ByteArray) (es : List Edg) (hn : names.length ≤ 1000000) (hm : es.length ≤ 1000000) (w : World) (hr2 : Rd w A2 (es.flatMap edC)) : Calls Tryz.prog 64 #[.agg #[.slice A names.length c, .slice A2 es.length c2]] w fun r w' => ∃ v, r = .returned v ∧ Below w.heap.size w w' ∧ OwR w w' v A names.length c es.length (es.flatMap edC) := by
  refine calls_of (args := [.agg #[.slice A names.length c, .slice A2 es.length c2]]) T_ok Tryz.func64 rfl Tryz.ntmps64 (Nat.le_of_ble_eq_true rfl) rfl ?_
  repeat' (first
 | (refine C_id ?_; first
 | refine C_seq ?_
 | refine C_region rfl ?_
 | refine C_block ?_
 | refine C_skip ?_
 | refine C_exit ?_
 | refine C_ret0 ?_
 | refine C_condT rfl obQ ?_
 | refine C_condF rfl obQ ?_
 | (refine C_cond rfl obQ (fun h => ?_) (fun h => ?_) <;> (try simp only [Bool.or_eq_true, Bool.and_eq_true, Bool.or_eq_false_iff, Bool.and_eq_false_iff, decide_eq_true_eq, decide_eq_false_iff_not, beq_iff_eq, bne_iff_ne, beq_eq_false_iff_ne, bne_eq_false_iff_eq, ne_eq, Decidable.not_not, List.cons.injEq, and_true, Bool.not_eq_true', Bool.not_eq_false', Int.not_lt, Int.not_le] at h))
      )
 | (refine S_id ?_; first
 | refine S_nil ?_
 | refine S_run rfl rfl obQ obQ ?_
 | refine S_box (fun b => ⟨_, _, rfl, obQ, ?_⟩)
 | refine S_slice (fun b => ⟨_, _, rfl, obQ, ?_⟩)
      )
 | (refine G_id ?_; first
 | refine G_then ?_
 | refine G_block ?_
 | refine G_blockX ?_
 | refine G_blockN rfl ?_
 | refine G_blockR ?_
 | refine G_thenR ?_
 | refine G_thenX ?_
 | refine G_ret rfl obQ (fun w hw => ⟨?_, hw.below⟩)
      )
    )
  rename_i b1 b2
  refine C_rowB 108 4 [⟨b1, 89, [.v (.slice A names.length c), .v (.slice A2 es.length c2)]⟩, ⟨b2, 84, [.v (.slice none 0 0), .v (.slice none 0 0)]⟩, ⟨b, 84, [.v (.slice A names.length c), .r none 0 0 0]⟩] rfl ?_
  refine C_loopS (fun i : Nat × Option Addr × Nat => ⟨[(12, .s (.v (.int .i64 i.1))), (11, .s (.v (.int .i64 es.length))), (10, .s (.v (.slice A2 es.length c2))), (3, .s (.p b 2 0)), (2, .s (.p b2 1 0))], [⟨b1, 89, [.v (.slice A names.length c), .v (.slice A2 es.length c2)]⟩, ⟨b2, 84, [.v (.slice none 0 0), .v (.slice none 0 0)]⟩, ⟨b, 84, [.v (.slice A names.length c), .r i.2.1 i.1 i.2.2 0]⟩], [⟨108, 4, i.1, (es.take i.1).flatMap edC, .slice i.2.1 i.1 i.2.2⟩]⟩) (fun i => i.1 ≤ es.length) (fun i => es.length - i.1) (0, none, 0) (Nat.zero_le _) ?_ (fun i hi => ?_)
  · exact ⟨⟨_, rfl, obQ⟩, ⟨_, rfl⟩, rfl, pstQ⟩
  obtain ⟨k, A3, c3⟩ := i
  have hi' : k ≤ es.length := hi
  dsimp only
  by_cases hlt : k < es.length
  · obtain ⟨ad, rfl⟩ := hr2.some (by rw [flat_len (f := edC) (s := 4) es (fun _ _ => rfl)]; omega)
    have hmt := flatMap_take_succ (f := edC) hlt
    repeat' (first
 | (refine C_id ?_; first
 | refine C_seq ?_
 | refine C_region rfl ?_
 | refine C_block ?_
 | refine C_skip ?_
 | refine C_exit ?_
 | refine C_ret0 ?_
 | refine C_condT rfl obQ ?_
 | refine C_condF rfl obQ ?_
 | (refine C_cond rfl obQ (fun h => ?_) (fun h => ?_) <;> (try simp only [Bool.or_eq_true, Bool.and_eq_true, Bool.or_eq_false_iff, Bool.and_eq_false_iff, decide_eq_true_eq, decide_eq_false_iff_not, beq_iff_eq, bne_iff_ne, beq_eq_false_iff_ne, bne_eq_false_iff_eq, ne_eq, Decidable.not_not, List.cons.injEq, and_true, Bool.not_eq_true', Bool.not_eq_false', Int.not_lt, Int.not_le] at h) <;> (try (exfalso; omega)))
          )
 | (refine S_id ?_; first
 | refine S_load rfl obQ rfl [.int .i64 es[k].F, .int .i64 es[k].T, .int .i64 es[k].L, .int .i64 es[k].H] (.past _ memQ _ _ hr2.toS _ _ rfl rfl (idxS (f := edC) (fun _ => rfl) hlt)) rfl (.inl ⟨rfl, rfl⟩) ?_
 | refine S_append rfl obQ rfl rfl rfl ⟨by decide, rfl⟩ rfl ⟨rfl, rfl, rfl, rfl⟩ [.int .i64 es[k].F, .int .i64 es[k].T, .int .i64 es[k].L, .int .i64 es[k].H] ⟨by decide, rfl⟩ (by simp [Value.oneCell']) (fun w hw => by first | exact hw.src (i := 0) rfl rfl | exact hw.src (i := 1) rfl rfl | exact hw.src (i := 2) rfl rfl | exact hw.src (i := 3) rfl rfl | exact hw.src (i := 4) rfl rfl | exact hw.src (i := 5) rfl rfl) (by unfold maxLen; dsimp only; omega) (fun gb cap'_1 => ⟨_, rfl, ?_⟩)
 | refine S_nil ?_
 | refine S_run rfl rfl obQ obQ ?_
 | refine S_box (fun b9 => ⟨_, _, rfl, obQ, ?_⟩)
 | refine S_slice (fun b => ⟨_, _, rfl, obQ, ?_⟩)
          )
 | (refine G_id ?_; first
 | refine G_loop (k + 1, some ⟨gb, 0, none⟩, cap'_1) (by show k + 1 ≤ _; omega) (by show es.length - (k + 1) < es.length - k; omega) ⟨⟨_, rfl, obQ⟩, ⟨_, rfl⟩, (by dsimp only; rw [hmt]; rfl), pstQ⟩
 | refine G_then ?_
 | refine G_block ?_
 | refine G_blockX ?_
 | refine G_blockN rfl ?_
 | refine G_blockR ?_
 | refine G_thenR ?_
 | refine G_thenX ?_
 | refine G_ret rfl obQ (fun w hw => ⟨?_, hw.below⟩)
          )
        )
  · obtain rfl : k = es.length := by omega
    repeat' (first
 | (refine C_id ?_; first
 | refine C_seq ?_
 | refine C_region rfl ?_
 | refine C_block ?_
 | refine C_skip ?_
 | refine C_exit ?_
 | refine C_ret0 ?_
 | refine C_condT rfl obQ ?_
 | refine C_condF rfl obQ ?_
 | (refine C_cond rfl obQ (fun h => ?_) (fun h => ?_) <;> (try simp only [Bool.or_eq_true, Bool.and_eq_true, Bool.or_eq_false_iff, Bool.and_eq_false_iff, decide_eq_true_eq, decide_eq_false_iff_not, beq_iff_eq, bne_iff_ne, beq_eq_false_iff_ne, bne_eq_false_iff_eq, ne_eq, Decidable.not_not, List.cons.injEq, and_true, Bool.not_eq_true', Bool.not_eq_false', Int.not_lt, Int.not_le] at h) <;> (try (exfalso; omega)))
          )
 | (refine S_id ?_; first
 | refine S_nil ?_
 | refine S_run rfl rfl obQ obQ ?_
 | refine S_box (fun b => ⟨_, _, rfl, obQ, ?_⟩)
 | refine S_slice (fun b => ⟨_, _, rfl, obQ, ?_⟩)
          )
 | (refine G_id ?_; first
 | refine G_then ?_
 | refine G_block ?_
 | refine G_blockX ?_
 | refine G_blockN rfl ?_
 | refine G_blockR ?_
 | refine G_thenR ?_
 | refine G_thenX ?_
 | refine G_ret rfl obQ (fun w2 hw => ⟨_, rfl, hw.below, OwR.mk1 (HW.rowSlC (i := 0) hw rfl rfl rfl (by simp)) rfl⟩)
          )
        )

end Go.Proofs.YtmfophoejjcnlaaGreatDoor
namespace Go.Proofs.YtmfophoejjcnlaaGreatDoor
open Go.E Go.RowKit
attribute [local irreducible] G C S D Calls
set_option maxRecDepth 100000
set_option linter.unusedSimpArgs false
set_option linter.unusedVariables false

def addE (nn m : Nat) (e : Edg) : Int := firstL [edgeF nn e, wh ((m : Int) == 24) 5]
/-- A net with an edge more, and the error. -/
def addedR (names : List ByteArray) (es : List Edg) (e : Edg) : List ByteArray × List Edg × Int :=
  if ¬ netF names es = 0 then ([], [], netF names es) else if ¬ addE names.length es.length e = 0 then ([], [], addE names.length es.length e) else (names, es ++ [e], 0)
def woutE (names : List ByteArray) (es : List Edg) (k : Int) : Int := firstL [netF names es, wh (decide (k < 0) || decide ((es.length : Int) ≤ k)) 10]
/-- A net with an edge less, and the error. -/
def woutR (names : List ByteArray) (es : List Edg) (k : Int) : List ByteArray × List Edg × Int :=
  if ¬ woutE names es k = 0 then ([], [], woutE names es k) else (names, es.eraseIdx k.toNat, 0)
theorem woutE_ok {names : List ByteArray} {es : List Edg} {i : Int} (h : woutE names es i = 0) : netF names es = 0 ∧ 0 ≤ i ∧ i < es.length := by
  unfold woutE at h
  rw [firstL_zero] at h
  simp only [List.mem_cons, List.mem_nil_iff, or_false, forall_eq_or_imp, forall_eq, wh_zero (show (10 : Int) ≠ 0 by omega), Bool.or_eq_false_iff, decide_eq_false_iff_not] at h
  omega
theorem take_flat {es : List Edg} {f j : Nat} {u : Value} (h : ((es.take f).flatMap edC)[j]? = some u) : (es.flatMap edC)[j]? = some u := by
  rw [← List.take_append_drop f es, List.flatMap_append, List.getElem?_append]
  rw [if_pos (List.getElem?_eq_some_iff.1 h).1]
  exact h
theorem drop_flat {es : List Edg} {f j : Nat} (hf : f ≤ es.length) {u : Value} (h : ((es.drop f).flatMap edC)[j]? = some u) : (es.flatMap edC)[f * 4 + j]? = some u := by
  have e : ((es.take f).flatMap edC).length = f * 4 := by rw [flat_len (f := edC) (s := 4) _ (fun _ _ => rfl), List.length_take, Nat.min_eq_left hf]
  rw [← List.take_append_drop f es, List.flatMap_append, List.getElem?_append, if_neg (by rw [e]; omega), e, Nat.add_sub_cancel_left]
  exact h
theorem laid2 {Z c1 c2 : List Value} {a : Nat} (h1 : c1.length = a) (h2 : Z.length = a + c2.length) : (Z.take 0 ++ (c1 ++ Z.drop (0 + c1.length))).take a ++ (c2 ++ (Z.take 0 ++ (c1 ++ Z.drop (0 + c1.length))).drop (a + c2.length)) = c1 ++ c2 := by
  subst h1
  rw [List.take_zero, List.nil_append, List.take_left, List.drop_eq_nil_of_le (by simp; omega), List.append_nil]
theorem in2 {Z c1 : List Value} {a k N : Nat} (h1 : c1.length = a) (hZ : Z.length = N) (h : a + k ≤ N) : a + k ≤ (Z.take 0 ++ (c1 ++ Z.drop (0 + c1.length))).length := by
  subst h1
  simp only [List.take_zero, List.nil_append, List.length_append, List.length_drop]
  omega
theorem len4 (l : List Edg) : (l.flatMap edC).length = l.length * 4 := flat_len (f := edC) (s := 4) l (fun _ _ => rfl)

set_option maxHeartbeats 1000000 in
/-- timing.Without -/
theorem without_c (A A2 : Option Addr) (c c2 : Nat) (names : List ByteArray) (es : List Edg) (hn : names.length ≤ 1000000) (hm : es.length ≤ 1000000) (hs : ∀ s ∈ names, s.size ≤ maxLen) (hA : A = none → names.length = 0 ∧ c = 0) (i : Int) (hc2 : es.length ≤ c2) (w : World) (hr : Rd w A (names.map .string)) (hr2 : Rd w A2 (es.flatMap edC)) : Calls Tryz.prog 65 #[.agg #[.slice A names.length c, .slice A2 es.length c2], .int .i64 i] w fun r w' => ∃ v, r = .returned v ∧ Below w.heap.size w w' ∧ NtE w w' v (woutR names es i).1.length (woutR names es i).2.1.length ((woutR names es i).1.map .string) ((woutR names es i).2.1.flatMap edC) (.int .i64 (woutR names es i).2.2) := by
  refine calls_of (args := [.agg #[.slice A names.length c, .slice A2 es.length c2], .int .i64 i]) T_ok Tryz.func65 rfl Tryz.ntmps65 (Nat.le_of_ble_eq_true rfl) rfl ?_
  by_cases h0 : woutE names es i = 0
  · obtain ⟨hN, hi0, hi1⟩ := woutE_ok h0
    have ok := netF_ok hN
    have hE : firstL [netF names es, wh (decide (i < 0) || decide ((es.length : Int) ≤ i)) 10] = 0 := h0
    obtain ⟨f, rfl⟩ := toNat_eq hi0
    have hfl : f < es.length := by omega
    obtain ⟨m1, hm1⟩ : ∃ m1, m1 + 1 = es.length := ⟨es.length - 1, by omega⟩
    obtain ⟨ad, rfl⟩ := hr2.some (by rw [len4]; omega)
    have hR : woutR names es (f : Int) = (names, es.eraseIdx f, 0) := by unfold woutR; rw [if_neg (by simp [h0]), Int.toNat_natCast]
    rw [hR]
    dsimp only
    have hZl : (List.replicate (m1) [Value.int .i64 0, .int .i64 0, .int .i64 0, .int .i64 0]).flatten.length = (m1) * 4 := by simp
    have hZ : (List.replicate (m1) [Value.int .i64 0, .int .i64 0, .int .i64 0, .int .i64 0]).flatten.length = f * 4 + ((es.drop (f + 1)).flatMap edC).length := by rw [hZl, len4, List.length_drop]; omega
    have hT : ((es.take f).flatMap edC).length = f * 4 := by rw [len4, List.length_take, Nat.min_eq_left (by omega)]
    have hl : (es.eraseIdx f).length = m1 := by rw [List.length_eraseIdx, if_pos hfl]; omega
    repeat' (first
 | (refine C_id ?_; first
 | refine C_seq ?_
 | refine C_region rfl ?_
 | refine C_block ?_
 | refine C_skip ?_
 | refine C_exit ?_
 | refine C_ret0 ?_
 | refine C_drawT (id := 6) 8 rfl mixed (by kernel_rfl) rfl rfl ?_
 | refine C_condT rfl obQ ?_
 | refine C_condF rfl obQ ?_
 | (refine C_cond rfl obQ (fun h => ?_) (fun h => ?_) <;> (try simp only [Bool.or_eq_true, Bool.and_eq_true, Bool.or_eq_false_iff, Bool.and_eq_false_iff, decide_eq_true_eq, decide_eq_false_iff_not, beq_iff_eq, bne_iff_ne, beq_eq_false_iff_ne, bne_eq_false_iff_eq, ne_eq, Decidable.not_not, List.cons.injEq, and_true, Bool.not_eq_true', Bool.not_eq_false', Int.not_lt, Int.not_le] at h) <;> (try (exfalso; omega)))
          )
 | (refine S_id ?_; first
 | refine S_make (m1) rfl obQ rfl rfl rfl rfl rfl (by unfold maxLen; dsimp only; omega) (fun g => ?_)
 | refine S_pure (sliceX_pure (v := .slice (some ad) f c2) rfl obQ (fun w => sl_hiT rfl rfl _ _ _ _ f (by omega) w)) ?_
 | refine S_copy rfl obQ rfl rfl 0 rfl rfl (m := f) (Nat.min_eq_left (by omega)) 0 ((es.take f).flatMap edC) (by rw [len4, List.length_take, Nat.min_eq_left (by omega)]) (fun _ => ⟨rfl, by simp⟩) (fun _ w hw ad e j u hu => srcS hr2 memQ w hw ad e j u (take_flat hu)) (by simp; omega) (one_edg _) rfl rfl ?_
 | refine S_copy rfl obQ rfl rfl 0 rfl rfl (m := m1 - f) (Nat.min_eq_right (by omega)) (f * 4) ((es.drop (f + 1)).flatMap edC) (by rw [len4, List.length_drop]; congr 1; omega) (fun h => ⟨by rw [if_neg (by omega)]; show some ((⟨g, 0, none⟩ : Addr).add (f * 4)) = _; rw [Addr.add_mid]; simp, by rw [if_neg (by omega)]; simp⟩) (fun h w hw ad e j u hu => (by
              rw [if_neg (by omega)] at e
              have e2 := Option.some.inj e
              subst e2
              have := srcS hr2 memQ w hw _ rfl ((f + 1) * 4 + j) u (drop_flat (by omega) hu)
              rw [← add_of_add] at this
              exact this)) (in2 hT hZl (by omega)) (one_edg _) rfl rfl ?_
 | (refine S_callM (f := 116) rfl obQ (by kernel_rfl) (fun w hw => cloneS_c A c names.length names rfl hn hA w (hw.rdm (Rd.toS hr) memQ)) (fun w1K w2K vK hw1K hbK hRK => ?_); obtain ⟨AK, cK, rfl, hSK, hcK⟩ := hRK)
 | refine S_nil ?_
 | refine S_run rfl rfl obQ obQ ?_
 | refine S_box (fun b => ⟨_, _, rfl, obQ, ?_⟩)
 | refine S_slice (fun b => ⟨_, _, rfl, obQ, ?_⟩)
 | refine S_call (f := 61) rfl obQ (by kernel_rfl) (fun w hw => checkNet_c A _ c c2 names es hn hm hs w (hw.rdm (Rd.toS hr) memQ) (hw.rdm (Rd.toS hr2) memQ)) ?_
 | refine S_call (f := 99) rfl obQ (by kernel_rfl) (fun w hw => when_c _ _ w) ?_
 | refine S_call (f := 87) rfl obQ (by kernel_rfl) (fun w hw => first_c _ _ [netF names es, wh (decide (_ < 0) || decide ((es.length : Int) ≤ _)) 10] (by simp) w (.inr ⟨_, rfl, hw.src (i := 2) rfl rfl⟩)) ?_
          )
 | (refine D_id ?_; first
 | refine D_pure (sliceX_pure rfl obQ (fun w => sl_loT rfl rfl _ (m1) (m1) _ _ f rfl (by omega) w)) ?_
 | refine D_pure (sliceX_pure rfl obQ (fun w => sl_loT rfl rfl (some ad) es.length c2 _ _ (f + 1) (by omega) (by omega) w)) ?_
 | refine D_nil ?_
 | refine D_tail ?_
 | refine D_run rfl rfl obQ obQ ?_
 | refine D_call (f := 61) rfl obQ (by kernel_rfl) (fun w hw => checkNet_c A _ c c2 names es hn hm hs w (hw.rdm (Rd.toS hr) memQ) (hw.rdm (Rd.toS hr2) memQ)) ?_
 | refine D_call (f := 99) rfl obQ (by kernel_rfl) (fun w hw => when_c _ _ w) ?_
 | refine D_call (f := 87) rfl obQ (by kernel_rfl) (fun w hw => first_c _ _ [netF names es, wh (decide (_ < 0) || decide ((es.length : Int) ≤ _)) 10] (by simp) w (.inr ⟨_, rfl, hw.src (i := 2) rfl rfl⟩)) ?_
          )
 | (refine G_id ?_; first
 | refine G_then ?_
 | refine G_block ?_
 | refine G_blockX ?_
 | refine G_blockN rfl ?_
 | refine G_blockR ?_
 | refine G_thenR ?_
 | refine G_thenX ?_
 | refine G_ret rfl obQ (fun w2 hw => ⟨_, rfl, hw.below, NtE.mk2 (HW.callSlC hw hSK memQ hw1K.bsize hcK) (HW.rowSlC (i := 0) hw rfl rfl hl.symm ((laid2 hT hZ).trans (by rw [List.eraseIdx_eq_take_drop_succ, List.flatMap_append]))) rfl⟩)
          )
        )
  · have hE : ¬ firstL [netF names es, wh (decide (i < 0) || decide ((es.length : Int) ≤ i)) 10] = 0 := h0
    have hR : woutR names es i = ([], [], woutE names es i) := by unfold woutR; rw [if_pos h0]
    rw [hR]
    repeat' (first
 | (refine C_id ?_; first
 | refine C_seq ?_
 | refine C_region rfl ?_
 | refine C_block ?_
 | refine C_skip ?_
 | refine C_exit ?_
 | refine C_ret0 ?_
 | refine C_drawT (id := 6) 8 rfl mixed (by kernel_rfl) rfl rfl ?_
 | refine C_condT rfl obQ ?_
 | refine C_condF rfl obQ ?_
 | (refine C_cond rfl obQ (fun h => ?_) (fun h => ?_) <;> (try simp only [Bool.or_eq_true, Bool.and_eq_true, Bool.or_eq_false_iff, Bool.and_eq_false_iff, decide_eq_true_eq, decide_eq_false_iff_not, beq_iff_eq, bne_iff_ne, beq_eq_false_iff_ne, bne_eq_false_iff_eq, ne_eq, Decidable.not_not, List.cons.injEq, and_true, Bool.not_eq_true', Bool.not_eq_false', Int.not_lt, Int.not_le] at h) <;> (try (exfalso; omega)))
          )
 | (refine S_id ?_; first
 | refine S_nil ?_
 | refine S_run rfl rfl obQ obQ ?_
 | refine S_box (fun b => ⟨_, _, rfl, obQ, ?_⟩)
 | refine S_slice (fun b => ⟨_, _, rfl, obQ, ?_⟩)
 | refine S_call (f := 61) rfl obQ (by kernel_rfl) (fun w hw => checkNet_c A _ c c2 names es hn hm hs w (hw.rdm (Rd.toS hr) memQ) (hw.rdm (Rd.toS hr2) memQ)) ?_
 | refine S_call (f := 99) rfl obQ (by kernel_rfl) (fun w hw => when_c _ _ w) ?_
 | refine S_call (f := 87) rfl obQ (by kernel_rfl) (fun w hw => first_c _ _ [netF names es, wh (decide (_ < 0) || decide ((es.length : Int) ≤ _)) 10] (by simp) w (.inr ⟨_, rfl, hw.src (i := 2) rfl rfl⟩)) ?_
          )
 | (refine D_id ?_; first
 | refine D_nil ?_
 | refine D_tail ?_
 | refine D_run rfl rfl obQ obQ ?_
 | refine D_call (f := 61) rfl obQ (by kernel_rfl) (fun w hw => checkNet_c A _ c c2 names es hn hm hs w (hw.rdm (Rd.toS hr) memQ) (hw.rdm (Rd.toS hr2) memQ)) ?_
 | refine D_call (f := 99) rfl obQ (by kernel_rfl) (fun w hw => when_c _ _ w) ?_
 | refine D_call (f := 87) rfl obQ (by kernel_rfl) (fun w hw => first_c _ _ [netF names es, wh (decide (_ < 0) || decide ((es.length : Int) ≤ _)) 10] (by simp) w (.inr ⟨_, rfl, hw.src (i := 2) rfl rfl⟩)) ?_
          )
 | (refine G_id ?_; first
 | refine G_then ?_
 | refine G_block ?_
 | refine G_blockX ?_
 | refine G_blockN rfl ?_
 | refine G_blockR ?_
 | refine G_thenR ?_
 | refine G_thenX ?_
 | refine G_ret rfl obQ (fun w2 hw => ⟨_, rfl, hw.below, NtE.mk2 (SlC.nil_ _ _) (SlC.nil_ _ _) rfl⟩)
          )
        )

end Go.Proofs.YtmfophoejjcnlaaGreatDoor
namespace Go.Proofs.YtmfophoejjcnlaaGreatDoor
open Go.E Go.RowKit
attribute [local irreducible] G C S D Calls
set_option maxRecDepth 100000
set_option linter.unusedSimpArgs false
set_option linter.unusedVariables false

set_option maxHeartbeats 1000000 in
/-- timing.Added -/
theorem added_c (A A2 : Option Addr) (c c2 : Nat) (names : List ByteArray) (es : List Edg) (hn : names.length ≤ 1000000) (hm : es.length ≤ 1000000) (hs : ∀ s ∈ names, s.size ≤ maxLen) (hA : A = none → names.length = 0 ∧ c = 0) (hA2 : A2 = none → es.length = 0 ∧ c2 = 0) (e : Edg) (w : World) (hr : Rd w A (names.map .string)) (hr2 : Rd w A2 (es.flatMap edC)) : Calls Tryz.prog 63 #[.agg #[.slice A names.length c, .slice A2 es.length c2], .agg #[.int .i64 e.F, .int .i64 e.T, .int .i64 e.L, .int .i64 e.H]] w fun r w' => ∃ v, r = .returned v ∧ Below w.heap.size w w' ∧ NtE w w' v (addedR names es e).1.length (addedR names es e).2.1.length ((addedR names es e).1.map .string) ((addedR names es e).2.1.flatMap edC) (.int .i64 (addedR names es e).2.2) := by
  refine calls_of (args := [.agg #[.slice A names.length c, .slice A2 es.length c2], .agg #[.int .i64 e.F, .int .i64 e.T, .int .i64 e.L, .int .i64 e.H]]) T_ok Tryz.func63 rfl Tryz.ntmps63 (Nat.le_of_ble_eq_true rfl) rfl ?_
  by_cases h0 : netF names es = 0
  · by_cases h1 : addE names.length es.length e = 0
    · have h1' : firstL [edgeF names.length e, wh ((es.length : Int) == 24) 5] = 0 := h1
      have hR : addedR names es e = (names, es ++ [e], 0) := by unfold addedR; rw [if_neg (by simp [h0]), if_neg (by simp [h1])]
      rw [hR]
      dsimp only
      have hl : (es ++ [e]).length = es.length + 1 := by simp
      repeat' (first
 | (refine C_id ?_; first
 | refine C_seq ?_
 | refine C_region rfl ?_
 | refine C_block ?_
 | refine C_skip ?_
 | refine C_exit ?_
 | refine C_ret0 ?_
 | refine C_drawT (id := 4) 10 rfl mixed (by kernel_rfl) rfl rfl ?_
 | refine C_drawTr (id := 7) 8 (.q 0 (.q 1 (.q 3 (.q 4 (.q 6 (.two 2 7 (.two 5 7 (.n 7 .nil) (.n 5 .nil)) (.n 2 (.n 5 .nil)))))))) rfl mixed (by kernel_rfl) rfl ?_
 | refine C_condT rfl obQ ?_
 | refine C_condF rfl obQ ?_
 | (refine C_cond rfl obQ (fun h => ?_) (fun h => ?_) <;> (try simp only [Bool.or_eq_true, Bool.and_eq_true, Bool.or_eq_false_iff, Bool.and_eq_false_iff, decide_eq_true_eq, decide_eq_false_iff_not, beq_iff_eq, bne_iff_ne, beq_eq_false_iff_ne, bne_eq_false_iff_eq, ne_eq, Decidable.not_not, List.cons.injEq, and_true, Bool.not_eq_true', Bool.not_eq_false', Int.not_lt, Int.not_le] at h) <;> (try (exfalso; omega)) <;> (try (exfalso; simp at h; done)) <;> (try (exfalso; simp only [not_true_eq_false, false_or, or_false] at h; omega)) <;> (try contradiction))
            )
 | (refine S_id ?_; first
 | (refine S_callM (f := 116) rfl obQ (by kernel_rfl) (fun w hw => cloneS_c A c names.length names rfl hn hA w (hw.rdm (Rd.toS hr) memQ)) (fun w1K w2K vK hw1K hbK hRK => ?_); obtain ⟨AK, cK, rfl, hSK, hcK⟩ := hRK)
 | refine S_callRow 113 4 es.length (es.flatMap edC) rfl obQ (by kernel_rfl) (fun w hw => cloneE_c A2 c2 es.length es rfl hm hA2 w (hw.rdm (Rd.toS hr2) memQ)) (fun AR cR => ?_)
 | refine S_append rfl obQ rfl rfl rfl ⟨by decide, rfl⟩ rfl ⟨rfl, rfl, rfl, rfl⟩ [.int .i64 e.F, .int .i64 e.T, .int .i64 e.L, .int .i64 e.H] ⟨by decide, rfl⟩ (by simp [Value.oneCell']) (fun w hw => by first | exact hw.src (i := 0) rfl rfl | exact hw.src (i := 1) rfl rfl | exact hw.src (i := 2) rfl rfl | exact hw.src (i := 3) rfl rfl | exact hw.src (i := 4) rfl rfl | exact hw.src (i := 5) rfl rfl) (by unfold maxLen; dsimp only; omega) (fun gb cap' => ⟨_, rfl, ?_⟩)
 | refine S_nil ?_
 | refine S_run rfl rfl obQ obQ ?_
 | refine S_box (fun b => ⟨_, _, rfl, obQ, ?_⟩)
 | refine S_slice (fun b => ⟨_, _, rfl, obQ, ?_⟩)
 | refine S_call (f := 61) rfl obQ (by kernel_rfl) (fun w hw => checkNet_c A A2 c c2 names es hn hm hs w (hw.rdm (Rd.toS hr) memQ) (hw.rdm (Rd.toS hr2) memQ)) ?_
 | refine S_call (f := 99) rfl obQ (by kernel_rfl) (fun w hw => when_c _ _ w) ?_
 | refine S_call (f := 113) rfl obQ (by kernel_rfl) (fun w hw => echeck_c names.length e w) ?_
 | refine S_call (f := 87) rfl obQ (by kernel_rfl) (fun w hw => first_c _ _ [edgeF names.length e, wh ((es.length : Int) == 24) 5] (by simp) w (.inr ⟨_, rfl, hw.src (i := 3) rfl rfl⟩)) ?_
            )
 | (refine D_id ?_; first
 | refine D_nil ?_
 | refine D_tail ?_
 | refine D_run rfl rfl obQ obQ ?_
 | refine D_call (f := 61) rfl obQ (by kernel_rfl) (fun w hw => checkNet_c A A2 c c2 names es hn hm hs w (hw.rdm (Rd.toS hr) memQ) (hw.rdm (Rd.toS hr2) memQ)) ?_
 | refine D_call (f := 99) rfl obQ (by kernel_rfl) (fun w hw => when_c _ _ w) ?_
 | refine D_call (f := 113) rfl obQ (by kernel_rfl) (fun w hw => echeck_c names.length e w) ?_
 | refine D_call (f := 87) rfl obQ (by kernel_rfl) (fun w hw => first_c _ _ [edgeF names.length e, wh ((es.length : Int) == 24) 5] (by simp) w (.inr ⟨_, rfl, hw.src (i := 3) rfl rfl⟩)) ?_
            )
 | (refine VT_id ?_; first
 | refine VT_nil ?_
 | refine VT_q rfl (Yl_step rfl obQ) ?_
 | refine VT_n rfl ?_
 | refine VT_two rfl rfl ?_ ?_
            )
 | (refine G_id ?_; first
 | refine G_VT2 ⟨_, rfl⟩ ⟨_, rfl⟩ pstQ rfl ?_
 | refine G_then ?_
 | refine G_block ?_
 | refine G_blockX ?_
 | refine G_blockN rfl ?_
 | refine G_blockR ?_
 | refine G_thenR ?_
 | refine G_thenX ?_
 | refine G_ret rfl obQ (fun w2 hw => ⟨_, rfl, hw.below, NtE.mk2 (HW.callSlC hw hSK memQ hw1K.bsize hcK) (HW.rowSlC (i := 0) hw rfl rfl hl.symm (by simp [edC])) rfl⟩)
            )
          )
    · have h1' : ¬ firstL [edgeF names.length e, wh ((es.length : Int) == 24) 5] = 0 := h1
      have hR : addedR names es e = ([], [], addE names.length es.length e) := by unfold addedR; rw [if_neg (by simp [h0]), if_pos h1]
      rw [hR]
      repeat' (first
 | (refine C_id ?_; first
 | refine C_seq ?_
 | refine C_region rfl ?_
 | refine C_block ?_
 | refine C_skip ?_
 | refine C_exit ?_
 | refine C_ret0 ?_
 | refine C_drawT (id := 4) 10 rfl mixed (by kernel_rfl) rfl rfl ?_
 | refine C_drawT (id := 7) 7 rfl mixed (by kernel_rfl) rfl rfl ?_
 | refine C_condT rfl obQ ?_
 | refine C_condF rfl obQ ?_
 | (refine C_cond rfl obQ (fun h => ?_) (fun h => ?_) <;> (try simp only [Bool.or_eq_true, Bool.and_eq_true, Bool.or_eq_false_iff, Bool.and_eq_false_iff, decide_eq_true_eq, decide_eq_false_iff_not, beq_iff_eq, bne_iff_ne, beq_eq_false_iff_ne, bne_eq_false_iff_eq, ne_eq, Decidable.not_not, List.cons.injEq, and_true, Bool.not_eq_true', Bool.not_eq_false', Int.not_lt, Int.not_le] at h) <;> (try (exfalso; omega)) <;> (try (exfalso; simp at h; done)) <;> (try (exfalso; simp only [not_true_eq_false, false_or, or_false] at h; omega)) <;> (try contradiction))
            )
 | (refine S_id ?_; first
 | refine S_nil ?_
 | refine S_run rfl rfl obQ obQ ?_
 | refine S_box (fun b => ⟨_, _, rfl, obQ, ?_⟩)
 | refine S_slice (fun b => ⟨_, _, rfl, obQ, ?_⟩)
 | refine S_call (f := 61) rfl obQ (by kernel_rfl) (fun w hw => checkNet_c A A2 c c2 names es hn hm hs w (hw.rdm (Rd.toS hr) memQ) (hw.rdm (Rd.toS hr2) memQ)) ?_
 | refine S_call (f := 99) rfl obQ (by kernel_rfl) (fun w hw => when_c _ _ w) ?_
 | refine S_call (f := 113) rfl obQ (by kernel_rfl) (fun w hw => echeck_c names.length e w) ?_
 | refine S_call (f := 87) rfl obQ (by kernel_rfl) (fun w hw => first_c _ _ [edgeF names.length e, wh ((es.length : Int) == 24) 5] (by simp) w (.inr ⟨_, rfl, hw.src (i := 3) rfl rfl⟩)) ?_
            )
 | (refine D_id ?_; first
 | refine D_nil ?_
 | refine D_tail ?_
 | refine D_run rfl rfl obQ obQ ?_
 | refine D_call (f := 61) rfl obQ (by kernel_rfl) (fun w hw => checkNet_c A A2 c c2 names es hn hm hs w (hw.rdm (Rd.toS hr) memQ) (hw.rdm (Rd.toS hr2) memQ)) ?_
 | refine D_call (f := 99) rfl obQ (by kernel_rfl) (fun w hw => when_c _ _ w) ?_
 | refine D_call (f := 113) rfl obQ (by kernel_rfl) (fun w hw => echeck_c names.length e w) ?_
 | refine D_call (f := 87) rfl obQ (by kernel_rfl) (fun w hw => first_c _ _ [edgeF names.length e, wh ((es.length : Int) == 24) 5] (by simp) w (.inr ⟨_, rfl, hw.src (i := 3) rfl rfl⟩)) ?_
            )
 | (refine G_id ?_; first
 | refine G_then ?_
 | refine G_block ?_
 | refine G_blockX ?_
 | refine G_blockN rfl ?_
 | refine G_blockR ?_
 | refine G_thenR ?_
 | refine G_thenX ?_
 | refine G_ret rfl obQ (fun w2 hw => ⟨_, rfl, hw.below, NtE.mk2 (SlC.nil_ _ _) (SlC.nil_ _ _) rfl⟩)
            )
          )
  · have hR : addedR names es e = ([], [], netF names es) := by unfold addedR; rw [if_pos h0]
    rw [hR]
    repeat' (first
 | (refine C_id ?_; first
 | refine C_seq ?_
 | refine C_region rfl ?_
 | refine C_block ?_
 | refine C_skip ?_
 | refine C_exit ?_
 | refine C_ret0 ?_
 | refine C_drawT (id := 4) 10 rfl mixed (by kernel_rfl) rfl rfl ?_
 | refine C_drawT (id := 7) 7 rfl mixed (by kernel_rfl) rfl rfl ?_
 | refine C_condT rfl obQ ?_
 | refine C_condF rfl obQ ?_
 | (refine C_cond rfl obQ (fun h => ?_) (fun h => ?_) <;> (try simp only [Bool.or_eq_true, Bool.and_eq_true, Bool.or_eq_false_iff, Bool.and_eq_false_iff, decide_eq_true_eq, decide_eq_false_iff_not, beq_iff_eq, bne_iff_ne, beq_eq_false_iff_ne, bne_eq_false_iff_eq, ne_eq, Decidable.not_not, List.cons.injEq, and_true, Bool.not_eq_true', Bool.not_eq_false', Int.not_lt, Int.not_le] at h) <;> (try (exfalso; omega)) <;> (try (exfalso; simp at h; done)) <;> (try (exfalso; simp only [not_true_eq_false, false_or, or_false] at h; omega)) <;> (try contradiction))
          )
 | (refine S_id ?_; first
 | refine S_nil ?_
 | refine S_run rfl rfl obQ obQ ?_
 | refine S_box (fun b => ⟨_, _, rfl, obQ, ?_⟩)
 | refine S_slice (fun b => ⟨_, _, rfl, obQ, ?_⟩)
 | refine S_call (f := 61) rfl obQ (by kernel_rfl) (fun w hw => checkNet_c A A2 c c2 names es hn hm hs w (hw.rdm (Rd.toS hr) memQ) (hw.rdm (Rd.toS hr2) memQ)) ?_
 | refine S_call (f := 99) rfl obQ (by kernel_rfl) (fun w hw => when_c _ _ w) ?_
 | refine S_call (f := 113) rfl obQ (by kernel_rfl) (fun w hw => echeck_c names.length e w) ?_
 | refine S_call (f := 87) rfl obQ (by kernel_rfl) (fun w hw => first_c _ _ [edgeF names.length e, wh ((es.length : Int) == 24) 5] (by simp) w (.inr ⟨_, rfl, hw.src (i := 3) rfl rfl⟩)) ?_
          )
 | (refine D_id ?_; first
 | refine D_nil ?_
 | refine D_tail ?_
 | refine D_run rfl rfl obQ obQ ?_
 | refine D_call (f := 61) rfl obQ (by kernel_rfl) (fun w hw => checkNet_c A A2 c c2 names es hn hm hs w (hw.rdm (Rd.toS hr) memQ) (hw.rdm (Rd.toS hr2) memQ)) ?_
 | refine D_call (f := 99) rfl obQ (by kernel_rfl) (fun w hw => when_c _ _ w) ?_
 | refine D_call (f := 113) rfl obQ (by kernel_rfl) (fun w hw => echeck_c names.length e w) ?_
 | refine D_call (f := 87) rfl obQ (by kernel_rfl) (fun w hw => first_c _ _ [edgeF names.length e, wh ((es.length : Int) == 24) 5] (by simp) w (.inr ⟨_, rfl, hw.src (i := 3) rfl rfl⟩)) ?_
          )
 | (refine G_id ?_; first
 | refine G_then ?_
 | refine G_block ?_
 | refine G_blockX ?_
 | refine G_blockN rfl ?_
 | refine G_blockR ?_
 | refine G_thenR ?_
 | refine G_thenX ?_
 | refine G_ret rfl obQ (fun w2 hw => ⟨_, rfl, hw.below, NtE.mk2 (SlC.nil_ _ _) (SlC.nil_ _ _) rfl⟩)
          )
        )

end Go.Proofs.YtmfophoejjcnlaaGreatDoor
namespace Go.Proofs.YtmfophoejjcnlaaGreatDoor
open Go.E Go.RowKit
attribute [local irreducible] G C S D Calls
set_option maxRecDepth 100000
set_option linter.unusedSimpArgs false
set_option linter.unusedVariables false

/-- A net whose lists are rows. -/
def NRow (v : Value) (rs : List Rw) (n m : Nat) (xs ys : List Value) : Prop := ∃ A c A2 c2, v = .agg #[.slice A n c, .slice A2 m c2] ∧ rs = [⟨9, 1, n, xs, .slice A n c⟩, ⟨108, 4, m, ys, .slice A2 m c2⟩] ∧ (n ≤ c ∧ (A = none → n = 0 ∧ c = 0)) ∧ (m ≤ c2 ∧ (A2 = none → m = 0 ∧ c2 = 0)) ∧ (0 < m → ∃ g, A2 = some ⟨g, 0, none⟩)
theorem row_room {w : World} {B e size n : Nat} {A : Option Addr} {c : Nat} {xs : List Value} (h : w.ownsRow B e size (.slice A n c) n xs) : (n ≤ c ∧ (A = none → n = 0 ∧ c = 0)) ∧ (0 < n → ∃ g, A = some ⟨g, 0, none⟩) := by
  rcases h.2 with ⟨h2, h3⟩ | ⟨g, cap', cur, h2, h3, h4, h5, h6, _⟩
  · cases h2
    exact ⟨⟨Nat.le_refl _, fun _ => ⟨rfl, rfl⟩⟩, fun h => by omega⟩
  · cases h2
    exact ⟨⟨h5, fun h => by cases h⟩, fun _ => ⟨g, rfl⟩⟩
theorem HW.netRet {w0 w : World} {Ps : Past} {σ : St} (hw : HW w0.heap.size w0 Ps σ w) {i j : Nat} (hij : i ≠ j) {r s : Rw} (hi : nth σ.rw i = some r) (hj : nth σ.rw j = some s) {A A2 : Option Addr} {n n' m m' c c2 : Nat} {xs ys : List Value} {v : Value} (hv : v = .agg #[.slice A n' c, .slice A2 m' c2])
    (hr : r.e = 9 ∧ r.size = 1 ∧ r.val = .slice A n' c) (hs : s.e = 108 ∧ s.size = 4 ∧ s.val = .slice A2 m' c2) (hn : n' = n ∧ r.n = n ∧ r.xs = xs) (hm : m' = m ∧ s.n = m ∧ s.xs = ys) :
    ∃ v' rs, Ending.returned v = Ending.returned v' ∧ Below w0.heap.size w0 w ∧ (∀ r ∈ rs, w.ownsRow w0.heap.size r.e r.size r.val r.n r.xs) ∧ rs.Pairwise (fun r s => ∀ g, r.val.ownBlock = some g → s.val.ownBlock ≠ some g) ∧ NRow v' rs n m xs ys := by
  have o1 := (hw.row r (nth_mem hi)).1
  have o2 := (hw.row s (nth_mem hj)).1
  have hap : ∀ g, r.val.ownBlock = some g → s.val.ownBlock ≠ some g := by
    rcases Nat.lt_or_gt_of_ne hij with h | h
    · exact hw.rowsApart h hi hj
    · exact fun g h1 h2 => hw.rowsApart h hj hi g h2 h1
  obtain ⟨re, rz, rn, rx, rv⟩ := r
  obtain ⟨se, sz, sn, sx, sv⟩ := s
  dsimp only at hr hs hn hm o1 o2 hap
  obtain ⟨rfl, rfl, rfl⟩ := hr
  obtain ⟨rfl, rfl, rfl⟩ := hs
  obtain ⟨rfl, rfl, rfl⟩ := hn
  obtain ⟨rfl, rfl, rfl⟩ := hm
  refine ⟨v, [⟨9, 1, _, _, .slice A _ c⟩, ⟨108, 4, _, _, .slice A2 _ c2⟩], rfl, hw.below, fun q hq => ?_, ?_, ⟨A, c, A2, c2, hv, rfl, (row_room o1).1, row_room o2⟩⟩
  · simp only [List.mem_cons, List.mem_nil_iff, or_false] at hq
    rcases hq with rfl | rfl
    · exact o1
    · exact o2
  · rw [List.pairwise_cons]
    refine ⟨fun q hq => ?_, by simp⟩
    simp only [List.mem_singleton] at hq
    subst hq
    exact hap
theorem erase_succ {es : List Edg} {f k : Nat} (hk : k < es.length) : (es.take (k + 1)).eraseIdx f = if k = f then (es.take k).eraseIdx f else (es.take k).eraseIdx f ++ [es[k]] := by
  rw [List.take_succ_eq_append_getElem hk]
  have hl : (es.take k).length = k := by rw [List.length_take]; omega
  split
  · rename_i h
    subst h
    rw [List.eraseIdx_append_of_length_le (by omega), hl, Nat.sub_self]
    rw [List.eraseIdx_of_length_le (k := k) (l := es.take k) (by omega)]
    simp
  · rename_i h
    by_cases hlt : f < k
    · rw [List.eraseIdx_append_of_lt_length (by omega)]
    · rw [List.eraseIdx_append_of_length_le (by omega), hl, List.eraseIdx_of_length_le (k := f) (l := es.take k) (by omega)]
      rw [List.eraseIdx_of_length_le (by simp; omega)]
theorem toList_self {a : ByteArray} : (!(a.toList == a.toList)) = false := by simp

set_option maxHeartbeats 1000000 in
/-- genlockref04.Own -/
theorem rOwn_c (A A2 : Option Addr) (c c2 : Nat) (names : List ByteArray) (es : List Edg) (hn : names.length ≤ 1000000) (hm : es.length ≤ 1000000) (hA : A = none → names.length = 0 ∧ c = 0) (hA2 : A2 = none → es.length = 0 ∧ c2 = 0) (w : World) (hr : Rd w A (names.map .string)) (hr2 : Rd w A2 (es.flatMap edC)) : Calls Tryz.prog 67 #[.agg #[.slice A names.length c, .slice A2 es.length c2]] w fun r w' => ∃ v rs, r = .returned v ∧ Below w.heap.size w w' ∧ (∀ r ∈ rs, w'.ownsRow w.heap.size r.e r.size r.val r.n r.xs) ∧ rs.Pairwise (fun r s => ∀ g, r.val.ownBlock = some g → s.val.ownBlock ≠ some g) ∧ NRow v rs names.length es.length (names.map .string) (es.flatMap edC) := by
  refine calls_of (args := [.agg #[.slice A names.length c, .slice A2 es.length c2]]) T_ok Tryz.func67 rfl Tryz.ntmps67 (Nat.le_of_ble_eq_true rfl) rfl ?_
  repeat' (first
 | (refine C_id ?_; first
 | refine C_seq ?_
 | refine C_region rfl ?_
 | refine C_block ?_
 | refine C_skip ?_
 | refine C_exit ?_
 | refine C_ret0 ?_
 | refine C_drawTr (id := 1) 7 (.q 1 (.q 2 (.q 5 (.q 6 (.two 0 4 (.two 3 4 (.n 4 .nil) (.n 3 .nil)) (.n 0 (.n 3 .nil))))))) rfl mixed (by kernel_rfl) rfl ?_
 | refine C_condT rfl obQ ?_
 | refine C_condF rfl obQ ?_
 | (refine C_cond rfl obQ (fun h => ?_) (fun h => ?_) <;> (try simp only [Bool.or_eq_true, Bool.and_eq_true, Bool.or_eq_false_iff, Bool.and_eq_false_iff, decide_eq_true_eq, decide_eq_false_iff_not, beq_iff_eq, bne_iff_ne, beq_eq_false_iff_ne, bne_eq_false_iff_eq, ne_eq, Decidable.not_not, List.cons.injEq, and_true, Bool.not_eq_true', Bool.not_eq_false', Int.not_lt, Int.not_le] at h))
      )
 | (refine S_id ?_; first
 | refine S_row00 rfl rfl rfl (fun g => ?_)
 | refine S_appendS rfl obQ rfl rfl rfl ⟨by decide, rfl⟩ rfl ⟨rfl, rfl, rfl, rfl⟩ (names.map .string) (by simp) hA (one_str _) (srcS hr memQ) (by unfold maxLen; dsimp only; omega) (fun A' cap' => ⟨_, rfl, ?_⟩)
 | refine S_appendS rfl obQ rfl rfl rfl ⟨by decide, rfl⟩ rfl ⟨rfl, rfl, rfl, rfl⟩ (es.flatMap edC) (len4 es) hA2 (one_edg _) (srcS hr2 memQ) (by unfold maxLen; dsimp only; omega) (fun A' cap' => ⟨_, rfl, ?_⟩)
 | refine S_nil ?_
 | refine S_run rfl rfl obQ obQ ?_
 | refine S_box (fun b => ⟨_, _, rfl, obQ, ?_⟩)
 | refine S_slice (fun b => ⟨_, _, rfl, obQ, ?_⟩)
      )
 | (refine D_id ?_; first
 | refine D_nil ?_
 | refine D_tail ?_
 | refine D_run rfl rfl obQ obQ ?_
      )
 | (refine VT_id ?_; first
 | refine VT_nil ?_
 | refine VT_q rfl (Yl_step rfl obQ) ?_
 | refine VT_n rfl ?_
 | refine VT_two rfl rfl ?_ ?_
      )
 | (refine G_id ?_; first
 | refine G_VT2 ⟨_, rfl⟩ ⟨_, rfl⟩ pstQ rfl ?_
 | refine G_ret rfl obQ (fun w2 hw => HW.netRet hw (i := 1) (j := 0) (by omega) rfl rfl rfl ⟨rfl, rfl, rfl⟩ ⟨rfl, rfl, rfl⟩ (by simp) (by simp))
 | refine G_then ?_
 | refine G_block ?_
 | refine G_blockX ?_
 | refine G_blockN rfl ?_
 | refine G_blockR ?_
 | refine G_thenR ?_
 | refine G_thenX ?_
 | refine G_ret rfl obQ (fun w2 hw => HW.netRet hw (i := 0) (j := 1) (by omega) rfl rfl rfl ⟨rfl, rfl, rfl⟩ ⟨rfl, rfl, rfl⟩ (by simp) (by simp))
      )
    )

set_option maxHeartbeats 1000000 in
/-- genlockref04.Added -/
theorem rAdded_c (A A2 : Option Addr) (c c2 : Nat) (names : List ByteArray) (es : List Edg) (hn : names.length ≤ 1000000) (hm : es.length ≤ 1000000) (hA : A = none → names.length = 0 ∧ c = 0) (hA2 : A2 = none → es.length = 0 ∧ c2 = 0) (e : Edg) (h24 : es.length ≤ 25) (w : World) (hr : Rd w A (names.map .string)) (hr2 : Rd w A2 (es.flatMap edC)) : Calls Tryz.prog 73 #[.agg #[.slice A names.length c, .slice A2 es.length c2], .agg #[.int .i64 e.F, .int .i64 e.T, .int .i64 e.L, .int .i64 e.H]] w fun r w' => ∃ v, r = .returned v ∧ Below w.heap.size w w' ∧ (if 24 ≤ es.length then NtE w w' v 0 0 [] [] (.int .i64 5) else NtE w w' v names.length (es ++ [e]).length (names.map .string) ((es ++ [e]).flatMap edC) (.int .i64 0)) := by
  refine calls_of (args := [.agg #[.slice A names.length c, .slice A2 es.length c2], .agg #[.int .i64 e.F, .int .i64 e.T, .int .i64 e.L, .int .i64 e.H]]) T_ok Tryz.func73 rfl Tryz.ntmps73 (Nat.le_of_ble_eq_true rfl) rfl ?_
  by_cases h0 : 24 ≤ es.length
  · simp only [if_pos h0]
    repeat' (first
 | (refine C_id ?_; first
 | refine C_seq ?_
 | refine C_region rfl ?_
 | refine C_block ?_
 | refine C_skip ?_
 | refine C_exit ?_
 | refine C_ret0 ?_
 | refine C_condT rfl obQ ?_
 | refine C_condF rfl obQ ?_
 | (refine C_cond rfl obQ (fun h => ?_) (fun h => ?_) <;> (try simp only [Bool.or_eq_true, Bool.and_eq_true, Bool.or_eq_false_iff, Bool.and_eq_false_iff, decide_eq_true_eq, decide_eq_false_iff_not, beq_iff_eq, bne_iff_ne, beq_eq_false_iff_ne, bne_eq_false_iff_eq, ne_eq, Decidable.not_not, List.cons.injEq, and_true, Bool.not_eq_true', Bool.not_eq_false', Int.not_lt, Int.not_le] at h) <;> (try (exfalso; omega)))
          )
 | (refine S_id ?_; first
 | refine S_nil ?_
 | refine S_run rfl rfl obQ obQ ?_
 | refine S_box (fun b => ⟨_, _, rfl, obQ, ?_⟩)
 | refine S_slice (fun b => ⟨_, _, rfl, obQ, ?_⟩)
          )
 | (refine G_id ?_; first
 | refine G_then ?_
 | refine G_block ?_
 | refine G_blockX ?_
 | refine G_blockN rfl ?_
 | refine G_blockR ?_
 | refine G_thenR ?_
 | refine G_thenX ?_
 | refine G_ret rfl obQ (fun w2 hw => ⟨_, rfl, hw.below, NtE.mk2 (SlC.nil_ _ _) (SlC.nil_ _ _) rfl⟩)
          )
        )
  · simp only [if_neg h0]
    have hl : (es ++ [e]).length = es.length + 1 := by simp
    repeat' (first
 | (refine C_id ?_; first
 | refine C_seq ?_
 | refine C_region rfl ?_
 | refine C_block ?_
 | refine C_skip ?_
 | refine C_exit ?_
 | refine C_ret0 ?_
 | refine C_condT rfl obQ ?_
 | refine C_condF rfl obQ ?_
 | (refine C_cond rfl obQ (fun h => ?_) (fun h => ?_) <;> (try simp only [Bool.or_eq_true, Bool.and_eq_true, Bool.or_eq_false_iff, Bool.and_eq_false_iff, decide_eq_true_eq, decide_eq_false_iff_not, beq_iff_eq, bne_iff_ne, beq_eq_false_iff_ne, bne_eq_false_iff_eq, ne_eq, Decidable.not_not, List.cons.injEq, and_true, Bool.not_eq_true', Bool.not_eq_false', Int.not_lt, Int.not_le] at h) <;> (try (exfalso; omega)))
          )
 | (refine S_id ?_; first
 | refine S_asRow 15 1 rfl rfl rfl ?_
 | (refine S_callRws (f := 67) rfl obQ (by kernel_rfl) (fun w hw => rOwn_c A A2 c c2 names es hn hm hA hA2 w (hw.rdm (Rd.toS hr) memQ) (hw.rdm (Rd.toS hr2) memQ)) (fun v rs hR => ?_); obtain ⟨AR, cR, AR2, cR2, rfl, rfl, hcR, hcR2, hgR⟩ := hR)
 | refine S_append rfl obQ rfl rfl rfl ⟨by decide, rfl⟩ rfl ⟨rfl, rfl, rfl, rfl⟩ [.int .i64 e.F, .int .i64 e.T, .int .i64 e.L, .int .i64 e.H] ⟨by decide, rfl⟩ (by simp [Value.oneCell']) (fun w hw => by first | exact hw.src (i := 0) rfl rfl | exact hw.src (i := 1) rfl rfl | exact hw.src (i := 2) rfl rfl | exact hw.src (i := 3) rfl rfl | exact hw.src (i := 4) rfl rfl | exact hw.src (i := 5) rfl rfl) (by unfold maxLen; dsimp only; omega) (fun gb cap' => ⟨_, rfl, ?_⟩)
 | refine S_nil ?_
 | refine S_run rfl rfl obQ obQ ?_
 | refine S_box (fun b => ⟨_, _, rfl, obQ, ?_⟩)
 | refine S_slice (fun b => ⟨_, _, rfl, obQ, ?_⟩)
          )
 | (refine G_id ?_; first
 | refine G_then ?_
 | refine G_block ?_
 | refine G_blockX ?_
 | refine G_blockN rfl ?_
 | refine G_blockR ?_
 | refine G_thenR ?_
 | refine G_thenX ?_
 | refine G_ret rfl obQ (fun w2 hw => ⟨_, rfl, hw.below, NtE.mk2 (HW.rowSlC (i := 0) hw rfl rfl rfl rfl) (HW.rowSlC (i := 1) hw rfl rfl hl.symm (by simp [edC])) rfl⟩)
          )
        )

set_option maxHeartbeats 1000000 in
/-- genlockref04.Without -/
theorem rWithout_c (A A2 : Option Addr) (c c2 : Nat) (names : List ByteArray) (es : List Edg) (hn : names.length ≤ 1000000) (hm : es.length ≤ 1000000) (hA : A = none → names.length = 0 ∧ c = 0) (f : Nat) (hf : f < es.length) (w : World) (hr : Rd w A (names.map .string)) (hr2 : Rd w A2 (es.flatMap edC)) : Calls Tryz.prog 74 #[.agg #[.slice A names.length c, .slice A2 es.length c2], .int .i64 f] w fun r w' => ∃ v, r = .returned v ∧ Below w.heap.size w w' ∧ NtC w w' v names.length (es.eraseIdx f).length (names.map .string) ((es.eraseIdx f).flatMap edC) := by
  refine calls_of (args := [.agg #[.slice A names.length c, .slice A2 es.length c2], .int .i64 f]) T_ok Tryz.func74 rfl Tryz.ntmps74 (Nat.le_of_ble_eq_true rfl) rfl ?_
  repeat' (first
 | (refine C_id ?_; first
 | refine C_seq ?_
 | refine C_region rfl ?_
 | refine C_block ?_
 | refine C_skip ?_
 | refine C_exit ?_
 | refine C_ret0 ?_
 | refine C_drawT (id := 6) 7 rfl mixed (by kernel_rfl) rfl rfl ?_
 | refine C_condT rfl obQ ?_
 | refine C_condF rfl obQ ?_
 | (refine C_cond rfl obQ (fun h => ?_) (fun h => ?_) <;> (try simp only [Bool.or_eq_true, Bool.and_eq_true, Bool.or_eq_false_iff, Bool.and_eq_false_iff, decide_eq_true_eq, decide_eq_false_iff_not, beq_iff_eq, bne_iff_ne, beq_eq_false_iff_ne, bne_eq_false_iff_eq, ne_eq, Decidable.not_not, List.cons.injEq, and_true, Bool.not_eq_true', Bool.not_eq_false', Int.not_lt, Int.not_le] at h))
      )
 | (refine S_id ?_; first
 | refine S_row00 rfl rfl rfl (fun g => ?_)
 | refine S_appendS rfl obQ rfl rfl rfl ⟨by decide, rfl⟩ rfl ⟨rfl, rfl, rfl, rfl⟩ (names.map .string) (by simp) hA (one_str _) (srcS hr memQ) (by unfold maxLen; dsimp only; omega) (fun A' cap' => ⟨_, rfl, ?_⟩)
 | refine S_nil ?_
 | refine S_run rfl rfl obQ obQ ?_
 | refine S_box (fun b => ⟨_, _, rfl, obQ, ?_⟩)
 | refine S_slice (fun b => ⟨_, _, rfl, obQ, ?_⟩)
      )
 | (refine D_id ?_; first
 | refine D_nil ?_
 | refine D_tail ?_
 | refine D_run rfl rfl obQ obQ ?_
      )
 | (refine G_id ?_; first
 | refine G_then ?_
 | refine G_block ?_
 | refine G_blockX ?_
 | refine G_blockN rfl ?_
 | refine G_blockR ?_
 | refine G_thenR ?_
 | refine G_thenX ?_
 | refine G_ret rfl obQ (fun w hw => ⟨?_, hw.below⟩)
      )
    )
  rename_i b1 b2
  refine C_rowB 108 4 [⟨b1, 84, [.v (.slice A names.length c), .v (.slice A2 es.length c2)]⟩, ⟨b2, 84, [.v (.slice none 0 0), .v (.slice none 0 0)]⟩, ⟨b, 84, [.r A' (0 + names.length) cap' 0, .r none 0 0 1]⟩] rfl ?_
  refine C_loopS (fun i : Nat × Option Addr × Nat => ⟨[(6, .s (.v (.int .i64 i.1))), (5, .s (.p b 2 0)), (4, .s (.p b2 1 0)), (2, .s (.p b1 0 0)), (1, .s (.v (.int .i64 f)))], [⟨b1, 84, [.v (.slice A names.length c), .v (.slice A2 es.length c2)]⟩, ⟨b2, 84, [.v (.slice none 0 0), .v (.slice none 0 0)]⟩, ⟨b, 84, [.r A' (0 + names.length) cap' 0, .r i.2.1 ((es.take i.1).eraseIdx f).length i.2.2 1]⟩], [⟨9, 1, 0 + names.length, [] ++ names.map .string, .slice A' (0 + names.length) cap'⟩, ⟨108, 4, ((es.take i.1).eraseIdx f).length, ((es.take i.1).eraseIdx f).flatMap edC, .slice i.2.1 ((es.take i.1).eraseIdx f).length i.2.2⟩]⟩) (fun i => i.1 ≤ es.length) (fun i => es.length - i.1) (0, none, 0) (Nat.zero_le _) ?_ (fun i hi => ?_)
  · exact ⟨⟨_, rfl, obQ⟩, ⟨_, rfl⟩, rfl, pstQ⟩
  obtain ⟨k, A3, c3⟩ := i
  have hi' : k ≤ es.length := hi
  dsimp only
  by_cases hlt : k < es.length
  · obtain ⟨ad, rfl⟩ := hr2.some (by rw [len4]; omega)
    have hes := erase_succ (f := f) hlt
    have hll : ((es.take k).eraseIdx f).length ≤ es.length := by rw [List.length_eraseIdx]; split <;> rw [List.length_take] <;> omega
    by_cases hkf : k = f
    · rw [if_pos hkf] at hes
      repeat' (first
 | (refine C_id ?_; first
 | refine C_seq ?_
 | refine C_region rfl ?_
 | refine C_block ?_
 | refine C_skip ?_
 | refine C_exit ?_
 | refine C_ret0 ?_
 | refine C_drawT (id := 6) 7 rfl mixed (by kernel_rfl) rfl rfl ?_
 | refine C_condT rfl obQ ?_
 | refine C_condF rfl obQ ?_
 | (refine C_cond rfl obQ (fun h => ?_) (fun h => ?_) <;> (try simp only [Bool.or_eq_true, Bool.and_eq_true, Bool.or_eq_false_iff, Bool.and_eq_false_iff, decide_eq_true_eq, decide_eq_false_iff_not, beq_iff_eq, bne_iff_ne, beq_eq_false_iff_ne, bne_eq_false_iff_eq, ne_eq, Decidable.not_not, List.cons.injEq, and_true, Bool.not_eq_true', Bool.not_eq_false', Int.not_lt, Int.not_le] at h) <;> (try (exfalso; omega)))
            )
 | (refine S_id ?_; first
 | refine S_nil ?_
 | refine S_run rfl rfl obQ obQ ?_
 | refine S_box (fun b => ⟨_, _, rfl, obQ, ?_⟩)
 | refine S_slice (fun b => ⟨_, _, rfl, obQ, ?_⟩)
            )
 | (refine D_id ?_; first
 | refine D_nil ?_
 | refine D_tail ?_
 | refine D_run rfl rfl obQ obQ ?_
            )
 | (refine G_id ?_; first
 | refine G_loop (k + 1, A3, c3) (by show k + 1 ≤ _; omega) (by show es.length - (k + 1) < es.length - k; omega) (by dsimp only; simp only [hes]; exact ⟨⟨_, rfl, obQ⟩, ⟨_, rfl⟩, rfl, pstQ⟩)
 | refine G_then ?_
 | refine G_block ?_
 | refine G_blockX ?_
 | refine G_blockN rfl ?_
 | refine G_blockR ?_
 | refine G_thenR ?_
 | refine G_thenX ?_
 | refine G_ret rfl obQ (fun w hw => ⟨?_, hw.below⟩)
            )
          )
    · rw [if_neg hkf] at hes
      have hel : ((es.take (k + 1)).eraseIdx f).length = ((es.take k).eraseIdx f).length + 1 := by rw [hes]; simp
      have hef : ((es.take (k + 1)).eraseIdx f).flatMap edC = ((es.take k).eraseIdx f).flatMap edC ++ edC es[k] := by rw [hes]; simp
      repeat' (first
 | (refine C_id ?_; first
 | refine C_seq ?_
 | refine C_region rfl ?_
 | refine C_block ?_
 | refine C_skip ?_
 | refine C_exit ?_
 | refine C_ret0 ?_
 | refine C_drawV (id := 6) 8 [(0, true), (1, true), (2, true), (3, true), (4, true), (5, true), (6, true), (7, false)] rfl mixed (by kernel_rfl) rfl ?_
 | refine C_condT rfl obQ ?_
 | refine C_condF rfl obQ ?_
 | (refine C_cond rfl obQ (fun h => ?_) (fun h => ?_) <;> (try simp only [Bool.or_eq_true, Bool.and_eq_true, Bool.or_eq_false_iff, Bool.and_eq_false_iff, decide_eq_true_eq, decide_eq_false_iff_not, beq_iff_eq, bne_iff_ne, beq_eq_false_iff_ne, bne_eq_false_iff_eq, ne_eq, Decidable.not_not, List.cons.injEq, and_true, Bool.not_eq_true', Bool.not_eq_false', Int.not_lt, Int.not_le] at h) <;> (try (exfalso; omega)))
            )
 | (refine S_id ?_; first
 | refine S_load rfl obQ rfl [.int .i64 es[k].F, .int .i64 es[k].T, .int .i64 es[k].L, .int .i64 es[k].H] (.past _ memQ _ _ hr2.toS _ _ rfl rfl (idxS (f := edC) (fun _ => rfl) hlt)) rfl (.inl ⟨rfl, rfl⟩) ?_
 | refine S_append rfl obQ rfl rfl rfl ⟨by decide, rfl⟩ rfl ⟨rfl, rfl, rfl, rfl⟩ [.int .i64 es[k].F, .int .i64 es[k].T, .int .i64 es[k].L, .int .i64 es[k].H] ⟨by decide, rfl⟩ (by simp [Value.oneCell']) (fun w hw => by first | exact hw.src (i := 0) rfl rfl | exact hw.src (i := 1) rfl rfl | exact hw.src (i := 2) rfl rfl | exact hw.src (i := 3) rfl rfl | exact hw.src (i := 4) rfl rfl | exact hw.src (i := 5) rfl rfl) (by unfold maxLen; dsimp only; omega) (fun gb cap'_1 => ⟨_, rfl, ?_⟩)
 | refine S_nil ?_
 | refine S_run rfl rfl obQ obQ ?_
 | refine S_box (fun b9 => ⟨_, _, rfl, obQ, ?_⟩)
 | refine S_slice (fun b => ⟨_, _, rfl, obQ, ?_⟩)
            )
 | (refine D_id ?_; first
 | refine D_load rfl obQ rfl [.int .i64 es[k].F, .int .i64 es[k].T, .int .i64 es[k].L, .int .i64 es[k].H] (.past _ memQ _ _ hr2.toS _ _ rfl rfl (idxS (f := edC) (fun _ => rfl) hlt)) rfl (.inl ⟨rfl, rfl⟩) ?_
 | refine D_nil ?_
 | refine D_tail ?_
 | refine D_run rfl rfl obQ obQ ?_
            )
 | (refine V_id ?_; first
 | refine V_nil ?_
 | refine V_q rfl (Yl_load rfl obQ rfl [.int .i64 es[k].F, .int .i64 es[k].T, .int .i64 es[k].L, .int .i64 es[k].H] (.past _ memQ _ _ hr2.toS _ _ rfl rfl (idxS (f := edC) (fun _ => rfl) hlt)) rfl (.inl ⟨rfl, rfl⟩)) ?_
 | refine V_q rfl (Yl_step rfl obQ) ?_
 | refine V_n rfl ?_
            )
 | (refine G_id ?_; first
 | refine G_V ⟨⟨_, rfl, trivial⟩, ⟨_, rfl⟩, rfl, pstQ⟩ rfl ?_
 | refine G_loop (k + 1, some ⟨gb, 0, none⟩, cap'_1) (by show k + 1 ≤ _; omega) (by show es.length - (k + 1) < es.length - k; omega) (by dsimp only; simp only [hel, hef]; exact ⟨⟨_, rfl, obQ⟩, ⟨_, rfl⟩, rfl, pstQ⟩)
 | refine G_then ?_
 | refine G_block ?_
 | refine G_blockX ?_
 | refine G_blockN rfl ?_
 | refine G_blockR ?_
 | refine G_thenR ?_
 | refine G_thenX ?_
 | refine G_ret rfl obQ (fun w hw => ⟨?_, hw.below⟩)
            )
          )
  · obtain rfl : k = es.length := by omega
    repeat' (first
 | (refine C_id ?_; first
 | refine C_seq ?_
 | refine C_region rfl ?_
 | refine C_block ?_
 | refine C_skip ?_
 | refine C_exit ?_
 | refine C_ret0 ?_
 | refine C_drawT (id := 6) 7 rfl mixed (by kernel_rfl) rfl rfl ?_
 | refine C_condT rfl obQ ?_
 | refine C_condF rfl obQ ?_
 | (refine C_cond rfl obQ (fun h => ?_) (fun h => ?_) <;> (try simp only [Bool.or_eq_true, Bool.and_eq_true, Bool.or_eq_false_iff, Bool.and_eq_false_iff, decide_eq_true_eq, decide_eq_false_iff_not, beq_iff_eq, bne_iff_ne, beq_eq_false_iff_ne, bne_eq_false_iff_eq, ne_eq, Decidable.not_not, List.cons.injEq, and_true, Bool.not_eq_true', Bool.not_eq_false', Int.not_lt, Int.not_le] at h) <;> (try (exfalso; omega)))
          )
 | (refine S_id ?_; first
 | refine S_nil ?_
 | refine S_run rfl rfl obQ obQ ?_
 | refine S_box (fun b => ⟨_, _, rfl, obQ, ?_⟩)
 | refine S_slice (fun b => ⟨_, _, rfl, obQ, ?_⟩)
          )
 | (refine D_id ?_; first
 | refine D_nil ?_
 | refine D_tail ?_
 | refine D_run rfl rfl obQ obQ ?_
          )
 | (refine G_id ?_; first
 | refine G_then ?_
 | refine G_block ?_
 | refine G_blockX ?_
 | refine G_blockN rfl ?_
 | refine G_blockR ?_
 | refine G_thenR ?_
 | refine G_thenX ?_
 | refine G_ret rfl obQ (fun w2 hw => ⟨_, rfl, hw.below, NtC.mk2 (HW.rowSlC (i := 0) hw rfl rfl (by simp) (by simp)) (HW.rowSlC (i := 1) hw rfl rfl (by simp) (by simp)) rfl⟩)
          )
        )

end Go.Proofs.YtmfophoejjcnlaaGreatDoor
namespace Go.Proofs.YtmfophoejjcnlaaGreatDoor
open Go.E Go.RowKit
attribute [local irreducible] G C S D Calls
set_option maxRecDepth 100000
set_option linter.unusedSimpArgs false
set_option linter.unusedVariables false

set_option maxHeartbeats 400000 in
/-- genlockref01.SameWords -/
theorem sameWordsT_c (A B : Option Addr) (c c3 : Nat) (l : List ByteArray) (hl : l.length ≤ 1000000) (w : World) (hr : Rd w A (l.map .string)) (hr3 : Rd w B (l.map .string)) : Calls Tryz.prog 118 #[.slice A l.length c, .slice B l.length c3] w fun r w' => r = .returned (.bool true) ∧ Below w.heap.size w w' := by
  refine calls_of (args := [.slice A l.length c, .slice B l.length c3]) T_ok Tryz.func118 rfl Tryz.ntmps118 (Nat.le_of_ble_eq_true rfl) rfl ?_
  repeat' (first
 | (refine C_id ?_; first
 | refine C_seq ?_
 | refine C_region rfl ?_
 | refine C_block ?_
 | refine C_skip ?_
 | refine C_exit ?_
 | refine C_ret0 ?_
 | refine C_draw (id := 6) rfl mixed (by kernel_rfl) ?_
 | refine C_condT rfl obQ ?_
 | refine C_condF rfl obQ ?_
 | (refine C_cond rfl obQ (fun h => ?_) (fun h => ?_) <;> (try simp only [Bool.or_eq_true, Bool.and_eq_true, Bool.or_eq_false_iff, Bool.and_eq_false_iff, decide_eq_true_eq, decide_eq_false_iff_not, beq_iff_eq, bne_iff_ne, beq_eq_false_iff_ne, bne_eq_false_iff_eq, ne_eq, Decidable.not_not, List.cons.injEq, and_true, Bool.not_eq_true', Bool.not_eq_false', Int.not_lt, Int.not_le] at h) <;> (try (exfalso; omega)) <;> (try (exfalso; simp at h; done)) <;> (try (exfalso; simp only [not_true_eq_false, false_or, or_false] at h; omega)) <;> (try (exfalso; simp at h; done)))
      )
 | (refine S_id ?_; first
 | refine S_nil ?_
 | refine S_run rfl rfl obQ obQ ?_
      )
 | (refine D_id ?_; first
 | refine D_nil ?_
 | refine D_tail ?_
 | refine D_run rfl rfl obQ obQ ?_
      )
 | (refine G_id ?_; first
 | refine G_then ?_
 | refine G_block ?_
 | refine G_blockX ?_
 | refine G_blockN rfl ?_
 | refine G_blockR ?_
 | refine G_thenR ?_
 | refine G_thenX ?_
 | refine G_ret rfl obQ (fun w hw => ⟨?_, hw.below⟩)
      )
    )
  refine C_loopS (fun k : Nat => ⟨[(5, .s (.v (.int .i64 k))), (0, .s (.v (.slice A l.length c))), (1, .s (.v (.slice B l.length c3)))], [], []⟩) (fun k => k ≤ l.length) (fun k => l.length - k) 0 (Nat.zero_le _) ?_ (fun k hk => ?_)
  · exact ⟨⟨_, rfl, obQ⟩, ⟨_, rfl⟩, rfl, pstQ⟩
  by_cases hlt : k < l.length
  · obtain ⟨ad, rfl⟩ := hr.some (by simp; omega)
    obtain ⟨ad3, rfl⟩ := hr3.some (by simp; omega)
    repeat' (first
 | (refine C_id ?_; first
 | refine C_seq ?_
 | refine C_region rfl ?_
 | refine C_block ?_
 | refine C_skip ?_
 | refine C_exit ?_
 | refine C_ret0 ?_
 | refine C_draw (id := 6) rfl mixed (by kernel_rfl) ?_
 | refine C_condT rfl obQ ?_
 | refine C_condF rfl obQ ?_
 | (refine C_cond rfl obQ (fun h => ?_) (fun h => ?_) <;> (try (exfalso; omega)) <;> (try (exfalso; simp at h; done)) <;> (try (exfalso; simp only [not_true_eq_false, false_or, or_false] at h; omega)) <;> (try (rw [toList_self] at h; cases h)) <;> (try (exfalso; simp only [decide_eq_false_iff_not, decide_eq_true_eq] at h; omega)) <;> (try (exfalso; simp at h; done)))
          )
 | (refine S_id ?_; first
 | refine S_load rfl obQ rfl [.string l[k]] (.past _ memQ _ _ hr.toS _ _ rfl rfl (idx1 hlt)) rfl (.inr ⟨rfl, rfl⟩) ?_
 | refine S_load rfl obQ rfl [.string l[k]] (.past _ memQ _ _ hr3.toS _ _ rfl rfl (idx1 hlt)) rfl (.inr ⟨rfl, rfl⟩) ?_
 | refine S_nil ?_
 | refine S_run rfl rfl obQ obQ ?_
          )
 | (refine D_id ?_; first
 | refine D_load rfl obQ rfl [.string l[k]] (.past _ memQ _ _ hr.toS _ _ rfl rfl (idx1 hlt)) rfl (.inr ⟨rfl, rfl⟩) ?_
 | refine D_load rfl obQ rfl [.string l[k]] (.past _ memQ _ _ hr3.toS _ _ rfl rfl (idx1 hlt)) rfl (.inr ⟨rfl, rfl⟩) ?_
 | refine D_nil ?_
 | refine D_tail ?_
 | refine D_run rfl rfl obQ obQ ?_
          )
 | (refine G_id ?_; first
 | refine G_loop (k + 1) (by show k + 1 ≤ _; omega) (by show l.length - (k + 1) < l.length - k; omega) ⟨⟨_, rfl, obQ⟩, ⟨_, rfl⟩, rfl, pstQ⟩
 | refine G_then ?_
 | refine G_block ?_
 | refine G_blockX ?_
 | refine G_blockN rfl ?_
 | refine G_blockR ?_
 | refine G_thenR ?_
 | refine G_thenX ?_
 | refine G_ret rfl obQ (fun w hw => ⟨?_, hw.below⟩)
          )
        )
  · repeat' (first
 | (refine C_id ?_; first
 | refine C_seq ?_
 | refine C_region rfl ?_
 | refine C_block ?_
 | refine C_skip ?_
 | refine C_exit ?_
 | refine C_ret0 ?_
 | refine C_draw (id := 6) rfl mixed (by kernel_rfl) ?_
 | refine C_condT rfl obQ ?_
 | refine C_condF rfl obQ ?_
 | (refine C_cond rfl obQ (fun h => ?_) (fun h => ?_) <;> (try simp only [Bool.or_eq_true, Bool.and_eq_true, Bool.or_eq_false_iff, Bool.and_eq_false_iff, decide_eq_true_eq, decide_eq_false_iff_not, beq_iff_eq, bne_iff_ne, beq_eq_false_iff_ne, bne_eq_false_iff_eq, ne_eq, Decidable.not_not, List.cons.injEq, and_true, Bool.not_eq_true', Bool.not_eq_false', Int.not_lt, Int.not_le] at h) <;> (try (exfalso; omega)))
          )
 | (refine S_id ?_; first
 | refine S_nil ?_
 | refine S_run rfl rfl obQ obQ ?_
          )
 | (refine D_id ?_; first
 | refine D_nil ?_
 | refine D_tail ?_
 | refine D_run rfl rfl obQ obQ ?_
          )
 | (refine G_id ?_; first
 | refine G_then ?_
 | refine G_block ?_
 | refine G_blockX ?_
 | refine G_blockN rfl ?_
 | refine G_blockR ?_
 | refine G_thenR ?_
 | refine G_thenX ?_
 | refine G_ret rfl obQ (fun w hw => ⟨?_, hw.below⟩)
          )
        )
    all_goals rfl

set_option maxHeartbeats 400000 in
/-- genlockref04.Same -/
theorem rSameT_c (A A2 B B2 : Option Addr) (c c2 c3 c4 : Nat) (names : List ByteArray) (es : List Edg) (hn : names.length ≤ 1000000) (hm : es.length ≤ 1000000) (w : World) (hr : Rd w A (names.map .string)) (hr2 : Rd w A2 (es.flatMap edC)) (hr3 : Rd w B (names.map .string)) (hr4 : Rd w B2 (es.flatMap edC)) : Calls Tryz.prog 66 #[.agg #[.slice A names.length c, .slice A2 es.length c2], .agg #[.slice B names.length c3, .slice B2 es.length c4]] w fun r w' => r = .returned (.bool true) ∧ Below w.heap.size w w' := by
  refine calls_of (args := [.agg #[.slice A names.length c, .slice A2 es.length c2], .agg #[.slice B names.length c3, .slice B2 es.length c4]]) T_ok Tryz.func66 rfl Tryz.ntmps66 (Nat.le_of_ble_eq_true rfl) rfl ?_
  repeat' (first
 | (refine C_id ?_; first
 | refine C_seq ?_
 | refine C_region rfl ?_
 | refine C_block ?_
 | refine C_skip ?_
 | refine C_exit ?_
 | refine C_ret0 ?_
 | refine C_draw (id := 6) rfl mixed (by kernel_rfl) ?_
 | refine C_condT rfl obQ ?_
 | refine C_condF rfl obQ ?_
 | (refine C_cond rfl obQ (fun h => ?_) (fun h => ?_) <;> (try simp only [Bool.or_eq_true, Bool.and_eq_true, Bool.or_eq_false_iff, Bool.and_eq_false_iff, decide_eq_true_eq, decide_eq_false_iff_not, beq_iff_eq, bne_iff_ne, beq_eq_false_iff_ne, bne_eq_false_iff_eq, ne_eq, Decidable.not_not, List.cons.injEq, and_true, Bool.not_eq_true', Bool.not_eq_false', Int.not_lt, Int.not_le] at h) <;> (try (exfalso; omega)) <;> (try (exfalso; simp at h; done)) <;> (try (exfalso; simp only [not_true_eq_false, false_or, or_false] at h; omega)) <;> (try (exfalso; simp at h; done)))
      )
 | (refine S_id ?_; first
 | refine S_nil ?_
 | refine S_run rfl rfl obQ obQ ?_
 | refine S_box (fun b => ⟨_, _, rfl, obQ, ?_⟩)
      )
 | (refine D_id ?_; first
 | refine D_nil ?_
 | refine D_tail ?_
 | refine D_run rfl rfl obQ obQ ?_
      )
 | (refine G_id ?_; first
 | refine G_then ?_
 | refine G_block ?_
 | refine G_blockX ?_
 | refine G_blockN rfl ?_
 | refine G_blockR ?_
 | refine G_thenR ?_
 | refine G_thenX ?_
 | refine G_ret rfl obQ (fun w hw => ⟨?_, hw.below⟩)
      )
    )
  rename_i b0
  refine C_loopS (fun k : Nat => ⟨[(5, .s (.v (.int .i64 k))), (2, .s (.p b0 0 0)), (3, .s (.p b 1 0))], [⟨b0, 84, [.v (.slice A names.length c), .v (.slice A2 es.length c2)]⟩, ⟨b, 84, [.v (.slice B names.length c3), .v (.slice B2 es.length c4)]⟩], []⟩) (fun k => k ≤ es.length) (fun k => es.length - k) 0 (Nat.zero_le _) ?_ (fun k hk => ?_)
  · exact ⟨⟨_, rfl, obQ⟩, ⟨_, rfl⟩, rfl, pstQ⟩
  by_cases hlt : k < es.length
  · obtain ⟨ad, rfl⟩ := hr2.some (by rw [len4]; omega)
    obtain ⟨ad3, rfl⟩ := hr4.some (by rw [len4]; omega)
    repeat' (first
 | (refine C_id ?_; first
 | refine C_seq ?_
 | refine C_region rfl ?_
 | refine C_block ?_
 | refine C_skip ?_
 | refine C_exit ?_
 | refine C_ret0 ?_
 | refine C_draw (id := 6) rfl mixed (by kernel_rfl) ?_
 | refine C_condT rfl obQ ?_
 | refine C_condF rfl obQ ?_
 | (refine C_cond rfl obQ (fun h => ?_) (fun h => ?_) <;> (try (exfalso; omega)) <;> (try (exfalso; simp at h; done)) <;> (try (exfalso; simp only [not_true_eq_false, false_or, or_false] at h; omega)) <;> (try (exfalso; simp only [decide_eq_false_iff_not, decide_eq_true_eq] at h; omega)) <;> (try (exfalso; simp at h; done)))
          )
 | (refine S_id ?_; first
 | refine S_load rfl obQ rfl [.int .i64 es[k].F, .int .i64 es[k].T, .int .i64 es[k].L, .int .i64 es[k].H] (.past (w, fun b => b < w.heap.size) memQ _ _ hr2.toS _ _ rfl rfl (idxS (f := edC) (fun _ => rfl) hlt)) rfl (.inl ⟨rfl, rfl⟩) ?_
 | refine S_load rfl obQ rfl [.int .i64 es[k].F, .int .i64 es[k].T, .int .i64 es[k].L, .int .i64 es[k].H] (.past (w, fun b => b < w.heap.size) memQ _ _ hr4.toS _ _ rfl rfl (idxS (f := edC) (fun _ => rfl) hlt)) rfl (.inl ⟨rfl, rfl⟩) ?_
 | refine S_pure (binX_pure rfl obQ (fun w => ne_flat (k := .i64) (n := 4) (xs := [es[k].F, es[k].T, es[k].L, es[k].H]) (ys := [es[k].F, es[k].T, es[k].L, es[k].H]) (by kernel_rfl) rfl rfl _ _ w)) ?_
 | refine S_nil ?_
 | refine S_run rfl rfl obQ obQ ?_
 | refine S_box (fun b => ⟨_, _, rfl, obQ, ?_⟩)
          )
 | (refine D_id ?_; first
 | refine D_load rfl obQ rfl [.int .i64 es[k].F, .int .i64 es[k].T, .int .i64 es[k].L, .int .i64 es[k].H] (.past (w, fun b => b < w.heap.size) memQ _ _ hr2.toS _ _ rfl rfl (idxS (f := edC) (fun _ => rfl) hlt)) rfl (.inl ⟨rfl, rfl⟩) ?_
 | refine D_load rfl obQ rfl [.int .i64 es[k].F, .int .i64 es[k].T, .int .i64 es[k].L, .int .i64 es[k].H] (.past (w, fun b => b < w.heap.size) memQ _ _ hr4.toS _ _ rfl rfl (idxS (f := edC) (fun _ => rfl) hlt)) rfl (.inl ⟨rfl, rfl⟩) ?_
 | refine D_pure (binX_pure rfl obQ (fun w => ne_flat (k := .i64) (n := 4) (xs := [es[k].F, es[k].T, es[k].L, es[k].H]) (ys := [es[k].F, es[k].T, es[k].L, es[k].H]) (by kernel_rfl) rfl rfl _ _ w)) ?_
 | refine D_nil ?_
 | refine D_tail ?_
 | refine D_run rfl rfl obQ obQ ?_
          )
 | (refine G_id ?_; first
 | refine G_loop (k + 1) (by show k + 1 ≤ _; omega) (by show es.length - (k + 1) < es.length - k; omega) ⟨⟨_, rfl, obQ⟩, ⟨_, rfl⟩, rfl, pstQ⟩
 | refine G_then ?_
 | refine G_block ?_
 | refine G_blockX ?_
 | refine G_blockN rfl ?_
 | refine G_blockR ?_
 | refine G_thenR ?_
 | refine G_thenX ?_
 | refine G_ret rfl obQ (fun w hw => ⟨?_, hw.below⟩)
          )
        )
  · repeat' (first
 | (refine C_id ?_; first
 | refine C_seq ?_
 | refine C_region rfl ?_
 | refine C_block ?_
 | refine C_skip ?_
 | refine C_exit ?_
 | refine C_ret0 ?_
 | refine C_draw (id := 6) rfl mixed (by kernel_rfl) ?_
 | refine C_condT rfl obQ ?_
 | refine C_condF rfl obQ ?_
 | (refine C_cond rfl obQ (fun h => ?_) (fun h => ?_) <;> (try simp only [Bool.or_eq_true, Bool.and_eq_true, Bool.or_eq_false_iff, Bool.and_eq_false_iff, decide_eq_true_eq, decide_eq_false_iff_not, beq_iff_eq, bne_iff_ne, beq_eq_false_iff_ne, bne_eq_false_iff_eq, ne_eq, Decidable.not_not, List.cons.injEq, and_true, Bool.not_eq_true', Bool.not_eq_false', Int.not_lt, Int.not_le] at h) <;> (try (exfalso; omega)))
          )
 | (refine S_id ?_; first
 | refine S_nil ?_
 | refine S_run rfl rfl obQ obQ ?_
 | refine S_box (fun b => ⟨_, _, rfl, obQ, ?_⟩)
 | refine S_call (f := 118) rfl obQ (by kernel_rfl) (fun w hw => sameWordsT_c A B c c3 names hn w (hw.rdm (Rd.toS hr) memQ) (hw.rdm (Rd.toS hr3) memQ)) ?_
          )
 | (refine D_id ?_; first
 | refine D_nil ?_
 | refine D_tail ?_
 | refine D_run rfl rfl obQ obQ ?_
 | refine D_call (f := 118) rfl obQ (by kernel_rfl) (fun w hw => sameWordsT_c A B c c3 names hn w (hw.rdm (Rd.toS hr) memQ) (hw.rdm (Rd.toS hr3) memQ)) ?_
          )
 | (refine G_id ?_; first
 | refine G_then ?_
 | refine G_block ?_
 | refine G_blockX ?_
 | refine G_blockN rfl ?_
 | refine G_blockR ?_
 | refine G_thenR ?_
 | refine G_thenX ?_
 | refine G_ret rfl obQ (fun w hw => ⟨?_, hw.below⟩)
          )
        )
    all_goals rfl

theorem arc_take {l : List Arc} {k : Nat} (h : k < l.length) : (l.take (k + 1)).flatMap arC = (l.take k).flatMap arC ++ arC l[k] := flatMap_take_succ h

set_option maxHeartbeats 400000 in
/-- genlocklaw04.arcs -/
theorem lArcs_c (A : Option Addr) (c : Nat) (l : List Arc) (hl : l.length ≤ 1000000) (w : World) (hr : Rd w A (l.flatMap arC)) : Calls Tryz.prog 70 #[.slice A l.length c] w fun r w' => ∃ v, r = .returned v ∧ Below w.heap.size w w' ∧ Sl w w' v l.length (l.flatMap arC) := by
  refine calls_of (args := [.slice A l.length c]) T_ok Tryz.func70 rfl Tryz.ntmps70 (Nat.le_of_ble_eq_true rfl) rfl ?_
  repeat' (first
 | (refine C_id ?_; first
 | refine C_seq ?_
 | refine C_region rfl ?_
 | refine C_block ?_
 | refine C_skip ?_
 | refine C_exit ?_
 | refine C_ret0 ?_
 | refine C_condT rfl obQ ?_
 | refine C_condF rfl obQ ?_
 | (refine C_cond rfl obQ (fun h => ?_) (fun h => ?_) <;> (try simp only [Bool.or_eq_true, Bool.and_eq_true, Bool.or_eq_false_iff, Bool.and_eq_false_iff, decide_eq_true_eq, decide_eq_false_iff_not, beq_iff_eq, bne_iff_ne, beq_eq_false_iff_ne, bne_eq_false_iff_eq, ne_eq, Decidable.not_not, List.cons.injEq, and_true, Bool.not_eq_true', Bool.not_eq_false', Int.not_lt, Int.not_le] at h))
      )
 | (refine S_id ?_; first
 | refine S_nil ?_
 | refine S_run rfl rfl obQ obQ ?_
 | refine S_box (fun b => ⟨_, _, rfl, obQ, ?_⟩)
 | refine S_slice (fun b => ⟨_, _, rfl, obQ, ?_⟩)
      )
 | (refine G_id ?_; first
 | refine G_then ?_
 | refine G_block ?_
 | refine G_blockX ?_
 | refine G_blockN rfl ?_
 | refine G_blockR ?_
 | refine G_thenR ?_
 | refine G_thenX ?_
 | refine G_ret rfl obQ (fun w hw => ⟨?_, hw.below⟩)
      )
    )
  refine C_row0 3 171 3 rfl ?_
  refine C_loopS (fun i : Nat × Option Addr × Nat => ⟨[(3, .s (.r i.2.1 i.1 i.2.2 0)), (8, .s (.v (.int .i64 i.1))), (7, .s (.v (.int .i64 l.length))), (6, .s (.v (.slice A l.length c)))], [], [⟨171, 3, i.1, (l.take i.1).flatMap arC, .slice i.2.1 i.1 i.2.2⟩]⟩) (fun i => i.1 ≤ l.length) (fun i => l.length - i.1) (0, none, 0) (Nat.zero_le _) ?_ (fun i hi => ?_)
  · exact ⟨⟨_, rfl, obQ⟩, ⟨_, rfl⟩, rfl, pstQ⟩
  obtain ⟨k, A', c'⟩ := i
  have hi' : k ≤ l.length := hi
  dsimp only
  by_cases hlt : k < l.length
  · obtain ⟨ad, rfl⟩ := hr.some (by rw [flat_len (f := arC) (s := 3) l (fun _ _ => rfl)]; omega)
    have hmt := arc_take hlt
    repeat' (first
 | (refine C_id ?_; first
 | refine C_seq ?_
 | refine C_region rfl ?_
 | refine C_block ?_
 | refine C_skip ?_
 | refine C_exit ?_
 | refine C_ret0 ?_
 | refine C_condT rfl obQ ?_
 | refine C_condF rfl obQ ?_
 | (refine C_cond rfl obQ (fun h => ?_) (fun h => ?_) <;> (try simp only [Bool.or_eq_true, Bool.and_eq_true, Bool.or_eq_false_iff, Bool.and_eq_false_iff, decide_eq_true_eq, decide_eq_false_iff_not, beq_iff_eq, bne_iff_ne, beq_eq_false_iff_ne, bne_eq_false_iff_eq, ne_eq, Decidable.not_not, List.cons.injEq, and_true, Bool.not_eq_true', Bool.not_eq_false', Int.not_lt, Int.not_le] at h) <;> (try (exfalso; omega)))
          )
 | (refine S_id ?_; first
 | refine S_load rfl obQ rfl [.int .i64 l[k].E, .bool l[k].B, .int .i64 l[k].N] (.past _ memQ _ _ hr.toS _ _ rfl rfl (idxS (f := arC) (fun _ => rfl) hlt)) rfl (.inl ⟨rfl, rfl⟩) ?_
 | refine S_append rfl obQ rfl rfl rfl ⟨by decide, rfl⟩ rfl ⟨rfl, rfl, rfl, rfl⟩ [.int .i64 l[k].E, .bool l[k].B, .int .i64 l[k].N] ⟨by decide, rfl⟩ (by simp [Value.oneCell']) (fun w hw => by first | exact hw.src (i := 0) rfl rfl | exact hw.src (i := 1) rfl rfl | exact hw.src (i := 2) rfl rfl | exact hw.src (i := 3) rfl rfl | exact hw.src (i := 4) rfl rfl | exact hw.src (i := 5) rfl rfl) (by unfold maxLen; dsimp only; omega) (fun gb cap' => ⟨_, rfl, ?_⟩)
 | refine S_nil ?_
 | refine S_run rfl rfl obQ obQ ?_
 | refine S_box (fun b9 => ⟨_, _, rfl, obQ, ?_⟩)
 | refine S_slice (fun b => ⟨_, _, rfl, obQ, ?_⟩)
          )
 | (refine G_id ?_; first
 | refine G_loop (k + 1, some ⟨gb, 0, none⟩, cap') (by show k + 1 ≤ _; omega) (by show l.length - (k + 1) < l.length - k; omega) ⟨⟨_, rfl, obQ⟩, ⟨_, rfl⟩, (by dsimp only; rw [hmt]; rfl), pstQ⟩
 | refine G_then ?_
 | refine G_block ?_
 | refine G_blockX ?_
 | refine G_blockN rfl ?_
 | refine G_blockR ?_
 | refine G_thenR ?_
 | refine G_thenX ?_
 | refine G_ret rfl obQ (fun w hw => ⟨?_, hw.below⟩)
          )
        )
  · obtain rfl : k = l.length := by omega
    repeat' (first
 | (refine C_id ?_; first
 | refine C_seq ?_
 | refine C_region rfl ?_
 | refine C_block ?_
 | refine C_skip ?_
 | refine C_exit ?_
 | refine C_ret0 ?_
 | refine C_condT rfl obQ ?_
 | refine C_condF rfl obQ ?_
 | (refine C_cond rfl obQ (fun h => ?_) (fun h => ?_) <;> (try simp only [Bool.or_eq_true, Bool.and_eq_true, Bool.or_eq_false_iff, Bool.and_eq_false_iff, decide_eq_true_eq, decide_eq_false_iff_not, beq_iff_eq, bne_iff_ne, beq_eq_false_iff_ne, bne_eq_false_iff_eq, ne_eq, Decidable.not_not, List.cons.injEq, and_true, Bool.not_eq_true', Bool.not_eq_false', Int.not_lt, Int.not_le] at h) <;> (try (exfalso; omega)))
          )
 | (refine S_id ?_; first
 | refine S_nil ?_
 | refine S_run rfl rfl obQ obQ ?_
 | refine S_box (fun b => ⟨_, _, rfl, obQ, ?_⟩)
 | refine S_slice (fun b => ⟨_, _, rfl, obQ, ?_⟩)
          )
 | (refine G_id ?_; first
 | refine G_then ?_
 | refine G_block ?_
 | refine G_blockX ?_
 | refine G_blockN rfl ?_
 | refine G_blockR ?_
 | refine G_thenR ?_
 | refine G_thenX ?_
 | refine G_ret rfl obQ (fun w2 hw => ⟨_, rfl, hw.below, HW.rowSl (i := 0) hw rfl rfl rfl (by rw [List.take_length])⟩)
          )
        )

set_option maxHeartbeats 400000 in
/-- genlocklaw04.told -/
theorem lTold_c (A : Option Addr) (c : Nat) (l : List Arc) (hl : l.length ≤ 1000000) (w : World) (hr : Rd w A (l.flatMap arC)) : Calls Tryz.prog 72 #[.slice A l.length c] w fun r w' => ∃ v, r = .returned v ∧ Below w.heap.size w w' ∧ Sl w w' v l.length (l.flatMap arC) := by
  refine calls_of (args := [.slice A l.length c]) T_ok Tryz.func72 rfl Tryz.ntmps72 (Nat.le_of_ble_eq_true rfl) rfl ?_
  repeat' (first
 | (refine C_id ?_; first
 | refine C_seq ?_
 | refine C_region rfl ?_
 | refine C_block ?_
 | refine C_skip ?_
 | refine C_exit ?_
 | refine C_ret0 ?_
 | refine C_condT rfl obQ ?_
 | refine C_condF rfl obQ ?_
 | (refine C_cond rfl obQ (fun h => ?_) (fun h => ?_) <;> (try simp only [Bool.or_eq_true, Bool.and_eq_true, Bool.or_eq_false_iff, Bool.and_eq_false_iff, decide_eq_true_eq, decide_eq_false_iff_not, beq_iff_eq, bne_iff_ne, beq_eq_false_iff_ne, bne_eq_false_iff_eq, ne_eq, Decidable.not_not, List.cons.injEq, and_true, Bool.not_eq_true', Bool.not_eq_false', Int.not_lt, Int.not_le] at h))
      )
 | (refine S_id ?_; first
 | refine S_nil ?_
 | refine S_run rfl rfl obQ obQ ?_
 | refine S_box (fun b => ⟨_, _, rfl, obQ, ?_⟩)
 | refine S_slice (fun b => ⟨_, _, rfl, obQ, ?_⟩)
      )
 | (refine G_id ?_; first
 | refine G_then ?_
 | refine G_block ?_
 | refine G_blockX ?_
 | refine G_blockN rfl ?_
 | refine G_blockR ?_
 | refine G_thenR ?_
 | refine G_thenX ?_
 | refine G_ret rfl obQ (fun w hw => ⟨?_, hw.below⟩)
      )
    )
  refine C_row0 3 195 3 rfl ?_
  refine C_loopS (fun i : Nat × Option Addr × Nat => ⟨[(3, .s (.r i.2.1 i.1 i.2.2 0)), (8, .s (.v (.int .i64 i.1))), (7, .s (.v (.int .i64 l.length))), (6, .s (.v (.slice A l.length c)))], [], [⟨195, 3, i.1, (l.take i.1).flatMap arC, .slice i.2.1 i.1 i.2.2⟩]⟩) (fun i => i.1 ≤ l.length) (fun i => l.length - i.1) (0, none, 0) (Nat.zero_le _) ?_ (fun i hi => ?_)
  · exact ⟨⟨_, rfl, obQ⟩, ⟨_, rfl⟩, rfl, pstQ⟩
  obtain ⟨k, A', c'⟩ := i
  have hi' : k ≤ l.length := hi
  dsimp only
  by_cases hlt : k < l.length
  · obtain ⟨ad, rfl⟩ := hr.some (by rw [flat_len (f := arC) (s := 3) l (fun _ _ => rfl)]; omega)
    have hmt := arc_take hlt
    repeat' (first
 | (refine C_id ?_; first
 | refine C_seq ?_
 | refine C_region rfl ?_
 | refine C_block ?_
 | refine C_skip ?_
 | refine C_exit ?_
 | refine C_ret0 ?_
 | refine C_condT rfl obQ ?_
 | refine C_condF rfl obQ ?_
 | (refine C_cond rfl obQ (fun h => ?_) (fun h => ?_) <;> (try simp only [Bool.or_eq_true, Bool.and_eq_true, Bool.or_eq_false_iff, Bool.and_eq_false_iff, decide_eq_true_eq, decide_eq_false_iff_not, beq_iff_eq, bne_iff_ne, beq_eq_false_iff_ne, bne_eq_false_iff_eq, ne_eq, Decidable.not_not, List.cons.injEq, and_true, Bool.not_eq_true', Bool.not_eq_false', Int.not_lt, Int.not_le] at h) <;> (try (exfalso; omega)))
          )
 | (refine S_id ?_; first
 | refine S_load rfl obQ rfl [.int .i64 l[k].E, .bool l[k].B, .int .i64 l[k].N] (.past _ memQ _ _ hr.toS _ _ rfl rfl (idxS (f := arC) (fun _ => rfl) hlt)) rfl (.inl ⟨rfl, rfl⟩) ?_
 | refine S_append rfl obQ rfl rfl rfl ⟨by decide, rfl⟩ rfl ⟨rfl, rfl, rfl, rfl⟩ [.int .i64 l[k].E, .bool l[k].B, .int .i64 l[k].N] ⟨by decide, rfl⟩ (by simp [Value.oneCell']) (fun w hw => by first | exact hw.src (i := 0) rfl rfl | exact hw.src (i := 1) rfl rfl | exact hw.src (i := 2) rfl rfl | exact hw.src (i := 3) rfl rfl | exact hw.src (i := 4) rfl rfl | exact hw.src (i := 5) rfl rfl) (by unfold maxLen; dsimp only; omega) (fun gb cap' => ⟨_, rfl, ?_⟩)
 | refine S_nil ?_
 | refine S_run rfl rfl obQ obQ ?_
 | refine S_box (fun b9 => ⟨_, _, rfl, obQ, ?_⟩)
 | refine S_slice (fun b => ⟨_, _, rfl, obQ, ?_⟩)
          )
 | (refine G_id ?_; first
 | refine G_loop (k + 1, some ⟨gb, 0, none⟩, cap') (by show k + 1 ≤ _; omega) (by show l.length - (k + 1) < l.length - k; omega) ⟨⟨_, rfl, obQ⟩, ⟨_, rfl⟩, (by dsimp only; rw [hmt]; rfl), pstQ⟩
 | refine G_then ?_
 | refine G_block ?_
 | refine G_blockX ?_
 | refine G_blockN rfl ?_
 | refine G_blockR ?_
 | refine G_thenR ?_
 | refine G_thenX ?_
 | refine G_ret rfl obQ (fun w hw => ⟨?_, hw.below⟩)
          )
        )
  · obtain rfl : k = l.length := by omega
    repeat' (first
 | (refine C_id ?_; first
 | refine C_seq ?_
 | refine C_region rfl ?_
 | refine C_block ?_
 | refine C_skip ?_
 | refine C_exit ?_
 | refine C_ret0 ?_
 | refine C_condT rfl obQ ?_
 | refine C_condF rfl obQ ?_
 | (refine C_cond rfl obQ (fun h => ?_) (fun h => ?_) <;> (try simp only [Bool.or_eq_true, Bool.and_eq_true, Bool.or_eq_false_iff, Bool.and_eq_false_iff, decide_eq_true_eq, decide_eq_false_iff_not, beq_iff_eq, bne_iff_ne, beq_eq_false_iff_ne, bne_eq_false_iff_eq, ne_eq, Decidable.not_not, List.cons.injEq, and_true, Bool.not_eq_true', Bool.not_eq_false', Int.not_lt, Int.not_le] at h) <;> (try (exfalso; omega)))
          )
 | (refine S_id ?_; first
 | refine S_nil ?_
 | refine S_run rfl rfl obQ obQ ?_
 | refine S_box (fun b => ⟨_, _, rfl, obQ, ?_⟩)
 | refine S_slice (fun b => ⟨_, _, rfl, obQ, ?_⟩)
          )
 | (refine G_id ?_; first
 | refine G_then ?_
 | refine G_block ?_
 | refine G_blockX ?_
 | refine G_blockN rfl ?_
 | refine G_blockR ?_
 | refine G_thenR ?_
 | refine G_thenX ?_
 | refine G_ret rfl obQ (fun w2 hw => ⟨_, rfl, hw.below, HW.rowSl (i := 0) hw rfl rfl rfl (by rw [List.take_length])⟩)
          )
        )

end Go.Proofs.YtmfophoejjcnlaaGreatDoor
namespace Go.Proofs.YtmfophoejjcnlaaGreatDoor
open Go.E Go.RowKit
attribute [local irreducible] G C S D Calls
set_option maxRecDepth 100000
set_option linter.unusedSimpArgs false
set_option linter.unusedVariables false

theorem rckn2_c (A A2 : Option Addr) (c c2 : Nat) (names : List ByteArray) (es : List Edg) (hn : names.length ≤ 1000000) (hm : es.length ≤ 1000000) (hs : ∀ s ∈ names, s.size ≤ maxLen) (hc : names.length ≤ c) {e : Int} (hp : netF names es = e) (w : World) (hr : Rd w A (names.map .string)) (hr2 : Rd w A2 (es.flatMap edC)) : Calls Tryz.prog 55 #[.agg #[.slice A names.length c, .slice A2 es.length c2]] w fun r w' => r = .returned (.int .i64 e) ∧ Below w.heap.size w w' := by
  have h := rCheckNet_c A A2 c c2 names es hn hm hs hc w hr hr2
  rw [hp] at h
  exact h
theorem rcke_c (n : Nat) (x : Edg) {e : Int} (hp : edgeF n x = e) (w : World) : Calls Tryz.prog 62 #[.agg #[.int .i64 x.F, .int .i64 x.T, .int .i64 x.L, .int .i64 x.H], .int .i64 n] w fun r w' => r = .returned (.int .i64 e) ∧ Below w.heap.size w w' := by
  subst hp
  exact rCheckEdge_c n x w
theorem shortB_len2 {names : List ByteArray} {es : List Edg} (h : shortB names es = true) : names.length ≤ 13 ∧ es.length ≤ 25 := by
  unfold shortB at h
  simp only [Bool.and_eq_true, Bool.or_eq_true, decide_eq_true_eq, beq_iff_eq] at h
  omega
theorem rShort2_c (A A2 : Option Addr) (c c2 : Nat) (names : List ByteArray) (es : List Edg) {b : Bool} (hsh : shortB names es = b) (hn : names.length ≤ 9223372036854775807) (hm : es.length ≤ 9223372036854775807) (w : World) (hr : Rd w A (names.map .string)) : Calls Tryz.prog 48 #[.agg #[.slice A names.length c, .slice A2 es.length c2]] w fun r w' => r = .returned (.bool b) ∧ Below w.heap.size w w' := by
  have h := rShort_c A A2 c c2 names es hn hm w hr
  rw [hsh] at h
  exact h

/-- A net that lies behind. -/
structure NtA (names : List ByteArray) (es : List Edg) where
  w1 : World
  w2 : World
  A : Option Addr
  A2 : Option Addr
  c : Nat
  c2 : Nat
  h : RdS (fun b => w1.heap.size ≤ b ∧ b < w2.heap.size) w2 A (names.map .string)
  h2 : RdS (fun b => w1.heap.size ≤ b ∧ b < w2.heap.size) w2 A2 (es.flatMap edC)
  hc : names.length ≤ c ∧ (A = none → names.length = 0 ∧ c = 0)
  hc2 : es.length ≤ c2 ∧ (A2 = none → es.length = 0 ∧ c2 = 0)
abbrev NtA.ps {names : List ByteArray} {es : List Edg} (x : NtA names es) : World × (Nat → Prop) := (x.w2, fun b => x.w1.heap.size ≤ b ∧ b < x.w2.heap.size)

end Go.Proofs.YtmfophoejjcnlaaGreatDoor
