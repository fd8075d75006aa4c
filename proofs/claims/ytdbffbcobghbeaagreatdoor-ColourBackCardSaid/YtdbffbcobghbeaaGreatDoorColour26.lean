/- Lists held against each other; the examples' arguments: the reference and the law. -/
import Derived.Test.YtdbffbcobghbeaaGreatDoorColour25
import Derived.Test.YtdbffbcobghbeaaGreatDoorColour13
import Derived.Test.YtdbffbcobghbeaaGreatDoorEng4
namespace Go.Proofs.YtdbffbcobghbeaaGreatDoor
open Go.E Go.RowKit Go.Fl
attribute [local irreducible] G C S D Calls
set_option maxRecDepth 100000
set_option linter.unusedSimpArgs false
set_option linter.unusedVariables false

theorem eq_gI {a b : List Int} (hl : a.length = b.length) (h : ∀ k, k < a.length → gI a k = gI b k) : a = b := by
  refine List.ext_getElem hl fun k h1 h2 => ?_
  have := h k h1
  rwa [gI_at h1, gI_at h2] at this
def gC (l : List Col) (k : Nat) : Col := l.getD k (0, 0, 0)
theorem gC_at {l : List Col} {k : Nat} (h : k < l.length) : gC l k = l[k] := by simp [gC, h]
theorem gC_idx {l : List Col} {k : Nat} (h : k < l.length) : ∀ (j : Nat) (u : Value), (coC (gC l k))[j]? = some u → (l.flatMap coC)[((k : Int).toNat * 3 + j)]? = some u := by
  rw [gC_at h]
  exact idxS (f := coC) (fun _ => rfl) h
theorem eq_gC {a b : List Col} (hl : a.length = b.length) (h : ∀ k, k < a.length → gC a k = gC b k) : a = b := by
  refine List.ext_getElem hl fun k h1 h2 => ?_
  have := h k h1
  rwa [gC_at h1, gC_at h2] at this
theorem co_len (l : List Col) : (l.flatMap coC).length = l.length * 3 := flat_len (f := coC) (s := 3) l (fun _ _ => rfl)

set_option maxHeartbeats 400000 in
/-- genlockref01.SameInts -/
theorem rSameInts_c (A B : Option Addr) (c c2 : Nat) (a b : List (Int)) (ha : a.length ≤ 1000000) (hb : b.length ≤ 1000000) (w : World) (hra : Rd w A (a.map (.int .i64))) (hrb : Rd w B (b.map (.int .i64))) : Calls Tryz.prog 84 #[.slice A a.length c, .slice B b.length c2] w fun r w' => r = .returned (.bool (decide (a = b))) ∧ Below w.heap.size w w' := by
  refine calls_of (args := [.slice A a.length c, .slice B b.length c2]) T_ok Tryz.func84 rfl Tryz.ntmps84 (Nat.le_of_ble_eq_true rfl) rfl ?_
  repeat' (first
 | (refine C_id ?_; first
 | refine C_seq ?_
 | refine C_region rfl ?_
 | refine C_block ?_
 | refine C_skip ?_
 | refine C_ret0 ?_
 | (refine C_cond rfl obQ (fun h => ?_) (fun h => ?_) <;> (try simp only [Bool.or_eq_true, Bool.and_eq_true, Bool.or_eq_false_iff, Bool.and_eq_false_iff, decide_eq_true_eq, decide_eq_false_iff_not, beq_iff_eq, bne_iff_ne, beq_eq_false_iff_ne, bne_eq_false_iff_eq, ne_eq, Decidable.not_not, List.cons.injEq, and_true, Bool.not_eq_true', Bool.not_eq_false', Int.not_lt, Int.not_le] at h))
 )
 | (refine S_id ?_; first
 | refine S_nil ?_
 | refine S_run rfl rfl obQ obQ ?_
 )
 | (refine G_id ?_; first
 | refine G_then ?_
 | refine G_thenR ?_
 | refine G_ret rfl obQ (fun w hw => ⟨?_, hw.below⟩)
 )
 )
  · exact rB (decide_eq_false fun e => by subst e; omega).symm
  have hlen : a.length = b.length := by omega
  refine C_loopS (fun k : Nat => ⟨[(5, .s (.v (.int .i64 k))), (0, .s (.v (.slice A a.length c))), (1, .s (.v (.slice B b.length c2)))], [], []⟩) (fun k => k ≤ a.length ∧ ∀ j, j < k → gI a j = gI b j) (fun k => a.length - k) 0 ⟨Nat.zero_le _, fun j hj => absurd hj (Nat.not_lt_zero j)⟩ ?_ (fun k hk => ?_)
  · exact ⟨⟨_, rfl, obQ⟩, ⟨_, rfl⟩, rfl, pstQ⟩
  by_cases hlt : k < a.length
  · have hlb : k < b.length := by omega
    obtain ⟨ad, rfl⟩ := hra.some (by simp; omega)
    obtain ⟨bd, rfl⟩ := hrb.some (by simp; omega)
    repeat' (first
 | (refine C_id ?_; first
 | refine C_seq ?_
 | refine C_region rfl ?_
 | refine C_block ?_
 | refine C_skip ?_
 | refine C_ret0 ?_
 | refine C_draw (id := 6) rfl mixed (by kernel_rfl) ?_
 | (refine C_cond rfl obQ (fun h => ?_) (fun h => ?_) <;> (try simp only [Bool.or_eq_true, Bool.and_eq_true, Bool.or_eq_false_iff, Bool.and_eq_false_iff, decide_eq_true_eq, decide_eq_false_iff_not, beq_iff_eq, bne_iff_ne, beq_eq_false_iff_ne, bne_eq_false_iff_eq, ne_eq, Decidable.not_not, List.cons.injEq, and_true, Bool.not_eq_true', Bool.not_eq_false', Int.not_lt, Int.not_le] at h) <;> (try (exfalso; omega)))
     )
 | (refine S_id ?_; first
 | refine S_nil ?_
 | refine S_run rfl rfl obQ obQ ?_
     )
 | (refine D_id ?_; first
 | refine D_load rfl obQ rfl [.int .i64 (gI a k)] (.past _ memQ _ _ hra.toS _ _ rfl rfl (gI_idxZ (l := a) (k := k) rfl hlt)) rfl (.inr ⟨rfl, rfl⟩) ?_
 | refine D_load rfl obQ rfl [.int .i64 (gI b k)] (.past _ memQ _ _ hrb.toS _ _ rfl rfl (gI_idxZ (l := b) (k := k) rfl hlb)) rfl (.inr ⟨rfl, rfl⟩) ?_
 | refine D_nil ?_
 | refine D_run rfl rfl obQ obQ ?_
     )
 | (refine G_id ?_; first
 | refine G_loop (k + 1) ?_ (by omega) ⟨⟨_, rfl, obQ⟩, ⟨_, rfl⟩, rfl, pstQ⟩
 | refine G_then ?_
 | refine G_block ?_
 | refine G_blockR ?_
 | refine G_thenR ?_
 | refine G_ret rfl obQ (fun w hw => ⟨?_, hw.below⟩)
     )
     )
    · refine rB (decide_eq_false fun e => ?_).symm
      subst e
      simp at h
    · refine ⟨by omega, fun j hj => ?_⟩
      rcases Nat.lt_or_ge j k with h1 | h1
      · exact hk.2 j h1
      · obtain rfl : j = k := by omega
        exact h
  · obtain rfl : k = a.length := by omega
    repeat' (first
 | (refine C_id ?_; first
 | refine C_seq ?_
 | refine C_region rfl ?_
 | refine C_exit ?_
 | refine C_ret0 ?_
 | (refine C_cond rfl obQ (fun h => ?_) (fun h => ?_) <;> (try simp only [Bool.or_eq_true, Bool.and_eq_true, Bool.or_eq_false_iff, Bool.and_eq_false_iff, decide_eq_true_eq, decide_eq_false_iff_not, beq_iff_eq, bne_iff_ne, beq_eq_false_iff_ne, bne_eq_false_iff_eq, ne_eq, Decidable.not_not, List.cons.injEq, and_true, Bool.not_eq_true', Bool.not_eq_false', Int.not_lt, Int.not_le] at h) <;> (try (exfalso; omega)))
     )
 | (refine S_id ?_; first
 | refine S_nil ?_
 | refine S_run rfl rfl obQ obQ ?_
     )
 | (refine G_id ?_; first
 | refine G_then ?_
 | refine G_blockX ?_
 | refine G_thenX ?_
 | refine G_ret rfl obQ (fun w hw => ⟨?_, hw.below⟩)
     )
     )
    exact rB (decide_eq_true (eq_gI hlen hk.2)).symm

set_option maxHeartbeats 400000 in
/-- genlockref02.SameColours -/
theorem rSameColours_c (A B : Option Addr) (c c2 : Nat) (a b : List (Col)) (ha : a.length ≤ 1000000) (hb : b.length ≤ 1000000) (w : World) (hra : Rd w A (a.flatMap coC)) (hrb : Rd w B (b.flatMap coC)) : Calls Tryz.prog 52 #[.slice A a.length c, .slice B b.length c2] w fun r w' => r = .returned (.bool (decide (a = b))) ∧ Below w.heap.size w w' := by
  refine calls_of (args := [.slice A a.length c, .slice B b.length c2]) T_ok Tryz.func52 rfl Tryz.ntmps52 (Nat.le_of_ble_eq_true rfl) rfl ?_
  repeat' (first
 | (refine C_id ?_; first
 | refine C_seq ?_
 | refine C_region rfl ?_
 | refine C_block ?_
 | refine C_skip ?_
 | refine C_ret0 ?_
 | (refine C_cond rfl obQ (fun h => ?_) (fun h => ?_) <;> (try simp only [Bool.or_eq_true, Bool.and_eq_true, Bool.or_eq_false_iff, Bool.and_eq_false_iff, decide_eq_true_eq, decide_eq_false_iff_not, beq_iff_eq, bne_iff_ne, beq_eq_false_iff_ne, bne_eq_false_iff_eq, ne_eq, Decidable.not_not, List.cons.injEq, and_true, Bool.not_eq_true', Bool.not_eq_false', Int.not_lt, Int.not_le] at h))
 )
 | (refine S_id ?_; first
 | refine S_nil ?_
 | refine S_run rfl rfl obQ obQ ?_
 )
 | (refine G_id ?_; first
 | refine G_then ?_
 | refine G_thenR ?_
 | refine G_ret rfl obQ (fun w hw => ⟨?_, hw.below⟩)
 )
 )
  · exact rB (decide_eq_false fun e => by subst e; omega).symm
  have hlen : a.length = b.length := by omega
  refine C_loopS (fun k : Nat => ⟨[(5, .s (.v (.int .i64 k))), (0, .s (.v (.slice A a.length c))), (1, .s (.v (.slice B b.length c2)))], [], []⟩) (fun k => k ≤ a.length ∧ ∀ j, j < k → gC a j = gC b j) (fun k => a.length - k) 0 ⟨Nat.zero_le _, fun j hj => absurd hj (Nat.not_lt_zero j)⟩ ?_ (fun k hk => ?_)
  · exact ⟨⟨_, rfl, obQ⟩, ⟨_, rfl⟩, rfl, pstQ⟩
  by_cases hlt : k < a.length
  · have hlb : k < b.length := by omega
    obtain ⟨ad, rfl⟩ := hra.some (by rw [co_len]; omega)
    obtain ⟨bd, rfl⟩ := hrb.some (by rw [co_len]; omega)
    repeat' (first
 | (refine C_id ?_; first
 | refine C_seq ?_
 | refine C_region rfl ?_
 | refine C_block ?_
 | refine C_skip ?_
 | refine C_ret0 ?_
 | refine C_draw (id := 6) rfl mixed (by kernel_rfl) ?_
 | (refine C_cond rfl obQ (fun h => ?_) (fun h => ?_) <;> (try simp only [Bool.or_eq_true, Bool.and_eq_true, Bool.or_eq_false_iff, Bool.and_eq_false_iff, decide_eq_true_eq, decide_eq_false_iff_not, beq_iff_eq, bne_iff_ne, beq_eq_false_iff_ne, bne_eq_false_iff_eq, ne_eq, Decidable.not_not, List.cons.injEq, and_true, Bool.not_eq_true', Bool.not_eq_false', Int.not_lt, Int.not_le] at h) <;> (try (exfalso; omega)))
     )
 | (refine S_id ?_; first
 | refine S_nil ?_
 | refine S_run rfl rfl obQ obQ ?_
     )
 | (refine D_id ?_; first
 | refine D_pure (binX_pure rfl obQ (fun w => ne_deep (k := .i64) (n := 3) (xs := [(gC a k).1, (gC a k).2.1, (gC a k).2.2]) (ys := [(gC b k).1, (gC b k).2.1, (gC b k).2.2]) (by kernel_rfl) rfl rfl _ _ w)) ?_
 | refine D_load rfl obQ rfl [.int .i64 (gC a k).1, .int .i64 (gC a k).2.1, .int .i64 (gC a k).2.2] (.past _ memQ _ _ hra.toS _ _ rfl rfl (gC_idx (l := a) hlt)) rfl (.inl ⟨rfl, rfl⟩) ?_
 | refine D_load rfl obQ rfl [.int .i64 (gC b k).1, .int .i64 (gC b k).2.1, .int .i64 (gC b k).2.2] (.past _ memQ _ _ hrb.toS _ _ rfl rfl (gC_idx (l := b) hlb)) rfl (.inl ⟨rfl, rfl⟩) ?_
 | refine D_nil ?_
 | refine D_run rfl rfl obQ obQ ?_
     )
 | (refine G_id ?_; first
 | refine G_loop (k + 1) ?_ (by omega) ⟨⟨_, rfl, obQ⟩, ⟨_, rfl⟩, rfl, pstQ⟩
 | refine G_then ?_
 | refine G_block ?_
 | refine G_blockR ?_
 | refine G_thenR ?_
 | refine G_ret rfl obQ (fun w hw => ⟨?_, hw.below⟩)
     )
     )
    · refine rB (decide_eq_false fun e => ?_).symm
      subst e
      simp at h
    · refine ⟨by omega, fun j hj => ?_⟩
      rcases Nat.lt_or_ge j k with h1 | h1
      · exact hk.2 j h1
      · obtain rfl : j = k := by omega
        exact Prod.ext h.1 (Prod.ext h.2.1 h.2.2)
  · obtain rfl : k = a.length := by omega
    repeat' (first
 | (refine C_id ?_; first
 | refine C_seq ?_
 | refine C_region rfl ?_
 | refine C_exit ?_
 | refine C_ret0 ?_
 | (refine C_cond rfl obQ (fun h => ?_) (fun h => ?_) <;> (try simp only [Bool.or_eq_true, Bool.and_eq_true, Bool.or_eq_false_iff, Bool.and_eq_false_iff, decide_eq_true_eq, decide_eq_false_iff_not, beq_iff_eq, bne_iff_ne, beq_eq_false_iff_ne, bne_eq_false_iff_eq, ne_eq, Decidable.not_not, List.cons.injEq, and_true, Bool.not_eq_true', Bool.not_eq_false', Int.not_lt, Int.not_le] at h) <;> (try (exfalso; omega)))
     )
 | (refine S_id ?_; first
 | refine S_nil ?_
 | refine S_run rfl rfl obQ obQ ?_
     )
 | (refine G_id ?_; first
 | refine G_then ?_
 | refine G_blockX ?_
 | refine G_thenX ?_
 | refine G_ret rfl obQ (fun w hw => ⟨?_, hw.below⟩)
     )
     )
    exact rB (decide_eq_true (eq_gC hlen hk.2)).symm

def shL : List Pt := [(0, 0), (100, 200), (300, 300)]
def haM : Mat := ⟨1, 1, 0, 0, 1, 0, 0, 0, 2, 2⟩
def sP : ByteArray := ⟨#[112]⟩

set_option maxHeartbeats 400000 in
/-- genlocklaw02.shown -/
theorem lshown_c  (w : World) : Calls Tryz.prog 107 #[] w fun r w' => ∃ v, r = .returned v ∧ Below w.heap.size w w' ∧ Sl w w' v 3 (shL.flatMap ptC) := by
  refine calls_of (args := []) T_ok Tryz.func107 rfl Tryz.ntmps107 (Nat.le_of_ble_eq_true rfl) rfl ?_
  repeat' (first
 | (refine C_id ?_; first
 | refine C_seq ?_
 | refine C_region rfl ?_
 | refine C_ret0 ?_
 )
 | (refine S_id ?_; first
 | refine S_nil ?_
 | refine S_run rfl rfl obQ obQ ?_
 | refine S_slice (fun b => ⟨_, _, rfl, obQ, ?_⟩)
 )
 | (refine G_id ?_; first
 | refine G_then ?_
 | refine G_ret rfl obQ (fun w2 hw => ⟨_, rfl, hw.below, HW.slBox hw (i := 0) rfl rfl rfl⟩)
 )
 )

set_option maxHeartbeats 400000 in
/-- genlocklaw02.row -/
theorem lrow_c (A : Option Addr) (n c : Nat) (hn : n ≤ 1000000) (w : World) : Calls Tryz.prog 108 #[.slice A n c] w fun r w' => r = .returned (.agg #[.string sP, .int .i64 n, .int .i64 1, .slice A n c]) ∧ Below w.heap.size w w' := by
  refine calls_of (args := [.slice A n c]) T_ok Tryz.func108 rfl Tryz.ntmps108 (Nat.le_of_ble_eq_true rfl) rfl ?_
  repeat' (first
 | (refine C_id ?_; first
 | refine C_seq ?_
 | refine C_region rfl ?_
 | refine C_block ?_
 | refine C_ret0 ?_
 )
 | (refine S_id ?_; first
 | refine S_nil ?_
 | refine S_run rfl rfl obQ obQ ?_
 | refine S_box (fun b => ⟨_, _, rfl, obQ, ?_⟩)
 )
 | (refine G_id ?_; first
 | refine G_then ?_
 | refine G_ret rfl obQ (fun w hw => ⟨?_, hw.below⟩)
 )
 )
  rfl

set_option maxHeartbeats 400000 in
/-- genlocklaw02.halves -/
theorem lhalves_c  (w : World) : Calls Tryz.prog 110 #[] w fun r w' => r = .returned (.agg #[.int .i64 1, .int .i64 1, .int .i64 0, .int .i64 0, .int .i64 1, .int .i64 0, .int .i64 0, .int .i64 0, .int .i64 2, .int .i64 2]) ∧ Below w.heap.size w w' := by
  refine calls_of (args := []) T_ok Tryz.func110 rfl Tryz.ntmps110 (Nat.le_of_ble_eq_true rfl) rfl ?_
  repeat' (first
 | (refine C_id ?_; first
 | refine C_seq ?_
 | refine C_region rfl ?_
 | refine C_block ?_
 | refine C_ret0 ?_
 )
 | (refine S_id ?_; first
 | refine S_nil ?_
 | refine S_run rfl rfl obQ obQ ?_
 | refine S_box (fun b => ⟨_, _, rfl, obQ, ?_⟩)
 )
 | (refine G_id ?_; first
 | refine G_then ?_
 | refine G_ret rfl obQ (fun w hw => ⟨?_, hw.below⟩)
 )
 )
  rfl

end Go.Proofs.YtdbffbcobghbeaaGreatDoor
