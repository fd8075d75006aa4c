/- Nets: arcs, where they lead, and their bounds. -/
import Derived.Test.YtmfophoejjcnlaaGreatDoorTiming10
import Derived.Test.YtmfophoejjcnlaaGreatDoorEng3
namespace Go.Proofs.YtmfophoejjcnlaaGreatDoor
open Go.E Go.RowKit
attribute [local irreducible] G C S D Calls
set_option maxRecDepth 100000
set_option linter.unusedSimpArgs false
set_option linter.unusedVariables false

structure Edg where
  F : Int
  T : Int
  L : Int
  H : Int
deriving DecidableEq, Inhabited
def edC (e : Edg) : List Value := [.int .i64 e.F, .int .i64 e.T, .int .i64 e.L, .int .i64 e.H]
def gE (es : List Edg) (k : Nat) : Edg := es.getD k ⟨0, 0, 0, 0⟩
theorem gE_at {es : List Edg} {k : Nat} (h : k < es.length) : gE es k = es[k] := by simp [gE, h]
/-- An edge of a net without an error, of n nodes. -/
structure EdOk (n : Nat) (e : Edg) : Prop where
  F : 0 ≤ e.F ∧ e.F < n
  T : 0 ≤ e.T ∧ e.T < n
  FT : e.F ≠ e.T
  L : 0 ≤ e.L ∧ e.L ≤ 100000
  H : 0 ≤ e.H ∧ e.H ≤ 100000
  LH : e.L ≤ e.H
structure Arc where
  E : Int
  B : Bool
  N : Int
deriving DecidableEq, Inhabited
def arC (a : Arc) : List Value := [.int .i64 a.E, .bool a.B, .int .i64 a.N]
def arV (a : Arc) : Value := .agg #[.int .i64 a.E, .bool a.B, .int .i64 a.N]
def endsF (es : List Edg) (a : Arc) : Int × Int := if a.E < 0 then (0, a.N) else if a.B then ((gE es a.E.toNat).T, (gE es a.E.toNat).F) else ((gE es a.E.toNat).F, (gE es a.E.toNat).T)
def boundF (es : List Edg) (a : Arc) : Int := if a.E < 0 then 0 else if a.B then 0 - (gE es a.E.toNat).H else (gE es a.E.toNat).L
/-- The arc's edge is one of the net. -/
def arOk (m : Nat) (a : Arc) : Prop := a.E < m
theorem idxF {α : Type} {f : α → List Value} {s : Nat} {l : List α} (hf : ∀ x, (f x).length = s) {k : Nat} (h : k < l.length) (o : Nat) {v : Value} (hv : (f l[k])[o]? = some v) :
    ∀ (j : Nat) (u : Value), ([v] : List Value)[j]? = some u → (l.flatMap f)[((k : Int).toNat * s + o) + j]? = some u := by
  intro j u hu
  cases j with
  | succ j => simp at hu
  | zero =>
    simp only [List.getElem?_cons_zero, Option.some.injEq] at hu
    subst hu
    have ho : o < s := by
      have := (List.getElem?_eq_some_iff.1 hv).1
      rwa [hf] at this
    rw [Nat.add_zero, Int.toNat_natCast, flat_at l (fun x _ => hf x) k h o ho]
    exact hv
theorem ret2a {p q : Int × Int} (h : q = p) : Ending.returned (.agg #[.int .i64 p.1, .int .i64 p.2]) = Ending.returned (.agg #[.int .i64 q.1, .int .i64 q.2]) := by subst h; rfl
theorem ret1i {a q : Int} (h : q = a) : Ending.returned (.int .i64 a) = Ending.returned (.int .i64 q) := by subst h; rfl

set_option maxHeartbeats 400000 in
/-- (genlock/timing.Net).ends -/
theorem ends_c (A A2 : Option Addr) (c c2 nn : Nat) (es : List Edg) (a : Arc) (hm : es.length ≤ 1000000) (ha : arOk es.length a) (w : World) (hr2 : Rd w A2 (es.flatMap edC)) : Calls Tryz.prog 119 #[.agg #[.slice A nn c, .slice A2 es.length c2], .agg #[.int .i64 a.E, .bool a.B, .int .i64 a.N]] w fun r w' => r = .returned (.agg #[.int .i64 (endsF es a).1, .int .i64 (endsF es a).2]) ∧ Below w.heap.size w w' := by
  refine calls_of (args := [.agg #[.slice A nn c, .slice A2 es.length c2], .agg #[.int .i64 a.E, .bool a.B, .int .i64 a.N]]) T_ok Tryz.func119 rfl Tryz.ntmps119 (Nat.le_of_ble_eq_true rfl) rfl ?_
  obtain ⟨E, B, N⟩ := a
  have ha' : E < es.length := ha
  dsimp only
  by_cases hE : E < 0
  · repeat' (first
 | (refine C_id ?_; first
 | refine C_seq ?_
 | refine C_region rfl ?_
 | refine C_block ?_
 | refine C_ret0 ?_
 | (refine C_cond rfl obQ (fun h => ?_) (fun h => ?_) <;> (try simp only [Bool.or_eq_true, Bool.and_eq_true, Bool.or_eq_false_iff, Bool.and_eq_false_iff, decide_eq_true_eq, decide_eq_false_iff_not, beq_iff_eq, bne_iff_ne, beq_eq_false_iff_ne, bne_eq_false_iff_eq, ne_eq, Decidable.not_not, List.cons.injEq, and_true, Bool.not_eq_true', Bool.not_eq_false', Int.not_lt, Int.not_le] at h) <;> (try (exfalso; omega)))
     )
 | (refine S_id ?_; first
 | refine S_nil ?_
 | refine S_run rfl rfl obQ obQ ?_
 | refine S_box (fun b => ⟨_, _, rfl, obQ, ?_⟩)
     )
 | (refine G_id ?_; first
 | refine G_then ?_
 | refine G_blockR ?_
 | refine G_thenR ?_
 | refine G_ret rfl obQ (fun w hw => ⟨?_, hw.below⟩)
     )
     )
    all_goals exact ret2a (p := (0, N)) (by simp [endsF, hE])
  · obtain ⟨k, rfl⟩ := Int.eq_ofNat_of_zero_le (show 0 ≤ E by omega)
    have hk : k < es.length := by omega
    obtain ⟨ad, rfl⟩ := hr2.some (by rw [flat_len (f := edC) (s := 4) es (fun _ _ => rfl)]; omega)
    have hg := gE_at hk
    cases B
    · repeat' (first
 | (refine C_id ?_; first
 | refine C_seq ?_
 | refine C_region rfl ?_
 | refine C_block ?_
 | refine C_skip ?_
 | refine C_ret0 ?_
 | refine C_drawT (id := 4) 15 rfl mixed (by kernel_rfl) rfl rfl ?_
 | refine C_drawT (id := 5) 15 rfl mixed (by kernel_rfl) rfl rfl ?_
 | refine C_condT rfl obQ ?_
 | refine C_condF rfl obQ ?_
       )
 | (refine S_id ?_; first
 | refine S_nil ?_
 | refine S_run rfl rfl obQ obQ ?_
 | refine S_box (fun b => ⟨_, _, rfl, obQ, ?_⟩)
       )
 | (refine D_id ?_; first
 | refine D_load rfl obQ rfl [.int .i64 es[k].F] (.past _ memQ _ _ hr2.toS ((k : Nat) * 4 + 0) _ rfl (add_of_add _ _ _) (idxF (f := edC) (fun _ => rfl) hk 0 rfl)) rfl (.inr ⟨rfl, rfl⟩) ?_
 | refine D_load rfl obQ rfl [.int .i64 es[k].T] (.past _ memQ _ _ hr2.toS ((k : Nat) * 4 + 1) _ rfl (add_of_add _ _ _) (idxF (f := edC) (fun _ => rfl) hk 1 rfl)) rfl (.inr ⟨rfl, rfl⟩) ?_
 | refine D_tail ?_
 | refine D_run rfl rfl obQ obQ ?_
       )
 | (refine G_id ?_; first
 | refine G_then ?_
 | refine G_block ?_
 | refine G_blockR ?_
 | refine G_thenR ?_
 | refine G_ret rfl obQ (fun w hw => ⟨?_, hw.below⟩)
       )
       )
      all_goals exact ret2a (p := (es[k].F, es[k].T)) (by simp [endsF, hg]; intro h; exact absurd h hE)
    · repeat' (first
 | (refine C_id ?_; first
 | refine C_seq ?_
 | refine C_region rfl ?_
 | refine C_block ?_
 | refine C_skip ?_
 | refine C_ret0 ?_
 | refine C_drawT (id := 4) 15 rfl mixed (by kernel_rfl) rfl rfl ?_
 | refine C_drawT (id := 5) 15 rfl mixed (by kernel_rfl) rfl rfl ?_
 | refine C_condT rfl obQ ?_
 | refine C_condF rfl obQ ?_
       )
 | (refine S_id ?_; first
 | refine S_nil ?_
 | refine S_run rfl rfl obQ obQ ?_
 | refine S_box (fun b => ⟨_, _, rfl, obQ, ?_⟩)
       )
 | (refine D_id ?_; first
 | refine D_load rfl obQ rfl [.int .i64 es[k].F] (.past _ memQ _ _ hr2.toS ((k : Nat) * 4 + 0) _ rfl (add_of_add _ _ _) (idxF (f := edC) (fun _ => rfl) hk 0 rfl)) rfl (.inr ⟨rfl, rfl⟩) ?_
 | refine D_load rfl obQ rfl [.int .i64 es[k].T] (.past _ memQ _ _ hr2.toS ((k : Nat) * 4 + 1) _ rfl (add_of_add _ _ _) (idxF (f := edC) (fun _ => rfl) hk 1 rfl)) rfl (.inr ⟨rfl, rfl⟩) ?_
 | refine D_tail ?_
 | refine D_run rfl rfl obQ obQ ?_
       )
 | (refine G_id ?_; first
 | refine G_then ?_
 | refine G_block ?_
 | refine G_blockR ?_
 | refine G_thenR ?_
 | refine G_ret rfl obQ (fun w hw => ⟨?_, hw.below⟩)
       )
       )
      all_goals exact ret2a (p := (es[k].T, es[k].F)) (by simp [endsF, hg]; intro h; exact absurd h hE)

set_option maxHeartbeats 400000 in
/-- (genlock/timing.Net).bound -/
theorem bound_c (A A2 : Option Addr) (c c2 nn : Nat) (es : List Edg) (a : Arc) (hm : es.length ≤ 1000000) (ha : arOk es.length a) (hE : ∀ e ∈ es, -9223372036854775807 ≤ e.H ∧ e.H ≤ 9223372036854775807) (w : World) (hr2 : Rd w A2 (es.flatMap edC)) : Calls Tryz.prog 123 #[.agg #[.slice A nn c, .slice A2 es.length c2], .agg #[.int .i64 a.E, .bool a.B, .int .i64 a.N]] w fun r w' => r = .returned (.int .i64 (boundF es a)) ∧ Below w.heap.size w w' := by
  refine calls_of (args := [.agg #[.slice A nn c, .slice A2 es.length c2], .agg #[.int .i64 a.E, .bool a.B, .int .i64 a.N]]) T_ok Tryz.func123 rfl Tryz.ntmps123 (Nat.le_of_ble_eq_true rfl) rfl ?_
  have hEE := hE
  clear hE
  obtain ⟨E, B, N⟩ := a
  have ha' : E < es.length := ha
  dsimp only
  by_cases hE : E < 0
  · repeat' (first
 | (refine C_id ?_; first
 | refine C_seq ?_
 | refine C_region rfl ?_
 | refine C_block ?_
 | refine C_skip ?_
 | refine C_exit ?_
 | refine C_ret0 ?_
 | (refine C_cond rfl obQ (fun h => ?_) (fun h => ?_) <;> (try simp only [Bool.or_eq_true, Bool.and_eq_true, Bool.or_eq_false_iff, Bool.and_eq_false_iff, decide_eq_true_eq, decide_eq_false_iff_not, beq_iff_eq, bne_iff_ne, beq_eq_false_iff_ne, bne_eq_false_iff_eq, ne_eq, Decidable.not_not, List.cons.injEq, and_true, Bool.not_eq_true', Bool.not_eq_false', Int.not_lt, Int.not_le] at h) <;> (try (exfalso; omega)))
     )
 | (refine S_id ?_; first
 | refine S_nil ?_
 | refine S_run rfl rfl obQ obQ ?_
 | refine S_box (fun b => ⟨_, _, rfl, obQ, ?_⟩)
     )
 | (refine G_id ?_; first
 | refine G_then ?_
 | refine G_blockX ?_
 | refine G_blockR ?_
 | refine G_thenR ?_
 | refine G_thenX ?_
 | refine G_ret rfl obQ (fun w hw => ⟨?_, hw.below⟩)
     )
     )
    all_goals exact ret1i (a := 0) (by simp [boundF, hE])
  · obtain ⟨k, rfl⟩ := Int.eq_ofNat_of_zero_le (show 0 ≤ E by omega)
    have hk : k < es.length := by omega
    obtain ⟨ad, rfl⟩ := hr2.some (by rw [flat_len (f := edC) (s := 4) es (fun _ _ => rfl)]; omega)
    have hg := gE_at hk
    have hH := hEE es[k] (List.getElem_mem hk)
    cases B
    · repeat' (first
 | (refine C_id ?_; first
 | refine C_seq ?_
 | refine C_region rfl ?_
 | refine C_block ?_
 | refine C_skip ?_
 | refine C_ret0 ?_
 | refine C_condT rfl obQ ?_
 | refine C_condF rfl obQ ?_
       )
 | (refine S_id ?_; first
 | refine S_load rfl obQ rfl [.int .i64 es[k].L] (.past _ memQ _ _ hr2.toS ((k : Nat) * 4 + 2) _ rfl (add_of_add _ _ _) (idxF (f := edC) (fun _ => rfl) hk 2 rfl)) rfl (.inr ⟨rfl, rfl⟩) ?_
 | refine S_load rfl obQ rfl [.int .i64 es[k].H] (.past _ memQ _ _ hr2.toS ((k : Nat) * 4 + 3) _ rfl (add_of_add _ _ _) (idxF (f := edC) (fun _ => rfl) hk 3 rfl)) rfl (.inr ⟨rfl, rfl⟩) ?_
 | refine S_nil ?_
 | refine S_run rfl rfl obQ obQ ?_
 | refine S_box (fun b => ⟨_, _, rfl, obQ, ?_⟩)
       )
 | (refine G_id ?_; first
 | refine G_then ?_
 | refine G_block ?_
 | refine G_blockR ?_
 | refine G_thenR ?_
 | refine G_ret rfl obQ (fun w hw => ⟨?_, hw.below⟩)
       )
       )
      all_goals exact ret1i (a := es[k].L) (by simp [boundF, hg]; intro h; exact absurd h hE)
    · repeat' (first
 | (refine C_id ?_; first
 | refine C_seq ?_
 | refine C_region rfl ?_
 | refine C_block ?_
 | refine C_skip ?_
 | refine C_ret0 ?_
 | refine C_condT rfl obQ ?_
 | refine C_condF rfl obQ ?_
       )
 | (refine S_id ?_; first
 | refine S_load rfl obQ rfl [.int .i64 es[k].L] (.past _ memQ _ _ hr2.toS ((k : Nat) * 4 + 2) _ rfl (add_of_add _ _ _) (idxF (f := edC) (fun _ => rfl) hk 2 rfl)) rfl (.inr ⟨rfl, rfl⟩) ?_
 | refine S_load rfl obQ rfl [.int .i64 es[k].H] (.past _ memQ _ _ hr2.toS ((k : Nat) * 4 + 3) _ rfl (add_of_add _ _ _) (idxF (f := edC) (fun _ => rfl) hk 3 rfl)) rfl (.inr ⟨rfl, rfl⟩) ?_
 | refine S_nil ?_
 | refine S_run rfl rfl obQ obQ ?_
 | refine S_box (fun b => ⟨_, _, rfl, obQ, ?_⟩)
       )
 | (refine G_id ?_; first
 | refine G_then ?_
 | refine G_block ?_
 | refine G_blockR ?_
 | refine G_thenR ?_
 | refine G_ret rfl obQ (fun w hw => ⟨?_, hw.below⟩)
       )
       )
      all_goals exact ret1i (a := 0 - es[k].H) (by simp [boundF, hg]; intro h; exact absurd h hE)

end Go.Proofs.YtmfophoejjcnlaaGreatDoor
