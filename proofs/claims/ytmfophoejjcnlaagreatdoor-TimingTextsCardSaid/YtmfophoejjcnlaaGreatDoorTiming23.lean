/- The first error of a net. -/
import Derived.Test.YtmfophoejjcnlaaGreatDoorTiming22
namespace Go.Proofs.YtmfophoejjcnlaaGreatDoor
open Go.E Go.RowKit
attribute [local irreducible] G C S D Calls
set_option maxRecDepth 100000
set_option linter.unusedSimpArgs false
set_option linter.unusedVariables false

def inN (l : List ByteArray) (s : ByteArray) : Bool := l.any fun x => decide (x = s)
def nameL (names : List ByteArray) (j : Nat) : List Int := [wh (!isName (names.getD j ByteArray.empty)) 8, wh (inN (names.take j) (names.getD j ByteArray.empty)) 9]
def nameF (names : List ByteArray) (j : Nat) : Int := firstL (nameL names j)
def netN (names : List ByteArray) : List Int := [wh ((names.length : Int) == 0) 12, wh (decide (12 < (names.length : Int))) 5]
/-- The first error of a net. -/
def netF (names : List ByteArray) (es : List Edg) : Int :=
  firstL [firstL (netN names), firstL ((List.range names.length).map (nameF names)), wh (decide (24 < es.length)) 5, firstL (es.map (edgeF names.length))]
theorem firstL_range {f : Nat → Int} : ∀ {n j : Nat}, j < n → (∀ i, i < j → f i = 0) → f j ≠ 0 → firstL ((List.range n).map f) = f j := by
  intro n j hj h0 hn
  have : List.range n = List.range j ++ (List.range (n - j)).map (j + ·) := by
    rw [← List.range_add]; congr 1; omega
  rw [this, List.map_append]
  have h1 : ∀ l : List Nat, (∀ i ∈ l, f i = 0) → ∀ r, firstL (l.map f ++ r) = firstL r := by
    intro l
    induction l with
    | nil => intro _ r; rfl
    | cons x l ih =>
      intro h r
      simp only [List.map_cons, List.cons_append, firstL, h x (by simp), if_true]
      exact ih (fun i hi => h i (by simp [hi])) r
  rw [h1 _ (fun i hi => h0 i (List.mem_range.1 hi))]
  obtain ⟨m, hm⟩ : ∃ m, n - j = m + 1 := ⟨n - j - 1, by omega⟩
  rw [hm, List.range_succ_eq_map]
  simp [firstL, hn]
theorem firstL_range0 {f : Nat → Int} {n : Nat} (h : ∀ i, i < n → f i = 0) : firstL ((List.range n).map f) = 0 := by
  rw [firstL_zero]
  intro x hx
  obtain ⟨i, hi, rfl⟩ := List.mem_map.1 hx
  exact h i (List.mem_range.1 hi)
theorem take_mem {names : List ByteArray} {j : Nat} (h : j < names.length) : (fun x => if x = names[j] then true else inN (names.take j) x) = inN (names.take (j + 1)) := by
  funext x
  unfold inN
  rw [List.take_succ_eq_append_getElem h, List.any_append]
  by_cases e : x = names[j]
  · simp [e]
  · simp [e, Ne.symm e]

set_option maxHeartbeats 400000 in
/-- timing.CheckNet$1 -/
theorem cn1_c (A A2 : Option Addr) (c c2 nn m : Nat) (e : Edg) (a1 a2 : Addr) (w : World) (hr1 : Rd w (some a1) [.func (.func 113) #[] #[]]) (hr2 : Rd w (some a2) [.slice A nn c, .slice A2 m c2]) : Calls Tryz.prog 115 #[.agg #[.int .i64 e.F, .int .i64 e.T, .int .i64 e.L, .int .i64 e.H], .pointer (some a1), .pointer (some a2)] w fun r w' => r = .returned (.int .i64 (edgeF nn e)) ∧ Below w.heap.size w w' := by
  refine calls_of (args := [.agg #[.int .i64 e.F, .int .i64 e.T, .int .i64 e.L, .int .i64 e.H], .pointer (some a1), .pointer (some a2)]) T_ok Tryz.func115 rfl Tryz.ntmps115 (Nat.le_of_ble_eq_true rfl) rfl ?_
  repeat' (first
 | (refine C_id ?_; first
 | refine C_seq ?_
 | refine C_region rfl ?_
 | refine C_ret0 ?_
 )
 | (refine S_id ?_; first
 | refine S_load rfl obQ rfl [.func (.func 113) #[] #[]] (.past _ memQ _ _ hr1.toS 0 a1 rfl rfl (by intro j u hu; rwa [Nat.zero_add])) rfl (.inr ⟨rfl, rfl⟩) ?_
 | refine S_load rfl obQ rfl [.slice A nn c] (.past _ memQ _ _ hr2.toS 0 a2 rfl rfl (by intro j u hu; cases j with | zero => simpa using hu | succ j => simp at hu)) rfl (.inr ⟨rfl, rfl⟩) ?_
 | refine S_nil ?_
 | refine S_run rfl rfl obQ obQ ?_
 | refine S_box (fun b => ⟨_, _, rfl, obQ, ?_⟩)
 | refine S_call (f := 113) rfl obQ (by kernel_rfl) (fun w hw => echeck_c nn e w) ?_
 )
 | (refine G_id ?_; first
 | refine G_then ?_
 | refine G_ret rfl obQ (fun w hw => ⟨?_, hw.below⟩)
 )
 )
  rfl

set_option maxHeartbeats 400000 in
/-- mapped[genlock/timing.Edge,genlock/api.Errno] -/
theorem mappedEE_c (q : FuncId) (c0 : Value) (c1 : Value) {g : Edg → Int} (A : Option Addr) (c : Nat) (l : List (Edg)) (hl : l.length ≤ 1000000) (he : entB Tryz.prog q = true) (w : World) (hr : Rd w A (l.flatMap fun x => [Value.int .i64 x.F, Value.int .i64 x.T, Value.int .i64 x.L, Value.int .i64 x.H])) (hg : ∀ x ∈ l, ∀ W, Below w.heap.size w W → Calls Tryz.prog q #[Value.agg #[Value.int .i64 x.F, Value.int .i64 x.T, Value.int .i64 x.L, Value.int .i64 x.H], c0, c1] W fun e w' => e = .returned (Value.int .i64 (g x)) ∧ Below W.heap.size W w') : Calls Tryz.prog 114 #[.slice A l.length c, .func (.func q) #[] #[c0, c1]] w fun r w' => ∃ v, r = .returned v ∧ Below w.heap.size w w' ∧ Sl w w' v l.length (l.map fun x => Value.int .i64 (g x)) := by
  refine calls_of (args := [.slice A l.length c, .func (.func q) #[] #[c0, c1]]) T_ok Tryz.func114 rfl Tryz.ntmps114 (Nat.le_of_ble_eq_true rfl) rfl ?_
  repeat' (first
 | (refine C_id ?_; first
 | refine C_seq ?_
 | refine C_region rfl ?_
 | refine C_block ?_
 )
 | (refine S_id ?_; first
 | refine S_nil ?_
 | refine S_run rfl rfl obQ obQ ?_
 | refine S_box (fun b => ⟨_, _, rfl, obQ, ?_⟩)
 )
 | (refine G_id ?_; first
 | refine G_then ?_
 )
 )
  refine C_row0 5 28 1 rfl ?_
  refine C_loopS (fun i : Nat × Option Addr × Nat => ⟨[(5, .s (.r i.2.1 i.1 i.2.2 0)), (8, .s (.v (.slice A l.length c))), (9, .s (.v (.int .i64 l.length))), (10, .s (.v (.int .i64 i.1))), (1, .s (.v (.func (.func q) #[] #[c0, c1])))], [], [⟨28, 1, i.1, (l.take i.1).map fun x => Value.int .i64 (g x), .slice i.2.1 i.1 i.2.2⟩]⟩) (fun i => i.1 ≤ l.length) (fun i => l.length - i.1) (0, none, 0) (Nat.zero_le _) ?_ (fun i hi => ?_)
  · exact ⟨⟨_, rfl, obQ⟩, ⟨_, rfl⟩, rfl, pstQ⟩
  obtain ⟨k, A', c'⟩ := i
  have hi' : k ≤ l.length := hi
  dsimp only
  by_cases hlt : k < l.length
  · obtain ⟨ad, rfl⟩ := hr.some (by simp [flat_len (s := 4)]; omega)
    have hmt := map_take_succ (f := fun x => Value.int .i64 (g x)) hlt
    repeat' (first
 | (refine C_id ?_; first
 | refine C_seq ?_
 | refine C_region rfl ?_
 | refine C_block ?_
 | refine C_skip ?_
 | (refine C_cond rfl obQ (fun h => ?_) (fun h => ?_) <;> (try simp only [Bool.or_eq_true, Bool.and_eq_true, Bool.or_eq_false_iff, Bool.and_eq_false_iff, decide_eq_true_eq, decide_eq_false_iff_not, beq_iff_eq, bne_iff_ne, beq_eq_false_iff_ne, bne_eq_false_iff_eq, ne_eq, Decidable.not_not, List.cons.injEq, and_true, Bool.not_eq_true', Bool.not_eq_false', Int.not_lt, Int.not_le] at h) <;> (try (exfalso; omega)))
     )
 | (refine S_id ?_; first
 | refine S_load rfl obQ rfl [Value.int .i64 l[k].F, Value.int .i64 l[k].T, Value.int .i64 l[k].L, Value.int .i64 l[k].H] (.past _ memQ _ _ hr.toS _ _ rfl rfl (idxS (f := fun x => [Value.int .i64 x.F, Value.int .i64 x.T, Value.int .i64 x.L, Value.int .i64 x.H]) (fun _ => rfl) hlt)) rfl (.inl ⟨rfl, rfl⟩) ?_
 | refine S_call rfl obQ he (fun W hW => hg l[k] (List.getElem_mem hlt) W hW.below) ?_
 | refine S_append rfl obQ rfl rfl rfl ⟨by decide, rfl⟩ rfl ⟨rfl, rfl, rfl, rfl⟩ [Value.int .i64 (g l[k])] ⟨by decide, rfl⟩ (by simp [Value.oneCell']) (fun w hw => by first | exact hw.src (i := 0) rfl rfl | exact hw.src (i := 1) rfl rfl | exact hw.src (i := 2) rfl rfl | exact hw.src (i := 3) rfl rfl | exact hw.src (i := 4) rfl rfl | exact hw.src (i := 5) rfl rfl | exact hw.src (i := 6) rfl rfl | exact hw.src (i := 7) rfl rfl | exact hw.src (i := 8) rfl rfl) (by unfold maxLen; dsimp only; omega) (fun gb cap' => ⟨_, rfl, ?_⟩)
 | refine S_nil ?_
 | refine S_run rfl rfl obQ obQ ?_
 | refine S_box (fun b => ⟨_, _, rfl, obQ, ?_⟩)
 | refine S_slice (fun b => ⟨_, _, rfl, obQ, ?_⟩)
     )
 | (refine G_id ?_; first
 | refine G_loop (k + 1, some ⟨gb, 0, none⟩, cap') (by show k + 1 ≤ _; omega) (by show l.length - (k + 1) < l.length - k; omega) ⟨⟨_, rfl, obQ⟩, ⟨_, rfl⟩, (by dsimp only; rw [hmt]), pstQ⟩
 | refine G_then ?_
 | refine G_block ?_
     )
     )
  · obtain rfl : k = l.length := by omega
    repeat' (first
 | (refine C_id ?_; first
 | refine C_seq ?_
 | refine C_region rfl ?_
 | refine C_exit ?_
 | refine C_ret0 ?_
 | (refine C_cond rfl obQ (fun h => ?_) (fun h => ?_) <;> (try simp only [Bool.or_eq_true, Bool.and_eq_true, Bool.or_eq_false_iff, Bool.and_eq_false_iff, decide_eq_true_eq, decide_eq_false_iff_not, beq_iff_eq, bne_iff_ne, beq_eq_false_iff_ne, bne_eq_false_iff_eq, ne_eq, Decidable.not_not, List.cons.injEq, and_true, Bool.not_eq_true', Bool.not_eq_false', Int.not_lt, Int.not_le] at h) <;> (try (exfalso; omega)))
     )
 | (refine S_id ?_; first
 | refine S_nil ?_
 | refine S_run rfl rfl obQ obQ ?_
     )
 | (refine G_id ?_; first
 | refine G_then ?_
 | refine G_blockX ?_
 | refine G_thenX ?_
 | refine G_ret rfl obQ (fun w2 hw => ⟨_, rfl, hw.below, HW.rowSl (i := 0) hw rfl rfl rfl (by rw [List.take_length])⟩)
     )
     )

theorem firstM_c {α : Type} (A : Option Addr) (c : Nat) (g : α → Int) (l : List α) (hl : l.length ≤ 1000000) (w : World) (hr : Rd w A (l.map fun x => .int .i64 (g x))) : Calls Tryz.prog 87 #[.slice A l.length c] w fun r w' => r = .returned (.int .i64 (firstL (l.map g))) ∧ Below w.heap.size w w' := by
  have h := first_c A c (l.map g) (by simpa using hl) w (by rw [List.map_map]; exact hr)
  rw [List.length_map] at h
  exact h

set_option maxHeartbeats 1000000 in
/-- timing.CheckNet -/
theorem checkNet_c (A A2 : Option Addr) (c c2 : Nat) (names : List ByteArray) (es : List Edg) (hn : names.length ≤ 1000000) (hm : es.length ≤ 1000000) (hs : ∀ s ∈ names, s.size ≤ maxLen) (w : World) (hr : Rd w A (names.map .string)) (hr2 : Rd w A2 (es.flatMap edC)) : Calls Tryz.prog 61 #[.agg #[.slice A names.length c, .slice A2 es.length c2]] w fun r w' => r = .returned (.int .i64 (netF names es)) ∧ Below w.heap.size w w' := by
  refine calls_of (args := [.agg #[.slice A names.length c, .slice A2 es.length c2]]) T_ok Tryz.func61 rfl Tryz.ntmps61 (Nat.le_of_ble_eq_true rfl) rfl ?_
  repeat' (first
 | (refine C_id ?_; first
 | refine C_seq ?_
 | refine C_region rfl ?_
 | refine C_block ?_
 | refine C_skip ?_
 | refine C_ret0 ?_
 | refine C_drawT (id := 1) 10 rfl mixed (by kernel_rfl) rfl rfl ?_
 | (refine C_cond rfl obQ (fun h => ?_) (fun h => ?_) <;> (try simp only [Bool.or_eq_true, Bool.and_eq_true, Bool.or_eq_false_iff, Bool.and_eq_false_iff, decide_eq_true_eq, decide_eq_false_iff_not, beq_iff_eq, bne_iff_ne, beq_eq_false_iff_ne, bne_eq_false_iff_eq, ne_eq, Decidable.not_not, List.cons.injEq, and_true, Bool.not_eq_true', Bool.not_eq_false', Int.not_lt, Int.not_le] at h))
   )
 | (refine S_id ?_; first
 | refine S_new rfl obQ (fun h => by obtain ⟨_, h⟩ := h; cases h) (fun k W hown hat => ?_)
 | refine S_nil ?_
 | refine S_run rfl rfl obQ obQ ?_
 | refine S_box (fun b0 => ⟨_, _, rfl, obQ, ?_⟩)
 | refine S_slice (fun b => ⟨_, _, rfl, obQ, ?_⟩)
 | refine S_call (f := 87) rfl obQ (by kernel_rfl) (fun w hw => first_c _ _ (netN names) (by simp [netN]) w (.inr ⟨_, rfl, hw.src (i := 1) rfl rfl⟩)) ?_
   )
 | (refine D_id ?_; first
 | refine D_tail ?_
 | refine D_run rfl rfl obQ obQ ?_
 | refine D_call (f := 99) rfl obQ (by kernel_rfl) (fun w hw => when_c _ _ w) ?_
   )
 | (refine G_id ?_; first
 | refine G_then ?_
 | refine G_thenR ?_
 | refine G_ret rfl obQ (fun w hw => ⟨?_, hw.below⟩)
   )
   )
  · unfold netF
    simp only [firstL, h, if_false]
  have h0 : firstL (netN names) = 0 := h
  refine C_loopO (k := k) (fun j : Nat => ⟨[(28, .s (.v (.int .i64 j))), (27, .s (.v (.int .i64 names.length))), (26, .s (.v (.slice A names.length c))), (4, .s (.v (.map (some k)))), (1, .s (.p b0 0 0))], [⟨b0, 89, [.v (.slice A names.length c), .v (.slice A2 es.length c2)]⟩], []⟩) (fun j => j ≤ names.length ∧ ∀ i, i < j → nameF names i = 0) (fun j => SetAt Tryz.prog 9 4 k j (inN (names.take j))) (fun j => names.length - j) 0 ⟨Nat.zero_le _, fun i hi => absurd hi (Nat.not_lt_zero _)⟩ (fun j => set_on _ _ _ _ _ _) (set_new _ _ hat) ?_ (fun j W hj hat => ?_)
  · exact ⟨⟨_, rfl, obQ⟩, ⟨_, rfl⟩, rfl, pstQ⟩
  dsimp only
  by_cases hlt : j < names.length
  · have hsz := hs names[j] (List.getElem_mem hlt)
    have hnm : names.getD j ByteArray.empty = names[j] := by simp [hlt]
    obtain ⟨ad, rfl⟩ := hr.some (by simp; omega)
    repeat' (first
 | (refine C_id ?_; first
 | refine C_seq ?_
 | refine C_region rfl ?_
 | refine C_block ?_
 | refine C_skip ?_
 | refine C_ret0 ?_
 | refine C_drawT (id := 8) 8 rfl mixed (by kernel_rfl) rfl rfl ?_
 | (refine C_cond rfl obQ (fun h => ?_) (fun h => ?_) <;> (try simp only [Bool.or_eq_true, Bool.and_eq_true, Bool.or_eq_false_iff, Bool.and_eq_false_iff, decide_eq_true_eq, decide_eq_false_iff_not, beq_iff_eq, bne_iff_ne, beq_eq_false_iff_ne, bne_eq_false_iff_eq, ne_eq, Decidable.not_not, List.cons.injEq, and_true, Bool.not_eq_true', Bool.not_eq_false', Int.not_lt, Int.not_le] at h) <;> (try (exfalso; omega)))
     )
 | (refine S_id ?_; first
 | refine S_load rfl obQ rfl [.string names[j]] (.past (w, fun b => b < w.heap.size) memQ _ _ hr.toS _ _ rfl rfl (idx1 hlt)) rfl (.inr ⟨rfl, rfl⟩) ?_
 | refine S_put rfl obQ rfl rfl rfl hat hsz (by unfold maxLen; omega) hown (fun W hat => ?_)
 | refine S_nil ?_
 | refine S_run rfl rfl obQ obQ ?_
 | refine S_slice (fun b => ⟨_, _, rfl, obQ, ?_⟩)
 | refine S_call (f := 87) rfl obQ (by kernel_rfl) (fun w hw => first_c _ _ (nameL names j) (by simp [nameL]) w (.inr ⟨_, rfl, by simp only [nameL, hnm]; exact hw.src (i := 1) rfl rfl⟩)) ?_
     )
 | (refine D_id ?_; first
 | refine D_pure (look_pure rfl obQ rfl rfl rfl (fun _ => rfl) hat hsz) ?_
 | refine D_tail ?_
 | refine D_run rfl rfl obQ obQ ?_
 | refine D_call (f := 99) rfl obQ (by kernel_rfl) (fun w hw => when_c _ _ w) ?_
 | refine D_call (f := 112) rfl obQ (by kernel_rfl) (fun w hw => isName_c _ w) ?_
     )
 | (refine G_id ?_; first
 | refine G_loopO (fun j => set_on _ _ _ _ _ _) (j + 1) ?_ ?_ (by omega) ⟨⟨_, rfl, obQ⟩, ⟨_, rfl⟩, rfl, pstQ⟩
 | refine G_then ?_
 | refine G_block ?_
 | refine G_blockR ?_
 | refine G_thenR ?_
 | refine G_ret rfl obQ (fun w hw => ⟨?_, hw.below⟩)
     )
     )
    · have hne : nameF names j ≠ 0 := h
      have := firstL_range hlt hj.2 hne
      unfold netF
      simp only [firstL, h0, this, hne, if_true, if_false]
      rfl
    · exact ⟨by omega, fun i hi => by
        by_cases hij : i < j
        · exact hj.2 i hij
        · obtain rfl : i = j := by omega
          exact h⟩
    · rw [take_mem hlt] at hat
      exact hat
  · obtain rfl : j = names.length := by omega
    have h1 := firstL_range0 hj.2
    repeat' (first
 | (refine C_id ?_; first
 | refine C_seq ?_
 | refine C_region rfl ?_
 | refine C_skip ?_
 | refine C_exit ?_
 | refine C_ret0 ?_
 | (refine C_cond rfl obQ (fun h => ?_) (fun h => ?_) <;> (try simp only [Bool.or_eq_true, Bool.and_eq_true, Bool.or_eq_false_iff, Bool.and_eq_false_iff, decide_eq_true_eq, decide_eq_false_iff_not, beq_iff_eq, bne_iff_ne, beq_eq_false_iff_ne, bne_eq_false_iff_eq, ne_eq, Decidable.not_not, List.cons.injEq, and_true, Bool.not_eq_true', Bool.not_eq_false', Int.not_lt, Int.not_le] at h) <;> (try (exfalso; omega)))
     )
 | (refine S_id ?_; first
 | refine S_nil ?_
 | refine S_run rfl rfl obQ obQ ?_
 | refine S_box (fun b2 => ⟨_, _, rfl, obQ, ?_⟩)
 | refine S_call (f := 87) rfl obQ (by kernel_rfl) (fun w hw => firstM_c _ _ (edgeF names.length) es hm w (hw.rdm hSM memQ)) ?_
 | (refine S_callM (f := 114) rfl obQ (by kernel_rfl) (fun w hw => mappedEE_c 115 (.pointer (some ⟨b2, 0, none⟩)) (.pointer (some ⟨b0, 0, none⟩)) (g := edgeF names.length) A2 c2 es hm (by kernel_rfl) w (hw.rdm (Rd.toS hr2) memQ) (fun x hx W hW => cn1_c A A2 c c2 names.length es.length x _ _ W ((hw.rdBox (i := 1) rfl rfl).below hW) ((hw.rdBox (i := 0) rfl rfl).below hW))) (fun w1M w2M vM hw1M hbM hRM => ?_); obtain ⟨AM, cM, rfl, hSM⟩ := hRM)
     )
 | (refine G_id ?_; first
 | refine G_then ?_
 | refine G_blockX ?_
 | refine G_thenR ?_
 | refine G_thenX ?_
 | refine G_ret rfl obQ (fun w hw => ⟨?_, hw.below⟩)
     )
     )
    · have h24 : 24 < es.length := by omega
      unfold netF
      simp [firstL, h0, h1, wh, h24]
    · have h24 : ¬ 24 < es.length := by omega
      unfold netF
      simp [firstL, h0, h1, wh, h24]

end Go.Proofs.YtmfophoejjcnlaaGreatDoor
