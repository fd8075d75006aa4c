/- Times of a net, and its settings. -/
import Derived.Test.YtmfophoejjcnlaaGreatDoorTiming25
namespace Go.Proofs.YtmfophoejjcnlaaGreatDoor
open Go.E Go.RowKit
attribute [local irreducible] G C S D Calls
set_option maxRecDepth 100000
set_option linter.unusedSimpArgs false
set_option linter.unusedVariables false

def gT (ts : List Int) (k : Nat) : Int := ts.getD k 0
theorem gT_at {ts : List Int} {k : Nat} (h : k < ts.length) : gT ts k = ts[k] := by simp [gT, h]
/-- The setting of an edge. -/
def setF (ts : List Int) (e : Edg) : Int := gT ts e.T.toNat - gT ts e.F.toNat
def offF (ts : List Int) (e : Edg) : Bool := wi (setF ts e) e.L e.H != 0
def timesE1 (names : List ByteArray) (es : List Edg) (ts : List Int) : Int := firstL [netF names es, wh ((ts.length : Int) != names.length) 2]
def timesE2 (ts : List Int) : Int := firstL (ts.map fun t => wi t 0 10000000)
def timesE3 (es : List Edg) (ts : List Int) : Int := wh (es.any (offF ts) || (gT ts 0 != 0)) 24
def timesE (names : List ByteArray) (es : List Edg) (ts : List Int) : Int := firstL [timesE1 names es ts, timesE2 ts, timesE3 es ts]
def settingsR (names : List ByteArray) (es : List Edg) (ts : List Int) : List Int × Int := if timesE names es ts ≠ 0 then ([], timesE names es ts) else (es.map (setF ts), 0)
theorem timesE1_ok {names : List ByteArray} {es : List Edg} {ts : List Int} (h : timesE1 names es ts = 0) : netF names es = 0 ∧ ts.length = names.length := by
  unfold timesE1 at h
  rw [firstL_zero] at h
  simp only [List.mem_cons, List.mem_nil_iff, or_false, forall_eq_or_imp, forall_eq, wh_zero (show (2 : Int) ≠ 0 by omega), bne_eq_false_iff_eq] at h
  omega
theorem timesE2_ok {ts : List Int} (h : timesE2 ts = 0) : ∀ t ∈ ts, 0 ≤ t ∧ t ≤ 10000000 := by
  unfold timesE2 at h
  rw [firstL_zero] at h
  intro t ht
  have := h _ (List.mem_map.2 ⟨t, ht, rfl⟩)
  rwa [wi_eq] at this
def idxI (p : Edg → Bool) : List Edg → Int → Int
  | [], _ => -1
  | x :: r, k => if p x then k else idxI p r (k + 1)
theorem idxI_any (p : Edg → Bool) : ∀ (l : List Edg) (k : Int), 0 ≤ k → decide (0 ≤ idxI p l k) = l.any p
  | [], k, _ => by simp [idxI]
  | x :: r, k, h => by
    unfold idxI
    cases hx : p x
    · simp [hx, idxI_any p r (k + 1) (by omega)]
    · simp [hx, h]
theorem idxI_drop {p : Edg → Bool} {es : List Edg} {k : Nat} (h : k < es.length) : idxI p (es.drop k) k = if p es[k] then (k : Int) else idxI p (es.drop (k + 1)) ((k + 1 : Nat) : Int) := by
  rw [List.drop_eq_getElem_cons h]
  rfl

set_option maxHeartbeats 400000 in
/-- timing.checkTimes$1 -/
theorem ct1_c (t : Int) (w : World) : Calls Tryz.prog 147 #[.int .i64 t] w fun r w' => r = .returned (.int .i64 (wi t 0 10000000)) ∧ Below w.heap.size w w' := by
  refine calls_of (args := [.int .i64 t]) T_ok Tryz.func147 rfl Tryz.ntmps147 (Nat.le_of_ble_eq_true rfl) rfl ?_
  repeat' (first
 | (refine C_id ?_; first
 | refine C_seq ?_
 | refine C_region rfl ?_
 | refine C_ret0 ?_
 )
 | (refine S_id ?_; first
 | refine S_nil ?_
 | refine S_run rfl rfl obQ obQ ?_
 | refine S_call (f := 91) rfl obQ (by kernel_rfl) (fun w hw => within_c _ _ _ w) ?_
 )
 | (refine G_id ?_; first
 | refine G_then ?_
 | refine G_ret rfl obQ (fun w hw => ⟨?_, hw.below⟩)
 )
 )
  rfl

set_option maxHeartbeats 400000 in
/-- timing.checkTimes$2 -/
theorem ct2_c (i j : Nat) (L H : Int) (ts : List Int) (A : Option Addr) (c : Nat) (hi : i < ts.length) (hj : j < ts.length) (hts : ∀ t ∈ ts, 0 ≤ t ∧ t ≤ 10000000) (a1 : Addr) (w : World) (hr1 : Rd w (some a1) [.slice A ts.length c]) (hr2 : Rd w A (ts.map (.int .i64))) : Calls Tryz.prog 149 #[.agg #[.int .i64 i, .int .i64 j, .int .i64 L, .int .i64 H], .pointer (some a1)] w fun r w' => r = .returned (.bool (wi (ts[j] - ts[i]) L H != 0)) ∧ Below w.heap.size w w' := by
  have hti := hts _ (List.getElem_mem hi)
  have htj := hts _ (List.getElem_mem hj)
  obtain ⟨ad, rfl⟩ := hr2.some (by simp; omega)
  refine calls_of (args := [.agg #[.int .i64 i, .int .i64 j, .int .i64 L, .int .i64 H], .pointer (some a1)]) T_ok Tryz.func149 rfl Tryz.ntmps149 (Nat.le_of_ble_eq_true rfl) rfl ?_
  repeat' (first
 | (refine C_id ?_; first
 | refine C_seq ?_
 | refine C_region rfl ?_
 | refine C_ret0 ?_
 | refine C_draw (id := 1) rfl mixed (by kernel_rfl) ?_
 )
 | (refine S_id ?_; first
 | refine S_nil ?_
 | refine S_run rfl rfl obQ obQ ?_
 | refine S_box (fun b => ⟨_, _, rfl, obQ, ?_⟩)
 )
 | (refine D_id ?_; first
 | refine D_load rfl obQ rfl [.slice (some ad) ts.length c] (.past _ memQ _ _ hr1.toS 0 a1 rfl rfl (by intro j u hu; rwa [Nat.zero_add])) rfl (.inr ⟨rfl, rfl⟩) ?_
 | refine D_load rfl obQ rfl [.int .i64 ts[j]] (.past _ memQ _ _ hr2.toS _ _ rfl rfl (idx1 hj)) rfl (.inr ⟨rfl, rfl⟩) ?_
 | refine D_load rfl obQ rfl [.int .i64 ts[i]] (.past _ memQ _ _ hr2.toS _ _ rfl rfl (idx1 hi)) rfl (.inr ⟨rfl, rfl⟩) ?_
 | refine D_nil ?_
 | refine D_run rfl rfl obQ obQ ?_
 | refine D_call (f := 91) rfl obQ (by kernel_rfl) (fun w hw => within_c _ _ _ w) ?_
 )
 | (refine G_id ?_; first
 | refine G_then ?_
 | refine G_ret rfl obQ (fun w hw => ⟨?_, hw.below⟩)
 )
 )
  rfl

set_option maxHeartbeats 400000 in
/-- timing.Settings$1 -/
theorem set1_c (i j : Nat) (L H : Int) (ts : List Int) (A : Option Addr) (c : Nat) (hi : i < ts.length) (hj : j < ts.length) (hts : ∀ t ∈ ts, 0 ≤ t ∧ t ≤ 10000000) (a1 : Addr) (w : World) (hr1 : Rd w (some a1) [.slice A ts.length c]) (hr2 : Rd w A (ts.map (.int .i64))) : Calls Tryz.prog 108 #[.agg #[.int .i64 i, .int .i64 j, .int .i64 L, .int .i64 H], .pointer (some a1)] w fun r w' => r = .returned (.int .i64 (ts[j] - ts[i])) ∧ Below w.heap.size w w' := by
  have hti := hts _ (List.getElem_mem hi)
  have htj := hts _ (List.getElem_mem hj)
  obtain ⟨ad, rfl⟩ := hr2.some (by simp; omega)
  refine calls_of (args := [.agg #[.int .i64 i, .int .i64 j, .int .i64 L, .int .i64 H], .pointer (some a1)]) T_ok Tryz.func108 rfl Tryz.ntmps108 (Nat.le_of_ble_eq_true rfl) rfl ?_
  repeat' (first
 | (refine C_id ?_; first
 | refine C_seq ?_
 | refine C_region rfl ?_
 | refine C_ret0 ?_
 | refine C_draw (id := 1) rfl mixed (by kernel_rfl) ?_
 )
 | (refine S_id ?_; first
 | refine S_nil ?_
 | refine S_run rfl rfl obQ obQ ?_
 | refine S_box (fun b => ⟨_, _, rfl, obQ, ?_⟩)
 )
 | (refine D_id ?_; first
 | refine D_load rfl obQ rfl [.slice (some ad) ts.length c] (.past _ memQ _ _ hr1.toS 0 a1 rfl rfl (by intro j u hu; rwa [Nat.zero_add])) rfl (.inr ⟨rfl, rfl⟩) ?_
 | refine D_load rfl obQ rfl [.int .i64 ts[j]] (.past _ memQ _ _ hr2.toS _ _ rfl rfl (idx1 hj)) rfl (.inr ⟨rfl, rfl⟩) ?_
 | refine D_load rfl obQ rfl [.int .i64 ts[i]] (.past _ memQ _ _ hr2.toS _ _ rfl rfl (idx1 hi)) rfl (.inr ⟨rfl, rfl⟩) ?_
 | refine D_nil ?_
 | refine D_run rfl rfl obQ obQ ?_
 )
 | (refine G_id ?_; first
 | refine G_then ?_
 | refine G_ret rfl obQ (fun w hw => ⟨?_, hw.below⟩)
 )
 )
  rfl

theorem ct2e_c (e : Edg) (ts : List Int) (A : Option Addr) (c : Nat) (ok : EdOk ts.length e) (hts : ∀ t ∈ ts, 0 ≤ t ∧ t ≤ 10000000) (a1 : Addr) (w : World) (hr1 : Rd w (some a1) [.slice A ts.length c]) (hr2 : Rd w A (ts.map (.int .i64))) :
    Calls Tryz.prog 149 #[.agg #[.int .i64 e.F, .int .i64 e.T, .int .i64 e.L, .int .i64 e.H], .pointer (some a1)] w fun r w' => r = .returned (.bool (offF ts e)) ∧ Below w.heap.size w w' := by
  obtain ⟨F, G, L, H⟩ := e
  obtain ⟨i, rfl⟩ := toNat_eq ok.F.1
  obtain ⟨j, rfl⟩ := toNat_eq ok.T.1
  have hi : i < ts.length := by have := ok.F.2; dsimp only at this; omega
  have hj : j < ts.length := by have := ok.T.2; dsimp only at this; omega
  have := ct2_c i j L H ts A c hi hj hts a1 w hr1 hr2
  rw [← gT_at hi, ← gT_at hj] at this
  exact this
theorem set1e_c (e : Edg) (ts : List Int) (A : Option Addr) (c : Nat) (ok : EdOk ts.length e) (hts : ∀ t ∈ ts, 0 ≤ t ∧ t ≤ 10000000) (a1 : Addr) (w : World) (hr1 : Rd w (some a1) [.slice A ts.length c]) (hr2 : Rd w A (ts.map (.int .i64))) :
    Calls Tryz.prog 108 #[.agg #[.int .i64 e.F, .int .i64 e.T, .int .i64 e.L, .int .i64 e.H], .pointer (some a1)] w fun r w' => r = .returned (.int .i64 (setF ts e)) ∧ Below w.heap.size w w' := by
  obtain ⟨F, G, L, H⟩ := e
  obtain ⟨i, rfl⟩ := toNat_eq ok.F.1
  obtain ⟨j, rfl⟩ := toNat_eq ok.T.1
  have hi : i < ts.length := by have := ok.F.2; dsimp only at this; omega
  have hj : j < ts.length := by have := ok.T.2; dsimp only at this; omega
  have := set1_c i j L H ts A c hi hj hts a1 w hr1 hr2
  rw [← gT_at hi, ← gT_at hj] at this
  exact this

set_option maxHeartbeats 400000 in
/-- slices.IndexFunc[[]genlock/timing.Edge,genlock/timing.Edge] -/
theorem indexF_c (q : FuncId) (c0 : Value) (p : Edg → Bool) (A : Option Addr) (c : Nat) (es : List Edg) (hl : es.length ≤ 1000000) (he : entB Tryz.prog q = true) (w : World) (hr : Rd w A (es.flatMap edC)) (hc : ∀ x ∈ es, ∀ W, Below w.heap.size w W → Calls Tryz.prog q #[.agg #[.int .i64 x.F, .int .i64 x.T, .int .i64 x.L, .int .i64 x.H], c0] W fun e w' => e = .returned (.bool (p x)) ∧ Below W.heap.size W w') : Calls Tryz.prog 169 #[.slice A es.length c, .func (.func q) #[] #[c0]] w fun r w' => r = .returned (.int .i64 (idxI p es 0)) ∧ Below w.heap.size w w' := by
  refine calls_of (args := [.slice A es.length c, .func (.func q) #[] #[c0]]) T_ok Tryz.func169 rfl Tryz.ntmps169 (Nat.le_of_ble_eq_true rfl) rfl ?_
  repeat' (first
 | (refine C_id ?_; first
 | refine C_seq ?_
 | refine C_region rfl ?_
 | refine C_block ?_
 | refine C_skip ?_
 | refine C_ret0 ?_
 | (refine C_cond rfl obQ (fun h => ?_) (fun h => ?_) <;> (try simp only [Bool.or_eq_true, Bool.and_eq_true, Bool.or_eq_false_iff, Bool.and_eq_false_iff, decide_eq_true_eq, decide_eq_false_iff_not, beq_iff_eq, bne_iff_ne, beq_eq_false_iff_ne, bne_eq_false_iff_eq, ne_eq, Decidable.not_not, List.cons.injEq, and_true, Bool.not_eq_true', Bool.not_eq_false', Int.not_lt, Int.not_le] at h))
 )
 | (refine S_id ?_; first
 | refine S_nil ?_
 | refine S_run rfl rfl obQ obQ ?_
 )
 | (refine G_id ?_; first
 | refine G_then ?_
 | refine G_thenR ?_
 | refine G_ret rfl obQ (fun w hw => ⟨?_, hw.below⟩)
 )
 )
  refine C_loopS (fun k : Nat => ⟨[(8, .s (.v (.int .i64 k))), (7, .s (.v (.int .i64 es.length))), (0, .s (.v (.slice A es.length c))), (1, .s (.v (.func (.func q) #[] #[c0])))], [], []⟩) (fun k => k ≤ es.length ∧ idxI p es 0 = idxI p (es.drop k) k) (fun k => es.length - k) 0 ⟨Nat.zero_le _, rfl⟩ ?_ (fun k hk => ?_)
  · exact ⟨⟨_, rfl, obQ⟩, ⟨_, rfl⟩, rfl, pstQ⟩
  by_cases hlt : k < es.length
  · obtain ⟨ad, rfl⟩ := hr.some (by rw [flat_len (f := edC) (s := 4) es (fun _ _ => rfl)]; omega)
    have hid := idxI_drop (p := p) hlt
    repeat' (first
 | (refine C_id ?_; first
 | refine C_seq ?_
 | refine C_region rfl ?_
 | refine C_block ?_
 | refine C_skip ?_
 | refine C_ret0 ?_
 | (refine C_cond rfl obQ (fun h => ?_) (fun h => ?_) <;> (try simp only [Bool.or_eq_true, Bool.and_eq_true, Bool.or_eq_false_iff, Bool.and_eq_false_iff, decide_eq_true_eq, decide_eq_false_iff_not, beq_iff_eq, bne_iff_ne, beq_eq_false_iff_ne, bne_eq_false_iff_eq, ne_eq, Decidable.not_not, List.cons.injEq, and_true, Bool.not_eq_true', Bool.not_eq_false', Int.not_lt, Int.not_le] at h) <;> (try (exfalso; omega)))
     )
 | (refine S_id ?_; first
 | refine S_load rfl obQ rfl [.int .i64 es[k].F, .int .i64 es[k].T, .int .i64 es[k].L, .int .i64 es[k].H] (.past _ memQ _ _ hr.toS _ _ rfl rfl (idxS (f := edC) (fun _ => rfl) hlt)) rfl (.inl ⟨rfl, rfl⟩) ?_
 | refine S_call rfl obQ he (fun W hW => hc es[k] (List.getElem_mem hlt) W hW.below) ?_
 | refine S_nil ?_
 | refine S_run rfl rfl obQ obQ ?_
     )
 | (refine G_id ?_; first
 | refine G_loop (k + 1) ?_ (by omega) ⟨⟨_, rfl, obQ⟩, ⟨_, rfl⟩, rfl, pstQ⟩
 | refine G_then ?_
 | refine G_block ?_
 | refine G_blockR ?_
 | refine G_thenR ?_
 | refine G_ret rfl obQ (fun w hw => ⟨?_, hw.below⟩)
     )
     )
    · rw [hk.2, hid, if_pos h]
    · exact ⟨by omega, by rw [hk.2, hid, if_neg (by simp [h])]⟩
  · repeat' (first
 | (refine C_id ?_; first
 | refine C_seq ?_
 | refine C_region rfl ?_
 | refine C_exit ?_
 | refine C_ret0 ?_
 | (refine C_cond rfl obQ (fun h => ?_) (fun h => ?_) <;> (try simp only [Bool.or_eq_true, Bool.and_eq_true, Bool.or_eq_false_iff, Bool.and_eq_false_iff, decide_eq_true_eq, decide_eq_false_iff_not, beq_iff_eq, bne_iff_ne, beq_eq_false_iff_ne, bne_eq_false_iff_eq, ne_eq, Decidable.not_not, List.cons.injEq, and_true, Bool.not_eq_true', Bool.not_eq_false', Int.not_lt, Int.not_le] at h) <;> (try (exfalso; omega)))
     )
 | (refine S_id ?_; first
 | refine S_nil ?_
 | refine S_run rfl rfl obQ obQ ?_
     )
 | (refine G_id ?_; first
 | refine G_then ?_
 | refine G_blockX ?_
 | refine G_thenX ?_
 | refine G_ret rfl obQ (fun w hw => ⟨?_, hw.below⟩)
     )
     )
    rw [hk.2, List.drop_of_length_le (by omega)]
    rfl

set_option maxHeartbeats 400000 in
/-- slices.ContainsFunc[[]genlock/timing.Edge,genlock/timing.Edge] -/
theorem containsF_c (q : FuncId) (c0 : Value) (p : Edg → Bool) (A : Option Addr) (c : Nat) (es : List Edg) (hl : es.length ≤ 1000000) (he : entB Tryz.prog q = true) (w : World) (hr : Rd w A (es.flatMap edC)) (hc : ∀ x ∈ es, ∀ W, Below w.heap.size w W → Calls Tryz.prog q #[.agg #[.int .i64 x.F, .int .i64 x.T, .int .i64 x.L, .int .i64 x.H], c0] W fun e w' => e = .returned (.bool (p x)) ∧ Below W.heap.size W w') : Calls Tryz.prog 148 #[.slice A es.length c, .func (.func q) #[] #[c0]] w fun r w' => r = .returned (.bool (es.any p)) ∧ Below w.heap.size w w' := by
  refine calls_of (args := [.slice A es.length c, .func (.func q) #[] #[c0]]) T_ok Tryz.func148 rfl Tryz.ntmps148 (Nat.le_of_ble_eq_true rfl) rfl ?_
  repeat' (first
 | (refine C_id ?_; first
 | refine C_seq ?_
 | refine C_region rfl ?_
 | refine C_ret0 ?_
 )
 | (refine S_id ?_; first
 | refine S_nil ?_
 | refine S_run rfl rfl obQ obQ ?_
 | refine S_call (f := 169) rfl obQ (by kernel_rfl) (fun w hw => indexF_c q c0 p A c es hl he w (hw.rdm (Rd.toS hr) memQ) (fun x hx W hW => hc x hx W (HW.ext hw hW).below)) ?_
 )
 | (refine G_id ?_; first
 | refine G_then ?_
 | refine G_ret rfl obQ (fun w hw => ⟨?_, hw.below⟩)
 )
 )
  rw [← idxI_any p es 0 (Int.le_refl 0)]

set_option maxHeartbeats 400000 in
/-- mapped[int,genlock/api.Errno] -/
theorem mappedIE_c (q : FuncId) {g : Int → Int} (A : Option Addr) (c : Nat) (l : List (Int)) (hl : l.length ≤ 1000000) (he : entB Tryz.prog q = true) (w : World) (hr : Rd w A (l.map fun x => Value.int .i64 x)) (hg : ∀ x ∈ l, ∀ W, Below w.heap.size w W → Calls Tryz.prog q #[Value.int .i64 x] W fun e w' => e = .returned (Value.int .i64 (g x)) ∧ Below W.heap.size W w') : Calls Tryz.prog 146 #[.slice A l.length c, .func (.func q) #[] #[]] w fun r w' => ∃ v, r = .returned v ∧ Below w.heap.size w w' ∧ Sl w w' v l.length (l.map fun x => Value.int .i64 (g x)) := by
  refine calls_of (args := [.slice A l.length c, .func (.func q) #[] #[]]) T_ok Tryz.func146 rfl Tryz.ntmps146 (Nat.le_of_ble_eq_true rfl) rfl ?_
  repeat' (first
 | (refine C_id ?_; first
 | refine C_seq ?_
 | refine C_region rfl ?_
 | refine C_block ?_
 )
 | (refine S_id ?_; first
 | refine S_nil ?_
 | refine S_run rfl rfl obQ obQ ?_
 )
 | (refine G_id ?_; first
 | refine G_then ?_
 )
 )
  refine C_row0 5 28 1 rfl ?_
  refine C_loopS (fun i : Nat × Option Addr × Nat => ⟨[(5, .s (.r i.2.1 i.1 i.2.2 0)), (8, .s (.v (.slice A l.length c))), (9, .s (.v (.int .i64 l.length))), (10, .s (.v (.int .i64 i.1))), (1, .s (.v (.func (.func q) #[] #[])))], [], [⟨28, 1, i.1, (l.take i.1).map fun x => Value.int .i64 (g x), .slice i.2.1 i.1 i.2.2⟩]⟩) (fun i => i.1 ≤ l.length) (fun i => l.length - i.1) (0, none, 0) (Nat.zero_le _) ?_ (fun i hi => ?_)
  · exact ⟨⟨_, rfl, obQ⟩, ⟨_, rfl⟩, rfl, pstQ⟩
  obtain ⟨k, A', c'⟩ := i
  have hi' : k ≤ l.length := hi
  dsimp only
  by_cases hlt : k < l.length
  · obtain ⟨ad, rfl⟩ := hr.some (by simp; omega)
    have hmt := map_take_succ (f := fun x => Value.int .i64 (g x)) hlt
    repeat' (first
 | (refine C_id ?_; first
 | refine C_seq ?_
 | refine C_region rfl ?_
 | refine C_block ?_
 | refine C_skip ?_
 | (refine C_cond rfl obQ (fun h => ?_) (fun h => ?_) <;> (try simp only [Bool.or_eq_true, Bool.and_eq_true, Bool.or_eq_false_iff, Bool.and_eq_false_iff, decide_eq_true_eq, decide_eq_false_iff_not, beq_iff_eq, bne_iff_ne, beq_eq_false_iff_ne, bne_eq_false_iff_eq, ne_eq, Decidable.not_not, List.cons.injEq, and_true, Bool.not_eq_true', Bool.not_eq_false', Int.not_lt, Int.not_le] at h) <;> (try (exfalso; omega)))
     )
 | (refine S_id ?_; first
 | refine S_load rfl obQ rfl [Value.int .i64 l[k]] (.past _ memQ _ _ hr.toS _ _ rfl rfl (idx1 (f := fun x => Value.int .i64 x) hlt)) rfl (.inr ⟨rfl, rfl⟩) ?_
 | refine S_call rfl obQ he (fun W hW => hg l[k] (List.getElem_mem hlt) W hW.below) ?_
 | refine S_append rfl obQ rfl rfl rfl ⟨by decide, rfl⟩ rfl ⟨rfl, rfl, rfl, rfl⟩ [Value.int .i64 (g l[k])] ⟨by decide, rfl⟩ (by simp [Value.oneCell']) (fun w hw => by first | exact hw.src (i := 0) rfl rfl | exact hw.src (i := 1) rfl rfl | exact hw.src (i := 2) rfl rfl | exact hw.src (i := 3) rfl rfl | exact hw.src (i := 4) rfl rfl | exact hw.src (i := 5) rfl rfl | exact hw.src (i := 6) rfl rfl | exact hw.src (i := 7) rfl rfl | exact hw.src (i := 8) rfl rfl) (by unfold maxLen; dsimp only; omega) (fun gb cap' => ⟨_, rfl, ?_⟩)
 | refine S_nil ?_
 | refine S_run rfl rfl obQ obQ ?_
 | refine S_slice (fun b => ⟨_, _, rfl, obQ, ?_⟩)
     )
 | (refine G_id ?_; first
 | refine G_loop (k + 1, some ⟨gb, 0, none⟩, cap') (by show k + 1 ≤ _; omega) (by show l.length - (k + 1) < l.length - k; omega) ⟨⟨_, rfl, obQ⟩, ⟨_, rfl⟩, (by dsimp only; rw [hmt]), pstQ⟩
 | refine G_then ?_
 | refine G_block ?_
     )
     )
  · obtain rfl : k = l.length := by omega
    repeat' (first
 | (refine C_id ?_; first
 | refine C_seq ?_
 | refine C_region rfl ?_
 | refine C_exit ?_
 | refine C_ret0 ?_
 | (refine C_cond rfl obQ (fun h => ?_) (fun h => ?_) <;> (try simp only [Bool.or_eq_true, Bool.and_eq_true, Bool.or_eq_false_iff, Bool.and_eq_false_iff, decide_eq_true_eq, decide_eq_false_iff_not, beq_iff_eq, bne_iff_ne, beq_eq_false_iff_ne, bne_eq_false_iff_eq, ne_eq, Decidable.not_not, List.cons.injEq, and_true, Bool.not_eq_true', Bool.not_eq_false', Int.not_lt, Int.not_le] at h) <;> (try (exfalso; omega)))
     )
 | (refine S_id ?_; first
 | refine S_nil ?_
 | refine S_run rfl rfl obQ obQ ?_
     )
 | (refine G_id ?_; first
 | refine G_then ?_
 | refine G_blockX ?_
 | refine G_thenX ?_
 | refine G_ret rfl obQ (fun w2 hw => ⟨_, rfl, hw.below, HW.rowSl (i := 0) hw rfl rfl rfl (by rw [List.take_length])⟩)
     )
     )

set_option maxHeartbeats 400000 in
/-- mapped[genlock/timing.Edge,int] -/
theorem mappedES_c (q : FuncId) (c0 : Value) {g : Edg → Int} (A : Option Addr) (c : Nat) (l : List (Edg)) (hl : l.length ≤ 1000000) (he : entB Tryz.prog q = true) (w : World) (hr : Rd w A (l.flatMap fun x => [Value.int .i64 x.F, Value.int .i64 x.T, Value.int .i64 x.L, Value.int .i64 x.H])) (hg : ∀ x ∈ l, ∀ W, Below w.heap.size w W → Calls Tryz.prog q #[Value.agg #[Value.int .i64 x.F, Value.int .i64 x.T, Value.int .i64 x.L, Value.int .i64 x.H], c0] W fun e w' => e = .returned (Value.int .i64 (g x)) ∧ Below W.heap.size W w') : Calls Tryz.prog 107 #[.slice A l.length c, .func (.func q) #[] #[c0]] w fun r w' => ∃ v, r = .returned v ∧ Below w.heap.size w w' ∧ Sl w w' v l.length (l.map fun x => Value.int .i64 (g x)) := by
  refine calls_of (args := [.slice A l.length c, .func (.func q) #[] #[c0]]) T_ok Tryz.func107 rfl Tryz.ntmps107 (Nat.le_of_ble_eq_true rfl) rfl ?_
  repeat' (first
 | (refine C_id ?_; first
 | refine C_seq ?_
 | refine C_region rfl ?_
 | refine C_block ?_
 )
 | (refine S_id ?_; first
 | refine S_nil ?_
 | refine S_run rfl rfl obQ obQ ?_
 | refine S_box (fun b => ⟨_, _, rfl, obQ, ?_⟩)
 )
 | (refine G_id ?_; first
 | refine G_then ?_
 )
 )
  refine C_row0 5 3 1 rfl ?_
  refine C_loopS (fun i : Nat × Option Addr × Nat => ⟨[(5, .s (.r i.2.1 i.1 i.2.2 0)), (8, .s (.v (.slice A l.length c))), (9, .s (.v (.int .i64 l.length))), (10, .s (.v (.int .i64 i.1))), (1, .s (.v (.func (.func q) #[] #[c0])))], [], [⟨3, 1, i.1, (l.take i.1).map fun x => Value.int .i64 (g x), .slice i.2.1 i.1 i.2.2⟩]⟩) (fun i => i.1 ≤ l.length) (fun i => l.length - i.1) (0, none, 0) (Nat.zero_le _) ?_ (fun i hi => ?_)
  · exact ⟨⟨_, rfl, obQ⟩, ⟨_, rfl⟩, rfl, pstQ⟩
  obtain ⟨k, A', c'⟩ := i
  have hi' : k ≤ l.length := hi
  dsimp only
  by_cases hlt : k < l.length
  · obtain ⟨ad, rfl⟩ := hr.some (by simp [flat_len (s := 4)]; omega)
    have hmt := map_take_succ (f := fun x => Value.int .i64 (g x)) hlt
    repeat' (first
 | (refine C_id ?_; first
 | refine C_seq ?_
 | refine C_region rfl ?_
 | refine C_block ?_
 | refine C_skip ?_
 | (refine C_cond rfl obQ (fun h => ?_) (fun h => ?_) <;> (try simp only [Bool.or_eq_true, Bool.and_eq_true, Bool.or_eq_false_iff, Bool.and_eq_false_iff, decide_eq_true_eq, decide_eq_false_iff_not, beq_iff_eq, bne_iff_ne, beq_eq_false_iff_ne, bne_eq_false_iff_eq, ne_eq, Decidable.not_not, List.cons.injEq, and_true, Bool.not_eq_true', Bool.not_eq_false', Int.not_lt, Int.not_le] at h) <;> (try (exfalso; omega)))
     )
 | (refine S_id ?_; first
 | refine S_load rfl obQ rfl [Value.int .i64 l[k].F, Value.int .i64 l[k].T, Value.int .i64 l[k].L, Value.int .i64 l[k].H] (.past _ memQ _ _ hr.toS _ _ rfl rfl (idxS (f := fun x => [Value.int .i64 x.F, Value.int .i64 x.T, Value.int .i64 x.L, Value.int .i64 x.H]) (fun _ => rfl) hlt)) rfl (.inl ⟨rfl, rfl⟩) ?_
 | refine S_call rfl obQ he (fun W hW => hg l[k] (List.getElem_mem hlt) W hW.below) ?_
 | refine S_append rfl obQ rfl rfl rfl ⟨by decide, rfl⟩ rfl ⟨rfl, rfl, rfl, rfl⟩ [Value.int .i64 (g l[k])] ⟨by decide, rfl⟩ (by simp [Value.oneCell']) (fun w hw => by first | exact hw.src (i := 0) rfl rfl | exact hw.src (i := 1) rfl rfl | exact hw.src (i := 2) rfl rfl | exact hw.src (i := 3) rfl rfl | exact hw.src (i := 4) rfl rfl | exact hw.src (i := 5) rfl rfl | exact hw.src (i := 6) rfl rfl | exact hw.src (i := 7) rfl rfl | exact hw.src (i := 8) rfl rfl) (by unfold maxLen; dsimp only; omega) (fun gb cap' => ⟨_, rfl, ?_⟩)
 | refine S_nil ?_
 | refine S_run rfl rfl obQ obQ ?_
 | refine S_box (fun b => ⟨_, _, rfl, obQ, ?_⟩)
 | refine S_slice (fun b => ⟨_, _, rfl, obQ, ?_⟩)
     )
 | (refine G_id ?_; first
 | refine G_loop (k + 1, some ⟨gb, 0, none⟩, cap') (by show k + 1 ≤ _; omega) (by show l.length - (k + 1) < l.length - k; omega) ⟨⟨_, rfl, obQ⟩, ⟨_, rfl⟩, (by dsimp only; rw [hmt]), pstQ⟩
 | refine G_then ?_
 | refine G_block ?_
     )
     )
  · obtain rfl : k = l.length := by omega
    repeat' (first
 | (refine C_id ?_; first
 | refine C_seq ?_
 | refine C_region rfl ?_
 | refine C_exit ?_
 | refine C_ret0 ?_
 | (refine C_cond rfl obQ (fun h => ?_) (fun h => ?_) <;> (try simp only [Bool.or_eq_true, Bool.and_eq_true, Bool.or_eq_false_iff, Bool.and_eq_false_iff, decide_eq_true_eq, decide_eq_false_iff_not, beq_iff_eq, bne_iff_ne, beq_eq_false_iff_ne, bne_eq_false_iff_eq, ne_eq, Decidable.not_not, List.cons.injEq, and_true, Bool.not_eq_true', Bool.not_eq_false', Int.not_lt, Int.not_le] at h) <;> (try (exfalso; omega)))
     )
 | (refine S_id ?_; first
 | refine S_nil ?_
 | refine S_run rfl rfl obQ obQ ?_
     )
 | (refine G_id ?_; first
 | refine G_then ?_
 | refine G_blockX ?_
 | refine G_thenX ?_
 | refine G_ret rfl obQ (fun w2 hw => ⟨_, rfl, hw.below, HW.rowSl (i := 0) hw rfl rfl rfl (by rw [List.take_length])⟩)
     )
     )

end Go.Proofs.YtmfophoejjcnlaaGreatDoor
