/- Sequences and flashes: the program. -/
import Derived.Test.YtdbffbcobghbeaaGreatDoorColour17
namespace Go.Proofs.YtdbffbcobghbeaaGreatDoor
open Go.E Go.RowKit Go.Fl
attribute [local irreducible] G C S D Calls
set_option maxRecDepth 100000
set_option linter.unusedSimpArgs false
set_option linter.unusedVariables false

theorem idxF {α : Type} {f : α → List Value} {s : Nat} {l : List α} (hf : ∀ x, (f x).length = s) {k : Nat} (h : k < l.length) (o : Nat) {v : Value} (hv : (f l[k])[o]? = some v) :
    ∀ (j : Nat) (u : Value), ([v] : List Value)[j]? = some u → (l.flatMap f)[((k : Int).toNat * s + o) + j]? = some u := by
  intro j u hu
  cases j with
  | succ j => simp at hu
  | zero =>
    simp only [List.getElem?_cons_zero, Option.some.injEq] at hu
    subst hu
    have ho : o < s := by
      have := (List.getElem?_eq_some_iff.1 hv).1
      rwa [hf] at this
    rw [Nat.add_zero, Int.toNat_natCast, flat_at l (fun x _ => hf x) k h o ho]
    exact hv
def gQ (l : List PV') (k : Nat) : PV' := l.getD k ⟨zP, none, 0⟩
theorem gQ_at {l : List PV'} {k : Nat} (h : k < l.length) : gQ l k = l[k] := by simp [gQ, h]
theorem gQ_mem {l : List PV'} {k : Nat} (h : k < l.length) : gQ l k ∈ l := by rw [gQ_at h]; exact List.getElem_mem h
theorem gQ_idx {l : List PV'} {k : Nat} (h : k < l.length) : ∀ (j : Nat) (u : Value), (pvC (gQ l k))[j]? = some u → (l.flatMap pvC)[((k : Int).toNat * 4 + j)]? = some u := by
  rw [gQ_at h]
  exact idxS (f := pvC) (fun _ => rfl) h
theorem gQ_f {l : List PV'} {k : Nat} {z : Int} (e : z = k) (h : k < l.length) (o : Nat) {v : Value} (hv : (pvC (gQ l k))[o]? = some v) : ∀ (j : Nat) (u : Value), ([v] : List Value)[j]? = some u → (l.flatMap pvC)[(z.toNat * 4 + o) + j]? = some u := by
  subst e
  rw [gQ_at h] at hv
  exact idxF (f := pvC) (fun _ => rfl) h o hv
theorem pv_len (l : List PV') : (l.flatMap pvC).length = l.length * 4 := flat_len (f := pvC) (s := 4) l (fun _ _ => rfl)
/-- The sum of a picture's integers. -/
def totF (s : List Nat) : Int := (s.map lvl).sum
theorem tot_take {s : List Nat} {k : Nat} (h : k < s.length) : totF (s.take (k + 1)) = totF (s.take k) + lvl (gB s k) := by
  unfold totF
  rw [List.take_succ_eq_append_getElem h, List.map_append, List.sum_append, gB_at h]
  simp
theorem tot_bd : ∀ {s : List Nat}, (∀ b ∈ s, Smp b) → -(16384 * (s.length : Int)) ≤ totF s ∧ totF s ≤ 16384 * (s.length : Int)
  | [], _ => by simp [totF]
  | b :: s, h => by
    have h1 := tot_bd (s := s) fun x hx => h x (by simp [hx])
    have h2 := (h b (by simp)).lv
    simp only [totF, List.map_cons, List.sum_cons, List.length_cons] at *
    omega
theorem pic_len {p : Pic} (h : PicOk p) : p.s.length ≤ 4096 ∧ 0 < p.s.length := by
  have h1 := h.n
  have h2 := Int.mul_le_mul h.w.2 h.h.2 (by have := h.h; omega) (by omega)
  have h3 := Int.mul_pos (show 0 < p.w by have := h.w; omega) (show 0 < p.h by have := h.h; omega)
  omega
def sqL (l : List PV') (k : Nat) : List Int := [picE (gQ l k).p, wh ((gQ l k).p.w != (gQ l 0).p.w || (gQ l k).p.h != (gQ l 0).p.h) 2]
/-- The first error of a sequence. -/
def sqE (l : List PV') : Int := if 256 < l.length then 5 else firstL ((List.range l.length).map fun k => firstL (sqL l k))
theorem sqE_1 {l : List PV'} (h : 256 < l.length) : sqE l = 5 := if_pos h
theorem sqE_2 {l : List PV'} (h : ¬ 256 < l.length) : sqE l = firstL ((List.range l.length).map fun k => firstL (sqL l k)) := if_neg h
theorem sqE_ok {l : List PV'} (h : sqE l = 0) : l.length ≤ 256 ∧ ∀ k, k < l.length → PicOk (gQ l k).p ∧ (gQ l k).p.w = (gQ l 0).p.w ∧ (gQ l k).p.h = (gQ l 0).p.h := by
  unfold sqE at h
  split at h
  · cases h
  · rename_i h1
    rw [firstL_zero] at h
    refine ⟨by omega, fun k hk => ?_⟩
    have h2 := h _ (List.mem_map.2 ⟨k, List.mem_range.2 hk, rfl⟩)
    unfold sqL at h2
    rw [firstL_zero] at h2
    simp only [List.mem_cons, List.mem_nil_iff, or_false, forall_eq_or_imp, forall_eq, pic_ok, wh_zero (show (2 : Int) ≠ 0 by omega), Bool.or_eq_false_iff, bne_eq_false_iff_eq] at h2
    exact h2
theorem sq_all {l : List PV'} (h : sqE l = 0) : ∀ x ∈ l, PicOk x.p := by
  intro x hx
  obtain ⟨k, hk, rfl⟩ := List.getElem_of_mem hx
  have := ((sqE_ok h).2 k hk).1
  rwa [gQ_at hk] at this
/-- The error of a step. -/
def stE (b : Nat) : Int := firstL [smpE b, wh (FloatKind.f32.format.order b 0 == some .lt) 3]
theorem stE_ok {b : Nat} (h : stE b = 0) : Smp b ∧ 0 ≤ lvl b := by
  unfold stE at h
  rw [firstL_zero] at h
  simp only [List.mem_cons, List.mem_nil_iff, or_false, forall_eq_or_imp, forall_eq, smp_iff, wh_zero (show (3 : Int) ≠ 0 by omega)] at h
  obtain ⟨h1, h2⟩ := h
  refine ⟨h1, ?_⟩
  have : FloatKind.f32.format.order b 0 = some (compare (B32 b) (B32 0)) := order32 h1.fin f0.1
  rw [this, cmp_lt, f0.2, decide_eq_false_iff_not, ← h1.eq] at h2
  refine Int.not_lt.1 fun hn => h2 ?_
  have hp : (0 : Int) < 2 ^ 145 := by decide +kernel
  have := Int.mul_lt_mul_of_pos_right hn hp
  rwa [Int.zero_mul] at this
def chF (l : List PV') (k : Nat) : Int := totF (gQ l k).p.s - totF (gQ l (k - 1)).p.s
def flB (l : List PV') (st : Nat) (k : Nat) : Bool := decide (0 < k) && decide (lvl st * (gQ l k).p.s.length < max (chF l k) (0 - chF l k))
/-- The frames at which a sequence flashes. -/
def flF (l : List PV') (st : Nat) : List Nat := (List.range l.length).filter (flB l st)
def natC (l : List Nat) : List Value := l.map fun (k : Nat) => Value.int .i64 (k : Int)
theorem fl_succ (l : List PV') (st k : Nat) : (List.range (k + 1)).filter (flB l st) = (List.range k).filter (flB l st) ++ if flB l st k then [k] else [] := by
  rw [List.range_succ, List.filter_append]
  cases h : flB l st k <;> simp [h]
theorem filter_len (f : Nat → Bool) (k : Nat) : ((List.range k).filter f).length ≤ k := by
  have := List.length_filter_le f (List.range k)
  simpa using this
def fsE (l : List PV') (st : Nat) : Int := firstL [sqE l, stE st]
theorem fsE_ok {l : List PV'} {st : Nat} (h : fsE l st = 0) : sqE l = 0 ∧ stE st = 0 := by
  unfold fsE at h
  rw [firstL_zero] at h
  simpa using h
def fsR (l : List PV') (st : Nat) : List Nat × Int := if fsE l st = 0 then (flF l st, 0) else ([], fsE l st)
theorem tot_idx {l : List PV'} {k : Nat} {z : Int} (e : z = k) (h : k < l.length) : ∀ (j : Nat) (u : Value), ([.int .i64 (totF (gQ l k).p.s)] : List Value)[j]? = some u → (l.map fun x => Value.int .i64 (totF x.p.s))[(z.toNat * 1 + j)]? = some u := by
  subst e
  rw [gQ_at h]
  exact idx1 (f := fun x : PV' => Value.int .i64 (totF x.p.s)) h

set_option maxHeartbeats 400000 in
/-- colour.total -/
theorem total_c (p : Pic) (A : Option Addr) (c : Nat) (hs : p.s.length ≤ 1000000) (hp : ∀ b ∈ p.s, Smp b) (w : World) (hr : Rd w A (p.s.map (.float .f32))) : Calls Tryz.prog 187 #[.agg #[.string p.nm, .int .i64 p.w, .int .i64 p.h, .slice A p.s.length c]] w fun r w' => r = .returned (.int .i64 (totF p.s)) ∧ Below w.heap.size w w' := by
  refine calls_of (args := [.agg #[.string p.nm, .int .i64 p.w, .int .i64 p.h, .slice A p.s.length c]]) T_ok Tryz.func187 rfl Tryz.ntmps187 (Nat.le_of_ble_eq_true rfl) rfl ?_
  repeat' (first
 | (refine C_id ?_; first
 | refine C_seq ?_
 | refine C_region rfl ?_
 | refine C_block ?_
 | refine C_ret0 ?_
 )
 | (refine S_id ?_; first
 | refine S_nil ?_
 | refine S_run rfl rfl obQ obQ ?_
 | refine S_box (fun b => ⟨_, _, rfl, obQ, ?_⟩)
 )
 | (refine G_id ?_; first
 | refine G_then ?_
 | refine G_ret rfl obQ (fun w hw => ⟨?_, hw.below⟩)
 )
 )
  refine C_loopS (fun k : Nat => ⟨[(9, .s (.v (.int .i64 k))), (8, .s (.v (.int .i64 p.s.length))), (7, .s (.v (.slice A p.s.length c))), (3, .s (.v (.int .i64 (totF (p.s.take k)))))], [], []⟩) (fun k => k ≤ p.s.length) (fun k => p.s.length - k) 0 (Nat.zero_le _) ?_ (fun k hk => ?_)
  · exact ⟨⟨_, rfl, obQ⟩, ⟨_, rfl⟩, rfl, pstQ⟩
  have hk' : k ≤ p.s.length := hk
  by_cases hlt : k < p.s.length
  · obtain ⟨ad, rfl⟩ := hr.some (by simp; omega)
    have hsm := hp _ (gB_mem hlt)
    have hlv := hsm.lv
    have ht := tot_take hlt
    have hb := tot_bd (s := p.s.take k) fun b hb => hp b (List.mem_of_mem_take hb)
    have htl : (p.s.take k).length = k := by simp; omega
    rw [htl] at hb
    repeat' (first
 | (refine C_id ?_; first
 | refine C_seq ?_
 | refine C_region rfl ?_
 | refine C_block ?_
 | refine C_skip ?_
 | (refine C_cond rfl obQ (fun h => ?_) (fun h => ?_) <;> (try simp only [Bool.or_eq_true, Bool.and_eq_true, Bool.or_eq_false_iff, Bool.and_eq_false_iff, decide_eq_true_eq, decide_eq_false_iff_not, beq_iff_eq, bne_iff_ne, beq_eq_false_iff_ne, bne_eq_false_iff_eq, ne_eq, Decidable.not_not, List.cons.injEq, and_true, Bool.not_eq_true', Bool.not_eq_false', Int.not_lt, Int.not_le] at h) <;> (try (exfalso; omega)))
     )
 | (refine S_id ?_; first
 | refine S_load rfl obQ rfl [.float .f32 (gB p.s k)] (.past _ memQ _ _ hr.toS _ _ rfl rfl (gB_idx hlt)) rfl (.inr ⟨rfl, rfl⟩) ?_
 | refine S_nil ?_
 | refine S_run rfl rfl obQ obQ ?_
 | refine S_call (f := 140) rfl obQ (by kernel_rfl) (fun w hw => level_c (gB p.s k) hsm.fin hsm.bd w) ?_
     )
 | (refine G_id ?_; first
 | refine G_loop (k + 1) (show k + 1 ≤ p.s.length by omega) (by show p.s.length - (k + 1) < p.s.length - k; omega) (by rw [ht]; exact ⟨⟨_, rfl, obQ⟩, ⟨_, rfl⟩, rfl, pstQ⟩)
 | refine G_then ?_
 | refine G_block ?_
     )
     )
  · obtain rfl : k = p.s.length := by omega
    repeat' (first
 | (refine C_id ?_; first
 | refine C_seq ?_
 | refine C_region rfl ?_
 | refine C_exit ?_
 | refine C_ret0 ?_
 | (refine C_cond rfl obQ (fun h => ?_) (fun h => ?_) <;> (try simp only [Bool.or_eq_true, Bool.and_eq_true, Bool.or_eq_false_iff, Bool.and_eq_false_iff, decide_eq_true_eq, decide_eq_false_iff_not, beq_iff_eq, bne_iff_ne, beq_eq_false_iff_ne, bne_eq_false_iff_eq, ne_eq, Decidable.not_not, List.cons.injEq, and_true, Bool.not_eq_true', Bool.not_eq_false', Int.not_lt, Int.not_le] at h) <;> (try (exfalso; omega)))
     )
 | (refine S_id ?_; first
 | refine S_nil ?_
 | refine S_run rfl rfl obQ obQ ?_
     )
 | (refine G_id ?_; first
 | refine G_then ?_
 | refine G_blockX ?_
 | refine G_thenX ?_
 | refine G_ret rfl obQ (fun w hw => ⟨?_, hw.below⟩)
     )
     )
    exact rI (by rw [List.take_length])

set_option maxHeartbeats 400000 in
/-- colour.mapped[genlock/picture.Picture,int] -/
theorem mappedPI_c (q : FuncId) {g : PV' → Int} (A : Option Addr) (c : Nat) (l : List (PV')) (hl : l.length ≤ 1000000) (he : entB Tryz.prog q = true) (w : World) (hr : Rd w A (l.flatMap fun x => [Value.string x.p.nm, Value.int .i64 x.p.w, Value.int .i64 x.p.h, Value.slice x.A x.p.s.length x.c])) (hg : ∀ x ∈ l, ∀ W, Below w.heap.size w W → Calls Tryz.prog q #[Value.agg #[Value.string x.p.nm, Value.int .i64 x.p.w, Value.int .i64 x.p.h, Value.slice x.A x.p.s.length x.c]] W fun e w' => e = .returned (Value.int .i64 (g x)) ∧ Below W.heap.size W w') : Calls Tryz.prog 186 #[.slice A l.length c, .func (.func q) #[] #[]] w fun r w' => ∃ v, r = .returned v ∧ Below w.heap.size w w' ∧ Sl w w' v l.length (l.map fun x => Value.int .i64 (g x)) := by
  refine calls_of (args := [.slice A l.length c, .func (.func q) #[] #[]]) T_ok Tryz.func186 rfl Tryz.ntmps186 (Nat.le_of_ble_eq_true rfl) rfl ?_
  repeat' (first
 | (refine C_id ?_; first
 | refine C_seq ?_
 | refine C_region rfl ?_
 | refine C_block ?_
 )
 | (refine S_id ?_; first
 | refine S_nil ?_
 | refine S_run rfl rfl obQ obQ ?_
 )
 | (refine G_id ?_; first
 | refine G_then ?_
 )
 )
  refine C_row0 5 3 1 rfl ?_
  refine C_loopS (fun i : Nat × Option Addr × Nat => ⟨[(5, .s (.r i.2.1 i.1 i.2.2 0)), (8, .s (.v (.slice A l.length c))), (9, .s (.v (.int .i64 l.length))), (10, .s (.v (.int .i64 i.1))), (1, .s (.v (.func (.func q) #[] #[])))], [], [⟨3, 1, i.1, (l.take i.1).map fun x => Value.int .i64 (g x), .slice i.2.1 i.1 i.2.2⟩]⟩) (fun i => i.1 ≤ l.length) (fun i => l.length - i.1) (0, none, 0) (Nat.zero_le _) ?_ (fun i hi => ?_)
  · exact ⟨⟨_, rfl, obQ⟩, ⟨_, rfl⟩, rfl, pstQ⟩
  obtain ⟨k, A', c'⟩ := i
  have hi' : k ≤ l.length := hi
  dsimp only
  by_cases hlt : k < l.length
  · obtain ⟨ad, rfl⟩ := hr.some (by simp [flat_len (s := 4)]; omega)
    have hmt := map_take_succ (f := fun x => Value.int .i64 (g x)) hlt
    repeat' (first
 | (refine C_id ?_; first
 | refine C_seq ?_
 | refine C_region rfl ?_
 | refine C_block ?_
 | refine C_skip ?_
 | (refine C_cond rfl obQ (fun h => ?_) (fun h => ?_) <;> (try simp only [Bool.or_eq_true, Bool.and_eq_true, Bool.or_eq_false_iff, Bool.and_eq_false_iff, decide_eq_true_eq, decide_eq_false_iff_not, beq_iff_eq, bne_iff_ne, beq_eq_false_iff_ne, bne_eq_false_iff_eq, ne_eq, Decidable.not_not, List.cons.injEq, and_true, Bool.not_eq_true', Bool.not_eq_false', Int.not_lt, Int.not_le] at h) <;> (try (exfalso; omega)))
     )
 | (refine S_id ?_; first
 | refine S_load rfl obQ rfl [Value.string l[k].p.nm, Value.int .i64 l[k].p.w, Value.int .i64 l[k].p.h, Value.slice l[k].A l[k].p.s.length l[k].c] (.past _ memQ _ _ hr.toS _ _ rfl rfl (idxS (f := fun x => [Value.string x.p.nm, Value.int .i64 x.p.w, Value.int .i64 x.p.h, Value.slice x.A x.p.s.length x.c]) (fun _ => rfl) hlt)) rfl (.inl ⟨rfl, rfl⟩) ?_
 | refine S_call rfl obQ he (fun W hW => hg l[k] (List.getElem_mem hlt) W hW.below) ?_
 | refine S_append rfl obQ rfl rfl rfl ⟨by decide, rfl⟩ rfl ⟨rfl, rfl, rfl, rfl⟩ [Value.int .i64 (g l[k])] ⟨by decide, rfl⟩ (by simp [Value.oneCell']) (fun w hw => by first | exact hw.src (i := 0) rfl rfl | exact hw.src (i := 1) rfl rfl | exact hw.src (i := 2) rfl rfl | exact hw.src (i := 3) rfl rfl | exact hw.src (i := 4) rfl rfl | exact hw.src (i := 5) rfl rfl | exact hw.src (i := 6) rfl rfl | exact hw.src (i := 7) rfl rfl | exact hw.src (i := 8) rfl rfl) (by unfold maxLen; dsimp only; omega) (fun gb cap' => ⟨_, rfl, ?_⟩)
 | refine S_nil ?_
 | refine S_run rfl rfl obQ obQ ?_
 | refine S_box (fun b => ⟨_, _, rfl, obQ, ?_⟩)
 | refine S_slice (fun b => ⟨_, _, rfl, obQ, ?_⟩)
     )
 | (refine G_id ?_; first
 | refine G_loop (k + 1, some ⟨gb, 0, none⟩, cap') (by show k + 1 ≤ _; omega) (by show l.length - (k + 1) < l.length - k; omega) ⟨⟨_, rfl, obQ⟩, ⟨_, rfl⟩, (by dsimp only; rw [hmt]), pstQ⟩
 | refine G_then ?_
 | refine G_block ?_
     )
     )
  · obtain rfl : k = l.length := by omega
    repeat' (first
 | (refine C_id ?_; first
 | refine C_seq ?_
 | refine C_region rfl ?_
 | refine C_exit ?_
 | refine C_ret0 ?_
 | (refine C_cond rfl obQ (fun h => ?_) (fun h => ?_) <;> (try simp only [Bool.or_eq_true, Bool.and_eq_true, Bool.or_eq_false_iff, Bool.and_eq_false_iff, decide_eq_true_eq, decide_eq_false_iff_not, beq_iff_eq, bne_iff_ne, beq_eq_false_iff_ne, bne_eq_false_iff_eq, ne_eq, Decidable.not_not, List.cons.injEq, and_true, Bool.not_eq_true', Bool.not_eq_false', Int.not_lt, Int.not_le] at h) <;> (try (exfalso; omega)))
     )
 | (refine S_id ?_; first
 | refine S_nil ?_
 | refine S_run rfl rfl obQ obQ ?_
     )
 | (refine G_id ?_; first
 | refine G_then ?_
 | refine G_blockX ?_
 | refine G_thenX ?_
 | refine G_ret rfl obQ (fun w2 hw => ⟨_, rfl, hw.below, HW.rowSl (i := 0) hw rfl rfl rfl (by rw [List.take_length])⟩)
     )
     )

set_option maxHeartbeats 1000000 in
/-- colour.checkSequence -/
theorem checkSequence_c (A : Option Addr) (c : Nat) (l : List PV') (hl : l.length ≤ 1000000) (hs : ∀ x ∈ l, x.p.s.length ≤ 1000000) (w : World) (hr : Rd w A (l.flatMap pvC)) (hrs : ∀ x ∈ l, Rd w x.A (x.p.s.map (.float .f32))) : Calls Tryz.prog 149 #[.slice A l.length c] w fun r w' => r = .returned (.int .i64 (sqE l)) ∧ Below w.heap.size w w' := by
  refine calls_of (args := [.slice A l.length c]) T_ok Tryz.func149 rfl Tryz.ntmps149 (Nat.le_of_ble_eq_true rfl) rfl ?_
  repeat' (first
 | (refine C_id ?_; first
 | refine C_seq ?_
 | refine C_region rfl ?_
 | refine C_block ?_
 | refine C_skip ?_
 | refine C_ret0 ?_
 | (refine C_cond rfl obQ (fun h => ?_) (fun h => ?_) <;> (try simp only [Bool.or_eq_true, Bool.and_eq_true, Bool.or_eq_false_iff, Bool.and_eq_false_iff, decide_eq_true_eq, decide_eq_false_iff_not, beq_iff_eq, bne_iff_ne, beq_eq_false_iff_ne, bne_eq_false_iff_eq, ne_eq, Decidable.not_not, List.cons.injEq, and_true, Bool.not_eq_true', Bool.not_eq_false', Int.not_lt, Int.not_le] at h))
 )
 | (refine S_id ?_; first
 | refine S_nil ?_
 | refine S_run rfl rfl obQ obQ ?_
 )
 | (refine G_id ?_; first
 | refine G_then ?_
 | refine G_thenR ?_
 | refine G_ret rfl obQ (fun w hw => ⟨?_, hw.below⟩)
 )
 )
  · exact rI (sqE_1 (by omega)).symm
  refine C_loopS (fun k : Nat => ⟨[(11, .s (.v (.int .i64 k))), (10, .s (.v (.int .i64 l.length))), (9, .s (.v (.slice A l.length c))), (0, .s (.v (.slice A l.length c)))], [], []⟩) (fun k => k ≤ l.length ∧ sqE l = firstL (((List.range l.length).map fun k => firstL (sqL l k)).drop k)) (fun k => l.length - k) 0 ⟨Nat.zero_le _, sqE_2 (by omega)⟩ ?_ (fun k hk => ?_)
  · exact ⟨⟨_, rfl, obQ⟩, ⟨_, rfl⟩, rfl, pstQ⟩
  by_cases hlt : k < l.length
  · obtain ⟨ad, rfl⟩ := hr.some (by rw [pv_len]; omega)
    have hfd := range_drop (f := fun k => firstL (sqL l k)) hlt
    repeat' (first
 | (refine C_id ?_; first
 | refine C_seq ?_
 | refine C_region rfl ?_
 | refine C_block ?_
 | refine C_skip ?_
 | refine C_ret0 ?_
 | refine C_drawT (id := 6) 19 rfl mixed (by kernel_rfl) rfl rfl ?_
 | (refine C_cond rfl obQ (fun h => ?_) (fun h => ?_) <;> (try simp only [Bool.or_eq_true, Bool.and_eq_true, Bool.or_eq_false_iff, Bool.and_eq_false_iff, decide_eq_true_eq, decide_eq_false_iff_not, beq_iff_eq, bne_iff_ne, beq_eq_false_iff_ne, bne_eq_false_iff_eq, ne_eq, Decidable.not_not, List.cons.injEq, and_true, Bool.not_eq_true', Bool.not_eq_false', Int.not_lt, Int.not_le] at h) <;> (try (exfalso; omega)))
     )
 | (refine S_id ?_; first
 | refine S_load rfl obQ rfl [.string (gQ l k).p.nm, .int .i64 (gQ l k).p.w, .int .i64 (gQ l k).p.h, .slice (gQ l k).A (gQ l k).p.s.length (gQ l k).c] (.past _ memQ _ _ hr.toS _ _ rfl rfl (gQ_idx hlt)) rfl (.inl ⟨rfl, rfl⟩) ?_
 | refine S_nil ?_
 | refine S_run rfl rfl obQ obQ ?_
 | refine S_box (fun b => ⟨_, _, rfl, obQ, ?_⟩)
 | refine S_slice (fun b => ⟨_, _, rfl, obQ, ?_⟩)
 | refine S_call (f := 111) rfl obQ (by kernel_rfl) (fun w hw => cfirst_c _ _ (sqL l k) (by simp [sqL]) w (.inr ⟨_, rfl, hw.src (i := 1) rfl rfl⟩)) ?_
     )
 | (refine D_id ?_; first
 | refine D_load rfl obQ rfl [.int .i64 (gQ l 0).p.w] (.past _ memQ _ _ hr.toS _ _ rfl (add_of_add _ _ _) (gQ_f (z := 0) (k := 0) (by omega) (by omega) 1 rfl)) rfl (.inr ⟨rfl, rfl⟩) ?_
 | refine D_loadG rfl rfl (fun hg => obQ) rfl [.int .i64 (gQ l 0).p.h] (fun hg => .past _ memQ _ _ hr.toS _ _ rfl (add_of_add _ _ _) (gQ_f (z := 0) (k := 0) (by omega) (by omega) 2 rfl)) rfl (.inr ⟨rfl, rfl⟩) ?_
 | refine D_tail ?_
 | refine D_run rfl rfl obQ obQ ?_
 | refine D_call (f := 137) rfl obQ (by kernel_rfl) (fun w hw => checkPicture_c (gQ l k).p (gQ l k).A (gQ l k).c (hs _ (gQ_mem hlt)) w (hw.rdm (hrs _ (gQ_mem hlt)).toS memQ)) ?_
 | refine D_call (f := 121) rfl obQ (by kernel_rfl) (fun w hw => cwhen_c _ _ w) ?_
     )
 | (refine G_id ?_; first
 | refine G_loop (k + 1) ?_ (by omega) ⟨⟨_, rfl, obQ⟩, ⟨_, rfl⟩, rfl, pstQ⟩
 | refine G_then ?_
 | refine G_block ?_
 | refine G_blockR ?_
 | refine G_thenR ?_
 | refine G_ret rfl obQ (fun w hw => ⟨?_, hw.below⟩)
     )
     )
    · have h' : ¬ firstL (sqL l k) = 0 := h
      exact rI (by rw [hk.2, hfd, if_neg h'])
    · have h' : firstL (sqL l k) = 0 := h
      exact ⟨by omega, by rw [hk.2, hfd, if_pos h']⟩
  · obtain rfl : k = l.length := by omega
    repeat' (first
 | (refine C_id ?_; first
 | refine C_seq ?_
 | refine C_region rfl ?_
 | refine C_exit ?_
 | refine C_ret0 ?_
 | (refine C_cond rfl obQ (fun h => ?_) (fun h => ?_) <;> (try simp only [Bool.or_eq_true, Bool.and_eq_true, Bool.or_eq_false_iff, Bool.and_eq_false_iff, decide_eq_true_eq, decide_eq_false_iff_not, beq_iff_eq, bne_iff_ne, beq_eq_false_iff_ne, bne_eq_false_iff_eq, ne_eq, Decidable.not_not, List.cons.injEq, and_true, Bool.not_eq_true', Bool.not_eq_false', Int.not_lt, Int.not_le] at h) <;> (try (exfalso; omega)))
     )
 | (refine S_id ?_; first
 | refine S_nil ?_
 | refine S_run rfl rfl obQ obQ ?_
     )
 | (refine G_id ?_; first
 | refine G_then ?_
 | refine G_blockX ?_
 | refine G_thenX ?_
 | refine G_ret rfl obQ (fun w hw => ⟨?_, hw.below⟩)
     )
     )
    exact rI (by rw [hk.2, range_end])

set_option maxHeartbeats 400000 in
/-- colour.checkStep -/
theorem checkStep_c (st : Nat) (w : World) : Calls Tryz.prog 150 #[.float .f32 st] w fun r w' => r = .returned (.int .i64 (stE st)) ∧ Below w.heap.size w w' := by
  refine calls_of (args := [.float .f32 st]) T_ok Tryz.func150 rfl Tryz.ntmps150 (Nat.le_of_ble_eq_true rfl) rfl ?_
  repeat' (first
 | (refine C_id ?_; first
 | refine C_seq ?_
 | refine C_region rfl ?_
 | refine C_ret0 ?_
 )
 | (refine S_id ?_; first
 | refine S_pure (binX_pure rfl obQ (fun w => fl_lt .f32 _ _ _ _ _ w)) ?_
 | refine S_nil ?_
 | refine S_run rfl rfl obQ obQ ?_
 | refine S_slice (fun b => ⟨_, _, rfl, obQ, ?_⟩)
 | refine S_call (f := 179) rfl obQ (by kernel_rfl) (fun w hw => pcheckSample_c st w) ?_
 | refine S_call (f := 121) rfl obQ (by kernel_rfl) (fun w hw => cwhen_c _ _ w) ?_
 | refine S_call (f := 111) rfl obQ (by kernel_rfl) (fun w hw => cfirst_c _ _ [smpE st, wh (FloatKind.f32.format.order st 0 == some .lt) 3] (by simp) w (.inr ⟨_, rfl, hw.src (i := 0) rfl rfl⟩)) ?_
 )
 | (refine G_id ?_; first
 | refine G_then ?_
 | refine G_ret rfl obQ (fun w hw => ⟨?_, hw.below⟩)
 )
 )
  rfl

end Go.Proofs.YtdbffbcobghbeaaGreatDoor
