/- Gamuts: the program. -/
import Derived.Test.YtedlaominconaaaColour15
namespace Go.Proofs.Ytedlaominconaaa
open Go.E Go.RowKit Go.Fl
attribute [local irreducible] G C S D Calls
set_option maxRecDepth 100000
set_option linter.unusedSimpArgs false
set_option linter.unusedVariables false

structure Pla where
  a : Int
  b : Int
  c : Int
  m : Int
deriving DecidableEq
def plC (p : Pla) : List Value := [.int .i64 p.a, .int .i64 p.b, .int .i64 p.c, .int .i64 p.m]
def plE (p : Pla) : Int := firstL [rowE p.a p.b p.c, wi p.m (-1099511627776) 1099511627776]
/-- The first error of a gamut. -/
def gmE (g : List Pla) : Int := if 16 < g.length then 5 else firstL (g.map plE)
structure PlaOk (p : Pla) : Prop where
  a : -4096 ≤ p.a ∧ p.a ≤ 4096
  b : -4096 ≤ p.b ∧ p.b ≤ 4096
  c : -4096 ≤ p.c ∧ p.c ≤ 4096
  m : -1099511627776 ≤ p.m ∧ p.m ≤ 1099511627776
theorem plE_ok {p : Pla} : plE p = 0 ↔ PlaOk p := by
  unfold plE rowE
  rw [firstL_zero]
  simp only [List.mem_cons, List.mem_nil_iff, or_false, forall_eq_or_imp, forall_eq, wi_eq, firstL_zero, enE]
  exact ⟨fun h => ⟨h.1.1, h.1.2.1, h.1.2.2, h.2⟩, fun h => ⟨⟨h.a, h.b, h.c⟩, h.m⟩⟩
theorem gmE_ok {g : List Pla} : gmE g = 0 ↔ g.length ≤ 16 ∧ ∀ p ∈ g, PlaOk p := by
  unfold gmE
  split
  · rename_i h
    exact ⟨fun h => (by cases h), fun h' => (by omega)⟩
  · rename_i h
    rw [firstL_zero]
    simp only [List.mem_map, forall_exists_index, and_imp, forall_apply_eq_imp_iff₂, plE_ok]
    exact ⟨fun h' => ⟨by omega, h'⟩, fun h' => h'.2⟩
theorem gmE_1 {g : List Pla} (h : 16 < g.length) : gmE g = 5 := if_pos h
theorem gmE_2 {g : List Pla} (h : ¬ 16 < g.length) : gmE g = firstL (g.map plE) := if_neg h
def gPl (g : List Pla) (k : Nat) : Pla := g.getD k ⟨0, 0, 0, 0⟩
theorem gPl_at {l : List Pla} {k : Nat} (h : k < l.length) : gPl l k = l[k] := by simp [gPl, h]
theorem gPl_mem {l : List Pla} {k : Nat} (h : k < l.length) : gPl l k ∈ l := by rw [gPl_at h]; exact List.getElem_mem h
theorem gPl_idx {l : List Pla} {k : Nat} (h : k < l.length) : ∀ (j : Nat) (u : Value), (plC (gPl l k))[j]? = some u → (l.flatMap plC)[((k : Int).toNat * 4 + j)]? = some u := by
  rw [gPl_at h]
  exact idxS (f := plC) (fun _ => rfl) h
theorem pl_len (l : List Pla) : (l.flatMap plC).length = l.length * 4 := flat_len (f := plC) (s := 4) l (fun _ _ => rfl)
def offB (p : Pla) (c : Col) : Bool := decide (p.m < dotF p.a p.b p.c c.1 c.2.1 c.2.2)
/-- The index of the first plane that does not permit a colour, or -1. -/
def fbF (g : List Pla) (c : Col) : Int := match (List.range g.length).find? (fun k => offB (gPl g k) c) with
  | some k => k
  | none => -1
theorem fb_at {g : List Pla} {c : Col} {k : Nat} (hk : k < g.length) (h0 : ∀ j, j < k → offB (gPl g j) c = false) (h : offB (gPl g k) c = true) : fbF g c = k := by
  unfold fbF
  have : (List.range g.length).find? (fun k => offB (gPl g k) c) = some k := by
    rw [List.find?_range_eq_some]
    exact ⟨h, by simpa using hk, fun j hj => by simp [h0 j hj]⟩
  rw [this]
theorem fb_none {g : List Pla} {c : Col} (h0 : ∀ j, j < g.length → offB (gPl g j) c = false) : fbF g c = -1 := by
  unfold fbF
  have : (List.range g.length).find? (fun k => offB (gPl g k) c) = none := by
    rw [List.find?_range_eq_none]
    exact fun j hj => by simp [h0 j hj]
  rw [this]
def lgE (g : List Pla) (c : Col) : Int := firstL [gmE g, colE c]
theorem lgE_ok {g : List Pla} {c : Col} (h : lgE g c = 0) : gmE g = 0 ∧ ColOk c := by
  unfold lgE at h
  rw [firstL_zero] at h
  simp only [List.mem_cons, List.mem_nil_iff, or_false, forall_eq_or_imp, forall_eq, col_ok] at h
  exact h
def lgR (g : List Pla) (c : Col) : Bool × Int := if lgE g c = 0 then (decide (fbF g c < 0), 0) else (false, lgE g c)
theorem lgR_1 {g : List Pla} {c : Col} (h : ¬ lgE g c = 0) : (lgR g c).1 = false ∧ (lgR g c).2 = lgE g c := by simp [lgR, h]
theorem lgR_2 {g : List Pla} {c : Col} (h : lgE g c = 0) : (lgR g c).1 = decide (fbF g c < 0) ∧ (lgR g c).2 = 0 := by simp [lgR, h]

set_option maxHeartbeats 400000 in
/-- (genlock/colour.Plane).check -/
theorem plCheck_c (p : Pla) (w : World) : Calls Try.prog 74 #[.agg #[.int .i64 p.a, .int .i64 p.b, .int .i64 p.c, .int .i64 p.m]] w fun r w' => r = .returned (.int .i64 (plE p)) ∧ Below w.heap.size w w' := by
  refine calls_of (args := [.agg #[.int .i64 p.a, .int .i64 p.b, .int .i64 p.c, .int .i64 p.m]]) T_ok Try.func74 rfl Try.ntmps74 (Nat.le_of_ble_eq_true rfl) rfl ?_
  repeat' (first
 | (refine C_id ?_; first
 | refine C_seq ?_
 | refine C_region rfl ?_
 | refine C_ret0 ?_
 | refine C_drawV (id := 1) 6 [(0, true), (1, true), (4, true), (5, true), (2, false), (3, false)] rfl mixed (by kernel_rfl) rfl ?_
 )
 | (refine S_id ?_; first
 | (refine S_callM (f := 106) rfl obQ (by kernel_rfl) (fun w hw => mappedIE_c 107 (g := enE) _ 3 [p.a, p.b, p.c] (by simp) (by kernel_rfl) w (.inr ⟨_, rfl, fun j u hu => hw.src (i := 0) rfl rfl j u (by rcases j with _ | _ | _ | j <;> simp at hu ⊢ <;> exact hu)⟩) (fun x _ W _ => ccheckEntry7_c x W)) (fun w1M w2M vM hw1M hbM hRM => ?_); obtain ⟨AM, cM, rfl, hSM⟩ := hRM)
 | refine S_nil ?_
 | refine S_run rfl rfl obQ obQ ?_
 | refine S_box (fun b => ⟨_, _, rfl, obQ, ?_⟩)
 | refine S_slice (fun b => ⟨_, _, rfl, obQ, ?_⟩)
 | refine S_call (f := 98) rfl obQ (by kernel_rfl) (fun w hw => cwithin_c _ _ _ w) ?_
 | refine S_call (f := 31) rfl obQ (by kernel_rfl) (fun w hw => cfirst_c _ _ [enE p.a, enE p.b, enE p.c] (by simp) w (hw.rdm hSM memQ)) ?_
 | refine S_call (f := 31) rfl obQ (by kernel_rfl) (fun w hw => cfirst_c _ _ [rowE p.a p.b p.c, wi p.m (-1099511627776) 1099511627776] (by simp) w (.inr ⟨_, rfl, hw.src (i := 1) rfl rfl⟩)) ?_
 )
 | (refine V_id ?_; first
 | refine V_nil ?_
 | refine V_q rfl (Yl_pure (sliceX_pure rfl obQ (fun w => sl_arr Try.underlying30 (by kernel_rfl) _ w))) ?_
 | refine V_q rfl (Yl_step rfl obQ) ?_
 | refine V_n rfl ?_
 )
 | (refine G_id ?_; first
 | refine G_V ⟨⟨_, rfl, trivial⟩, ⟨_, rfl⟩, rfl, pstQ⟩ rfl ?_
 | refine G_then ?_
 | refine G_ret rfl obQ (fun w hw => ⟨?_, hw.below⟩)
 )
 )
  rfl

set_option maxHeartbeats 400000 in
/-- colour.mapped[genlock/colour.Plane,genlock/api.Errno] -/
theorem mappedLE_c (q : FuncId) {g : Pla → Int} (A : Option Addr) (c : Nat) (l : List (Pla)) (hl : l.length ≤ 1000000) (he : entB Try.prog q = true) (w : World) (hr : Rd w A (l.flatMap fun x => [Value.int .i64 x.a, Value.int .i64 x.b, Value.int .i64 x.c, Value.int .i64 x.m])) (hg : ∀ x ∈ l, ∀ W, Below w.heap.size w W → Calls Try.prog q #[Value.agg #[Value.int .i64 x.a, Value.int .i64 x.b, Value.int .i64 x.c, Value.int .i64 x.m]] W fun e w' => e = .returned (Value.int .i64 (g x)) ∧ Below W.heap.size W w') : Calls Try.prog 73 #[.slice A l.length c, .func (.func q) #[] #[]] w fun r w' => ∃ v, r = .returned v ∧ Below w.heap.size w w' ∧ Sl w w' v l.length (l.map fun x => Value.int .i64 (g x)) := by
  refine calls_of (args := [.slice A l.length c, .func (.func q) #[] #[]]) T_ok Try.func73 rfl Try.ntmps73 (Nat.le_of_ble_eq_true rfl) rfl ?_
  repeat' (first
 | (refine C_id ?_; first
 | refine C_seq ?_
 | refine C_region rfl ?_
 | refine C_block ?_
 )
 | (refine S_id ?_; first
 | refine S_nil ?_
 | refine S_run rfl rfl obQ obQ ?_
 | refine S_box (fun b => ⟨_, _, rfl, obQ, ?_⟩)
 )
 | (refine G_id ?_; first
 | refine G_then ?_
 )
 )
  refine C_row0 5 32 1 rfl ?_
  refine C_loopS (fun i : Nat × Option Addr × Nat => ⟨[(5, .s (.r i.2.1 i.1 i.2.2 0)), (8, .s (.v (.slice A l.length c))), (9, .s (.v (.int .i64 l.length))), (10, .s (.v (.int .i64 i.1))), (1, .s (.v (.func (.func q) #[] #[])))], [], [⟨32, 1, i.1, (l.take i.1).map fun x => Value.int .i64 (g x), .slice i.2.1 i.1 i.2.2⟩]⟩) (fun i => i.1 ≤ l.length) (fun i => l.length - i.1) (0, none, 0) (Nat.zero_le _) ?_ (fun i hi => ?_)
  · exact ⟨⟨_, rfl, obQ⟩, ⟨_, rfl⟩, rfl, pstQ⟩
  obtain ⟨k, A', c'⟩ := i
  have hi' : k ≤ l.length := hi
  dsimp only
  by_cases hlt : k < l.length
  · obtain ⟨ad, rfl⟩ := hr.some (by simp [flat_len (s := 4)]; omega)
    have hmt := map_take_succ (f := fun x => Value.int .i64 (g x)) hlt
    repeat' (first
     | (refine C_id ?_; first
     | refine C_seq ?_
     | refine C_region rfl ?_
     | refine C_block ?_
     | refine C_skip ?_
     | (refine C_cond rfl obQ (fun h => ?_) (fun h => ?_) <;> (try simp only [Bool.or_eq_true, Bool.and_eq_true, Bool.or_eq_false_iff, Bool.and_eq_false_iff, decide_eq_true_eq, decide_eq_false_iff_not, beq_iff_eq, bne_iff_ne, beq_eq_false_iff_ne, bne_eq_false_iff_eq, ne_eq, Decidable.not_not, List.cons.injEq, and_true, Bool.not_eq_true', Bool.not_eq_false', Int.not_lt, Int.not_le] at h) <;> (try (exfalso; omega)))
     )
     | (refine S_id ?_; first
     | refine S_load rfl obQ rfl [Value.int .i64 l[k].a, Value.int .i64 l[k].b, Value.int .i64 l[k].c, Value.int .i64 l[k].m] (.past _ memQ _ _ hr.toS _ _ rfl rfl (idxS (f := fun x => [Value.int .i64 x.a, Value.int .i64 x.b, Value.int .i64 x.c, Value.int .i64 x.m]) (fun _ => rfl) hlt)) rfl (.inl ⟨rfl, rfl⟩) ?_
     | refine S_call rfl obQ he (fun W hW => hg l[k] (List.getElem_mem hlt) W hW.below) ?_
     | refine S_append rfl obQ rfl rfl rfl ⟨by decide, rfl⟩ rfl ⟨rfl, rfl, rfl, rfl⟩ [Value.int .i64 (g l[k])] ⟨by decide, rfl⟩ (by simp [Value.oneCell']) (fun w hw => by first | exact hw.src (i := 0) rfl rfl | exact hw.src (i := 1) rfl rfl | exact hw.src (i := 2) rfl rfl | exact hw.src (i := 3) rfl rfl | exact hw.src (i := 4) rfl rfl | exact hw.src (i := 5) rfl rfl | exact hw.src (i := 6) rfl rfl | exact hw.src (i := 7) rfl rfl | exact hw.src (i := 8) rfl rfl) (by unfold maxLen; dsimp only; omega) (fun gb cap' => ⟨_, rfl, ?_⟩)
     | refine S_nil ?_
     | refine S_run rfl rfl obQ obQ ?_
     | refine S_box (fun b => ⟨_, _, rfl, obQ, ?_⟩)
     | refine S_slice (fun b => ⟨_, _, rfl, obQ, ?_⟩)
     )
     | (refine G_id ?_; first
     | refine G_loop (k + 1, some ⟨gb, 0, none⟩, cap') (by show k + 1 ≤ _; omega) (by show l.length - (k + 1) < l.length - k; omega) ⟨⟨_, rfl, obQ⟩, ⟨_, rfl⟩, (by dsimp only; rw [hmt]), pstQ⟩
     | refine G_then ?_
     | refine G_block ?_
     )
     )
  · obtain rfl : k = l.length := by omega
    repeat' (first
     | (refine C_id ?_; first
     | refine C_seq ?_
     | refine C_region rfl ?_
     | refine C_exit ?_
     | refine C_ret0 ?_
     | (refine C_cond rfl obQ (fun h => ?_) (fun h => ?_) <;> (try simp only [Bool.or_eq_true, Bool.and_eq_true, Bool.or_eq_false_iff, Bool.and_eq_false_iff, decide_eq_true_eq, decide_eq_false_iff_not, beq_iff_eq, bne_iff_ne, beq_eq_false_iff_ne, bne_eq_false_iff_eq, ne_eq, Decidable.not_not, List.cons.injEq, and_true, Bool.not_eq_true', Bool.not_eq_false', Int.not_lt, Int.not_le] at h) <;> (try (exfalso; omega)))
     )
     | (refine S_id ?_; first
     | refine S_nil ?_
     | refine S_run rfl rfl obQ obQ ?_
     )
     | (refine G_id ?_; first
     | refine G_then ?_
     | refine G_blockX ?_
     | refine G_thenX ?_
     | refine G_ret rfl obQ (fun w2 hw => ⟨_, rfl, hw.below, HW.rowSl (i := 0) hw rfl rfl rfl (by rw [List.take_length])⟩)
     )
     )

set_option maxHeartbeats 400000 in
/-- colour.checkGamut -/
theorem checkGamut_c (A : Option Addr) (c : Nat) (g : List Pla) (hg : g.length ≤ 1000000) (w : World) (hr : Rd w A (g.flatMap plC)) : Calls Try.prog 32 #[.slice A g.length c] w fun r w' => r = .returned (.int .i64 (gmE g)) ∧ Below w.heap.size w w' := by
  refine calls_of (args := [.slice A g.length c]) T_ok Try.func32 rfl Try.ntmps32 (Nat.le_of_ble_eq_true rfl) rfl ?_
  repeat' (first
 | (refine C_id ?_; first
 | refine C_seq ?_
 | refine C_region rfl ?_
 | refine C_skip ?_
 | refine C_ret0 ?_
 | (refine C_cond rfl obQ (fun h => ?_) (fun h => ?_) <;> (try simp only [Bool.or_eq_true, Bool.and_eq_true, Bool.or_eq_false_iff, Bool.and_eq_false_iff, decide_eq_true_eq, decide_eq_false_iff_not, beq_iff_eq, bne_iff_ne, beq_eq_false_iff_ne, bne_eq_false_iff_eq, ne_eq, Decidable.not_not, List.cons.injEq, and_true, Bool.not_eq_true', Bool.not_eq_false', Int.not_lt, Int.not_le] at h))
 )
 | (refine S_id ?_; first
 | refine S_nil ?_
 | refine S_run rfl rfl obQ obQ ?_
 | refine S_call (f := 31) rfl obQ (by kernel_rfl) (fun w hw => cfirstM_c _ _ plE g hg w (hw.rdm hSM memQ)) ?_
 | (refine S_callM (f := 73) rfl obQ (by kernel_rfl) (fun w hw => mappedLE_c 74 (g := plE) A c g hg (by kernel_rfl) w (hw.rdm hr.toS memQ) (fun x _ W _ => plCheck_c x W)) (fun w1M w2M vM hw1M hbM hRM => ?_); obtain ⟨AM, cM, rfl, hSM⟩ := hRM)
 )
 | (refine G_id ?_; first
 | refine G_then ?_
 | refine G_thenR ?_
 | refine G_ret rfl obQ (fun w hw => ⟨?_, hw.below⟩)
 )
 )
  · exact rI (gmE_1 (by omega)).symm
  · exact rI (gmE_2 (by omega)).symm

set_option maxHeartbeats 400000 in
/-- colour.forbids -/
theorem forbids_c (A : Option Addr) (c : Nat) (g : List Pla) (x : Col) (hg : gmE g = 0) (hx : ColOk x) (w : World) (hr : Rd w A (g.flatMap plC)) : Calls Try.prog 35 #[.slice A g.length c, .agg #[.int .i64 x.1, .int .i64 x.2.1, .int .i64 x.2.2]] w fun r w' => r = .returned (.int .i64 (fbF g x)) ∧ Below w.heap.size w w' := by
  refine calls_of (args := [.slice A g.length c, .agg #[.int .i64 x.1, .int .i64 x.2.1, .int .i64 x.2.2]]) T_ok Try.func35 rfl Try.ntmps35 (Nat.le_of_ble_eq_true rfl) rfl ?_
  obtain ⟨hg1, hg2⟩ := gmE_ok.1 hg
  obtain ⟨hx1, hx2, hx3⟩ := hx
  repeat' (first
   | (refine C_id ?_; first
   | refine C_scope ?_
   | refine C_label ?_
   | refine C_seq ?_
   | refine C_region rfl ?_
   | refine C_block ?_
   )
   | (refine S_id ?_; first
   | refine S_nil ?_
   | refine S_run rfl rfl obQ obQ ?_
   | refine S_box (fun b => ⟨_, _, rfl, obQ, ?_⟩)
   )
   | (refine G_id ?_; first
   | refine G_then ?_
   )
   )
  obtain ⟨b3, rfl⟩ : ∃ z, z = b := ⟨b, rfl⟩
  refine C_loopS (fun k : Nat => ⟨[(10, .s (.v (.int .i64 k))), (9, .s (.v (.int .i64 g.length))), (8, .s (.v (.slice A g.length c))), (3, .s (.p b3 0 0)), (4, .s (.v (.int .i64 0))), (5, .s (.v (.int .i64 (-1))))], [⟨b3, 30, [.v (.int .i64 x.1), .v (.int .i64 x.2.1), .v (.int .i64 x.2.2)]⟩], []⟩) (fun k => k ≤ g.length ∧ ∀ j, j < k → offB (gPl g j) x = false) (fun k => g.length - k) 0 ⟨Nat.zero_le _, fun j hj => absurd hj (Nat.not_lt_zero j)⟩ ?_ (fun k hk => ?_)
  · exact ⟨⟨_, rfl, obQ⟩, ⟨_, rfl⟩, rfl, pstQ⟩
  by_cases hlt : k < g.length
  · obtain ⟨ad, rfl⟩ := hr.some (by rw [pl_len]; omega)
    have hp := hg2 _ (gPl_mem hlt)
    have ha := hp.a
    have hb := hp.b
    have hc := hp.c
    have hd := dot_bd (m := ⟨0, 0, 0, 0, 0, 0, 0, 0, 0, 1⟩) ha hb hc (x := x.1) (y := x.2.1) (z := x.2.2) (by omega) (by omega) (by omega)
    cases ho : offB (gPl g k) x
    · have ho' : ¬ (gPl g k).m < dotF (gPl g k).a (gPl g k).b (gPl g k).c x.1 x.2.1 x.2.2 := of_decide_eq_false ho
      repeat' (first
       | (refine C_id ?_; first
       | refine C_seq ?_
       | refine C_region rfl ?_
       | refine C_block ?_
       | refine C_skip ?_
       | refine C_draw (id := 5) rfl mixed (by kernel_rfl) ?_
       | (refine C_cond rfl obQ (fun h => ?_) (fun h => ?_) <;> (try simp only [Bool.or_eq_true, Bool.and_eq_true, Bool.or_eq_false_iff, Bool.and_eq_false_iff, decide_eq_true_eq, decide_eq_false_iff_not, beq_iff_eq, bne_iff_ne, beq_eq_false_iff_ne, bne_eq_false_iff_eq, ne_eq, Decidable.not_not, List.cons.injEq, and_true, Bool.not_eq_true', Bool.not_eq_false', Int.not_lt, Int.not_le] at h) <;> (try (exfalso; omega)))
       )
       | (refine S_id ?_; first
       | refine S_load rfl obQ rfl [.int .i64 (gPl g k).a, .int .i64 (gPl g k).b, .int .i64 (gPl g k).c, .int .i64 (gPl g k).m] (.past _ memQ _ _ hr.toS _ _ rfl rfl (gPl_idx hlt)) rfl (.inl ⟨rfl, rfl⟩) ?_
       | refine S_nil ?_
       | refine S_run rfl rfl obQ obQ ?_
       | refine S_box (fun b0 => ⟨_, _, rfl, obQ, ?_⟩)
       )
       | (refine D_id ?_; first
       | refine D_nil ?_
       | refine D_run rfl rfl obQ obQ ?_
       | refine D_call (f := 80) rfl obQ (by kernel_rfl) (fun w hw => dot_c _ _ _ _ _ _ (by omega) (by omega) (by omega) (by omega) (by omega) (by omega) w) ?_
       )
       | (refine G_id ?_; first
       | refine G_loop (k + 1) ⟨by omega, fun j hj => (Nat.lt_or_ge j k).elim (hk.2 j) (fun h1 => by have e : j = k := (by omega); rw [e]; exact ho)⟩ (by omega) ⟨⟨_, rfl, obQ⟩, ⟨_, rfl⟩, rfl, pstQ⟩
       | refine G_then ?_
       | refine G_block ?_
       )
       )
    · have ho' : (gPl g k).m < dotF (gPl g k).a (gPl g k).b (gPl g k).c x.1 x.2.1 x.2.2 := of_decide_eq_true ho
      rw [fb_at hlt hk.2 ho]
      repeat' (first
       | (refine C_id ?_; first
       | refine C_seq ?_
       | refine C_region rfl ?_
       | refine C_block ?_
       | refine C_skip ?_
       | refine C_exit ?_
       | refine C_ret0 ?_
       | refine C_draw (id := 5) rfl mixed (by kernel_rfl) ?_
       | (refine C_cond rfl obQ (fun h => ?_) (fun h => ?_) <;> (try simp only [Bool.or_eq_true, Bool.and_eq_true, Bool.or_eq_false_iff, Bool.and_eq_false_iff, decide_eq_true_eq, decide_eq_false_iff_not, beq_iff_eq, bne_iff_ne, beq_eq_false_iff_ne, bne_eq_false_iff_eq, ne_eq, Decidable.not_not, List.cons.injEq, and_true, Bool.not_eq_true', Bool.not_eq_false', Int.not_lt, Int.not_le] at h) <;> (try (exfalso; omega)))
       )
       | (refine S_id ?_; first
       | refine S_load rfl obQ rfl [.int .i64 (gPl g k).a, .int .i64 (gPl g k).b, .int .i64 (gPl g k).c, .int .i64 (gPl g k).m] (.past _ memQ _ _ hr.toS _ _ rfl rfl (gPl_idx hlt)) rfl (.inl ⟨rfl, rfl⟩) ?_
       | refine S_nil ?_
       | refine S_run rfl rfl obQ obQ ?_
       | refine S_box (fun b0 => ⟨_, _, rfl, obQ, ?_⟩)
       )
       | (refine D_id ?_; first
       | refine D_nil ?_
       | refine D_run rfl rfl obQ obQ ?_
       | refine D_call (f := 80) rfl obQ (by kernel_rfl) (fun w hw => dot_c _ _ _ _ _ _ (by omega) (by omega) (by omega) (by omega) (by omega) (by omega) w) ?_
       )
       | (refine G_id ?_; first
       | refine G_scopeR ?_
       | refine G_then ?_
       | refine G_blockX ?_
       | refine G_blockN rfl ?_
       | refine G_thenX ?_
       | refine G_ret rfl obQ (fun w hw => ⟨?_, hw.below⟩)
       )
       )
      all_goals rfl
  · obtain rfl : k = g.length := by omega
    rw [fb_none hk.2]
    repeat' (first
     | (refine C_id ?_; first
     | refine C_seq ?_
     | refine C_region rfl ?_
     | refine C_exit ?_
     | refine C_ret0 ?_
     | (refine C_cond rfl obQ (fun h => ?_) (fun h => ?_) <;> (try simp only [Bool.or_eq_true, Bool.and_eq_true, Bool.or_eq_false_iff, Bool.and_eq_false_iff, decide_eq_true_eq, decide_eq_false_iff_not, beq_iff_eq, bne_iff_ne, beq_eq_false_iff_ne, bne_eq_false_iff_eq, ne_eq, Decidable.not_not, List.cons.injEq, and_true, Bool.not_eq_true', Bool.not_eq_false', Int.not_lt, Int.not_le] at h) <;> (try (exfalso; omega)))
     )
     | (refine S_id ?_; first
     | refine S_nil ?_
     | refine S_run rfl rfl obQ obQ ?_
     )
     | (refine G_id ?_; first
     | refine G_scopeR ?_
     | refine G_then ?_
     | refine G_blockX ?_
     | refine G_thenX ?_
     | refine G_ret rfl obQ (fun w hw => ⟨?_, hw.below⟩)
     )
     )
    all_goals rfl

-- Legal

end Go.Proofs.Ytedlaominconaaa
