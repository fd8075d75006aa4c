/- Three pictures of one size; their places, as an iterator: the program. -/
import Derived.Test.YtedlaominconaaaDoorColour16
import Derived.Test.YtedlaominconaaaDoorColour11
namespace Go.Proofs.YtedlaominconaaaDoor
open Go.E Go.RowKit Go.Fl
attribute [local irreducible] G C S D Calls
set_option maxRecDepth 100000
set_option linter.unusedSimpArgs false
set_option linter.unusedVariables false

def arrN (P : Program) (t : TypeId) (n : Nat) : Bool :=
  (match P.underlying t with | some (.array m e) => Nat.beq m n && (match P.underlying e with | some (.int .i64) => (P.info? e).isSome && Nat.beq (P.cellsOf e) 1 | _ => false) | _ => false) && !(P.eqGuardType P.depth t)
theorem ne_arr2 {P : Program} {t : TypeId} (h : arrN P t 2 = true) {a b a' b' : Int} (x y : Operand) (w : World) :
    (do eqGuard .neq t x y (.agg #[.int .i64 a, .int .i64 b]) (.agg #[.int .i64 a', .int .i64 b']); binOp .neq t (.agg #[.int .i64 a, .int .i64 b]) (.agg #[.int .i64 a', .int .i64 b']) : Sem Value).run P w = .ok (.bool (!(decide (a = a') && decide (b = b')))) w := by
  simp only [arrN, Bool.and_eq_true, Bool.not_eq_true'] at h
  obtain ⟨h1, h3⟩ := h
  split at h1
  · rename_i m e hu
    simp only [Bool.and_eq_true] at h1
    obtain ⟨h0, h1⟩ := h1
    have hm := Nat.eq_of_beq_eq_true h0
    subst hm
    split at h1
    · rename_i he
      simp only [Bool.and_eq_true, Option.isSome_iff_exists] at h1
      obtain ⟨⟨i, hi⟩, h1⟩ := h1
      have hs := Nat.eq_of_beq_eq_true h1
      simp only [Sem.run_bind, run_eqGuard_agg w .neq t x y _ _ h3, Result.andThen_ok, run_neq_struct]
      rw [show (10000 : Nat) = 9999 + 1 from rfl, run_equalIn_array w 9999 _ _ hu hi]
      simp [Op.eqItems, List.range, List.range.loop, hs, part, isAgg, run_underlying he, run_equalIn_int w 9998 e .i64 .i64 _ _ he, Sem.run_bind, Result.andThen_ok]
      by_cases h1 : a = a' <;> by_cases h2 : b = b' <;> simp [h1, h2]
    · cases h1
  · cases h1
/-- A picture with its slice. -/
structure PV' where
  p : Pic
  A : Option Addr
  c : Nat
def th1 (x y z : Pic) : Int := firstL [picE x, picE y, picE z]
def szB (x y z : Pic) : Bool := !(decide (x.w = y.w) && decide (x.h = y.h)) || !(decide (x.w = z.w) && decide (x.h = z.h))
/-- The first error of three pictures. -/
def thE (x y z : Pic) : Int := if th1 x y z = 0 then wh (szB x y z) 2 else th1 x y z
theorem thE_1 {x y z : Pic} (h : ¬ th1 x y z = 0) : thE x y z = th1 x y z := if_neg h
theorem thE_2 {x y z : Pic} (h : th1 x y z = 0) : thE x y z = wh (szB x y z) 2 := if_pos h
structure ThOk (x y z : Pic) : Prop where
  px : PicOk x
  py : PicOk y
  pz : PicOk z
  ww : x.w = y.w ∧ x.w = z.w
  hh : x.h = y.h ∧ x.h = z.h
theorem th_ok {x y z : Pic} : thE x y z = 0 ↔ ThOk x y z := by
  unfold thE th1
  constructor
  · intro h
    split at h
    · rename_i h1
      rw [firstL_zero] at h1
      simp only [List.mem_cons, List.mem_nil_iff, or_false, forall_eq_or_imp, forall_eq, pic_ok] at h1
      rw [wh_zero (by omega)] at h
      simp only [szB, Bool.or_eq_false_iff, Bool.not_eq_false', Bool.and_eq_true, decide_eq_true_eq] at h
      exact ⟨h1.1, h1.2.1, h1.2.2, ⟨h.1.1, h.2.1⟩, ⟨h.1.2, h.2.2⟩⟩
    · contradiction
  · intro h
    rw [if_pos (by rw [firstL_zero]; simp only [List.mem_cons, List.mem_nil_iff, or_false, forall_eq_or_imp, forall_eq, pic_ok]; exact ⟨h.px, h.py, h.pz⟩), wh_zero (by omega)]
    simp only [szB, Bool.or_eq_false_iff, Bool.not_eq_false', Bool.and_eq_true, decide_eq_true_eq]
    exact ⟨⟨h.ww.1, h.hh.1⟩, ⟨h.ww.2, h.hh.2⟩⟩
theorem ThOk.len {x y z : Pic} (h : ThOk x y z) : x.s.length = y.s.length ∧ x.s.length = z.s.length := by
  have h1 := h.px.n
  have h2 := h.py.n
  have h3 := h.pz.n
  rw [← h.ww.1, ← h.hh.1] at h2
  rw [← h.ww.2, ← h.hh.2] at h3
  omega

set_option maxHeartbeats 400000 in
/-- colour.checkThree$1 -/
theorem sizeOf1_c (p : Pic) (A : Option Addr) (c : Nat) (w : World) : Calls Tryd.prog 57 #[.agg #[.string p.nm, .int .i64 p.w, .int .i64 p.h, .slice A p.s.length c]] w fun r w' => r = .returned (.agg #[.int .i64 p.w, .int .i64 p.h]) ∧ Below w.heap.size w w' := by
  refine calls_of (args := [.agg #[.string p.nm, .int .i64 p.w, .int .i64 p.h, .slice A p.s.length c]]) T_ok Tryd.func57 rfl Tryd.ntmps57 (Nat.le_of_ble_eq_true rfl) rfl ?_
  repeat' (first
 | (refine C_id ?_; first
 | refine C_seq ?_
 | refine C_region rfl ?_
 | refine C_block ?_
 | refine C_skip ?_
 | refine C_ret0 ?_
 | (refine C_cond rfl obQ (fun h => ?_) (fun h => ?_) <;> (try simp only [Bool.or_eq_true, Bool.and_eq_true, Bool.or_eq_false_iff, Bool.and_eq_false_iff, decide_eq_true_eq, decide_eq_false_iff_not, beq_iff_eq, bne_iff_ne, beq_eq_false_iff_ne, bne_eq_false_iff_eq, ne_eq, Decidable.not_not, List.cons.injEq, and_true, Bool.not_eq_true', Bool.not_eq_false', Int.not_lt, Int.not_le] at h))
 )
 | (refine S_id ?_; first
 | refine S_nil ?_
 | refine S_run rfl rfl obQ obQ ?_
 | refine S_box (fun b => ⟨_, _, rfl, obQ, ?_⟩)
 )
 | (refine G_id ?_; first
 | refine G_then ?_
 | refine G_thenR ?_
 | refine G_ret rfl obQ (fun w hw => ⟨?_, hw.below⟩)
 )
 )
  rfl

set_option maxHeartbeats 400000 in
/-- colour.mapped[genlock/picture.Picture,genlock/api.Errno] -/
theorem mappedPE_c (q : FuncId) {g : PV' → Int} (A : Option Addr) (c : Nat) (l : List (PV')) (hl : l.length ≤ 1000000) (he : entB Tryd.prog q = true) (w : World) (hr : Rd w A (l.flatMap fun x => [Value.string x.p.nm, Value.int .i64 x.p.w, Value.int .i64 x.p.h, Value.slice x.A x.p.s.length x.c])) (hg : ∀ x ∈ l, ∀ W, Below w.heap.size w W → Calls Tryd.prog q #[Value.agg #[Value.string x.p.nm, Value.int .i64 x.p.w, Value.int .i64 x.p.h, Value.slice x.A x.p.s.length x.c]] W fun e w' => e = .returned (Value.int .i64 (g x)) ∧ Below W.heap.size W w') : Calls Tryd.prog 56 #[.slice A l.length c, .func (.func q) #[] #[]] w fun r w' => ∃ v, r = .returned v ∧ Below w.heap.size w w' ∧ Sl w w' v l.length (l.map fun x => Value.int .i64 (g x)) := by
  refine calls_of (args := [.slice A l.length c, .func (.func q) #[] #[]]) T_ok Tryd.func56 rfl Tryd.ntmps56 (Nat.le_of_ble_eq_true rfl) rfl ?_
  repeat' (first
 | (refine C_id ?_; first
 | refine C_seq ?_
 | refine C_region rfl ?_
 | refine C_block ?_
 )
 | (refine S_id ?_; first
 | refine S_nil ?_
 | refine S_run rfl rfl obQ obQ ?_
 | refine S_box (fun b => ⟨_, _, rfl, obQ, ?_⟩)
 )
 | (refine G_id ?_; first
 | refine G_then ?_
 )
 )
  refine C_row0 5 39 1 rfl ?_
  refine C_loopS (fun i : Nat × Option Addr × Nat => ⟨[(5, .s (.r i.2.1 i.1 i.2.2 0)), (8, .s (.v (.slice A l.length c))), (9, .s (.v (.int .i64 l.length))), (10, .s (.v (.int .i64 i.1))), (1, .s (.v (.func (.func q) #[] #[])))], [], [⟨39, 1, i.1, (l.take i.1).map fun x => Value.int .i64 (g x), .slice i.2.1 i.1 i.2.2⟩]⟩) (fun i => i.1 ≤ l.length) (fun i => l.length - i.1) (0, none, 0) (Nat.zero_le _) ?_ (fun i hi => ?_)
  · exact ⟨⟨_, rfl, obQ⟩, ⟨_, rfl⟩, rfl, pstQ⟩
  obtain ⟨k, A', c'⟩ := i
  have hi' : k ≤ l.length := hi
  dsimp only
  by_cases hlt : k < l.length
  · obtain ⟨ad, rfl⟩ := hr.some (by simp [flat_len (s := 4)]; omega)
    have hmt := map_take_succ (f := fun x => Value.int .i64 (g x)) hlt
    repeat' (first
 | (refine C_id ?_; first
 | refine C_seq ?_
 | refine C_region rfl ?_
 | refine C_block ?_
 | refine C_skip ?_
 | (refine C_cond rfl obQ (fun h => ?_) (fun h => ?_) <;> (try simp only [Bool.or_eq_true, Bool.and_eq_true, Bool.or_eq_false_iff, Bool.and_eq_false_iff, decide_eq_true_eq, decide_eq_false_iff_not, beq_iff_eq, bne_iff_ne, beq_eq_false_iff_ne, bne_eq_false_iff_eq, ne_eq, Decidable.not_not, List.cons.injEq, and_true, Bool.not_eq_true', Bool.not_eq_false', Int.not_lt, Int.not_le] at h) <;> (try (exfalso; omega)))
     )
 | (refine S_id ?_; first
 | refine S_load rfl obQ rfl [Value.string l[k].p.nm, Value.int .i64 l[k].p.w, Value.int .i64 l[k].p.h, Value.slice l[k].A l[k].p.s.length l[k].c] (.past _ memQ _ _ hr.toS _ _ rfl rfl (idxS (f := fun x => [Value.string x.p.nm, Value.int .i64 x.p.w, Value.int .i64 x.p.h, Value.slice x.A x.p.s.length x.c]) (fun _ => rfl) hlt)) rfl (.inl ⟨rfl, rfl⟩) ?_
 | refine S_call rfl obQ he (fun W hW => hg l[k] (List.getElem_mem hlt) W hW.below) ?_
 | refine S_append rfl obQ rfl rfl rfl ⟨by decide, rfl⟩ rfl ⟨rfl, rfl, rfl, rfl⟩ [Value.int .i64 (g l[k])] ⟨by decide, rfl⟩ (by simp [Value.oneCell']) (fun w hw => by first | exact hw.src (i := 0) rfl rfl | exact hw.src (i := 1) rfl rfl | exact hw.src (i := 2) rfl rfl | exact hw.src (i := 3) rfl rfl | exact hw.src (i := 4) rfl rfl | exact hw.src (i := 5) rfl rfl | exact hw.src (i := 6) rfl rfl | exact hw.src (i := 7) rfl rfl | exact hw.src (i := 8) rfl rfl) (by unfold maxLen; dsimp only; omega) (fun gb cap' => ⟨_, rfl, ?_⟩)
 | refine S_nil ?_
 | refine S_run rfl rfl obQ obQ ?_
 | refine S_box (fun b => ⟨_, _, rfl, obQ, ?_⟩)
 | refine S_slice (fun b => ⟨_, _, rfl, obQ, ?_⟩)
     )
 | (refine G_id ?_; first
 | refine G_loop (k + 1, some ⟨gb, 0, none⟩, cap') (by show k + 1 ≤ _; omega) (by show l.length - (k + 1) < l.length - k; omega) ⟨⟨_, rfl, obQ⟩, ⟨_, rfl⟩, (by dsimp only; rw [hmt]), pstQ⟩
 | refine G_then ?_
 | refine G_block ?_
     )
     )
  · obtain rfl : k = l.length := by omega
    repeat' (first
 | (refine C_id ?_; first
 | refine C_seq ?_
 | refine C_region rfl ?_
 | refine C_exit ?_
 | refine C_ret0 ?_
 | (refine C_cond rfl obQ (fun h => ?_) (fun h => ?_) <;> (try simp only [Bool.or_eq_true, Bool.and_eq_true, Bool.or_eq_false_iff, Bool.and_eq_false_iff, decide_eq_true_eq, decide_eq_false_iff_not, beq_iff_eq, bne_iff_ne, beq_eq_false_iff_ne, bne_eq_false_iff_eq, ne_eq, Decidable.not_not, List.cons.injEq, and_true, Bool.not_eq_true', Bool.not_eq_false', Int.not_lt, Int.not_le] at h) <;> (try (exfalso; omega)))
     )
 | (refine S_id ?_; first
 | refine S_nil ?_
 | refine S_run rfl rfl obQ obQ ?_
     )
 | (refine G_id ?_; first
 | refine G_then ?_
 | refine G_blockX ?_
 | refine G_thenX ?_
 | refine G_ret rfl obQ (fun w2 hw => ⟨_, rfl, hw.below, HW.rowSl (i := 0) hw rfl rfl rfl (by rw [List.take_length])⟩)
     )
     )


theorem three_c {x y z : Pic} {Ax Ay Az : Option Addr} {cx cy cz : Nat} (hsx : x.s.length ≤ 1000000) (hsy : y.s.length ≤ 1000000) (hsz : z.s.length ≤ 1000000) {w : World} (hrx : Rd w Ax (x.s.map (.float .f32))) (hry : Rd w Ay (y.s.map (.float .f32))) (hrz : Rd w Az (z.s.map (.float .f32))) :
    ∀ v ∈ ([⟨x, Ax, cx⟩, ⟨y, Ay, cy⟩, ⟨z, Az, cz⟩] : List PV'), ∀ W, Below w.heap.size w W → Calls Tryd.prog 44 #[.agg #[.string v.p.nm, .int .i64 v.p.w, .int .i64 v.p.h, .slice v.A v.p.s.length v.c]] W fun e w' => e = .returned (.int .i64 (picE v.p)) ∧ Below W.heap.size W w' := by
  intro v hv W hW
  simp only [List.mem_cons, List.mem_nil_iff, or_false] at hv
  rcases hv with rfl | rfl | rfl
  · exact checkPicture_c x Ax cx hsx W (hrx.below hW)
  · exact checkPicture_c y Ay cy hsy W (hry.below hW)
  · exact checkPicture_c z Az cz hsz W (hrz.below hW)

set_option maxHeartbeats 400000 in
/-- colour.checkThree -/
theorem checkThree_c (x y z : Pic) (Ax Ay Az : Option Addr) (cx cy cz : Nat) (hsx : x.s.length ≤ 1000000) (hsy : y.s.length ≤ 1000000) (hsz : z.s.length ≤ 1000000) (w : World) (hrx : Rd w Ax (x.s.map (.float .f32))) (hry : Rd w Ay (y.s.map (.float .f32))) (hrz : Rd w Az (z.s.map (.float .f32))) : Calls Tryd.prog 29 #[.agg #[.string x.nm, .int .i64 x.w, .int .i64 x.h, .slice Ax x.s.length cx, .string y.nm, .int .i64 y.w, .int .i64 y.h, .slice Ay y.s.length cy, .string z.nm, .int .i64 z.w, .int .i64 z.h, .slice Az z.s.length cz]] w fun r w' => r = .returned (.int .i64 (thE x y z)) ∧ Below w.heap.size w w' := by
  refine calls_of (args := [.agg #[.string x.nm, .int .i64 x.w, .int .i64 x.h, .slice Ax x.s.length cx, .string y.nm, .int .i64 y.w, .int .i64 y.h, .slice Ay y.s.length cy, .string z.nm, .int .i64 z.w, .int .i64 z.h, .slice Az z.s.length cz]]) T_ok Tryd.func29 rfl Tryd.ntmps29 (Nat.le_of_ble_eq_true rfl) rfl ?_
  repeat' (first
 | (refine C_id ?_; first
 | refine C_seq ?_
 | refine C_region rfl ?_
 | refine C_block ?_
 | refine C_skip ?_
 | refine C_exit ?_
 | refine C_ret0 ?_
 | refine C_draw (id := 5) rfl mixed (by kernel_rfl) ?_
 | refine C_condT rfl obQ ?_
 | refine C_condF rfl obQ ?_
 | (refine C_cond rfl obQ (fun h => ?_) (fun h => ?_) <;> (try simp only [Bool.or_eq_true, Bool.and_eq_true, Bool.or_eq_false_iff, Bool.and_eq_false_iff, decide_eq_true_eq, decide_eq_false_iff_not, beq_iff_eq, bne_iff_ne, beq_eq_false_iff_ne, bne_eq_false_iff_eq, ne_eq, Decidable.not_not, List.cons.injEq, and_true, Bool.not_eq_true', Bool.not_eq_false', Int.not_lt, Int.not_le] at h))
 )
 | (refine S_id ?_; first
 | refine S_pure (sliceX_pure rfl obQ (fun w => sl_arr Tryd.underlying54 (by kernel_rfl) _ w)) ?_
 | (refine S_callM (f := 56) rfl obQ (by kernel_rfl) (fun w2 hw2 => mappedPE_c 44 (g := fun v => picE v.p) _ 3 [⟨x, Ax, cx⟩, ⟨y, Ay, cy⟩, ⟨z, Az, cz⟩] (by simp) (by kernel_rfl) w2 (.inr ⟨_, rfl, hw2.src (i := 0) rfl rfl⟩) (three_c hsx hsy hsz (hw2.rdm hrx.toS memQ) (hw2.rdm hry.toS memQ) (hw2.rdm hrz.toS memQ))) (fun w1M w2M vM hw1M hbM hRM => ?_); obtain ⟨AM, cM, rfl, hSM⟩ := hRM)
 | refine S_pure (binX_pure rfl obQ (fun w => ne_arr2 (by kernel_rfl) _ _ w)) ?_
 | refine S_nil ?_
 | refine S_run rfl rfl obQ obQ ?_
 | refine S_box (fun b => ⟨_, _, rfl, obQ, ?_⟩)
 | refine S_call (f := 21) rfl obQ (by kernel_rfl) (fun w hw => cfirst_c _ _ [picE x, picE y, picE z] (by simp) w (hw.rdm hSM memQ)) ?_
 | refine S_call (f := 57) rfl obQ (by kernel_rfl) (fun w hw => sizeOf1_c x Ax cx w) ?_
 | refine S_callG (f := 57) rfl rfl (fun hg => obQ) (by kernel_rfl) (fun hg w hw => sizeOf1_c x Ax cx w) ?_
 | refine S_call (f := 57) rfl obQ (by kernel_rfl) (fun w hw => sizeOf1_c y Ay cy w) ?_
 | refine S_callG (f := 57) rfl rfl (fun hg => obQ) (by kernel_rfl) (fun hg w hw => sizeOf1_c y Ay cy w) ?_
 | refine S_call (f := 57) rfl obQ (by kernel_rfl) (fun w hw => sizeOf1_c z Az cz w) ?_
 | refine S_callG (f := 57) rfl rfl (fun hg => obQ) (by kernel_rfl) (fun hg w hw => sizeOf1_c z Az cz w) ?_
 | refine S_call (f := 33) rfl obQ (by kernel_rfl) (fun w hw => cwhen_c _ _ w) ?_
 )
 | (refine D_id ?_; first
 | refine D_pure (binX_pure rfl obQ (fun w => ne_arr2 (by kernel_rfl) _ _ w)) ?_
 | refine D_binG rfl rfl (fun hg => obQ) (fun hg w => ne_arr2 (by kernel_rfl) _ _ w) ?_
 | refine D_nil ?_
 | refine D_tail ?_
 | refine D_run rfl rfl obQ obQ ?_
 | refine D_call (f := 21) rfl obQ (by kernel_rfl) (fun w hw => cfirst_c _ _ [picE x, picE y, picE z] (by simp) w (hw.rdm hSM memQ)) ?_
 | refine D_call (f := 57) rfl obQ (by kernel_rfl) (fun w hw => sizeOf1_c x Ax cx w) ?_
 | refine D_callG (f := 57) rfl rfl (fun hg => obQ) (by kernel_rfl) (fun hg w hw => sizeOf1_c x Ax cx w) ?_
 | refine D_call (f := 57) rfl obQ (by kernel_rfl) (fun w hw => sizeOf1_c y Ay cy w) ?_
 | refine D_callG (f := 57) rfl rfl (fun hg => obQ) (by kernel_rfl) (fun hg w hw => sizeOf1_c y Ay cy w) ?_
 | refine D_call (f := 57) rfl obQ (by kernel_rfl) (fun w hw => sizeOf1_c z Az cz w) ?_
 | refine D_callG (f := 57) rfl rfl (fun hg => obQ) (by kernel_rfl) (fun hg w hw => sizeOf1_c z Az cz w) ?_
 | refine D_call (f := 33) rfl obQ (by kernel_rfl) (fun w hw => cwhen_c _ _ w) ?_
 )
 | (refine G_id ?_; first
 | refine G_then ?_
 | refine G_block ?_
 | refine G_blockX ?_
 | refine G_blockN rfl ?_
 | refine G_blockR ?_
 | refine G_thenR ?_
 | refine G_thenX ?_
 | refine G_ret rfl obQ (fun w hw => ⟨?_, hw.below⟩)
 )
 )
  · exact rI (thE_1 h).symm
  · exact rI (thE_2 h).symm

end Go.Proofs.YtedlaominconaaaDoor
