/- Violations, clipped pictures, luma: what the witness says of them, and the walk of the law. -/
import Derived.Test.YtdbffbcobghbeaaGreatDoorColour53
import Derived.Test.YtdbffbcobghbeaaGreatDoorColour13
import Derived.Test.YtdbffbcobghbeaaGreatDoorColour58
import Derived.Test.YtdbffbcobghbeaaGreatDoorColour59
import Derived.Test.YtdbffbcobghbeaaGreatDoorEngAL
import Derived.Test.YtdbffbcobghbeaaGreatDoorEngZ
import Derived.Test.YtdbffbcobghbeaaGreatDoorColour28
import Derived.Test.YtdbffbcobghbeaaGreatDoorEngAD
namespace Go.Proofs.YtdbffbcobghbeaaGreatDoor
open Go.E Go.RowKit Go.Fl
attribute [local irreducible] G C S D Calls
set_option maxRecDepth 100000
set_option linter.unusedSimpArgs false
set_option linter.unusedVariables false

set_option maxHeartbeats 400000 in
/-- genlockref02.CheckInterval -/
theorem rCheckInterval_c (lo hi : Int) (w : World) : Calls Tryz.prog 49 #[.agg #[.int .i64 lo, .int .i64 hi]] w fun r w' => r = .returned (.int .i64 (ivE lo hi)) ∧ Below w.heap.size w w' := by
  refine calls_of (args := [.agg #[.int .i64 lo, .int .i64 hi]]) T_ok Tryz.func49 rfl Tryz.ntmps49 (Nat.le_of_ble_eq_true rfl) rfl ?_
  repeat' (first
 | (refine C_id ?_; first
 | refine C_seq ?_
 | refine C_region rfl ?_
 | refine C_ret0 ?_
 | refine C_drawV (id := 1) 11 [(0, true), (1, true), (3, true), (4, true), (6, true), (7, true), (8, true), (9, true), (10, true), (2, false), (5, false)] rfl mixed (by kernel_rfl) rfl ?_
 )
 | (refine S_id ?_; first
 | refine S_nil ?_
 | refine S_run rfl rfl obQ obQ ?_
 | refine S_box (fun b => ⟨_, _, rfl, obQ, ?_⟩)
 | refine S_slice (fun b => ⟨_, _, rfl, obQ, ?_⟩)
 | refine S_call (f := 118) rfl obQ (by kernel_rfl) (fun w hw => rlevel_c _ w) ?_
 | refine S_call (f := 119) rfl obQ (by kernel_rfl) (fun w hw => rWhen_c _ _ w) ?_
 | refine S_call (f := 117) rfl obQ (by kernel_rfl) (fun w hw => rFirst_c _ _ [lvE lo, lvE hi, wh (decide (hi < lo)) 11] (by simp) w (.inr ⟨_, rfl, hw.src (i := 1) rfl rfl⟩)) ?_
 )
 | (refine V_id ?_; first
 | refine V_nil ?_
 | refine V_q rfl (Yl_step rfl obQ) ?_
 | refine V_n rfl ?_
 )
 | (refine G_id ?_; first
 | refine G_V ⟨⟨_, rfl, trivial⟩, ⟨_, rfl⟩, rfl, pstQ⟩ rfl ?_
 | refine G_then ?_
 | refine G_ret rfl obQ (fun w hw => ⟨?_, hw.below⟩)
 )
 )
  rfl

/-- A picture, each level of which is turned. -/
def tuP (f : Int → Int) (p : Pic) : Pic := ⟨p.nm, p.w, p.h, p.s.map fun x => smp (f (lvl x))⟩
def clF (lo hi : Int) (n : Int) : Int := min hi (max lo n)
def clE (p : Pic) (lo hi : Int) : Int := firstL [picE p, ivE lo hi]
theorem clE_ok {p : Pic} {lo hi : Int} (h : clE p lo hi = 0) : PicOk p ∧ ivE lo hi = 0 := by
  unfold clE at h
  rw [firstL_zero] at h
  simp only [List.mem_cons, List.mem_nil_iff, or_false, forall_eq_or_imp, forall_eq, pic_ok] at h
  exact h
theorem clF_bd {lo hi : Int} (h : ivE lo hi = 0) (n : Int) : -16384 ≤ clF lo hi n ∧ clF lo hi n ≤ 16384 := by
  have := ivE_ok h
  unfold clF
  omega
theorem tuP_fin {f : Int → Int} {p : Pic} (hf : ∀ n, -16384 ≤ f n ∧ f n ≤ 16384) : ∀ x ∈ (tuP f p).s, Smp x := by
  intro x hx
  simp only [tuP, List.mem_map] at hx
  obtain ⟨b, _, rfl⟩ := hx
  exact smp_Smp (hf _)
theorem tuP_len {f : Int → Int} {p : Pic} : (tuP f p).s.length = p.s.length := by simp [tuP]

set_option maxHeartbeats 400000 in
/-- colour.Clipped$1 -/
theorem clip1_c (b : Nat) (lo hi n : Int) (w : World) (hM : w.heap[b]? = some (.cells ([.int .i64 lo, .int .i64 hi] : List Value).toArray 73 (0, 0))) : Calls Tryz.prog 159 #[.int .i64 n, .pointer (some ⟨b, 0, none⟩)] w fun r w' => r = .returned (.int .i64 (clF lo hi n)) ∧ Below w.heap.size w w' := by
  refine calls_of (args := [.int .i64 n, .pointer (some ⟨b, 0, none⟩)]) T_ok Tryz.func159 rfl Tryz.ntmps159 (Nat.le_of_ble_eq_true rfl) rfl ?_
  repeat' (first
 | (refine C_id ?_; first
 | refine C_seq ?_
 | refine C_region rfl ?_
 | refine C_ret0 ?_
 )
 | (refine S_id ?_; first
 | refine S_load rfl obQ rfl [.int .i64 hi] (.cell (_, fun b => b < _) memQ (heap_lt hM) (heap_cell1 hM (o := 1) rfl)) rfl (.inr ⟨rfl, rfl⟩) ?_
 | refine S_load rfl obQ rfl [.int .i64 lo] (.cell (_, fun b => b < _) memQ (heap_lt hM) (heap_cell1 hM (o := 0) rfl)) rfl (.inr ⟨rfl, rfl⟩) ?_
 | refine S_nil ?_
 | refine S_run rfl rfl obQ obQ ?_
 )
 | (refine G_id ?_; first
 | refine G_then ?_
 | refine G_ret rfl obQ (fun w hw => ⟨?_, hw.below⟩)
 )
 )
  rfl

set_option maxHeartbeats 400000 in
/-- colour.changed$1 -/
theorem chClip_c (b3 bl : Nat) (lo hi : Int) (hI : ivE lo hi = 0) (x : Nat) (hx : Smp x) (w : World) (hM : w.heap[b3]? = some (.cells ([.func (.func 159) #[] #[.pointer (some ⟨bl, 0, none⟩)]] : List Value).toArray 39 (0, 0))) (hM2 : w.heap[bl]? = some (.cells ([.int .i64 lo, .int .i64 hi] : List Value).toArray 73 (0, 0))) : Calls Tryz.prog 194 #[.float .f32 x, .pointer (some ⟨b3, 0, none⟩)] w fun r w' => r = .returned (.float .f32 (smp (clF lo hi (lvl x)))) ∧ Below w.heap.size w w' := by
  refine calls_of (args := [.float .f32 x, .pointer (some ⟨b3, 0, none⟩)]) T_ok Tryz.func194 rfl Tryz.ntmps194 (Nat.le_of_ble_eq_true rfl) rfl ?_
  repeat' (first
 | (refine C_id ?_; first
 | refine C_seq ?_
 | refine C_region rfl ?_
 | refine C_ret0 ?_
 | refine C_draw (id := 1) rfl mixed (by kernel_rfl) ?_
 )
 | (refine S_id ?_; first
 | refine S_nil ?_
 | refine S_run rfl rfl obQ obQ ?_
 )
 | (refine D_id ?_; first
 | refine D_load rfl obQ rfl [.func (.func 159) #[] #[.pointer (some ⟨bl, 0, none⟩)]] (.cell (_, fun b => b < _) memQ (heap_lt hM) (heap_cell1 hM (o := 0) rfl)) rfl (.inr ⟨rfl, rfl⟩) ?_
 | refine D_nil ?_
 | refine D_run rfl rfl obQ obQ ?_
 | refine D_call (f := 140) rfl obQ (by kernel_rfl) (fun w hw => level_c x hx.fin hx.bd w) ?_
 | refine D_call (f := 159) rfl obQ (by kernel_rfl) (fun w hw => clip1_c bl lo hi (lvl x) w ((hw.past _ memQ bl (heap_lt hM2)).1.2.trans hM2)) ?_
 | refine D_call (f := 141) rfl obQ (by kernel_rfl) (fun w hw => sample_c (clF lo hi (lvl x)) (clF_bd hI _) w) ?_
 )
 | (refine G_id ?_; first
 | refine G_then ?_
 | refine G_ret rfl obQ (fun w hw => ⟨?_, hw.below⟩)
 )
 )
  rfl

set_option maxHeartbeats 400000 in
/-- colour.mapped[float32,float32] -/
theorem mappedFF_c (q : FuncId) (c0 : Value) {g : Nat → Nat} (A : Option Addr) (c : Nat) (l : List (Nat)) (hl : l.length ≤ 1000000) (he : entB Tryz.prog q = true) (w : World) (hr : Rd w A (l.map fun x => Value.float .f32 x)) (hg : ∀ x ∈ l, ∀ W, Below w.heap.size w W → Calls Tryz.prog q #[Value.float .f32 x, c0] W fun e w' => e = .returned (Value.float .f32 (g x)) ∧ Below W.heap.size W w') : Calls Tryz.prog 193 #[.slice A l.length c, .func (.func q) #[] #[c0]] w fun r w' => ∃ v, r = .returned v ∧ Below w.heap.size w w' ∧ Sl w w' v l.length (l.map fun x => Value.float .f32 (g x)) := by
  refine calls_of (args := [.slice A l.length c, .func (.func q) #[] #[c0]]) T_ok Tryz.func193 rfl Tryz.ntmps193 (Nat.le_of_ble_eq_true rfl) rfl ?_
  repeat' (first
 | (refine C_id ?_; first
 | refine C_seq ?_
 | refine C_region rfl ?_
 | refine C_block ?_
 )
 | (refine S_id ?_; first
 | refine S_nil ?_
 | refine S_run rfl rfl obQ obQ ?_
 )
 | (refine G_id ?_; first
 | refine G_then ?_
 )
 )
  refine C_row0 5 114 1 rfl ?_
  refine C_loopS (fun i : Nat × Option Addr × Nat => ⟨[(5, .s (.r i.2.1 i.1 i.2.2 0)), (8, .s (.v (.slice A l.length c))), (9, .s (.v (.int .i64 l.length))), (10, .s (.v (.int .i64 i.1))), (1, .s (.v (.func (.func q) #[] #[c0])))], [], [⟨114, 1, i.1, (l.take i.1).map fun x => Value.float .f32 (g x), .slice i.2.1 i.1 i.2.2⟩]⟩) (fun i => i.1 ≤ l.length) (fun i => l.length - i.1) (0, none, 0) (Nat.zero_le _) ?_ (fun i hi => ?_)
  · exact ⟨⟨_, rfl, obQ⟩, ⟨_, rfl⟩, rfl, pstQ⟩
  obtain ⟨k, A', c'⟩ := i
  have hi' : k ≤ l.length := hi
  dsimp only
  by_cases hlt : k < l.length
  · obtain ⟨ad, rfl⟩ := hr.some (by simp; omega)
    have hmt := map_take_succ (f := fun x => Value.float .f32 (g x)) hlt
    repeat' (first
 | (refine C_id ?_; first
 | refine C_seq ?_
 | refine C_region rfl ?_
 | refine C_block ?_
 | refine C_skip ?_
 | (refine C_cond rfl obQ (fun h => ?_) (fun h => ?_) <;> (try simp only [Bool.or_eq_true, Bool.and_eq_true, Bool.or_eq_false_iff, Bool.and_eq_false_iff, decide_eq_true_eq, decide_eq_false_iff_not, beq_iff_eq, bne_iff_ne, beq_eq_false_iff_ne, bne_eq_false_iff_eq, ne_eq, Decidable.not_not, List.cons.injEq, and_true, Bool.not_eq_true', Bool.not_eq_false', Int.not_lt, Int.not_le] at h) <;> (try (exfalso; omega)))
     )
 | (refine S_id ?_; first
 | refine S_load rfl obQ rfl [Value.float .f32 l[k]] (.past _ memQ _ _ hr.toS _ _ rfl rfl (idx1 (f := fun x => Value.float .f32 x) hlt)) rfl (.inr ⟨rfl, rfl⟩) ?_
 | refine S_call rfl obQ he (fun W hW => hg l[k] (List.getElem_mem hlt) W hW.below) ?_
 | refine S_append rfl obQ rfl rfl rfl ⟨by decide, rfl⟩ rfl ⟨rfl, rfl, rfl, rfl⟩ [Value.float .f32 (g l[k])] ⟨by decide, rfl⟩ (by simp [Value.oneCell']) (fun w hw => by first | exact hw.src (i := 0) rfl rfl | exact hw.src (i := 1) rfl rfl | exact hw.src (i := 2) rfl rfl | exact hw.src (i := 3) rfl rfl | exact hw.src (i := 4) rfl rfl | exact hw.src (i := 5) rfl rfl | exact hw.src (i := 6) rfl rfl | exact hw.src (i := 7) rfl rfl | exact hw.src (i := 8) rfl rfl) (by unfold maxLen; dsimp only; omega) (fun gb cap' => ⟨_, rfl, ?_⟩)
 | refine S_nil ?_
 | refine S_run rfl rfl obQ obQ ?_
 | refine S_slice (fun b => ⟨_, _, rfl, obQ, ?_⟩)
     )
 | (refine G_id ?_; first
 | refine G_loop (k + 1, some ⟨gb, 0, none⟩, cap') (by show k + 1 ≤ _; omega) (by show l.length - (k + 1) < l.length - k; omega) ⟨⟨_, rfl, obQ⟩, ⟨_, rfl⟩, (by dsimp only; rw [hmt]), pstQ⟩
 | refine G_then ?_
 | refine G_block ?_
     )
     )
  · obtain rfl : k = l.length := by omega
    repeat' (first
 | (refine C_id ?_; first
 | refine C_seq ?_
 | refine C_region rfl ?_
 | refine C_exit ?_
 | refine C_ret0 ?_
 | (refine C_cond rfl obQ (fun h => ?_) (fun h => ?_) <;> (try simp only [Bool.or_eq_true, Bool.and_eq_true, Bool.or_eq_false_iff, Bool.and_eq_false_iff, decide_eq_true_eq, decide_eq_false_iff_not, beq_iff_eq, bne_iff_ne, beq_eq_false_iff_ne, bne_eq_false_iff_eq, ne_eq, Decidable.not_not, List.cons.injEq, and_true, Bool.not_eq_true', Bool.not_eq_false', Int.not_lt, Int.not_le] at h) <;> (try (exfalso; omega)))
     )
 | (refine S_id ?_; first
 | refine S_nil ?_
 | refine S_run rfl rfl obQ obQ ?_
     )
 | (refine G_id ?_; first
 | refine G_then ?_
 | refine G_blockX ?_
 | refine G_thenX ?_
 | refine G_ret rfl obQ (fun w2 hw => ⟨_, rfl, hw.below, HW.rowSl (i := 0) hw rfl rfl rfl (by rw [List.take_length])⟩)
     )
     )

set_option maxHeartbeats 400000 in
/-- colour.changed -/
theorem chgClip_c (p : Pic) (Ap : Option Addr) (cp : Nat) (hs : p.s.length ≤ 1000000) (hp : ∀ x ∈ p.s, Smp x) (bl : Nat) (lo hi : Int) (hI : ivE lo hi = 0) (w : World) (hr : Rd w Ap (p.s.map (.float .f32))) (hM2 : w.heap[bl]? = some (.cells ([.int .i64 lo, .int .i64 hi] : List Value).toArray 73 (0, 0))) : Calls Tryz.prog 158 #[.agg #[.string p.nm, .int .i64 p.w, .int .i64 p.h, .slice Ap p.s.length cp], .func (.func 159) #[] #[.pointer (some ⟨bl, 0, none⟩)]] w fun r w' => ∃ v, r = .returned v ∧ Below w.heap.size w w' ∧ PicA w w' v (tuP (clF lo hi) p) := by
  refine calls_of (args := [.agg #[.string p.nm, .int .i64 p.w, .int .i64 p.h, .slice Ap p.s.length cp], .func (.func 159) #[] #[.pointer (some ⟨bl, 0, none⟩)]]) T_ok Tryz.func158 rfl Tryz.ntmps158 (Nat.le_of_ble_eq_true rfl) rfl ?_
  repeat' (first
 | (refine C_id ?_; first
 | refine C_seq ?_
 | refine C_regionNe 1 rfl rfl ?_
 )
 | (refine S_id ?_; first
 | refine S_nil ?_
 | refine S_box (fun b => ⟨_, _, rfl, obQ, ?_⟩)
 )
 | (refine G_id ?_; first
 | refine G_then ?_
 )
 )
  rename_i b2 b3
  repeat' (first
 | (refine C_id ?_; first
 | refine C_seq ?_
 | refine C_region rfl ?_
 | refine C_ret0 ?_
   )
 | (refine S_id ?_; first
 | (refine S_callM (f := 193) rfl obQ (by kernel_rfl) (fun w2 hw2 => mappedFF_c 194 (.pointer (some ⟨b3, 0, none⟩)) (g := fun x => smp (clF lo hi (lvl x))) Ap cp p.s hs (by kernel_rfl) w2 (hw2.rdm hr.toS memQ) (fun x hx W hW => chClip_c b3 bl lo hi hI x (hp x hx) W ((hW.block b3 (HW.bxAt hw2 (i := 1) rfl rfl).1.2).trans (HW.bxAt hw2 (i := 1) rfl rfl).2) ((hW.block bl (hw2.past _ memQ bl (heap_lt hM2)).1.1).trans ((hw2.past _ memQ bl (heap_lt hM2)).1.2.trans hM2)))) (fun w1M w2M vM hw1M hbM hRM => ?_); obtain ⟨AM, cM, rfl, hSM⟩ := hRM)
 | refine S_nil ?_
 | refine S_run rfl rfl obQ obQ ?_
   )
 | (refine G_id ?_; first
 | refine G_then ?_
 | refine G_ret rfl obQ (fun w2 hw => ⟨_, rfl, hw.below, PicA.of (s := (tuP (clF lo hi) p).s) (HW.callSl hw (by rw [show ((tuP (clF lo hi) p).s.map (Value.float .f32)) = p.s.map (fun x => Value.float .f32 (smp (clF lo hi (lvl x)))) by simp [tuP]]; exact hSM) memQ hw1M.bsize) (by simp [tuP]) rfl⟩)
   )
   )

set_option maxHeartbeats 400000 in
/-- colour.Clipped -/
theorem Clipped_c (p : Pic) (Ap : Option Addr) (cp : Nat) (hs : p.s.length ≤ 1000000) (lo hi : Int) (w : World) (hr : Rd w Ap (p.s.map (.float .f32)))  : Calls Tryz.prog 94 #[.agg #[.string p.nm, .int .i64 p.w, .int .i64 p.h, .slice Ap p.s.length cp], .agg #[.int .i64 lo, .int .i64 hi]] w fun r w' => ∃ v, r = .returned v ∧ Below w.heap.size w w' ∧ (if clE p lo hi = 0 then PicR w w' v (tuP (clF lo hi) p) 0 else PicR w w' v zP (clE p lo hi)) := by
  refine calls_of (args := [.agg #[.string p.nm, .int .i64 p.w, .int .i64 p.h, .slice Ap p.s.length cp], .agg #[.int .i64 lo, .int .i64 hi]]) T_ok Tryz.func94 rfl Tryz.ntmps94 (Nat.le_of_ble_eq_true rfl) rfl ?_
  by_cases hE : clE p lo hi = 0
  · simp only [if_pos hE]
    obtain ⟨h1, h2⟩ := clE_ok hE
    repeat' (first
 | (refine C_id ?_; first
 | refine C_seq ?_
 | refine C_region rfl ?_
 | refine C_skip ?_
 | refine C_ret0 ?_
 | refine C_drawV (id := 1) 3 [(0, true), (2, true), (1, false)] rfl mixed (by kernel_rfl) rfl ?_
 | (refine C_cond rfl obQ (fun h => ?_) (fun h => ?_) <;> (try simp only [Bool.or_eq_true, Bool.and_eq_true, Bool.or_eq_false_iff, Bool.and_eq_false_iff, decide_eq_true_eq, decide_eq_false_iff_not, beq_iff_eq, bne_iff_ne, beq_eq_false_iff_ne, bne_eq_false_iff_eq, ne_eq, Decidable.not_not, List.cons.injEq, and_true, Bool.not_eq_true', Bool.not_eq_false', Int.not_lt, Int.not_le] at h) <;> (try (exfalso; omega)) <;> (try (exfalso; simp at h; done)) <;> (try (exfalso; simp only [not_true_eq_false, false_or, or_false] at h; omega)) <;> (try contradiction))
     )
 | (refine S_id ?_; first
 | (refine S_callM (f := 158) rfl obQ (by kernel_rfl) (fun w hw => chgClip_c p Ap cp hs h1.s _ lo hi h2 w (hw.rdm hr.toS memQ) (HW.bxAt hw (i := 1) rfl rfl).2) (fun w1C w2C vC hw1C hbC hRC => ?_); obtain ⟨AC, cC, rfl, hSC⟩ := hRC)
 | refine S_nil ?_
 | refine S_run rfl rfl obQ obQ ?_
 | refine S_box (fun bb => ⟨_, _, rfl, obQ, ?_⟩)
 | refine S_slice (fun b => ⟨_, _, rfl, obQ, ?_⟩)
 | refine S_call (f := 137) rfl obQ (by kernel_rfl) (fun w hw => checkPicture_c p Ap cp hs w (hw.rdm hr.toS memQ)) ?_
 | refine S_call (f := 133) rfl obQ (by kernel_rfl) (fun w hw => checkInterval_c lo hi w) ?_
 | refine S_call (f := 111) rfl obQ (by kernel_rfl) (fun w hw => cfirst_c _ _ [picE p, ivE lo hi] (by simp) w (.inr ⟨_, rfl, hw.src (i := 3) rfl rfl⟩)) ?_
     )
 | (refine V_id ?_; first
 | refine V_nil ?_
 | refine V_q rfl (Yl_step rfl obQ) ?_
 | refine V_n rfl ?_
     )
 | (refine G_id ?_; first
 | refine G_V ⟨⟨_, rfl, trivial⟩, ⟨_, rfl⟩, rfl, pstQ⟩ rfl ?_
 | refine G_then ?_
 | refine G_ret rfl obQ (fun w2 hw => ⟨_, rfl, hw.below, PicR.of (s := (tuP (clF lo hi) p).s) (HW.callSl hw hSC memQ hw1C.bsize) rfl rfl⟩)
     )
     )
  · simp only [if_neg hE]
    repeat' (first
 | (refine C_id ?_; first
 | refine C_seq ?_
 | refine C_region rfl ?_
 | refine C_ret0 ?_
 | refine C_drawV (id := 1) 3 [(0, true), (2, true), (1, false)] rfl mixed (by kernel_rfl) rfl ?_
 | (refine C_cond rfl obQ (fun h => ?_) (fun h => ?_) <;> (try simp only [Bool.or_eq_true, Bool.and_eq_true, Bool.or_eq_false_iff, Bool.and_eq_false_iff, decide_eq_true_eq, decide_eq_false_iff_not, beq_iff_eq, bne_iff_ne, beq_eq_false_iff_ne, bne_eq_false_iff_eq, ne_eq, Decidable.not_not, List.cons.injEq, and_true, Bool.not_eq_true', Bool.not_eq_false', Int.not_lt, Int.not_le] at h) <;> (try (exfalso; omega)) <;> (try (exfalso; simp at h; done)) <;> (try (exfalso; simp only [not_true_eq_false, false_or, or_false] at h; omega)) <;> (try contradiction))
     )
 | (refine S_id ?_; first
 | refine S_nil ?_
 | refine S_run rfl rfl obQ obQ ?_
 | refine S_box (fun bb => ⟨_, _, rfl, obQ, ?_⟩)
 | refine S_slice (fun b => ⟨_, _, rfl, obQ, ?_⟩)
 | refine S_call (f := 137) rfl obQ (by kernel_rfl) (fun w hw => checkPicture_c p Ap cp hs w (hw.rdm hr.toS memQ)) ?_
 | refine S_call (f := 133) rfl obQ (by kernel_rfl) (fun w hw => checkInterval_c lo hi w) ?_
 | refine S_call (f := 111) rfl obQ (by kernel_rfl) (fun w hw => cfirst_c _ _ [picE p, ivE lo hi] (by simp) w (.inr ⟨_, rfl, hw.src (i := 3) rfl rfl⟩)) ?_
     )
 | (refine V_id ?_; first
 | refine V_nil ?_
 | refine V_q rfl (Yl_step rfl obQ) ?_
 | refine V_n rfl ?_
     )
 | (refine G_id ?_; first
 | refine G_V ⟨⟨_, rfl, trivial⟩, ⟨_, rfl⟩, rfl, pstQ⟩ rfl ?_
 | refine G_then ?_
 | refine G_thenR ?_
 | refine G_ret rfl obQ (fun w2 hw => ⟨_, rfl, hw.below, PicR.zero _ _ _⟩)
     )
     )

end Go.Proofs.YtdbffbcobghbeaaGreatDoor
namespace Go.Proofs.YtdbffbcobghbeaaGreatDoor
open Go.E Go.RowKit Go.Fl
attribute [local irreducible] G C S D Calls
set_option maxRecDepth 100000
set_option linter.unusedSimpArgs false
set_option linter.unusedVariables false

theorem pl_1 {p : Pla} (h : ¬ wi p.a (-4096) 4096 = 0) : plE p = wi p.a (-4096) 4096 := by
  have e : rowE p.a p.b p.c = wi p.a (-4096) 4096 := if_neg h
  unfold plE
  rw [e]
  exact if_neg h
theorem pl_2 {p : Pla} (h0 : wi p.a (-4096) 4096 = 0) (h : ¬ wi p.b (-4096) 4096 = 0) : plE p = wi p.b (-4096) 4096 := by
  have e : rowE p.a p.b p.c = wi p.b (-4096) 4096 := by
    show (if wi p.a (-4096) 4096 = 0 then _ else _) = _
    rw [if_pos h0]
    exact if_neg h
  unfold plE
  rw [e]
  exact if_neg h
theorem pl_3 {p : Pla} (h0 : wi p.a (-4096) 4096 = 0) (h1 : wi p.b (-4096) 4096 = 0) (h : ¬ wi p.c (-4096) 4096 = 0) : plE p = wi p.c (-4096) 4096 := by
  have e : rowE p.a p.b p.c = wi p.c (-4096) 4096 := by
    show (if wi p.a (-4096) 4096 = 0 then (if wi p.b (-4096) 4096 = 0 then _ else _) else _) = _
    rw [if_pos h0, if_pos h1]
    exact if_neg h
  unfold plE
  rw [e]
  exact if_neg h
theorem pl_4 {p : Pla} (h0 : wi p.a (-4096) 4096 = 0) (h1 : wi p.b (-4096) 4096 = 0) (h2 : wi p.c (-4096) 4096 = 0) : plE p = wi p.m (-1099511627776) 1099511627776 := by
  have e : rowE p.a p.b p.c = 0 := by
    show (if wi p.a (-4096) 4096 = 0 then (if wi p.b (-4096) 4096 = 0 then (if wi p.c (-4096) 4096 = 0 then _ else _) else _) else _) = _
    rw [if_pos h0, if_pos h1, if_pos h2]
    rfl
  unfold plE
  rw [e]
  show (if (0 : Int) = 0 then (if wi p.m (-1099511627776) 1099511627776 = 0 then firstL [] else _) else _) = _
  rw [if_pos rfl]
  split
  · rename_i h; rw [h]; rfl
  · rfl
theorem pl_drop {g : List Pla} {k : Nat} (h : k < g.length) : firstL ((g.map plE).drop k) = if plE (gPl g k) = 0 then firstL ((g.map plE).drop (k + 1)) else plE (gPl g k) := by
  rw [firstL_drop (by simpa using h), List.getElem_map, gPl_at h]
theorem idxN {α : Type} {f : α → List Value} {s : Nat} {l : List α} (hf : ∀ x, (f x).length = s) {k : Nat} (h : k < l.length) {vs : List Value} (o : Nat) (hv : ∀ j u, vs[j]? = some u → (f l[k])[o + j]? = some u) : ∀ (j : Nat) (u : Value), vs[j]? = some u → (l.flatMap f)[((k : Int).toNat * s + o) + j]? = some u := by
  intro j u hu
  have h1 := hv j u hu
  have := idxS (f := f) hf h (o + j) u h1
  rw [← this]
  congr 1
  omega
theorem pl_at {g : List Pla} {k : Nat} (h : k < g.length) (o : Nat) {v : Value} (hv : (plC (gPl g k))[o]? = some v) : ∀ (j : Nat) (u : Value), ([v] : List Value)[j]? = some u → (g.flatMap plC)[((k : Int).toNat * 4 + o) + j]? = some u := by
  rw [gPl_at h] at hv
  exact idxN (f := plC) (fun _ => rfl) h o (fun j u hu => by
    rcases j with _ | j
    · simp at hu
      subst hu
      exact hv
    · simp at hu)
/-- The violations among the first places. -/
def viF (g : List Pla) (x y z : Pic) (k : Nat) : List Pt := ((List.range k).filter fun i => decide (fbF g (plA x y z i) ≠ -1)).map fun (i : Nat) => ((i : Int), fbF g (plA x y z i))
theorem viF_t {g : List Pla} {x y z : Pic} {k : Nat} (h : ¬ fbF g (plA x y z k) = -1) : viF g x y z (k + 1) = viF g x y z k ++ [((k : Int), fbF g (plA x y z k))] := by
  unfold viF
  rw [List.range_succ, List.filter_append, List.map_append]
  simp [h]
theorem viF_f {g : List Pla} {x y z : Pic} {k : Nat} (h : fbF g (plA x y z k) = -1) : viF g x y z (k + 1) = viF g x y z k := by
  unfold viF
  rw [List.range_succ, List.filter_append, List.map_append]
  simp [h]
theorem viF_len (g : List Pla) (x y z : Pic) (k : Nat) : (viF g x y z k).length ≤ k := by
  unfold viF
  rw [List.length_map]
  have := List.length_filter_le (fun i => decide (fbF g (plA x y z i) ≠ -1)) (List.range k)
  simpa using this
def viO (g : List Pla) (pre : List OPl) : List Pt := (pre.filter fun q => decide (fbF g q.c ≠ -1)).map fun q => ((q.i : Int), fbF g q.c)
theorem viO_t {g : List Pla} {pre : List OPl} {q : OPl} (h : ¬ fbF g q.c = -1) : viO g (pre ++ [q]) = viO g pre ++ [((q.i : Int), fbF g q.c)] := by
  unfold viO
  rw [List.filter_append, List.map_append]
  simp [h]
theorem viO_f {g : List Pla} {pre : List OPl} {q : OPl} (h : fbF g q.c = -1) : viO g (pre ++ [q]) = viO g pre := by
  unfold viO
  rw [List.filter_append, List.map_append]
  simp [h]
theorem viO_len (g : List Pla) (pre : List OPl) : (viO g pre).length ≤ pre.length := by
  unfold viO
  rw [List.length_map]
  exact List.length_filter_le _ _
theorem viO_eq {g : List Pla} {x y z : Pic} (ht : ThOk x y z) : viO g (plL x y z) = viF g x y z x.s.length := by
  unfold viO viF plL
  rw [List.filter_map, List.map_map]
  have e : ∀ k ∈ List.range x.s.length, (toP x y z k).c = plA x y z k ∧ (toP x y z k).i = k := fun k hk => toP_c (plA_ok ht (List.mem_range.1 hk)).1
  rw [List.filter_congr (q := fun i => decide (fbF g (plA x y z i) ≠ -1)) (fun k hk => by simp only [Function.comp]; rw [(e k hk).1])]
  refine List.map_congr_left fun k hk => ?_
  have := e k (List.mem_filter.1 hk).1
  simp only [Function.comp]
  rw [this.1, this.2]
def viE (g : List Pla) (x y z : Pic) : Int := firstL [gmE g, thE x y z]
theorem viE_ok {g : List Pla} {x y z : Pic} (h : viE g x y z = 0) : gmE g = 0 ∧ ThOk x y z := by
  unfold viE at h
  rw [firstL_zero] at h
  simp only [List.mem_cons, List.mem_nil_iff, or_false, forall_eq_or_imp, forall_eq, th_ok] at h
  exact h
theorem ptC_snoc (l : List Pt) (a b : Int) : (l ++ [(a, b)]).flatMap ptC = l.flatMap ptC ++ [.int .i64 a, .int .i64 b] := by rw [List.flatMap_append]; rfl

set_option maxHeartbeats 1000000 in
/-- genlockref02.CheckGamut -/
theorem rCheckGamut_c (A : Option Addr) (c : Nat) (g : List Pla) (hg : g.length ≤ 1000000) (w : World) (hr : Rd w A (g.flatMap plC)) : Calls Tryz.prog 89 #[.slice A g.length c] w fun r w' => r = .returned (.int .i64 (gmE g)) ∧ Below w.heap.size w w' := by
  refine calls_of (args := [.slice A g.length c]) T_ok Tryz.func89 rfl Tryz.ntmps89 (Nat.le_of_ble_eq_true rfl) rfl ?_
  repeat' (first
 | (refine C_id ?_; first
 | refine C_seq ?_
 | refine C_region rfl ?_
 | refine C_block ?_
 | refine C_skip ?_
 | refine C_ret0 ?_
 | (refine C_cond rfl obQ (fun h => ?_) (fun h => ?_) <;> (try simp only [Bool.or_eq_true, Bool.and_eq_true, Bool.or_eq_false_iff, Bool.and_eq_false_iff, decide_eq_true_eq, decide_eq_false_iff_not, beq_iff_eq, bne_iff_ne, beq_eq_false_iff_ne, bne_eq_false_iff_eq, ne_eq, Decidable.not_not, List.cons.injEq, and_true, Bool.not_eq_true', Bool.not_eq_false', Int.not_lt, Int.not_le] at h))
 )
 | (refine S_id ?_; first
 | refine S_nil ?_
 | refine S_run rfl rfl obQ obQ ?_
 )
 | (refine G_id ?_; first
 | refine G_then ?_
 | refine G_thenR ?_
 | refine G_ret rfl obQ (fun w hw => ⟨?_, hw.below⟩)
 )
 )
  · exact rI (gmE_1 (by omega)).symm
  have hP := gmE_2 (g := g) (by omega)
  refine C_loopS (fun k : Nat => ⟨[(3, .s (.v (.int .i64 k))), (0, .s (.v (.slice A g.length c)))], [], []⟩) (fun k => k ≤ g.length ∧ gmE g = firstL ((g.map plE).drop k)) (fun k => g.length - k) 0 ⟨Nat.zero_le _, hP⟩ ?_ (fun k hk => ?_)
  · exact ⟨⟨_, rfl, obQ⟩, ⟨_, rfl⟩, rfl, pstQ⟩
  by_cases hlt : k < g.length
  · obtain ⟨ad, rfl⟩ := hr.some (by rw [pl_len]; omega)
    have hfd := pl_drop hlt
    repeat' (first
 | (refine C_id ?_; first
 | refine C_rounds 3 ?_
 | refine C_seq ?_
 | refine C_region rfl ?_
 | refine C_block ?_
 | refine C_skip ?_
 | refine C_exit ?_
 | refine C_ret0 ?_
 | refine C_condT rfl obQ ?_
 | refine C_condF rfl obQ ?_
 | (refine C_cond rfl obQ (fun h => ?_) (fun h => ?_) <;> (try simp only [Bool.or_eq_true, Bool.and_eq_true, Bool.or_eq_false_iff, Bool.and_eq_false_iff, decide_eq_true_eq, decide_eq_false_iff_not, beq_iff_eq, bne_iff_ne, beq_eq_false_iff_ne, bne_eq_false_iff_eq, ne_eq, Decidable.not_not, List.cons.injEq, and_true, Bool.not_eq_true', Bool.not_eq_false', Int.not_lt, Int.not_le] at h) <;> (try (exfalso; omega)))
     )
 | (refine S_id ?_; first
 | refine S_load rfl obQ rfl [.int .i64 (gPl g k).a] (.past _ memQ _ _ hr.toS ((k : Int).toNat * 4 + 0) _ rfl (by first | (simp only [add_of_add]; done) | (simp only [add_of_add]; rfl)) (pl_at hlt 0 rfl)) rfl (.inr ⟨rfl, rfl⟩) ?_
 | refine S_load rfl obQ rfl [.int .i64 (gPl g k).b] (.past _ memQ _ _ hr.toS ((k : Int).toNat * 4 + 1) _ rfl (by first | (simp only [add_of_add]; done) | (simp only [add_of_add]; rfl)) (pl_at hlt 1 rfl)) rfl (.inr ⟨rfl, rfl⟩) ?_
 | refine S_load rfl obQ rfl [.int .i64 (gPl g k).c] (.past _ memQ _ _ hr.toS ((k : Int).toNat * 4 + 2) _ rfl (by first | (simp only [add_of_add]; done) | (simp only [add_of_add]; rfl)) (pl_at hlt 2 rfl)) rfl (.inr ⟨rfl, rfl⟩) ?_
 | refine S_load rfl obQ rfl [.int .i64 (gPl g k).m] (.past _ memQ _ _ hr.toS ((k : Int).toNat * 4 + 3) _ rfl (by first | (simp only [add_of_add]; done) | (simp only [add_of_add]; rfl)) (pl_at hlt 3 rfl)) rfl (.inr ⟨rfl, rfl⟩) ?_
 | refine S_nil ?_
 | refine S_run rfl rfl obQ obQ ?_
 | refine S_call (f := 29) rfl obQ (by kernel_rfl) (fun w hw => rRange_c _ _ _ w) ?_
     )
 | (refine G_id ?_; first
 | refine G_rounds (C_trim [0, 3, 4] 0 rfl rfl ?_)
 | refine G_loop (k + 1) ?_ (by omega) ⟨⟨_, rfl, obQ⟩, ⟨_, rfl⟩, rfl, pstQ⟩
 | refine G_then ?_
 | refine G_block ?_
 | refine G_blockX ?_
 | refine G_blockR ?_
 | refine G_thenR ?_
 | refine G_thenX ?_
 | refine G_ret rfl obQ (fun w hw => ⟨?_, hw.below⟩)
     )
     )
    · have e := pl_1 (by assumption)
      exact rI (by rw [hk.2, hfd, if_neg (by rw [e]; assumption), e])
    · have e := pl_2 (by assumption) (by assumption)
      exact rI (by rw [hk.2, hfd, if_neg (by rw [e]; assumption), e])
    · have e := pl_3 (by assumption) (by assumption) (by assumption)
      exact rI (by rw [hk.2, hfd, if_neg (by rw [e]; assumption), e])
    · have e := pl_4 (by assumption) (by assumption) (by assumption)
      exact rI (by rw [hk.2, hfd, if_neg (by rw [e]; assumption), e])
    · have e := pl_4 (by assumption) (by assumption) (by assumption)
      exact ⟨by omega, by rw [hk.2, hfd, if_pos (by rw [e]; assumption)]⟩
  · obtain rfl : k = g.length := by omega
    repeat' (first
 | (refine C_id ?_; first
 | refine C_seq ?_
 | refine C_region rfl ?_
 | refine C_exit ?_
 | refine C_ret0 ?_
 | (refine C_cond rfl obQ (fun h => ?_) (fun h => ?_) <;> (try simp only [Bool.or_eq_true, Bool.and_eq_true, Bool.or_eq_false_iff, Bool.and_eq_false_iff, decide_eq_true_eq, decide_eq_false_iff_not, beq_iff_eq, bne_iff_ne, beq_eq_false_iff_ne, bne_eq_false_iff_eq, ne_eq, Decidable.not_not, List.cons.injEq, and_true, Bool.not_eq_true', Bool.not_eq_false', Int.not_lt, Int.not_le] at h) <;> (try (exfalso; omega)))
     )
 | (refine S_id ?_; first
 | refine S_nil ?_
 | refine S_run rfl rfl obQ obQ ?_
     )
 | (refine G_id ?_; first
 | refine G_then ?_
 | refine G_blockX ?_
 | refine G_thenX ?_
 | refine G_ret rfl obQ (fun w hw => ⟨?_, hw.below⟩)
     )
     )
    exact rI (by rw [hk.2, List.drop_of_length_le (by simp)]; rfl)

set_option maxHeartbeats 4000000 in
/-- colour.Violations -/
theorem Violations_c (A : Option Addr) (c : Nat) (g : List Pla) (hg6 : g.length ≤ 1000000) (x y z : Pic) (ax ay az : Addr) (cx cy cz : Nat) (hsx : x.s.length ≤ 1000000) (hsy : y.s.length ≤ 1000000) (hsz : z.s.length ≤ 1000000) (hE : viE g x y z = 0) (w : World) (hr : Rd w A (g.flatMap plC)) (hrx : Rd w (some ax) (x.s.map (.float .f32))) (hry : Rd w (some ay) (y.s.map (.float .f32))) (hrz : Rd w (some az) (z.s.map (.float .f32))) : Calls Tryz.prog 88 #[.slice A g.length c, .agg #[.string x.nm, .int .i64 x.w, .int .i64 x.h, .slice (some ax) x.s.length cx, .string y.nm, .int .i64 y.w, .int .i64 y.h, .slice (some ay) y.s.length cy, .string z.nm, .int .i64 z.w, .int .i64 z.h, .slice (some az) z.s.length cz]] w fun r w' => ∃ v, r = .returned v ∧ Below w.heap.size w w' ∧ Sl2 w w' v (viF g x y z x.s.length).length ((viF g x y z x.s.length).flatMap ptC) (.int .i64 0) := by
  refine calls_ofM (args := [.slice A g.length c, .agg #[.string x.nm, .int .i64 x.w, .int .i64 x.h, .slice (some ax) x.s.length cx, .string y.nm, .int .i64 y.w, .int .i64 y.h, .slice (some ay) y.s.length cy, .string z.nm, .int .i64 z.w, .int .i64 z.h, .slice (some az) z.s.length cz]]) T_ok Tryz.func88 rfl Tryz.ntmps88 (Nat.le_of_ble_eq_true rfl) rfl ?_
  obtain ⟨hg, ht⟩ := viE_ok hE
  have hE' : firstL [gmE g, thE x y z] = 0 := hE
  obtain ⟨h4, hx0⟩ := pic_len ht.px
  have hln := ht.len
  have hbx := block_rd hrx (by simp; omega)
  have hby := block_rd hry (by simp; omega)
  have hbz := block_rd hrz (by simp; omega)
  rw [← viO_eq ht]
  repeat' (first
 | (refine C_id ?_; first
 | refine C_seq ?_
 | refine C_region rfl ?_
 | refine C_block ?_
 | refine C_skip ?_
 | refine C_drawV (id := 1) 3 [(0, true), (2, true), (1, false)] rfl mixed (by kernel_rfl) rfl ?_
 | (refine C_cond rfl obQ (fun h => ?_) (fun h => ?_) <;> (try simp only [Bool.or_eq_true, Bool.and_eq_true, Bool.or_eq_false_iff, Bool.and_eq_false_iff, decide_eq_true_eq, decide_eq_false_iff_not, beq_iff_eq, bne_iff_ne, beq_eq_false_iff_ne, bne_eq_false_iff_eq, ne_eq, Decidable.not_not, List.cons.injEq, and_true, Bool.not_eq_true', Bool.not_eq_false', Int.not_lt, Int.not_le] at h) <;> (try (exfalso; omega)) <;> (try (exfalso; simp at h; done)) <;> (try (exfalso; simp only [not_true_eq_false, false_or, or_false] at h; omega)) <;> (try contradiction))
   )
 | (refine S_id ?_; first
 | (refine S_callM (f := 148) rfl obQ (by kernel_rfl) (fun w hw => places_c x y z ax ay az cx cy cz w) (fun w1C w2C vC hw1C hbC hRC => ?_); obtain ⟨bC, rfl, hbC, hMC⟩ := hRC)
 | refine S_nil ?_
 | refine S_run rfl rfl obQ obQ ?_
 | refine S_box (fun b => ⟨_, _, rfl, obQ, ?_⟩)
 | refine S_slice (fun b => ⟨_, _, rfl, obQ, ?_⟩)
 | refine S_call (f := 156) rfl obQ (by kernel_rfl) (fun w hw => checkGamut_c A c g hg6 w (hw.rdm hr.toS memQ)) ?_
 | refine S_call (f := 146) rfl obQ (by kernel_rfl) (fun w hw => checkThree_c x y z _ _ _ cx cy cz hsx hsy hsz w (hw.rdm hrx.toS memQ) (hw.rdm hry.toS memQ) (hw.rdm hrz.toS memQ)) ?_
 | refine S_call (f := 111) rfl obQ (by kernel_rfl) (fun w hw => cfirst_c _ _ [gmE g, thE x y z] (by simp) w (.inr ⟨_, rfl, hw.src (i := 2) rfl rfl⟩)) ?_
   )
 | (refine V_id ?_; first
 | refine V_nil ?_
 | refine V_q rfl (Yl_step rfl obQ) ?_
 | refine V_n rfl ?_
   )
 | (refine G_id ?_; first
 | refine G_V ⟨⟨_, rfl, trivial⟩, ⟨_, rfl⟩, rfl, pstQ⟩ rfl ?_
 | refine G_then ?_
   )
   )
  rename_i b2 b3 bs hbC0
  obtain ⟨b7, rfl⟩ : ∃ z, z = b := ⟨b, rfl⟩
  refine C_rowB 153 2 [⟨b2, 143, [.v (.slice A g.length c)]⟩, ⟨b3, 108, [.v (.string x.nm), .v (.int .i64 x.w), .v (.int .i64 x.h), .v (.slice (some ax) x.s.length cx), .v (.string y.nm), .v (.int .i64 y.w), .v (.int .i64 y.h), .v (.slice (some ay) y.s.length cy), .v (.string z.nm), .v (.int .i64 z.w), .v (.int .i64 z.h), .v (.slice (some az) z.s.length cz)]⟩, ⟨bs, 26, [.v (.int .i64 (gmE g)), .v (.int .i64 (thE x y z))]⟩, ⟨b7, 145, [.r none 0 0 0]⟩] rfl ?_
  refine C_rangeFuncE rfl rfl obQ (by kernel_rfl) (encs := encP) (plL x y z) (fun _ => rfl) (by intro t ht; simp at ht; rcases ht with rfl | rfl <;> exact Nat.le_of_ble_eq_true rfl) (fun q => [(22, .int .i64 q.i), (23, triV q.c)]) (fun q => by simp [encP]) (fun w3 hw3 => ?_) (fun (pre : List OPl) (i : Option Addr × Nat) => ⟨[], [⟨b2, 143, [.v (.slice A g.length c)]⟩, ⟨b3, 108, [.v (.string x.nm), .v (.int .i64 x.w), .v (.int .i64 x.h), .v (.slice (some ax) x.s.length cx), .v (.string y.nm), .v (.int .i64 y.w), .v (.int .i64 y.h), .v (.slice (some ay) y.s.length cy), .v (.string z.nm), .v (.int .i64 z.w), .v (.int .i64 z.h), .v (.slice (some az) z.s.length cz)]⟩, ⟨bs, 26, [.v (.int .i64 (gmE g)), .v (.int .i64 (thE x y z))]⟩, ⟨b7, 145, [.r i.1 (viO g pre).length i.2 0]⟩], [⟨153, 2, (viO g pre).length, (viO g pre).flatMap ptC, .slice i.1 (viO g pre).length i.2⟩]⟩) (none, 0) (fun w3 hw3 => HW.same hw3 rfl rfl) (fun l L W3 pre q i hpre hwp => ?_) (fun D WD i hBD hWD hnD => ?_)
  · exact places_seq bC x y z ax ay az cx cy cz ht hsx _ ⟨(w2C, fun b => w1C.heap.size ≤ b ∧ b < w2C.heap.size), by simp, hbC⟩ ⟨(w, fun b => b < w.heap.size), by simp, hbx⟩ ⟨(w, fun b => b < w.heap.size), by simp, hby⟩ ⟨(w, fun b => b < w.heap.size), by simp, hbz⟩ w3 ⟨((hw3.past (w2C, fun b => w1C.heap.size ≤ b ∧ b < w2C.heap.size) (by simp) bC hbC).1.2).trans hMC, hw3.rdm hrx.toS memQ, hw3.rdm hry.toS memQ, hw3.rdm hrz.toS memQ⟩
  · try dsimp only
    have hpl : pre.length ≤ 1000000 := by simp [plL] at hpre; omega
    have hvl := viO_len g pre
    by_cases hfb : fbF g q.c = -1
    · have hsn := viO_f (pre := pre) hfb
      repeat' (first
 | (refine C_id ?_; first
 | refine C_seq ?_
 | refine C_region rfl ?_
 | refine C_block ?_
 | refine C_skip ?_
 | (refine C_cond rfl obQ (fun h => ?_) (fun h => ?_) <;> (try simp only [Bool.or_eq_true, Bool.and_eq_true, Bool.or_eq_false_iff, Bool.and_eq_false_iff, decide_eq_true_eq, decide_eq_false_iff_not, beq_iff_eq, bne_iff_ne, beq_eq_false_iff_ne, bne_eq_false_iff_eq, ne_eq, Decidable.not_not, List.cons.injEq, and_true, Bool.not_eq_true', Bool.not_eq_false', Int.not_lt, Int.not_le] at h) <;> (try (exfalso; omega)) <;> (try (exfalso; simp at h; done)) <;> (try (exfalso; simp only [not_true_eq_false, false_or, or_false] at h; omega)) <;> (try (exfalso; simp at h; omega)))
       )
 | (refine S_id ?_; first
 | refine S_pure (binX_pure rfl obQ (fun w => ne_flat (k := .i64) (n := 2) (xs := [(q.i : Int), fbF g q.c]) (ys := [(q.i : Int), -1]) (by kernel_rfl) rfl rfl _ _ w)) ?_
 | refine S_nil ?_
 | refine S_run rfl rfl obQ obQ ?_
 | refine S_box (fun b0 => ⟨_, _, rfl, obQ, ?_⟩)
 | refine S_call (f := 157) rfl obQ (by kernel_rfl) (fun w hw => forbids_c A c g q.c hg q.ok w (hw.rdm hr.toS memQ)) ?_
       )
 | (refine G_id ?_; first
 | refine G_assignE hwp (fun W4 hw4 => ?_)
 | refine G_roundE i (by dsimp only; rw [hsn]; exact ⟨⟨_, rfl, obQ⟩, ⟨_, rfl⟩, rfl, pstQ⟩) hw4
 | refine G_then ?_
 | refine G_block ?_
       )
       )
    · have hsn := viO_t (pre := pre) hfb
      repeat' (first
 | (refine C_id ?_; first
 | refine C_seq ?_
 | refine C_region rfl ?_
 | refine C_block ?_
 | (refine C_cond rfl obQ (fun h => ?_) (fun h => ?_) <;> (try simp only [Bool.or_eq_true, Bool.and_eq_true, Bool.or_eq_false_iff, Bool.and_eq_false_iff, decide_eq_true_eq, decide_eq_false_iff_not, beq_iff_eq, bne_iff_ne, beq_eq_false_iff_ne, bne_eq_false_iff_eq, ne_eq, Decidable.not_not, List.cons.injEq, and_true, Bool.not_eq_true', Bool.not_eq_false', Int.not_lt, Int.not_le] at h) <;> (try (exfalso; omega)) <;> (try (exfalso; simp at h; done)) <;> (try (exfalso; simp only [not_true_eq_false, false_or, or_false] at h; omega)) <;> (try (exfalso; simp at h; omega)))
       )
 | (refine S_id ?_; first
 | refine S_pure (binX_pure rfl obQ (fun w => ne_flat (k := .i64) (n := 2) (xs := [(q.i : Int), fbF g q.c]) (ys := [(q.i : Int), -1]) (by kernel_rfl) rfl rfl _ _ w)) ?_
 | refine S_append rfl obQ rfl rfl rfl ⟨by decide, rfl⟩ rfl ⟨rfl, rfl, rfl, rfl⟩ [.int .i64 (q.i : Int), .int .i64 (fbF g q.c)] ⟨by decide, rfl⟩ (by simp [Value.oneCell']) (fun w hw => by first | exact hw.src (i := 0) rfl rfl | exact hw.src (i := 1) rfl rfl | exact hw.src (i := 2) rfl rfl | exact hw.src (i := 3) rfl rfl | exact hw.src (i := 4) rfl rfl | exact hw.src (i := 5) rfl rfl | exact hw.src (i := 6) rfl rfl | exact hw.src (i := 7) rfl rfl | exact hw.src (i := 8) rfl rfl) (by unfold maxLen; dsimp only; omega) (fun gb cap' => ⟨_, rfl, ?_⟩)
 | refine S_nil ?_
 | refine S_run rfl rfl obQ obQ ?_
 | refine S_box (fun b0 => ⟨_, _, rfl, obQ, ?_⟩)
 | refine S_slice (fun b => ⟨_, _, rfl, obQ, ?_⟩)
 | refine S_call (f := 157) rfl obQ (by kernel_rfl) (fun w hw => forbids_c A c g q.c hg q.ok w (hw.rdm hr.toS memQ)) ?_
       )
 | (refine G_id ?_; first
 | refine G_assignE hwp (fun W4 hw4 => ?_)
 | refine G_roundE (some ⟨gb, 0, none⟩, cap') (by dsimp only; rw [hsn, List.length_append, ptC_snoc]; exact ⟨⟨_, rfl, obQ⟩, ⟨_, rfl⟩, rfl, pstQ⟩) hw4
 | refine G_then ?_
 | refine G_block ?_
       )
       )
  · repeat' (first
 | (refine C_id ?_; first
 | refine C_seq ?_
 | refine C_region rfl ?_
 | refine C_ret0 ?_
     )
 | (refine S_id ?_; first
 | refine S_nil ?_
 | refine S_run rfl rfl obQ obQ ?_
     )
 | (refine G_id ?_; first
 | refine G_then ?_
 | refine G_block ?_
 | refine G_retD rfl obQ ((DsP.nil _ _).cons hBD hWD hnD) (fun w2 hw => ⟨_, rfl, hw.below, Sl.two (HW.rowSl (w0 := w) (i := 0) hw rfl rfl rfl rfl) rfl⟩)
     )
     )

set_option maxHeartbeats 400000 in
/-- genlocklaw02.planes -/
theorem lplanes_c (A : Option Addr) (c : Nat) (l : List Pla) (hl : l.length ≤ 1000000) (w : World) (hr : Rd w A (l.flatMap plC)) : Calls Tryz.prog 87 #[.slice A l.length c] w fun r w' => ∃ v, r = .returned v ∧ Below w.heap.size w w' ∧ Sl w w' v l.length (l.flatMap plC) := by
  refine calls_of (args := [.slice A l.length c]) T_ok Tryz.func87 rfl Tryz.ntmps87 (Nat.le_of_ble_eq_true rfl) rfl ?_
  repeat' (first
 | (refine C_id ?_; first
 | refine C_seq ?_
 | refine C_region rfl ?_
 | refine C_block ?_
 )
 | (refine S_id ?_; first
 | refine S_nil ?_
 | refine S_run rfl rfl obQ obQ ?_
 )
 | (refine G_id ?_; first
 | refine G_then ?_
 )
 )
  refine C_row0 3 186 4 rfl ?_
  refine C_loopS (fun i : Nat × Option Addr × Nat => ⟨[(3, .s (.r i.2.1 i.1 i.2.2 0)), (6, .s (.v (.slice A l.length c))), (7, .s (.v (.int .i64 l.length))), (8, .s (.v (.int .i64 i.1)))], [], [⟨186, 4, i.1, (l.take i.1).flatMap plC, .slice i.2.1 i.1 i.2.2⟩]⟩) (fun i => i.1 ≤ l.length) (fun i => l.length - i.1) (0, none, 0) (Nat.zero_le _) ?_ (fun i hi => ?_)
  · exact ⟨⟨_, rfl, obQ⟩, ⟨_, rfl⟩, rfl, pstQ⟩
  obtain ⟨k, A', c'⟩ := i
  have hi' : k ≤ l.length := hi
  dsimp only
  by_cases hlt : k < l.length
  · obtain ⟨ad, rfl⟩ := hr.some (by rw [pl_len]; omega)
    have hmt := flatMap_take_succ (f := plC) hlt
    repeat' (first
 | (refine C_id ?_; first
 | refine C_seq ?_
 | refine C_region rfl ?_
 | refine C_block ?_
 | refine C_skip ?_
 | (refine C_cond rfl obQ (fun h => ?_) (fun h => ?_) <;> (try simp only [Bool.or_eq_true, Bool.and_eq_true, Bool.or_eq_false_iff, Bool.and_eq_false_iff, decide_eq_true_eq, decide_eq_false_iff_not, beq_iff_eq, bne_iff_ne, beq_eq_false_iff_ne, bne_eq_false_iff_eq, ne_eq, Decidable.not_not, List.cons.injEq, and_true, Bool.not_eq_true', Bool.not_eq_false', Int.not_lt, Int.not_le] at h) <;> (try (exfalso; omega)))
     )
 | (refine S_id ?_; first
 | refine S_load rfl obQ rfl [.int .i64 l[k].a, .int .i64 l[k].b, .int .i64 l[k].c, .int .i64 l[k].m] (.past _ memQ _ _ hr.toS _ _ rfl rfl (idxS (f := plC) (fun _ => rfl) hlt)) rfl (.inl ⟨rfl, rfl⟩) ?_
 | refine S_append rfl obQ rfl rfl rfl ⟨by decide, rfl⟩ rfl ⟨rfl, rfl, rfl, rfl⟩ [.int .i64 l[k].a, .int .i64 l[k].b, .int .i64 l[k].c, .int .i64 l[k].m] ⟨by decide, rfl⟩ (by simp [Value.oneCell']) (fun w hw => by first | exact hw.src (i := 0) rfl rfl | exact hw.src (i := 1) rfl rfl | exact hw.src (i := 2) rfl rfl | exact hw.src (i := 3) rfl rfl | exact hw.src (i := 4) rfl rfl | exact hw.src (i := 5) rfl rfl | exact hw.src (i := 6) rfl rfl | exact hw.src (i := 7) rfl rfl | exact hw.src (i := 8) rfl rfl) (by unfold maxLen; dsimp only; omega) (fun gb cap' => ⟨_, rfl, ?_⟩)
 | refine S_nil ?_
 | refine S_run rfl rfl obQ obQ ?_
 | refine S_box (fun b => ⟨_, _, rfl, obQ, ?_⟩)
 | refine S_slice (fun b => ⟨_, _, rfl, obQ, ?_⟩)
     )
 | (refine G_id ?_; first
 | refine G_loop (k + 1, some ⟨gb, 0, none⟩, cap') (by show k + 1 ≤ _; omega) (by show l.length - (k + 1) < l.length - k; omega) ⟨⟨_, rfl, obQ⟩, ⟨_, rfl⟩, (by dsimp only; rw [hmt]; rfl), pstQ⟩
 | refine G_then ?_
 | refine G_block ?_
     )
     )
  · obtain rfl : k = l.length := by omega
    repeat' (first
 | (refine C_id ?_; first
 | refine C_seq ?_
 | refine C_region rfl ?_
 | refine C_exit ?_
 | refine C_ret0 ?_
 | (refine C_cond rfl obQ (fun h => ?_) (fun h => ?_) <;> (try simp only [Bool.or_eq_true, Bool.and_eq_true, Bool.or_eq_false_iff, Bool.and_eq_false_iff, decide_eq_true_eq, decide_eq_false_iff_not, beq_iff_eq, bne_iff_ne, beq_eq_false_iff_ne, bne_eq_false_iff_eq, ne_eq, Decidable.not_not, List.cons.injEq, and_true, Bool.not_eq_true', Bool.not_eq_false', Int.not_lt, Int.not_le] at h) <;> (try (exfalso; omega)))
     )
 | (refine S_id ?_; first
 | refine S_nil ?_
 | refine S_run rfl rfl obQ obQ ?_
     )
 | (refine G_id ?_; first
 | refine G_then ?_
 | refine G_blockX ?_
 | refine G_thenX ?_
 | refine G_ret rfl obQ (fun w2 hw => ⟨_, rfl, hw.below, HW.rowSl (i := 0) hw rfl rfl rfl (by rw [List.take_length])⟩)
     )
     )

end Go.Proofs.YtdbffbcobghbeaaGreatDoor
namespace Go.Proofs.YtdbffbcobghbeaaGreatDoor
open Go.E Go.RowKit Go.Fl
attribute [local irreducible] G C S D Calls
set_option maxRecDepth 100000
set_option linter.unusedSimpArgs false
set_option linter.unusedVariables false

/-- The first plane that forbids, or none. -/
theorem fb_cases (g : List Pla) (c : Col) : (fbF g c = -1 ∧ ∀ j, j < g.length → offB (gPl g j) c = false) ∨ ∃ k, k < g.length ∧ fbF g c = k ∧ offB (gPl g k) c = true ∧ ∀ j, j < k → offB (gPl g j) c = false := by
  by_cases h : ∃ k, k < g.length ∧ offB (gPl g k) c = true
  · obtain ⟨k, hk, ho⟩ := h
    have : ∀ n, ∀ k, k < n → k < g.length → offB (gPl g k) c = true → ∃ k, k < g.length ∧ offB (gPl g k) c = true ∧ ∀ j, j < k → offB (gPl g j) c = false := by
      intro n
      induction n with
      | zero => intro k h; omega
      | succ n ih =>
        intro k hk h1 h2
        by_cases h3 : ∃ j, j < k ∧ offB (gPl g j) c = true
        · obtain ⟨j, hj, h4⟩ := h3
          exact ih j (by omega) (by omega) h4
        · refine ⟨k, h1, h2, fun j hj => ?_⟩
          cases h5 : offB (gPl g j) c with
          | false => rfl
          | true => exact absurd ⟨j, hj, h5⟩ h3
    obtain ⟨k, h1, h2, h3⟩ := this (k + 1) k (by omega) hk ho
    exact .inr ⟨k, h1, fb_at h1 h3 h2, h2, h3⟩
  · have h0 : ∀ j, j < g.length → offB (gPl g j) c = false := fun j hj => by
      cases h5 : offB (gPl g j) c with
      | false => rfl
      | true => exact absurd ⟨j, hj, h5⟩ h
    exact .inl ⟨fb_none h0, h0⟩
theorem gPl_take {g : List Pla} {k j : Nat} (h : j < k) : gPl (g.take k) j = gPl g j := by
  unfold gPl
  simp [List.getD_eq_getElem?_getD, List.getElem?_take, h]
theorem gPl_one {g : List Pla} {k : Nat} : gPl ((g.drop k).take 1) 0 = gPl g k := by
  unfold gPl
  simp [List.getD_eq_getElem?_getD, List.getElem?_take]
/-- All planes before it permit. -/
theorem fb_before {g : List Pla} {c : Col} {k : Nat} (h : ∀ j, j < k → offB (gPl g j) c = false) : fbF (g.take k) c = -1 := fb_none fun j hj => by
  have : j < k := by rw [List.length_take] at hj; omega
  rw [gPl_take this]
  exact h j this
/-- It alone does not. -/
theorem fb_alone {g : List Pla} {c : Col} {k : Nat} (hk : k < g.length) (h : offB (gPl g k) c = true) : fbF ((g.drop k).take 1) c = 0 :=
  fb_at (k := 0) (by rw [List.length_take, List.length_drop]; omega) (fun j hj => absurd hj (Nat.not_lt_zero j)) (by rw [gPl_one]; exact h)
theorem gm_take {g : List Pla} {k : Nat} (h : gmE g = 0) : gmE (g.take k) = 0 := by
  obtain ⟨h1, h2⟩ := gmE_ok.1 h
  exact gmE_ok.2 ⟨by rw [List.length_take]; omega, fun p hp => h2 p (List.mem_of_mem_take hp)⟩
theorem gm_one {g : List Pla} {k : Nat} (h : gmE g = 0) : gmE ((g.drop k).take 1) = 0 := by
  obtain ⟨h1, h2⟩ := gmE_ok.1 h
  exact gmE_ok.2 ⟨by rw [List.length_take]; omega, fun p hp => h2 p (List.mem_of_mem_drop (List.mem_of_mem_take hp))⟩
theorem lg_zero {g : List Pla} {c : Col} (h : gmE g = 0) (hc : ColOk c) : lgE g c = 0 := by
  unfold lgE
  rw [firstL_zero]
  simp only [List.mem_cons, List.mem_nil_iff, or_false, forall_eq_or_imp, forall_eq, col_ok]
  exact ⟨h, hc⟩
theorem lgR_is {g : List Pla} {c : Col} (h : gmE g = 0) (hc : ColOk c) : lgR g c = (decide (fbF g c < 0), 0) := if_pos (lg_zero h hc)
/-- What comes after the first places. -/
theorem vi_split (g : List Pla) (x y z : Pic) (i : Nat) : ∀ d, ∃ r, viF g x y z (i + d) = viF g x y z i ++ r ∧ ∀ q ∈ r, (i : Int) ≤ q.1 := by
  intro d
  induction d with
  | zero => exact ⟨[], by simp, fun q hq => by cases hq⟩
  | succ d ih =>
    obtain ⟨r, h1, h2⟩ := ih
    by_cases h : fbF g (plA x y z (i + d)) = -1
    · exact ⟨r, by rw [← Nat.add_assoc, viF_f h, h1], h2⟩
    · refine ⟨r ++ [(((i + d : Nat) : Int), fbF g (plA x y z (i + d)))], by rw [← Nat.add_assoc, viF_t h, h1, List.append_assoc], fun q hq => ?_⟩
      rcases List.mem_append.1 hq with hq | hq
      · exact h2 q hq
      · obtain rfl : q = _ := by simpa using hq
        show (i : Int) ≤ ((i + d : Nat) : Int)
        omega
theorem vi_at {g : List Pla} {x y z : Pic} {i n : Nat} (hi : i < n) (h : ¬ fbF g (plA x y z i) = -1) : (viF g x y z i).length < (viF g x y z n).length ∧ gP (viF g x y z n) (viF g x y z i).length = ((i : Int), fbF g (plA x y z i)) := by
  obtain ⟨r, h1, _⟩ := vi_split g x y z (i + 1) (n - (i + 1))
  rw [show i + 1 + (n - (i + 1)) = n by omega, viF_t h] at h1
  rw [h1]
  refine ⟨by simp, ?_⟩
  unfold gP
  simp [List.getD_eq_getElem?_getD]
theorem vi_off {g : List Pla} {x y z : Pic} {i n : Nat} (hi : i < n) (h : fbF g (plA x y z i) = -1) (hl : (viF g x y z i).length < (viF g x y z n).length) : (i : Int) < (gP (viF g x y z n) (viF g x y z i).length).1 := by
  obtain ⟨r, h1, h2⟩ := vi_split g x y z (i + 1) (n - (i + 1))
  rw [show i + 1 + (n - (i + 1)) = n by omega, viF_f h] at h1
  rw [h1] at hl ⊢
  have hr : 0 < r.length := by rw [List.length_append] at hl; omega
  have : gP (viF g x y z i ++ r) (viF g x y z i).length = r[0] := by
    unfold gP
    simp [List.getD_eq_getElem?_getD, hr]
  rw [this]
  have := h2 _ (List.getElem_mem hr)
  omega
theorem clF_in {lo hi : Int} (h : lo ≤ hi) (n : Int) : lo ≤ clF lo hi n ∧ clF lo hi n ≤ hi := by
  unfold clF
  omega
theorem clF_same {lo hi n : Int} (h : lo ≤ n ∧ n ≤ hi) : clF lo hi n = n := by
  unfold clF
  omega
theorem tuP_twice {p : Pic} {lo hi : Int} (h1 : -16384 ≤ lo) (h2 : hi ≤ 16384) (h : lo ≤ hi) : tuP (clF lo hi) (tuP (clF lo hi) p) = tuP (clF lo hi) p := by
  have : ((tuP (clF lo hi) p).s.map fun x => smp (clF lo hi (lvl x))) = (tuP (clF lo hi) p).s := by
    simp only [tuP, List.map_map]
    refine List.map_congr_left fun x _ => ?_
    have := clF_in h (lvl x)
    show smp (clF lo hi (lvl (smp (clF lo hi (lvl x))))) = smp (clF lo hi (lvl x))
    rw [smp_lvl (by omega), clF_same this]
  show (⟨p.nm, p.w, p.h, (tuP (clF lo hi) p).s.map fun x => smp (clF lo hi (lvl x))⟩ : Pic) = tuP (clF lo hi) p
  rw [this]
  rfl
/-- The luma of three times the same colour. -/
theorem luN_same {a b c n : Int} (h : WtOk a b c) : luN a b c (n, n, n) = n := by
  have hs := h.ws
  have e : dotF a b c n n n = 256 * n := by
    unfold dotF
    rw [← Int.add_mul, ← Int.add_mul, hs]
  show rnd (dotF a b c n n n) 256 = n
  rw [e]
  unfold rnd
  omega
theorem smp_B32 {b : Nat} (h : Smp b) : B32 (smp (lvl b)) = B32 b := by
  have := h.lv
  rw [(smp_ok (n := lvl b) (by omega)).2.2, h.eq]
theorem luP_same {x : Pic} {a b c : Int} (hx : PicOk x) (h : WtOk a b c) : (luP x x x a b c).s.map B32 = x.s.map B32 := by
  refine List.ext_getElem (by simp [luP, plL]) fun k h1 h2 => ?_
  have hk : k < x.s.length := by simpa using h2
  have hsm := hx.s _ (gB_mem hk)
  have hok : ColOk (plA x x x k) := ⟨hsm.lv, hsm.lv, hsm.lv⟩
  simp only [luP, plL, List.getElem_map, List.getElem_range]
  rw [(toP_c hok).1]
  show B32 (smp (luN a b c (lvl (gB x.s k), lvl (gB x.s k), lvl (gB x.s k)))) = _
  rw [luN_same h, smp_B32 hsm, gB_at hk]

end Go.Proofs.YtdbffbcobghbeaaGreatDoor
namespace Go.Proofs.YtdbffbcobghbeaaGreatDoor
open Go.E Go.RowKit Go.Fl
attribute [local irreducible] G C S D DY DS V VT Yl QV QT Calls
set_option maxRecDepth 100000
set_option linter.unusedSimpArgs false
set_option linter.unusedVariables false

/-- A part of a slice, between two indices. -/
theorem sl_two {X : Cx} {t : TypeId} {ti : TI} {e es : Nat} (hl : Go.E.look X.T t = some ti) (hk : ti.k = .slice e es) (ad : Addr) (n c : Nat) (k k' : IntKind) (z y : Int) (i j : Nat) (hz : z = (i : Int)) (hy : y = ((i + j : Nat) : Int)) (h0 : 0 < j) (h1 : i + j ≤ c) (w : World) :
    (Instr.sliceAt t (.slice (some ad) n c) (some (.int k z)) (some (.int k' y)) none).run X.P w = .ok (.slice (some (ad.add (i * es))) j (c - i)) w := by
  subst hz hy
  obtain ⟨i', dd, z, hi, hu, hz, rfl⟩ := X.hT.row hl
  obtain ⟨rfl, ie, hie, hes⟩ := kOf_slice hk
  have he : X.P.elem t = e := by simp [Program.elem, hu]
  rw [run_sliceAt_slice w t _ _ _ _ (by rw [he]; exact hu), run_slice_lh w t (some ad) n c (by rw [he]; exact hu) k k' (i : Int) ((i + j : Nat) : Int) (by omega) (by omega) (by omega)]
  have : (sizeOf (X.P.elem t)).run X.P w = .ok ie.size w := by simp [he, sizeOf, typeInfo, hie]
  rw [this]
  simp only [Result.andThen_ok, sliced, Int.toNat_natCast, hes, if_neg (show ¬ c = i by omega), Nat.add_sub_cancel_left, Option.map_some]
theorem rd_take {w : World} {A : Option Addr} {g : List Pla} {k : Nat} (h : Rd w A (g.flatMap plC)) (hA : A ≠ none) : Rd w A ((g.take k).flatMap plC) := by
  rcases h with h | ⟨ad, h1, h2⟩
  · rw [show g = [] from by cases g with
      | nil => rfl
      | cons a g => rw [List.flatMap_cons] at h; simp [plC] at h]
    simp
    exact .inl rfl
  · refine .inr ⟨ad, h1, fun j u hu => h2 j u ?_⟩
    have e : g.flatMap plC = (g.take k).flatMap plC ++ (g.drop k).flatMap plC := by rw [← List.flatMap_append, List.take_append_drop]
    rw [e, List.getElem?_append_left (List.getElem?_eq_some_iff.1 hu).1]
    exact hu
theorem rd_one {w : World} {ad : Addr} {g : List Pla} {k : Nat} (hk : k < g.length) (h : Rd w (some ad) (g.flatMap plC)) : Rd w (some (ad.add (k * 4))) (((g.drop k).take 1).flatMap plC) := by
  have e : (g.drop k).take 1 = [gPl g k] := by
    rw [List.drop_eq_getElem_cons hk, gPl_at hk]
    rfl
  rw [e]
  refine .inr ⟨_, rfl, fun j u hu => ?_⟩
  rw [add_of_add]
  refine rd_at h _ _ ?_
  have := gPl_idx hk j u (by simpa using hu)
  simpa using this
section
variable {A : Option Addr} {c n : Nat} {g : List Pla} {x : Col} {w : World}
theorem planesS_as (hn : g.length = n) (hl : n ≤ 1000000) (hr : Rd w A (g.flatMap plC)) : Calls Tryz.prog 87 #[.slice A n c] w fun r w' => ∃ v, r = .returned v ∧ Below w.heap.size w w' ∧ Sl w w' v n (g.flatMap plC) := by
  subst hn
  exact lplanes_c A c g hl w hr
theorem legalS_as {b : Bool} (hg : gmE g = 0) (hx : ColOk x) (hb : decide (fbF g x < 0) = b) (hn : g.length = n) (hl : n ≤ 1000000) (hr : Rd w A (g.flatMap plC)) : Calls Tryz.prog 86 #[.slice A n c, .agg #[.int .i64 x.1, .int .i64 x.2.1, .int .i64 x.2.2]] w fun r w' => r = .returned (.tuple #[.bool b, .int .i64 0]) ∧ Below w.heap.size w w' := by
  subst hn hb
  have := Legal_c A c g hl x w hr
  rw [lgR_is hg hx] at this
  exact this
end

set_option maxHeartbeats 400000 in
/-- genlockref02.CheckGamut -/
theorem rCheckGamutHi_c (A : Option Addr) (c : Nat) (g : List Pla) (h16 : 16 < g.length) (hmax : g.length ≤ maxLen) (w : World) : Calls Tryz.prog 89 #[.slice A g.length c] w fun r w' => r = .returned (.int .i64 5) ∧ Below w.heap.size w w' := by
  refine calls_of (args := [.slice A g.length c]) T_ok Tryz.func89 rfl Tryz.ntmps89 (Nat.le_of_ble_eq_true rfl) rfl ?_
  unfold maxLen at hmax
  repeat' (first
 | (refine C_id ?_; first
 | refine C_seq ?_
 | refine C_region rfl ?_
 | refine C_ret0 ?_
 | (refine C_cond rfl obQ (fun h => ?_) (fun h => ?_) <;> (try simp only [Bool.or_eq_true, Bool.and_eq_true, Bool.or_eq_false_iff, Bool.and_eq_false_iff, decide_eq_true_eq, decide_eq_false_iff_not, beq_iff_eq, bne_iff_ne, beq_eq_false_iff_ne, bne_eq_false_iff_eq, ne_eq, Decidable.not_not, List.cons.injEq, and_true, Bool.not_eq_true', Bool.not_eq_false', Int.not_lt, Int.not_le] at h) <;> (try (exfalso; omega)))
 )
 | (refine S_id ?_; first
 | refine S_nil ?_
 | refine S_run rfl rfl obQ obQ ?_
 )
 | (refine G_id ?_; first
 | refine G_then ?_
 | refine G_thenR ?_
 | refine G_ret rfl obQ (fun w hw => ⟨?_, hw.below⟩)
 )
 )
  all_goals rfl

theorem rckG_any {A : Option Addr} {c : Nat} {g : List Pla} {w : World} (hmax : g.length ≤ maxLen) (hr : Rd w A (g.flatMap plC)) : Calls Tryz.prog 89 #[.slice A g.length c] w fun r w' => r = .returned (.int .i64 (gmE g)) ∧ Below w.heap.size w w' := by
  by_cases h : g.length ≤ 1000000
  · exact rCheckGamut_c A c g h w hr
  · have := rCheckGamutHi_c A c g (by omega) hmax w
    rwa [gmE_1 (by omega)]

set_option maxHeartbeats 1000000 in
/-- genlockref01.CheckPicture -/
theorem rCheckPictureBig_c (p : Pic) (A : Option Addr) (c : Nat) (h4 : 4096 < p.s.length) (hmax : p.s.length ≤ maxLen) (hnm : p.nm.size ≤ maxLen) (w : World) : Calls Tryz.prog 57 #[.agg #[.string p.nm, .int .i64 p.w, .int .i64 p.h, .slice A p.s.length c]] w fun r w' => r = .returned (.int .i64 (picE p)) ∧ Below w.heap.size w w' := by
  refine calls_of (args := [.agg #[.string p.nm, .int .i64 p.w, .int .i64 p.h, .slice A p.s.length c]]) T_ok Tryz.func57 rfl Tryz.ntmps57 (Nat.le_of_ble_eq_true rfl) rfl ?_
  have hmul : hdE p = 0 → 1 ≤ p.w * p.h ∧ p.w * p.h ≤ 64 * 64 := fun h => by
    obtain ⟨_, h2, h3⟩ := hd_ok h
    have g1 := Int.mul_le_mul h2.2 h3.2 (by omega) (by omega)
    have g2 := Int.mul_pos (show 0 < p.w by omega) (show 0 < p.h by omega)
    omega
  unfold maxLen at hmax
  repeat' (first
 | (refine C_id ?_; first
 | refine C_seq ?_
 | refine C_regionNe 6 rfl rfl ?_
 | refine C_skip ?_
 | refine C_ret0 ?_
 | refine C_drawT (id := 1) 9 rfl mixed (by kernel_rfl) rfl rfl ?_
 | (refine C_cond rfl obQ (fun h => ?_) (fun h => ?_) <;> (try simp only [Bool.or_eq_true, Bool.and_eq_true, Bool.or_eq_false_iff, Bool.and_eq_false_iff, decide_eq_true_eq, decide_eq_false_iff_not, beq_iff_eq, bne_iff_ne, beq_eq_false_iff_ne, bne_eq_false_iff_eq, ne_eq, Decidable.not_not, List.cons.injEq, and_true, Bool.not_eq_true', Bool.not_eq_false', Int.not_lt, Int.not_le] at h) <;> (try (exfalso; omega)) <;> (try (exfalso; simp at h; done)) <;> (try (exfalso; simp only [not_true_eq_false, false_or, or_false] at h; omega)) <;> (try have hmul := hmul h))
   )
 | (refine S_id ?_; first
 | refine S_nil ?_
 | refine S_run rfl rfl obQ obQ ?_
 | refine S_box (fun b => ⟨_, _, rfl, obQ, ?_⟩)
 | refine S_slice (fun b => ⟨_, _, rfl, obQ, ?_⟩)
 | refine S_call (f := 117) rfl obQ (by kernel_rfl) (fun w hw => rFirst_c _ _ [wh (!isName p.nm) 8, wi p.w 1 64, wi p.h 1 64] (by simp) w (.inr ⟨_, rfl, hw.src (i := 1) rfl rfl⟩)) ?_
   )
 | (refine D_id ?_; first
 | refine D_tail ?_
 | refine D_run rfl rfl obQ obQ ?_
 | refine D_call (f := 143) rfl obQ (by kernel_rfl) (fun w hw => rCheckName_c p.nm hnm w) ?_
 | refine D_call (f := 29) rfl obQ (by kernel_rfl) (fun w hw => rRange_c _ _ _ w) ?_
   )
 | (refine G_id ?_; first
 | refine G_then ?_
 | refine G_thenR ?_
 | refine G_ret rfl obQ (fun w hw => ⟨?_, hw.below⟩)
   )
   )
  · exact rI (picE_hd h).symm
  · exact rI (picE_n (by assumption) h).symm

theorem rCheckPicAny {p : Pic} {A : Option Addr} {c : Nat} {w : World} (hs : p.s.length ≤ maxLen) (hnm : p.nm.size ≤ maxLen) (hr : Rd w A (p.s.map (.float .f32))) : Calls Tryz.prog 57 #[.agg #[.string p.nm, .int .i64 p.w, .int .i64 p.h, .slice A p.s.length c]] w fun r w' => r = .returned (.int .i64 (picE p)) ∧ Below w.heap.size w w' := by
  by_cases h : p.s.length ≤ 1000000
  · exact rCheckPicture_c p A c h hnm w hr
  · exact rCheckPictureBig_c p A c (by omega) hs hnm w

set_option maxHeartbeats 1000000 in
/-- genlockref02.CheckThree -/
theorem rCheckThreeAny_c (x y z : Pic) (Ax Ay Az : Option Addr) (cx cy cz : Nat) (hnx : x.nm.size ≤ maxLen) (hny : y.nm.size ≤ maxLen) (hnz : z.nm.size ≤ maxLen) (hsx : x.s.length ≤ maxLen) (hsy : y.s.length ≤ maxLen) (hsz : z.s.length ≤ maxLen) (w : World) (hrx : Rd w Ax (x.s.map (.float .f32))) (hry : Rd w Ay (y.s.map (.float .f32))) (hrz : Rd w Az (z.s.map (.float .f32))) : Calls Tryz.prog 63 #[.agg #[.string x.nm, .int .i64 x.w, .int .i64 x.h, .slice Ax x.s.length cx, .string y.nm, .int .i64 y.w, .int .i64 y.h, .slice Ay y.s.length cy, .string z.nm, .int .i64 z.w, .int .i64 z.h, .slice Az z.s.length cz]] w fun r w' => r = .returned (.int .i64 (thE x y z)) ∧ Below w.heap.size w w' := by
  refine calls_of (args := [.agg #[.string x.nm, .int .i64 x.w, .int .i64 x.h, .slice Ax x.s.length cx, .string y.nm, .int .i64 y.w, .int .i64 y.h, .slice Ay y.s.length cy, .string z.nm, .int .i64 z.w, .int .i64 z.h, .slice Az z.s.length cz]]) T_ok Tryz.func63 rfl Tryz.ntmps63 (Nat.le_of_ble_eq_true rfl) rfl ?_
  repeat' (first
 | (refine C_id ?_; first
 | refine C_rounds 3 ?_
 | refine C_seq ?_
 | refine C_region rfl ?_
 | refine C_block ?_
 | refine C_skip ?_
 | refine C_exit ?_
 | refine C_ret0 ?_
 | refine C_drawV (id := 1) 8 [(0, true), (1, true), (3, true), (4, true), (6, true), (7, true), (2, false), (5, false)] rfl mixed (by kernel_rfl) rfl ?_
 | refine C_draw (id := 7) rfl mixed (by kernel_rfl) ?_
 | refine C_condT rfl obQ ?_
 | refine C_condF rfl obQ ?_
 | (refine C_cond rfl obQ (fun h => ?_) (fun h => ?_) <;> (try simp only [Bool.or_eq_true, Bool.and_eq_true, Bool.or_eq_false_iff, Bool.and_eq_false_iff, decide_eq_true_eq, decide_eq_false_iff_not, beq_iff_eq, bne_iff_ne, beq_eq_false_iff_ne, bne_eq_false_iff_eq, ne_eq, Decidable.not_not, List.cons.injEq, and_true, Bool.not_eq_true', Bool.not_eq_false', Int.not_lt, Int.not_le] at h))
 )
 | (refine S_id ?_; first
 | refine S_nil ?_
 | refine S_run rfl rfl obQ obQ ?_
 | refine S_box (fun b => ⟨_, _, rfl, obQ, ?_⟩)
 | refine S_slice (fun b => ⟨_, _, rfl, obQ, ?_⟩)
 | refine S_call (f := 57) rfl obQ (by kernel_rfl) (fun w hw => rCheckPicAny (p := x) hsx hnx (hw.rdm hrx.toS memQ)) ?_
 | refine S_call (f := 57) rfl obQ (by kernel_rfl) (fun w hw => rCheckPicAny (p := y) hsy hny (hw.rdm hry.toS memQ)) ?_
 | refine S_call (f := 57) rfl obQ (by kernel_rfl) (fun w hw => rCheckPicAny (p := z) hsz hnz (hw.rdm hrz.toS memQ)) ?_
 | refine S_call (f := 117) rfl obQ (by kernel_rfl) (fun w hw => rFirst_c _ _ [picE x, picE y, picE z] (by simp) w (.inr ⟨_, rfl, hw.src (i := 1) rfl rfl⟩)) ?_
 )
 | (refine D_id ?_; first
 | refine D_nil ?_
 | refine D_run rfl rfl obQ obQ ?_
 )
 | (refine V_id ?_; first
 | refine V_nil ?_
 | refine V_q rfl (Yl_step rfl obQ) ?_
 | refine V_n rfl ?_
 )
 | (refine G_id ?_; first
 | refine G_V ⟨⟨_, rfl, trivial⟩, ⟨_, rfl⟩, rfl, pstQ⟩ rfl ?_
 | refine G_rounds (C_trim [1, 2, 4] 1 rfl rfl ?_)
 | refine G_then ?_
 | refine G_block ?_
 | refine G_blockX ?_
 | refine G_blockR ?_
 | refine G_thenR ?_
 | refine G_thenX ?_
 | refine G_ret rfl obQ (fun w hw => ⟨?_, hw.below⟩)
 )
 )
  all_goals first
    | exact rI (thE_1 (by assumption)).symm
    | exact rI (th_bad1 (by assumption) (by assumption)).symm
    | exact rI (th_bad2 (by assumption) (by assumption)).symm
    | exact rI (th_good (by assumption) (by assumption) (by assumption)).symm

theorem sameV_c (A B : Option Addr) (c c2 : Nat) (xs ys : List Nat) (hl : xs.length ≤ 1000000) (hl2 : ys.length ≤ 1000000) (hx : ∀ x ∈ xs, Fin32 x) (hy : ∀ x ∈ ys, Fin32 x) (hB : xs.map B32 = ys.map B32) (w : World) (hr : Rd w A (xs.map (.float .f32))) (hr2 : Rd w B (ys.map (.float .f32))) : Calls Tryz.prog 109 #[.slice A xs.length c, .slice B ys.length c2] w fun r w' => r = .returned (.bool true) ∧ Below w.heap.size w w' := by
  have h := rSameSamples_c A B c c2 xs ys hl hl2 hx hy w hr hr2
  rw [decide_eq_true hB] at h
  exact h
theorem cl_zero {p : Pic} {lo hi : Int} (hp : PicOk p) (h : ivE lo hi = 0) : clE p lo hi = 0 := by
  unfold clE
  rw [firstL_zero]
  simp only [List.mem_cons, List.mem_nil_iff, or_false, forall_eq_or_imp, forall_eq]
  exact ⟨pic_ok.2 hp, h⟩
theorem tuP_ok {f : Int → Int} {p : Pic} (hp : PicOk p) (hf : ∀ n, -16384 ≤ f n ∧ f n ≤ 16384) : PicOk (tuP f p) := ⟨hp.nm, hp.w, hp.h, by rw [tuP_len]; exact hp.n, tuP_fin hf⟩
theorem tuP_gB {f : Int → Int} {p : Pic} {k : Nat} (h : k < p.s.length) : gB (tuP f p).s k = smp (f (lvl (gB p.s k))) := by
  rw [gB_at (by rw [tuP_len]; exact h), gB_at h]
  simp [tuP]
theorem luP_len {x y z : Pic} {a b c : Int} : (luP x y z a b c).s.length = x.s.length := by simp [luP, plL]
theorem th_same {x : Pic} (h : PicOk x) : ThOk x x x := ⟨h, h, h, ⟨rfl, rfl⟩, ⟨rfl, rfl⟩⟩
theorem luP_fin {x : Pic} {a b c : Int} (hx : PicOk x) (h : WtOk a b c) : ∀ q ∈ (luP x x x a b c).s, Fin32 q := by
  intro q hq
  simp only [luP, plL, List.mem_map, List.mem_range] at hq
  obtain ⟨p, hp, rfl⟩ := hq
  exact (smp_Smp (luN_bd h p.ok).2).fin
section
variable {A Ap : Option Addr} {ax ay az : Addr} {c cp cx cy cz : Nat} {p : Pic} {lo hi a b d : Int} {w : World}
theorem clq_as (h : clE p lo hi = 0) (hs : p.s.length ≤ 1000000) (hr : Rd w Ap (p.s.map (.float .f32))) : Calls Tryz.prog 94 #[.agg #[.string p.nm, .int .i64 p.w, .int .i64 p.h, .slice Ap p.s.length cp], .agg #[.int .i64 lo, .int .i64 hi]] w fun r w' => ∃ v, r = .returned v ∧ Below w.heap.size w w' ∧ PicR w w' v (tuP (clF lo hi) p) 0 := by
  have := Clipped_c p Ap cp hs lo hi w hr
  simpa only [if_pos h] using this
theorem clt_as (h : clE p lo hi = 0) (he : tuP (clF lo hi) p = p) (hs : p.s.length ≤ 1000000) (hr : Rd w Ap (p.s.map (.float .f32))) : Calls Tryz.prog 94 #[.agg #[.string p.nm, .int .i64 p.w, .int .i64 p.h, .slice Ap p.s.length cp], .agg #[.int .i64 lo, .int .i64 hi]] w fun r w' => ∃ v, r = .returned v ∧ Below w.heap.size w w' ∧ PicR w w' v p 0 := by
  have := clq_as (cp := cp) h hs hr
  rwa [he] at this
theorem lum_as (hx : PicOk p) (hw : WtOk a b d) (hs : p.s.length ≤ 1000000) (hrx : Rd w (some ax) (p.s.map (.float .f32))) (hry : Rd w (some ay) (p.s.map (.float .f32))) (hrz : Rd w (some az) (p.s.map (.float .f32))) : Calls Tryz.prog 61 #[.agg #[.string p.nm, .int .i64 p.w, .int .i64 p.h, .slice (some ax) p.s.length cx, .string p.nm, .int .i64 p.w, .int .i64 p.h, .slice (some ay) p.s.length cy, .string p.nm, .int .i64 p.w, .int .i64 p.h, .slice (some az) p.s.length cz], .agg #[.int .i64 a, .int .i64 b, .int .i64 d]] w fun r w' => ∃ v, r = .returned v ∧ Below w.heap.size w w' ∧ PicR w w' v (luP p p p a b d) 0 := by
  have := Luma_c p p p ax ay az cx cy cz hs hs hs a b d w hrx hry hrz
  rw [luR_3 (th_ok.2 (th_same hx)) (wt_ok.2 hw)] at this
  exact this
theorem six_as {b : Nat} {v : Int} (h : Smp b) (hv : lvl b = v) : Calls Tryz.prog 98 #[.float .f32 b] w fun r w' => r = .returned (.int .i64 v) ∧ Below w.heap.size w w' := by
  subst hv
  exact sixteenths_c b h.fin h.bd w
theorem rsmp_as {b : Nat} (h : Smp b) : Calls Tryz.prog 101 #[.float .f32 b] w fun r w' => r = .returned (.int .i64 0) ∧ Below w.heap.size w w' := by
  have := rCheckSample_c b w
  rwa [smp_iff.2 h] at this
theorem rng_as {n l m e : Int} (h : wi n l m = e) : Calls Tryz.prog 29 #[.int .i64 n, .int .i64 l, .int .i64 m] w fun r w' => r = .returned (.int .i64 e) ∧ Below w.heap.size w w' := by
  subst h
  exact rRange_c n l m w
theorem riv_as {e : Int} (h : ivE lo hi = e) : Calls Tryz.prog 49 #[.agg #[.int .i64 lo, .int .i64 hi]] w fun r w' => r = .returned (.int .i64 e) ∧ Below w.heap.size w w' := by
  subst h
  exact rCheckInterval_c lo hi w
end

set_option maxHeartbeats 400000 in
/-- genlockref01.SamePicture -/
theorem rSameW_c (p q : Pic) (A B : Option Addr) (c c2 : Nat) (hs : p.s.length ≤ 1000000) (hf : ∀ x ∈ p.s, Fin32 x) (hsq : q.s.length ≤ 1000000) (hfq : ∀ x ∈ q.s, Fin32 x) (hn : p.nm = q.nm) (hw0 : p.w = q.w) (hh : p.h = q.h) (hB : p.s.map B32 = q.s.map B32) (w : World) (hr : Rd w A (p.s.map (.float .f32))) (hr2 : Rd w B (q.s.map (.float .f32))) : Calls Tryz.prog 97 #[.agg #[.string p.nm, .int .i64 p.w, .int .i64 p.h, .slice A p.s.length c], .agg #[.string q.nm, .int .i64 q.w, .int .i64 q.h, .slice B q.s.length c2]] w fun r w' => r = .returned (.bool true) ∧ Below w.heap.size w w' := by
  refine calls_of (args := [.agg #[.string p.nm, .int .i64 p.w, .int .i64 p.h, .slice A p.s.length c], .agg #[.string q.nm, .int .i64 q.w, .int .i64 q.h, .slice B q.s.length c2]]) T_ok Tryz.func97 rfl Tryz.ntmps97 (Nat.le_of_ble_eq_true rfl) rfl ?_
  repeat' (first
 | (refine C_id ?_; first
 | refine C_seq ?_
 | refine C_region rfl ?_
 | refine C_ret0 ?_
 )
 | (refine S_id ?_; first
 | ((with_reducible refine S_trueA ?_ ?_ ?_); (· rfl); (· first | rfl | (first | exact beq_self_eq_true _ | rfl | (rw [hw0]; exact beq_self_eq_true _) | (rw [hh]; exact beq_self_eq_true _))))
 | refine S_unG rfl rfl rfl rfl ?_
 | ((with_reducible refine S_trueS ?_ ?_); · (rw [hn]; exact beq_self_eq_true _))
 | refine S_nil ?_
 | refine S_runN rfl rfl obQ obQ ?_
 | refine S_box (fun b => ⟨_, _, rfl, obQ, ?_⟩)
 | refine S_call (f := 109) rfl obQ (by kernel_rfl) (fun w hw => sameV_c A B c c2 p.s q.s hs hsq hf hfq hB w (hw.rdm hr.toS memQ) (hw.rdm hr2.toS memQ)) ?_
 )
 | (refine G_id ?_; first
 | refine G_then ?_
 | refine G_ret rfl obQ (fun w hw => ⟨?_, hw.below⟩)
 )
 )
  rfl

end Go.Proofs.YtdbffbcobghbeaaGreatDoor
namespace Go.Proofs.YtdbffbcobghbeaaGreatDoor
open Go.E Go.RowKit Go.Fl
attribute [local irreducible] G C S D DY DS V VT Yl QV QT Calls
set_option maxRecDepth 100000
set_option linter.unusedSimpArgs false
set_option linter.unusedVariables false

theorem rckG_as {A : Option Addr} {c : Nat} {g : List Pla} {w : World} {e : Int} (h : gmE g = e) (hmax : g.length ≤ maxLen) (hr : Rd w A (g.flatMap plC)) : Calls Tryz.prog 89 #[.slice A g.length c] w fun r w' => r = .returned (.int .i64 e) ∧ Below w.heap.size w w' := by
  subst h
  exact rckG_any hmax hr
theorem rdW_some {S : Nat → Prop} {W : World} {A : Option Addr} {xs : List Value} (h : RdS S W A xs) (h0 : 0 < xs.length) : ∃ a, A = some a := by
  rcases h with h | ⟨ad, h, _⟩
  · rw [h] at h0; simp at h0
  · exact ⟨ad, h⟩
theorem eqbW {P : Program} {t : TypeId} {a b : Bool} (ht : P.underlying t = some .bool) (x y : Operand) (w : World) : (do eqGuard .eql t x y (.bool a) (.bool b); binOp .eql t (.bool a) (.bool b) : Sem Value).run P w = .ok (.bool (a == b)) w := by
  have hg : (eqGuard .eql t x y (.bool a) (.bool b)).run P w = .ok () w := by unfold eqGuard; simp
  simp only [Sem.run_bind, hg, Result.andThen_ok]
  have he : (Op.equalIn Op.maxDepth t (.bool a) (.bool b)).run P w = .ok (a == b) w := Go.run_equalIn_bool' (w := w) (P := P) 9999 t a b ht
  simp only [binOp, Op.equal]
  simp [Sem.run_bind, he]

set_option maxHeartbeats 8000000 in
/-- genlocklaw02.ColourWitness -/
theorem lWitness_c (A : Option Addr) (c : Nat) (g : List Pla) (hgc : g.length ≤ c) (hcm : c ≤ maxLen) (x y z : Pic) (Ax Ay Az : Option Addr) (cx cy cz : Nat) (hnx : x.nm.size ≤ maxLen) (hny : y.nm.size ≤ maxLen) (hnz : z.nm.size ≤ maxLen) (hsx0 : x.s.length ≤ maxLen) (hsy0 : y.s.length ≤ maxLen) (hsz0 : z.s.length ≤ maxLen) (hax : Ax = none → x.s.length = 0 ∧ cx = 0) (hay : Ay = none → y.s.length = 0 ∧ cy = 0) (haz : Az = none → z.s.length = 0 ∧ cz = 0) (q0 q1 q2 q3 : Int) (w : World) (hr : Rd w A (g.flatMap plC)) (hrx : Rd w Ax (x.s.map (.float .f32))) (hry : Rd w Ay (y.s.map (.float .f32))) (hrz : Rd w Az (z.s.map (.float .f32))) (hO : Ot w) (hP : Pw w) : Calls Tryz.prog 16 #[.slice A g.length c, .agg #[.string x.nm, .int .i64 x.w, .int .i64 x.h, .slice Ax x.s.length cx, .string y.nm, .int .i64 y.w, .int .i64 y.h, .slice Ay y.s.length cy, .string z.nm, .int .i64 z.w, .int .i64 z.h, .slice Az z.s.length cz], .agg #[.int .i64 q0, .int .i64 q1, .int .i64 q2, .int .i64 q3]] w fun r w' => r = .returned (.bool true) ∧ Below w.heap.size w w' := by
  refine calls_of (args := [.slice A g.length c, .agg #[.string x.nm, .int .i64 x.w, .int .i64 x.h, .slice Ax x.s.length cx, .string y.nm, .int .i64 y.w, .int .i64 y.h, .slice Ay y.s.length cy, .string z.nm, .int .i64 z.w, .int .i64 z.h, .slice Az z.s.length cz], .agg #[.int .i64 q0, .int .i64 q1, .int .i64 q2, .int .i64 q3]]) T_ok Tryz.func16 rfl Tryz.ntmps16 (Nat.le_of_ble_eq_true rfl) rfl ?_
  by_cases hE0 : gmE g = 0
  rotate_left
  · have hE : gmE g = gmE g := rfl
    repeat' (first
 | (refine C_id ?_; first
 | refine C_seq ?_
 | refine C_region rfl ?_
 | refine C_ret0 ?_
 | refine C_condT rfl obQ ?_
     )
 | (refine S_id ?_; first
 | ((with_reducible (first | refine S_falseN ?_ ?_ | refine S_falseB ?_ ?_ | refine S_falseL ?_ ?_ | refine S_falseD ?_ ?_ | refine S_falseE ?_ ?_)); · (first | rfl | exact bne_self_eq_false _ | assumption | omega | exact decide_eq_false (by omega) | (simp only [bne_eq_false_iff_eq]; assumption) | (rw [beq_eq_false_iff_ne]; omega) | (rw [tuP_len]; exact bne_self_eq_false _)))
 | ((with_reducible refine S_falseO ?_ ?_ ?_); (· rfl); (· first | rfl | (first | rfl | exact bne_self_eq_false _ | assumption | omega | exact decide_eq_false (by omega) | (simp only [bne_eq_false_iff_eq]; assumption) | (rw [beq_eq_false_iff_ne]; omega) | (rw [tuP_len]; exact bne_self_eq_false _))))
 | ((with_reducible (first | refine S_trueE ?_ ?_ | refine S_trueB ?_ ?_ | refine S_trueL ?_ ?_ | refine S_trueD ?_ ?_ | refine S_trueN ?_ ?_)); · (first | exact beq_self_eq_true _ | rfl | omega | exact decide_eq_true (by omega) | (simp only [bne_iff_ne, ne_eq]; assumption) | (rw [beq_iff_eq]; assumption)))
 | refine S_unG rfl rfl rfl rfl ?_
 | ((with_reducible refine S_trueO ?_ ?_); · (first | rfl | exact bne_iff_ne.2 (by assumption) | exact decide_eq_true (by omega)))
 | refine S_offG (.v (.bool false)) rfl rfl rfl rfl rfl ?_
 | refine S_nil ?_
 | refine S_runN rfl rfl obQ obQ ?_
 | refine S_box (fun b => ⟨_, _, rfl, obQ, ?_⟩)
 | refine S_call (f := 20) rfl obQ (by kernel_rfl) (fun w hw => awake_c w (hw.rdm hO.toS memQ) (Pw_at hP hw memQ)) ?_
 | refine S_call (f := 89) rfl obQ (by kernel_rfl) (fun w hw => rckG_as hE (by omega) (hw.rdm hr.toS memQ)) ?_
 | refine S_call (f := 54) rfl obQ (by kernel_rfl) (fun w hw => rShortPicture_c x _ _ _ hSx w) ?_
 | refine S_call (f := 63) rfl obQ (by kernel_rfl) (fun w hw => rCheckThreeAny_c x y z _ _ _ _ _ _ hnx hny hnz hsx0 hsy0 hsz0 w (hw.rdm hrx.toS memQ) (hw.rdm hry.toS memQ) (hw.rdm hrz.toS memQ)) ?_
     )
 | (refine G_id ?_; first
 | refine G_then ?_
 | refine G_thenR ?_
 | refine G_ret rfl obQ (fun w hw => ⟨?_, hw.below⟩)
     )
     )
    all_goals rfl
  have hE : gmE g = 0 := hE0
  cases hSx : shortB x
  · repeat' (first
 | (refine C_id ?_; first
 | refine C_seq ?_
 | refine C_region rfl ?_
 | refine C_ret0 ?_
 | refine C_condT rfl obQ ?_
     )
 | (refine S_id ?_; first
 | ((with_reducible (first | refine S_falseN ?_ ?_ | refine S_falseB ?_ ?_ | refine S_falseL ?_ ?_ | refine S_falseD ?_ ?_ | refine S_falseE ?_ ?_)); · (first | rfl | exact bne_self_eq_false _ | assumption | omega | exact decide_eq_false (by omega) | (simp only [bne_eq_false_iff_eq]; assumption) | (rw [beq_eq_false_iff_ne]; omega) | (rw [tuP_len]; exact bne_self_eq_false _)))
 | ((with_reducible refine S_falseO ?_ ?_ ?_); (· rfl); (· first | rfl | (first | rfl | exact bne_self_eq_false _ | assumption | omega | exact decide_eq_false (by omega) | (simp only [bne_eq_false_iff_eq]; assumption) | (rw [beq_eq_false_iff_ne]; omega) | (rw [tuP_len]; exact bne_self_eq_false _))))
 | ((with_reducible (first | refine S_trueE ?_ ?_ | refine S_trueB ?_ ?_ | refine S_trueL ?_ ?_ | refine S_trueD ?_ ?_ | refine S_trueN ?_ ?_)); · (first | exact beq_self_eq_true _ | rfl | omega | exact decide_eq_true (by omega) | (simp only [bne_iff_ne, ne_eq]; assumption) | (rw [beq_iff_eq]; assumption)))
 | refine S_unG rfl rfl rfl rfl ?_
 | ((with_reducible refine S_trueO ?_ ?_); · (first | rfl | exact bne_iff_ne.2 (by assumption) | exact decide_eq_true (by omega)))
 | refine S_offG (.v (.bool false)) rfl rfl rfl rfl rfl ?_
 | refine S_nil ?_
 | refine S_runN rfl rfl obQ obQ ?_
 | refine S_box (fun b => ⟨_, _, rfl, obQ, ?_⟩)
 | refine S_call (f := 20) rfl obQ (by kernel_rfl) (fun w hw => awake_c w (hw.rdm hO.toS memQ) (Pw_at hP hw memQ)) ?_
 | refine S_call (f := 89) rfl obQ (by kernel_rfl) (fun w hw => rckG_as hE (by omega) (hw.rdm hr.toS memQ)) ?_
 | refine S_call (f := 54) rfl obQ (by kernel_rfl) (fun w hw => rShortPicture_c x _ _ _ hSx w) ?_
 | refine S_call (f := 63) rfl obQ (by kernel_rfl) (fun w hw => rCheckThreeAny_c x y z _ _ _ _ _ _ hnx hny hnz hsx0 hsy0 hsz0 w (hw.rdm hrx.toS memQ) (hw.rdm hry.toS memQ) (hw.rdm hrz.toS memQ)) ?_
     )
 | (refine G_id ?_; first
 | refine G_then ?_
 | refine G_thenR ?_
 | refine G_ret rfl obQ (fun w hw => ⟨?_, hw.below⟩)
     )
     )
    all_goals rfl
  by_cases h40 : 40 < x.s.length
  · repeat' (first
 | (refine C_id ?_; first
 | refine C_seq ?_
 | refine C_region rfl ?_
 | refine C_ret0 ?_
 | refine C_condT rfl obQ ?_
     )
 | (refine S_id ?_; first
 | ((with_reducible (first | refine S_falseN ?_ ?_ | refine S_falseB ?_ ?_ | refine S_falseL ?_ ?_ | refine S_falseD ?_ ?_ | refine S_falseE ?_ ?_)); · (first | rfl | exact bne_self_eq_false _ | assumption | omega | exact decide_eq_false (by omega) | (simp only [bne_eq_false_iff_eq]; assumption) | (rw [beq_eq_false_iff_ne]; omega) | (rw [tuP_len]; exact bne_self_eq_false _)))
 | ((with_reducible refine S_falseO ?_ ?_ ?_); (· rfl); (· first | rfl | (first | rfl | exact bne_self_eq_false _ | assumption | omega | exact decide_eq_false (by omega) | (simp only [bne_eq_false_iff_eq]; assumption) | (rw [beq_eq_false_iff_ne]; omega) | (rw [tuP_len]; exact bne_self_eq_false _))))
 | ((with_reducible (first | refine S_trueE ?_ ?_ | refine S_trueB ?_ ?_ | refine S_trueL ?_ ?_ | refine S_trueD ?_ ?_ | refine S_trueN ?_ ?_)); · (first | exact beq_self_eq_true _ | rfl | omega | exact decide_eq_true (by omega) | (simp only [bne_iff_ne, ne_eq]; assumption) | (rw [beq_iff_eq]; assumption)))
 | refine S_unG rfl rfl rfl rfl ?_
 | ((with_reducible refine S_trueO ?_ ?_); · (first | rfl | exact bne_iff_ne.2 (by assumption) | exact decide_eq_true (by omega)))
 | refine S_offG (.v (.bool false)) rfl rfl rfl rfl rfl ?_
 | refine S_nil ?_
 | refine S_runN rfl rfl obQ obQ ?_
 | refine S_box (fun b => ⟨_, _, rfl, obQ, ?_⟩)
 | refine S_call (f := 20) rfl obQ (by kernel_rfl) (fun w hw => awake_c w (hw.rdm hO.toS memQ) (Pw_at hP hw memQ)) ?_
 | refine S_call (f := 89) rfl obQ (by kernel_rfl) (fun w hw => rckG_as hE (by omega) (hw.rdm hr.toS memQ)) ?_
 | refine S_call (f := 54) rfl obQ (by kernel_rfl) (fun w hw => rShortPicture_c x _ _ _ hSx w) ?_
 | refine S_call (f := 63) rfl obQ (by kernel_rfl) (fun w hw => rCheckThreeAny_c x y z _ _ _ _ _ _ hnx hny hnz hsx0 hsy0 hsz0 w (hw.rdm hrx.toS memQ) (hw.rdm hry.toS memQ) (hw.rdm hrz.toS memQ)) ?_
     )
 | (refine G_id ?_; first
 | refine G_then ?_
 | refine G_thenR ?_
 | refine G_ret rfl obQ (fun w hw => ⟨?_, hw.below⟩)
     )
     )
    all_goals rfl
  by_cases hth : thE x y z = 0
  rotate_left
  · repeat' (first
 | (refine C_id ?_; first
 | refine C_seq ?_
 | refine C_region rfl ?_
 | refine C_ret0 ?_
 | refine C_condT rfl obQ ?_
     )
 | (refine S_id ?_; first
 | ((with_reducible (first | refine S_falseN ?_ ?_ | refine S_falseB ?_ ?_ | refine S_falseL ?_ ?_ | refine S_falseD ?_ ?_ | refine S_falseE ?_ ?_)); · (first | rfl | exact bne_self_eq_false _ | assumption | omega | exact decide_eq_false (by omega) | (simp only [bne_eq_false_iff_eq]; assumption) | (rw [beq_eq_false_iff_ne]; omega) | (rw [tuP_len]; exact bne_self_eq_false _)))
 | ((with_reducible refine S_falseO ?_ ?_ ?_); (· rfl); (· first | rfl | (first | rfl | exact bne_self_eq_false _ | assumption | omega | exact decide_eq_false (by omega) | (simp only [bne_eq_false_iff_eq]; assumption) | (rw [beq_eq_false_iff_ne]; omega) | (rw [tuP_len]; exact bne_self_eq_false _))))
 | ((with_reducible (first | refine S_trueE ?_ ?_ | refine S_trueB ?_ ?_ | refine S_trueL ?_ ?_ | refine S_trueD ?_ ?_ | refine S_trueN ?_ ?_)); · (first | exact beq_self_eq_true _ | rfl | omega | exact decide_eq_true (by omega) | (simp only [bne_iff_ne, ne_eq]; assumption) | (rw [beq_iff_eq]; assumption)))
 | refine S_unG rfl rfl rfl rfl ?_
 | ((with_reducible refine S_trueO ?_ ?_); · (first | rfl | exact bne_iff_ne.2 (by assumption) | exact decide_eq_true (by omega)))
 | refine S_offG (.v (.bool false)) rfl rfl rfl rfl rfl ?_
 | refine S_nil ?_
 | refine S_runN rfl rfl obQ obQ ?_
 | refine S_box (fun b => ⟨_, _, rfl, obQ, ?_⟩)
 | refine S_call (f := 20) rfl obQ (by kernel_rfl) (fun w hw => awake_c w (hw.rdm hO.toS memQ) (Pw_at hP hw memQ)) ?_
 | refine S_call (f := 89) rfl obQ (by kernel_rfl) (fun w hw => rckG_as hE (by omega) (hw.rdm hr.toS memQ)) ?_
 | refine S_call (f := 54) rfl obQ (by kernel_rfl) (fun w hw => rShortPicture_c x _ _ _ hSx w) ?_
 | refine S_call (f := 63) rfl obQ (by kernel_rfl) (fun w hw => rCheckThreeAny_c x y z _ _ _ _ _ _ hnx hny hnz hsx0 hsy0 hsz0 w (hw.rdm hrx.toS memQ) (hw.rdm hry.toS memQ) (hw.rdm hrz.toS memQ)) ?_
     )
 | (refine G_id ?_; first
 | refine G_then ?_
 | refine G_thenR ?_
 | refine G_ret rfl obQ (fun w hw => ⟨?_, hw.below⟩)
     )
     )
    all_goals rfl
  have ht := th_ok.1 hth
  have hgk := hE
  have hg6 : g.length ≤ 1000000 := by have := (gmE_ok.1 hE).1; omega
  have hg16 := (gmE_ok.1 hE).1
  obtain ⟨_, h0⟩ := pic_len ht.px
  have hln := ht.len
  have hsx : x.s.length ≤ 1000000 := by omega
  have hsy : y.s.length ≤ 1000000 := by omega
  have hsz : z.s.length ≤ 1000000 := by omega
  have hvi : viE g x y z = 0 := by
    unfold viE
    rw [firstL_zero]
    simp only [List.mem_cons, List.mem_nil_iff, or_false, forall_eq_or_imp, forall_eq]
    exact ⟨hE, hth⟩
  have hvl := viF_len g x y z x.s.length
  obtain ⟨ax, rfl⟩ := hrx.some (by simp; omega)
  obtain ⟨ay, rfl⟩ := hry.some (by simp; omega)
  obtain ⟨az, rfl⟩ := hrz.some (by simp; omega)
  repeat' (first
 | (refine C_id ?_; first
 | refine C_seq ?_
 | refine C_region rfl ?_
 | refine C_block ?_
 | refine C_skip ?_
 | refine C_drawV (id := 3) 9 [(0, true), (2, true), (1, false), (3, false), (4, false), (5, true), (6, true), (7, true), (8, true)] rfl mixed (by kernel_rfl) rfl ?_
 | refine C_condF rfl obQ ?_
 )
 | (refine S_id ?_; first
 | ((with_reducible (first | refine S_falseN ?_ ?_ | refine S_falseB ?_ ?_ | refine S_falseL ?_ ?_ | refine S_falseD ?_ ?_ | refine S_falseE ?_ ?_)); · (first | rfl | exact bne_self_eq_false _ | assumption | omega | exact decide_eq_false (by omega) | (simp only [bne_eq_false_iff_eq]; assumption) | (rw [beq_eq_false_iff_ne]; omega) | (rw [tuP_len]; exact bne_self_eq_false _)))
 | ((with_reducible refine S_falseO ?_ ?_ ?_); (· rfl); (· first | rfl | (first | rfl | exact bne_self_eq_false _ | assumption | omega | exact decide_eq_false (by omega) | (simp only [bne_eq_false_iff_eq]; assumption) | (rw [beq_eq_false_iff_ne]; omega) | (rw [tuP_len]; exact bne_self_eq_false _))))
 | refine S_unG rfl rfl rfl rfl ?_
 | (refine S_callM (f := 87) rfl obQ (by kernel_rfl) (fun w hw => planesS_as rfl hg6 (hw.rdm hr.toS memQ)) (fun w1G w2G vG hw1G hbG hRG => ?_); obtain ⟨AG, cG, rfl, hSG⟩ := hRG)
 | (refine S_callM (f := 62) rfl obQ (by kernel_rfl) (fun w hw => lthree_c x y z _ _ _ _ _ _ hsx hsy hsz hax hay haz w (hw.rdm hrx.toS memQ) (hw.rdm hry.toS memQ) (hw.rdm hrz.toS memQ)) (fun w1T w2T vT hw1T hbT hRT => ?_); obtain ⟨TX, eX, TY, eY, TZ, eZ, rfl, hSTX, hSTY, hSTZ⟩ := hRT; obtain ⟨tX, rfl⟩ := rdW_some hSTX (by simp; omega); obtain ⟨tY, rfl⟩ := rdW_some hSTY (by simp; omega); obtain ⟨tZ, rfl⟩ := rdW_some hSTZ (by simp; omega))
 | (refine S_callM (f := 88) rfl obQ (by kernel_rfl) (fun w hw => Violations_c _ _ g hg6 x y z _ _ _ _ _ _ hsx hsy hsz hvi w (hw.rdm hSG memQ) (hw.rdm hSTX memQ) (hw.rdm hSTY memQ) (hw.rdm hSTZ memQ)) (fun w1L w2L vL hw1L hbL hRL => ?_); obtain ⟨AL, cL, rfl, hSL⟩ := hRL)
 | refine S_nil ?_
 | refine S_runN rfl rfl obQ obQ ?_
 | refine S_box (fun b => ⟨_, _, rfl, obQ, ?_⟩)
 | refine S_call (f := 89) rfl obQ (by kernel_rfl) (fun w hw => rckG_as hE (by omega) (hw.rdm hr.toS memQ)) ?_
 | refine S_call (f := 54) rfl obQ (by kernel_rfl) (fun w hw => rShortPicture_c x _ _ _ hSx w) ?_
 | refine S_call (f := 63) rfl obQ (by kernel_rfl) (fun w hw => rCheckThreeAny_c x y z _ _ _ _ _ _ hnx hny hnz hsx0 hsy0 hsz0 w (hw.rdm hrx.toS memQ) (hw.rdm hry.toS memQ) (hw.rdm hrz.toS memQ)) ?_
 )
 | (refine V_id ?_; first
 | refine V_nil ?_
 | refine V_q rfl (Yl_step rfl obQ) ?_
 | refine V_n rfl ?_
 )
 | (refine G_id ?_; first
 | refine G_V ⟨⟨_, rfl, trivial⟩, ⟨_, rfl⟩, rfl, pstQ⟩ rfl ?_
 | refine G_then ?_
 )
 )
  obtain ⟨b5, rfl⟩ : ∃ z, z = b := ⟨b, rfl⟩
  obtain ⟨b4, rfl⟩ : ∃ z, z = b := ⟨b, rfl⟩
  refine C_loopS (fun i : Nat × Nat => ⟨[(0, .s (.v (.slice A g.length c))), (4, .s (.p b4 0 0)), (5, .s (.p b5 1 0)), (7, .s (.v (.slice AL (viF g x y z x.s.length).length cL))), (9, .s (.v (.int .i64 ((i.2 : Nat) : Int)))), (75, .s (.v (.int .i64 ((x.s.length : Nat) : Int)))), (76, .s (.v (.int .i64 i.1)))], [⟨b4, 106, [.v (.string x.nm), .v (.int .i64 x.w), .v (.int .i64 x.h), .v (.slice (some ax) x.s.length cx), .v (.string y.nm), .v (.int .i64 y.w), .v (.int .i64 y.h), .v (.slice (some ay) y.s.length cy), .v (.string z.nm), .v (.int .i64 z.w), .v (.int .i64 z.h), .v (.slice (some az) z.s.length cz)]⟩, ⟨b5, 167, [.v (.int .i64 q0), .v (.int .i64 q1), .v (.int .i64 q2), .v (.int .i64 q3)]⟩], []⟩) (fun i => i.1 ≤ x.s.length ∧ i.2 = (viF g x y z i.1).length) (fun i => x.s.length - i.1) (0, 0) ⟨Nat.zero_le _, rfl⟩ ?_ (fun i hi => ?_)
  · exact ⟨⟨_, rfl, obQ⟩, ⟨_, rfl⟩, rfl, pstQ⟩
  obtain ⟨k, n⟩ := i
  obtain ⟨hk, hn⟩ := hi
  dsimp only at hk hn ⊢
  have hvk := viF_len g x y z k
  have hxn : ((n : Nat) : Int) = (((viF g x y z k).length : Nat) : Int) := by rw [hn]
  by_cases hlt : k < x.s.length
  · have hok := (plA_ok ht hlt).1
    rcases fb_cases g (plA x y z k) with ⟨hfb, _⟩ | ⟨m, hmg, hfb, hoff, hbef⟩
    · have hb : decide (fbF g (plA x y z k) < 0) = true := by rw [hfb]; rfl
      have hvs := congrArg List.length (viF_f (g := g) (x := x) (y := y) (z := z) hfb)
      by_cases hat : (viF g x y z k).length < (viF g x y z x.s.length).length
      · have hne := vi_off hlt hfb hat
        obtain ⟨aL, rfl⟩ := rdW_some hSL (by rw [pt_len]; omega)
        repeat' (first
 | (refine C_id ?_; first
 | refine C_seq ?_
 | refine C_region rfl ?_
 | refine C_block ?_
 | refine C_skip ?_
 | refine C_exit ?_
 | refine C_drawV (id := 11) 8 [(0, true), (2, true), (1, false), (3, false), (4, true), (5, true), (6, true), (7, true)] rfl mixed (by kernel_rfl) rfl ?_
 | refine C_condT rfl obQ ?_
 | refine C_condF rfl obQ ?_
       )
 | (refine S_id ?_; first
 | ((with_reducible (first | refine S_falseN ?_ ?_ | refine S_falseB ?_ ?_ | refine S_falseL ?_ ?_ | refine S_falseD ?_ ?_ | refine S_falseE ?_ ?_)); · (first | rfl | exact bne_self_eq_false _ | assumption | omega | exact decide_eq_false (by omega) | (simp only [bne_eq_false_iff_eq]; assumption) | (rw [beq_eq_false_iff_ne]; omega) | (rw [tuP_len]; exact bne_self_eq_false _)))
 | ((with_reducible refine S_falseO ?_ ?_ ?_); (· rfl); (· first | rfl | (first | rfl | exact bne_self_eq_false _ | assumption | omega | exact decide_eq_false (by omega) | (simp only [bne_eq_false_iff_eq]; assumption) | (rw [beq_eq_false_iff_ne]; omega) | (rw [tuP_len]; exact bne_self_eq_false _))))
 | ((with_reducible (first | refine S_trueE ?_ ?_ | refine S_trueB ?_ ?_ | refine S_trueL ?_ ?_ | refine S_trueD ?_ ?_ | refine S_trueN ?_ ?_)); · (first | exact beq_self_eq_true _ | rfl | omega | exact decide_eq_true (by omega) | (simp only [bne_iff_ne, ne_eq]; assumption) | (rw [beq_iff_eq]; assumption)))
 | refine S_unG rfl rfl rfl rfl ?_
 | ((with_reducible refine S_falseA ?_ ?_); · (first | rfl | exact decide_eq_false (by omega)))
 | refine S_offG (.v (.bool false)) rfl rfl rfl rfl rfl ?_
 | (refine S_callM (f := 87) rfl obQ (by kernel_rfl) (fun w hw => planesS_as rfl hg6 (hw.rdm hr.toS memQ)) (fun w1G w2G vG hw1G hbG hRG => ?_); obtain ⟨AG, cG, rfl, hSG⟩ := hRG)
 | refine S_pure (binX_pure rfl obQ (fun w => eqbW (by kernel_rfl) _ _ w)) ?_
 | refine S_load rfl obQ rfl [.int .i64 (gP (viF g x y z x.s.length) (viF g x y z k).length).1] (.past (w2L, fun b => w1L.heap.size ≤ b ∧ b < w2L.heap.size) memQ _ _ hSL _ _ rfl (add_of_add _ _ _) (gP_1 (l := (viF g x y z x.s.length)) (k := (viF g x y z k).length) hxn hat)) rfl (.inr ⟨rfl, rfl⟩) ?_
 | refine S_nil ?_
 | refine S_runN rfl rfl obQ obQ ?_
 | refine S_box (fun b11 => ⟨_, _, rfl, obQ, ?_⟩)
 | refine S_call (f := 100) rfl obQ (by kernel_rfl) (fun w hw => rColour_c x y z ax ay az cx cy cz ht k hlt hsx w (hw.rdm hrx.toS memQ) (hw.rdm hry.toS memQ) (hw.rdm hrz.toS memQ)) ?_
 | refine S_call (f := 86) rfl obQ (by kernel_rfl) (fun w hw => legalS_as hgk hok hb rfl hg6 (hw.rdm hSG memQ)) ?_
       )
 | (refine V_id ?_; first
 | refine V_nil ?_
 | refine V_q rfl (Yl_step rfl obQ) ?_
 | refine V_n rfl ?_
       )
 | (refine G_id ?_; first
 | refine G_V ⟨⟨_, rfl, trivial⟩, ⟨_, rfl⟩, rfl, pstQ⟩ rfl ?_
 | refine G_loop (k + 1, n) (by dsimp only; exact ⟨by omega, by omega⟩) (by show x.s.length - (k + 1) < x.s.length - k; omega) ⟨⟨_, rfl, obQ⟩, ⟨_, rfl⟩, rfl, psQ⟩
 | refine G_then ?_
 | refine G_blockX ?_
 | refine G_thenX ?_
       )
       )
      · repeat' (first
 | (refine C_id ?_; first
 | refine C_seq ?_
 | refine C_region rfl ?_
 | refine C_block ?_
 | refine C_skip ?_
 | refine C_exit ?_
 | refine C_drawV (id := 11) 8 [(0, true), (2, true), (1, false), (3, false), (4, true), (5, true), (6, true), (7, true)] rfl mixed (by kernel_rfl) rfl ?_
 | refine C_condT rfl obQ ?_
 | refine C_condF rfl obQ ?_
       )
 | (refine S_id ?_; first
 | ((with_reducible (first | refine S_falseN ?_ ?_ | refine S_falseB ?_ ?_ | refine S_falseL ?_ ?_ | refine S_falseD ?_ ?_ | refine S_falseE ?_ ?_)); · (first | rfl | exact bne_self_eq_false _ | assumption | omega | exact decide_eq_false (by omega) | (simp only [bne_eq_false_iff_eq]; assumption) | (rw [beq_eq_false_iff_ne]; omega) | (rw [tuP_len]; exact bne_self_eq_false _)))
 | ((with_reducible refine S_falseO ?_ ?_ ?_); (· rfl); (· first | rfl | (first | rfl | exact bne_self_eq_false _ | assumption | omega | exact decide_eq_false (by omega) | (simp only [bne_eq_false_iff_eq]; assumption) | (rw [beq_eq_false_iff_ne]; omega) | (rw [tuP_len]; exact bne_self_eq_false _))))
 | ((with_reducible (first | refine S_trueE ?_ ?_ | refine S_trueB ?_ ?_ | refine S_trueL ?_ ?_ | refine S_trueD ?_ ?_ | refine S_trueN ?_ ?_)); · (first | exact beq_self_eq_true _ | rfl | omega | exact decide_eq_true (by omega) | (simp only [bne_iff_ne, ne_eq]; assumption) | (rw [beq_iff_eq]; assumption)))
 | refine S_unG rfl rfl rfl rfl ?_
 | ((with_reducible refine S_falseA ?_ ?_); · (first | rfl | exact decide_eq_false (by omega)))
 | refine S_offG (.v (.bool false)) rfl rfl rfl rfl rfl ?_
 | (refine S_callM (f := 87) rfl obQ (by kernel_rfl) (fun w hw => planesS_as rfl hg6 (hw.rdm hr.toS memQ)) (fun w1G w2G vG hw1G hbG hRG => ?_); obtain ⟨AG, cG, rfl, hSG⟩ := hRG)
 | refine S_pure (binX_pure rfl obQ (fun w => eqbW (by kernel_rfl) _ _ w)) ?_
 | refine S_load rfl obQ rfl [.int .i64 (gP (viF g x y z x.s.length) (viF g x y z k).length).1] (.past (w2L, fun b => w1L.heap.size ≤ b ∧ b < w2L.heap.size) memQ _ _ hSL _ _ rfl (add_of_add _ _ _) (gP_1 (l := (viF g x y z x.s.length)) (k := (viF g x y z k).length) hxn hat)) rfl (.inr ⟨rfl, rfl⟩) ?_
 | refine S_nil ?_
 | refine S_runN rfl rfl obQ obQ ?_
 | refine S_box (fun b11 => ⟨_, _, rfl, obQ, ?_⟩)
 | refine S_call (f := 100) rfl obQ (by kernel_rfl) (fun w hw => rColour_c x y z ax ay az cx cy cz ht k hlt hsx w (hw.rdm hrx.toS memQ) (hw.rdm hry.toS memQ) (hw.rdm hrz.toS memQ)) ?_
 | refine S_call (f := 86) rfl obQ (by kernel_rfl) (fun w hw => legalS_as hgk hok hb rfl hg6 (hw.rdm hSG memQ)) ?_
       )
 | (refine V_id ?_; first
 | refine V_nil ?_
 | refine V_q rfl (Yl_step rfl obQ) ?_
 | refine V_n rfl ?_
       )
 | (refine G_id ?_; first
 | refine G_V ⟨⟨_, rfl, trivial⟩, ⟨_, rfl⟩, rfl, pstQ⟩ rfl ?_
 | refine G_loop (k + 1, n) (by dsimp only; exact ⟨by omega, by omega⟩) (by show x.s.length - (k + 1) < x.s.length - k; omega) ⟨⟨_, rfl, obQ⟩, ⟨_, rfl⟩, rfl, psQ⟩
 | refine G_then ?_
 | refine G_blockX ?_
 | refine G_thenX ?_
       )
       )
    · have hb : decide (fbF g (plA x y z k) < 0) = false := by rw [hfb]; exact decide_eq_false (by omega)
      have hfn : ¬ fbF g (plA x y z k) = -1 := by rw [hfb]; omega
      have hvs := congrArg List.length (viF_t (g := g) (x := x) (y := y) (z := z) hfn)
      rw [List.length_append, List.length_singleton] at hvs
      obtain ⟨hat, hpt⟩ := vi_at hlt hfn
      have hp1 : (gP (viF g x y z x.s.length) (viF g x y z k).length).1 = (k : Int) := by rw [hpt]
      have hp2 : (gP (viF g x y z x.s.length) (viF g x y z k).length).2 = (m : Int) := by rw [hpt, hfb]
      have hx1 : ∀ (j : Nat) (u : Value), ([.int .i64 (k : Int)] : List Value)[j]? = some u → ((viF g x y z x.s.length).flatMap ptC)[(((n : Nat) : Int).toNat * 2 + 0) + j]? = some u := by
        rw [← hp1]
        exact gP_1 hxn hat
      have hx2 : ∀ (j : Nat) (u : Value), ([.int .i64 (m : Int)] : List Value)[j]? = some u → ((viF g x y z x.s.length).flatMap ptC)[(((n : Nat) : Int).toNat * 2 + 1) + j]? = some u := by
        rw [← hp2]
        exact gP_2 hxn hat
      have htk : (g.take m).length = m := by rw [List.length_take]; omega
      have hon : ((g.drop m).take 1).length = 1 := by rw [List.length_take, List.length_drop]; omega
      have hbB : decide (fbF (g.take m) (plA x y z k) < 0) = true := by rw [fb_before hbef]; rfl
      have hbO : decide (fbF ((g.drop m).take 1) (plA x y z k) < 0) = false := by rw [fb_alone hmg hoff]; rfl
      obtain ⟨aL, rfl⟩ := rdW_some hSL (by rw [pt_len]; omega)
      obtain ⟨ad, rfl⟩ := hr.some (by rw [pl_len]; omega)
      repeat' (first
 | (refine C_id ?_; first
 | refine C_seq ?_
 | refine C_region rfl ?_
 | refine C_block ?_
 | refine C_skip ?_
 | refine C_drawV (id := 11) 8 [(0, true), (2, true), (1, false), (3, false), (4, true), (5, true), (6, true), (7, true)] rfl mixed (by kernel_rfl) rfl ?_
 | refine C_drawV (id := 18) 10 [(0, true), (1, true), (2, true), (4, true), (3, false), (5, false), (6, true), (7, true), (8, true), (9, true)] rfl mixed (by kernel_rfl) rfl ?_
 | refine C_drawV (id := 19) 12 [(0, true), (1, true), (2, true), (3, true), (4, true), (6, true), (5, false), (7, false), (8, true), (9, true), (10, true), (11, true)] rfl mixed (by kernel_rfl) rfl ?_
 | refine C_condT rfl obQ ?_
 | refine C_condF rfl obQ ?_
     )
 | (refine S_id ?_; first
 | ((with_reducible (first | refine S_falseN ?_ ?_ | refine S_falseB ?_ ?_ | refine S_falseL ?_ ?_ | refine S_falseD ?_ ?_ | refine S_falseE ?_ ?_)); · (first | rfl | exact bne_self_eq_false _ | assumption | omega | exact decide_eq_false (by omega) | (simp only [bne_eq_false_iff_eq]; assumption) | (rw [beq_eq_false_iff_ne]; omega) | (rw [tuP_len]; exact bne_self_eq_false _)))
 | ((with_reducible refine S_falseO ?_ ?_ ?_); (· rfl); (· first | rfl | (first | rfl | exact bne_self_eq_false _ | assumption | omega | exact decide_eq_false (by omega) | (simp only [bne_eq_false_iff_eq]; assumption) | (rw [beq_eq_false_iff_ne]; omega) | (rw [tuP_len]; exact bne_self_eq_false _))))
 | ((with_reducible (first | refine S_trueE ?_ ?_ | refine S_trueB ?_ ?_ | refine S_trueL ?_ ?_ | refine S_trueD ?_ ?_ | refine S_trueN ?_ ?_)); · (first | exact beq_self_eq_true _ | rfl | omega | exact decide_eq_true (by omega) | (simp only [bne_iff_ne, ne_eq]; assumption) | (rw [beq_iff_eq]; assumption)))
 | ((with_reducible refine S_trueA ?_ ?_ ?_); (· rfl); (· first | rfl | (first | exact beq_self_eq_true _ | rfl | omega | exact decide_eq_true (by omega) | (simp only [bne_iff_ne, ne_eq]; assumption) | (rw [beq_iff_eq]; assumption))))
 | refine S_unG rfl rfl rfl rfl ?_
 | (refine S_callM (f := 87) rfl obQ (by kernel_rfl) (fun w hw => planesS_as rfl hg6 (hw.rdm hr.toS memQ)) (fun w1G w2G vG hw1G hbG hRG => ?_); obtain ⟨AG, cG, rfl, hSG⟩ := hRG)
 | (refine S_callM (f := 87) rfl obQ (by kernel_rfl) (fun w hw => planesS_as htk (by omega) (rd_take (hw.rdm hr.toS memQ) (by simp))) (fun w1H w2H vH hw1H hbH hRH => ?_); obtain ⟨AH, cH, rfl, hSH⟩ := hRH)
 | (refine S_callM (f := 87) rfl obQ (by kernel_rfl) (fun w hw => planesS_as hon (by omega) (rd_one hmg (hw.rdm hr.toS memQ))) (fun w1K w2K vK hw1K hbK hRK => ?_); obtain ⟨AK, cK, rfl, hSK⟩ := hRK)
 | refine S_pure (binX_pure rfl obQ (fun w => eqbW (by kernel_rfl) _ _ w)) ?_
 | refine S_load rfl obQ rfl [.int .i64 (k : Int)] (.past (w2L, fun b => w1L.heap.size ≤ b ∧ b < w2L.heap.size) memQ _ _ hSL _ _ rfl (add_of_add _ _ _) hx1) rfl (.inr ⟨rfl, rfl⟩) ?_
 | refine S_load rfl obQ rfl [.int .i64 (m : Int)] (.past (w2L, fun b => w1L.heap.size ≤ b ∧ b < w2L.heap.size) memQ _ _ hSL _ _ rfl (add_of_add _ _ _) hx2) rfl (.inr ⟨rfl, rfl⟩) ?_
 | refine S_nil ?_
 | refine S_runN rfl rfl obQ obQ ?_
 | refine S_box (fun b11 => ⟨_, _, rfl, obQ, ?_⟩)
 | refine S_call (f := 100) rfl obQ (by kernel_rfl) (fun w hw => rColour_c x y z ax ay az cx cy cz ht k hlt hsx w (hw.rdm hrx.toS memQ) (hw.rdm hry.toS memQ) (hw.rdm hrz.toS memQ)) ?_
 | refine S_call (f := 86) rfl obQ (by kernel_rfl) (fun w hw => legalS_as hgk hok hb rfl hg6 (hw.rdm hSG memQ)) ?_
 | refine S_call (f := 86) rfl obQ (by kernel_rfl) (fun w hw => legalS_as (gm_take hgk) hok hbB htk (by omega) (hw.rdm hSH memQ)) ?_
 | refine S_call (f := 86) rfl obQ (by kernel_rfl) (fun w hw => legalS_as (gm_one hgk) hok hbO hon (by omega) (hw.rdm hSK memQ)) ?_
     )
 | (refine V_id ?_; first
 | refine V_nil ?_
 | refine V_q rfl (Yl_pure (sliceX_pure rfl obQ (fun w => sl_hiT rfl rfl _ _ _ _ m (by omega) w))) ?_
 | refine V_q rfl (Yl_pure (sliceX_pure rfl obQ (fun w => sl_two rfl rfl _ _ _ _ _ _ _ m 1 rfl (by omega) (by omega) (by omega) w))) ?_
 | refine V_q rfl (Yl_step rfl obQ) ?_
 | refine V_n rfl ?_
     )
 | (refine G_id ?_; first
 | refine G_V ⟨⟨_, rfl, trivial⟩, ⟨_, rfl⟩, rfl, pstQ⟩ rfl ?_
 | refine G_loop (k + 1, n + 1) (by dsimp only; exact ⟨by omega, by omega⟩) (by show x.s.length - (k + 1) < x.s.length - k; omega) ⟨⟨_, rfl, obQ⟩, ⟨_, rfl⟩, rfl, psQ⟩
 | refine G_then ?_
 | refine G_block ?_
     )
     )
  · have hke : k = x.s.length := by omega
    have hne : n = (viF g x y z x.s.length).length := by rw [hn, hke]
    have hxm : ((n : Nat) : Int) = (((viF g x y z x.s.length).length : Nat) : Int) := by rw [hne]
    repeat' (first
 | (refine C_id ?_; first
 | refine C_condF rfl obQ ?_
 | refine C_seq ?_
 | refine C_region rfl ?_
 | refine C_skip ?_
 | refine C_exit ?_
   )
 | (refine S_id ?_; first
 | ((with_reducible (first | refine S_falseN ?_ ?_ | refine S_falseB ?_ ?_ | refine S_falseL ?_ ?_ | refine S_falseD ?_ ?_ | refine S_falseE ?_ ?_)); · (first | rfl | exact bne_self_eq_false _ | assumption | omega | exact decide_eq_false (by omega) | (simp only [bne_eq_false_iff_eq]; assumption) | (rw [beq_eq_false_iff_ne]; omega) | (rw [tuP_len]; exact bne_self_eq_false _)))
 | refine S_nil ?_
 | refine S_runN rfl rfl obQ obQ ?_
 | refine S_box (fun bi => ⟨_, _, rfl, obQ, ?_⟩)
 | refine S_call (f := 49) rfl obQ (by kernel_rfl) (fun w hw => riv_as rfl) ?_
   )
 | (refine G_id ?_; first
 | refine G_then ?_
 | refine G_blockX ?_
 | refine G_thenX ?_
   )
   )
    obtain ⟨bi, rfl⟩ : ∃ z, z = bi := ⟨bi, rfl⟩
    refine C_cut (fun _ : Unit => ([(w, fun b => b < w.heap.size)], (⟨[(4, .s (.p b4 0 0)), (5, .s (.p b5 1 0))], [⟨b4, 106, [.v (.string x.nm), .v (.int .i64 x.w), .v (.int .i64 x.h), .v (.slice (some ax) x.s.length cx), .v (.string y.nm), .v (.int .i64 y.w), .v (.int .i64 y.h), .v (.slice (some ay) y.s.length cy), .v (.string z.nm), .v (.int .i64 z.w), .v (.int .i64 z.h), .v (.slice (some az) z.s.length cz)]⟩, ⟨b5, 167, [.v (.int .i64 q0), .v (.int .i64 q1), .v (.int .i64 q2), .v (.int .i64 q3)]⟩], []⟩ : St))) ?_ (fun _ => ?_)
    · repeat' (first
 | (refine C_id ?_; first
 | refine C_seq ?_
 | refine C_skip ?_
 | (refine C_cond rfl obQ (fun h => ?_) (fun h => ?_) <;> (try simp only [Bool.or_eq_true, Bool.and_eq_true, Bool.or_eq_false_iff, Bool.and_eq_false_iff, decide_eq_true_eq, decide_eq_false_iff_not, beq_iff_eq, bne_iff_ne, beq_eq_false_iff_ne, bne_eq_false_iff_eq, ne_eq, Decidable.not_not, List.cons.injEq, and_true, Bool.not_eq_true', Bool.not_eq_false', Int.not_lt, Int.not_le] at h) <;> (try (exfalso; omega)) <;> (try (exfalso; simp at h; done)) <;> (try (exfalso; simp only [not_true_eq_false, false_or, or_false] at h; omega)) <;> (try contradiction))
     )
 | (refine G_id ?_; first
 | refine G_cutN () ⟨⟨_, rfl, obQ⟩, ⟨_, rfl⟩, rfl, psQ⟩
     )
     )
      have hiv : ivE q0 q1 = 0 := by assumption
      obtain ⟨g0, g1, g2⟩ := ivE_ok hiv
      have hfl : ∀ n, -16384 ≤ clF q0 q1 n ∧ clF q0 q1 n ≤ 16384 := fun n => by
        have := clF_in g2 n
        omega
      have hcl1 := cl_zero ht.px hiv
      have hQ := tuP_ok ht.px hfl
      have hcl2 := cl_zero hQ hiv
      have hcq : tuP (clF q0 q1) (tuP (clF q0 q1) x) = (tuP (clF q0 q1) x) := tuP_twice g0.1 g1.2 g2
      have hql : (tuP (clF q0 q1) x).s.length = x.s.length := tuP_len
      have hsq : (tuP (clF q0 q1) x).s.length ≤ 1000000 := by rw [hql]; exact hsx
      have hfq : ∀ b ∈ (tuP (clF q0 q1) x).s, Fin32 b := fun b hb => (tuP_fin hfl b hb).fin
      refine C_cut (fun B : SlA ((tuP (clF q0 q1) x).s.map (.float .f32)) × Nat => ([B.1.ps, (w, fun b => b < w.heap.size)], (⟨[(4, .s (.p b4 0 0)), (5, .s (.p b5 1 0)), (19, .s (.p bi 2 0)), (20, .s (.p B.2 3 0)), (21, .s (.v (.int .i64 0)))], [⟨b4, 106, [.v (.string x.nm), .v (.int .i64 x.w), .v (.int .i64 x.h), .v (.slice (some ax) x.s.length cx), .v (.string y.nm), .v (.int .i64 y.w), .v (.int .i64 y.h), .v (.slice (some ay) y.s.length cy), .v (.string z.nm), .v (.int .i64 z.w), .v (.int .i64 z.h), .v (.slice (some az) z.s.length cz)]⟩, ⟨b5, 167, [.v (.int .i64 q0), .v (.int .i64 q1), .v (.int .i64 q2), .v (.int .i64 q3)]⟩, ⟨bi, 73, [.v (.int .i64 q0), .v (.int .i64 q1)]⟩, ⟨B.2, 96, [.v (.string (tuP (clF q0 q1) x).nm), .v (.int .i64 (tuP (clF q0 q1) x).w), .v (.int .i64 (tuP (clF q0 q1) x).h), .v (.slice B.1.A (tuP (clF q0 q1) x).s.length B.1.c)]⟩], []⟩ : St))) ?_ (fun B => ?_)
      · repeat' (first
 | (refine C_id ?_; first
 | refine C_drawTr (id := 28) 10 (.q 0 (.q 1 (.q 3 (.two 2 8 (.two 4 8 (.q 5 (.q 6 (.q 7 (.n 8 (.n 9 .nil))))) (.n 4 (.q 5 (.q 6 (.q 7 (.n 9 .nil)))))) (.n 2 (.n 4 (.q 5 (.q 6 (.q 7 (.n 9 .nil)))))))))) rfl mixed (by kernel_rfl) rfl ?_
       )
 | (refine S_id ?_; first
 | (refine S_callM (f := 56) rfl obQ (by kernel_rfl) (fun w hw => lown_c x _ _ hsx hax w (hw.rdm hrx.toS memQ)) (fun w1O w2O vO hw1O hbO hRO => ?_); obtain ⟨AO, cO, rfl, hSO⟩ := hRO; obtain ⟨oO, rfl⟩ := rdW_some hSO (by simp; omega))
 | (refine S_callM (f := 94) rfl obQ (by kernel_rfl) (fun w hw => clq_as hcl1 hsx (hw.rdm hSO memQ)) (fun w1X w2X vX hw1X hbX hRX => ?_); obtain ⟨AX, cX, rfl, hSX⟩ := hRX)
 | refine S_nil ?_
 | refine S_runN rfl rfl obQ obQ ?_
 | refine S_box (fun bb => ⟨_, _, rfl, obQ, ?_⟩)
       )
 | (refine VT_id ?_; first
 | refine VT_nil ?_
 | refine VT_q rfl (Yl_step rfl obQ) ?_
 | refine VT_n rfl ?_
 | refine VT_two rfl rfl ?_ ?_
       )
 | (refine G_id ?_; first
 | refine G_VT2 ⟨_, rfl⟩ ⟨_, rfl⟩ pstQ rfl ?_
 | refine G_cutN (⟨w1X, w2X, AX, cX, hSX⟩, bb) ⟨⟨_, rfl, obQ⟩, ⟨_, rfl⟩, rfl, psQ⟩
       )
       )
      obtain ⟨⟨W1, W2, AB, cB, hB⟩, bb⟩ := B
      obtain ⟨aB, rfl⟩ := rdW_some hB (by rw [List.length_map, hql]; exact h0)
      dsimp only [SlA.ps]
      have hAq : (some aB : Option Addr) = none → (tuP (clF q0 q1) x).s.length = 0 ∧ cB = 0 := fun e => by cases e
      repeat' (first
 | (refine C_id ?_; first
 | refine C_seq ?_
     )
     )
      refine C_cut (fun D : SlA ((tuP (clF q0 q1) x).s.map (.float .f32)) × Nat => ([D.1.ps, (W2, fun b => W1.heap.size ≤ b ∧ b < W2.heap.size), (w, fun b => b < w.heap.size)], (⟨[(4, .s (.p b4 0 0)), (5, .s (.p b5 1 0)), (19, .s (.p bi 2 0)), (20, .s (.p bb 3 0)), (21, .s (.v (.int .i64 0))), (22, .s (.p D.2 4 0)), (23, .s (.v (.int .i64 0)))], [⟨b4, 106, [.v (.string x.nm), .v (.int .i64 x.w), .v (.int .i64 x.h), .v (.slice (some ax) x.s.length cx), .v (.string y.nm), .v (.int .i64 y.w), .v (.int .i64 y.h), .v (.slice (some ay) y.s.length cy), .v (.string z.nm), .v (.int .i64 z.w), .v (.int .i64 z.h), .v (.slice (some az) z.s.length cz)]⟩, ⟨b5, 167, [.v (.int .i64 q0), .v (.int .i64 q1), .v (.int .i64 q2), .v (.int .i64 q3)]⟩, ⟨bi, 73, [.v (.int .i64 q0), .v (.int .i64 q1)]⟩, ⟨bb, 96, [.v (.string (tuP (clF q0 q1) x).nm), .v (.int .i64 (tuP (clF q0 q1) x).w), .v (.int .i64 (tuP (clF q0 q1) x).h), .v (.slice (some aB) (tuP (clF q0 q1) x).s.length cB)]⟩, ⟨D.2, 96, [.v (.string (tuP (clF q0 q1) x).nm), .v (.int .i64 (tuP (clF q0 q1) x).w), .v (.int .i64 (tuP (clF q0 q1) x).h), .v (.slice D.1.A (tuP (clF q0 q1) x).s.length D.1.c)]⟩], []⟩ : St))) ?_ (fun D => ?_)
      · repeat' (first
 | (refine C_id ?_; first
 | refine C_drawTr (id := 29) 9 (.q 0 (.q 2 (.two 1 7 (.two 3 7 (.q 4 (.q 5 (.q 6 (.n 7 (.n 8 .nil))))) (.n 3 (.q 4 (.q 5 (.q 6 (.n 8 .nil)))))) (.n 1 (.n 3 (.q 4 (.q 5 (.q 6 (.n 8 .nil))))))))) rfl mixed (by kernel_rfl) rfl ?_
       )
 | (refine S_id ?_; first
 | (refine S_callM (f := 56) rfl obQ (by kernel_rfl) (fun w hw => lown_c (tuP (clF q0 q1) x) _ _ hsq hAq w (hw.rdm hB memQ)) (fun w1O w2O vO hw1O hbO hRO => ?_); obtain ⟨AO, cO, rfl, hSO⟩ := hRO)
 | (refine S_callM (f := 94) rfl obQ (by kernel_rfl) (fun w hw => clt_as hcl2 hcq hsq (hw.rdm hSO memQ)) (fun w1Y w2Y vY hw1Y hbY hRY => ?_); obtain ⟨AY, cY, rfl, hSY⟩ := hRY)
 | refine S_nil ?_
 | refine S_runN rfl rfl obQ obQ ?_
 | refine S_box (fun bd => ⟨_, _, rfl, obQ, ?_⟩)
       )
 | (refine VT_id ?_; first
 | refine VT_nil ?_
 | refine VT_q rfl (Yl_step rfl obQ) ?_
 | refine VT_n rfl ?_
 | refine VT_two rfl rfl ?_ ?_
       )
 | (refine G_id ?_; first
 | refine G_VT2 ⟨_, rfl⟩ ⟨_, rfl⟩ pstQ rfl ?_
 | refine G_cutN (⟨w1Y, w2Y, AY, cY, hSY⟩, bd) ⟨⟨_, rfl, obQ⟩, ⟨_, rfl⟩, rfl, psQ⟩
       )
       )
      dsimp only
      repeat' (first
 | (refine C_id ?_; first
 | refine C_seq ?_
 | refine C_region rfl ?_
 | refine C_block ?_
 | refine C_skip ?_
 | refine C_condF rfl obQ ?_
     )
 | (refine S_id ?_; first
 | ((with_reducible (first | refine S_falseN ?_ ?_ | refine S_falseB ?_ ?_ | refine S_falseL ?_ ?_ | refine S_falseD ?_ ?_ | refine S_falseE ?_ ?_)); · (first | rfl | exact bne_self_eq_false _ | assumption | omega | exact decide_eq_false (by omega) | (simp only [bne_eq_false_iff_eq]; assumption) | (rw [beq_eq_false_iff_ne]; omega) | (rw [tuP_len]; exact bne_self_eq_false _)))
 | ((with_reducible refine S_falseO ?_ ?_ ?_); (· rfl); (· first | rfl | (first | rfl | exact bne_self_eq_false _ | assumption | omega | exact decide_eq_false (by omega) | (simp only [bne_eq_false_iff_eq]; assumption) | (rw [beq_eq_false_iff_ne]; omega) | (rw [tuP_len]; exact bne_self_eq_false _))))
 | refine S_unG rfl rfl rfl rfl ?_
 | refine S_nil ?_
 | refine S_runN rfl rfl obQ obQ ?_
 | refine S_call (f := 97) rfl obQ (by kernel_rfl) (fun w hw => rSameP_c (tuP (clF q0 q1) x) _ _ _ _ hsq hfq w (hw.rdm hB memQ) (hw.rdm D.1.h memQ)) ?_
     )
 | (refine G_id ?_; first
 | refine G_then ?_
     )
     )
      refine C_loopS (fun k : Nat => ⟨[(4, .s (.p b4 0 0)), (5, .s (.p b5 1 0)), (19, .s (.p bi 2 0)), (204, .s (.v (.slice (some aB) (tuP (clF q0 q1) x).s.length cB))), (205, .s (.v (.int .i64 (((tuP (clF q0 q1) x).s.length : Nat) : Int)))), (206, .s (.v (.int .i64 k)))], [⟨b4, 106, [.v (.string x.nm), .v (.int .i64 x.w), .v (.int .i64 x.h), .v (.slice (some ax) x.s.length cx), .v (.string y.nm), .v (.int .i64 y.w), .v (.int .i64 y.h), .v (.slice (some ay) y.s.length cy), .v (.string z.nm), .v (.int .i64 z.w), .v (.int .i64 z.h), .v (.slice (some az) z.s.length cz)]⟩, ⟨b5, 167, [.v (.int .i64 q0), .v (.int .i64 q1), .v (.int .i64 q2), .v (.int .i64 q3)]⟩, ⟨bi, 73, [.v (.int .i64 q0), .v (.int .i64 q1)]⟩], []⟩) (fun k => k ≤ (tuP (clF q0 q1) x).s.length) (fun k => (tuP (clF q0 q1) x).s.length - k) 0 (Nat.zero_le _) ?_ (fun k hk0 => ?_)
      · exact ⟨⟨_, rfl, obQ⟩, ⟨_, rfl⟩, rfl, pstQ⟩
      have hk2 : k ≤ (tuP (clF q0 q1) x).s.length := hk0
      by_cases hlt2 : k < (tuP (clF q0 q1) x).s.length
      · have hlx : k < x.s.length := by omega
        have hsm := ht.px.s _ (gB_mem hlx)
        have hin := clF_in g2 (lvl (gB x.s k))
        have hsq2 : Smp (smp (clF q0 q1 (lvl (gB x.s k)))) := smp_Smp (hfl _)
        have hsv : lvl (smp (clF q0 q1 (lvl (gB x.s k)))) = clF q0 q1 (lvl (gB x.s k)) := smp_lvl (by have := hfl (lvl (gB x.s k)); omega)
        have hqx : ∀ (j : Nat) (u : Value), ([.float .f32 (smp (clF q0 q1 (lvl (gB x.s k))))] : List Value)[j]? = some u → ((tuP (clF q0 q1) x).s.map (Value.float .f32))[((k : Int).toNat * 1 + j)]? = some u := by
          rw [← tuP_gB (f := clF q0 q1) hlx]
          exact gB_idxZ rfl (by rw [tuP_len]; exact hlx)
        by_cases hlo : q0 ≤ lvl (gB x.s k)
        · by_cases hup : lvl (gB x.s k) ≤ q1
          · have hsame : clF q0 q1 (lvl (gB x.s k)) = lvl (gB x.s k) := clF_same ⟨hlo, hup⟩
            repeat' (first
 | (refine C_id ?_; first
 | refine C_seq ?_
 | refine C_region rfl ?_
 | refine C_block ?_
 | refine C_skip ?_
 | refine C_drawV (id := 37) 8 [(0, true), (2, true), (3, true), (4, true), (5, true), (6, true), (7, true), (1, false)] rfl mixed (by kernel_rfl) rfl ?_
 | refine C_condT rfl obQ ?_
 | refine C_condF rfl obQ ?_
           )
 | (refine S_id ?_; first
 | ((with_reducible (first | refine S_falseN ?_ ?_ | refine S_falseB ?_ ?_ | refine S_falseL ?_ ?_ | refine S_falseD ?_ ?_ | refine S_falseE ?_ ?_)); · (first | rfl | exact bne_self_eq_false _ | assumption | omega | exact decide_eq_false (by omega) | (simp only [bne_eq_false_iff_eq]; assumption) | (rw [beq_eq_false_iff_ne]; omega) | (rw [tuP_len]; exact bne_self_eq_false _)))
 | ((with_reducible refine S_falseO ?_ ?_ ?_); (· rfl); (· first | rfl | (first | rfl | exact bne_self_eq_false _ | assumption | omega | exact decide_eq_false (by omega) | (simp only [bne_eq_false_iff_eq]; assumption) | (rw [beq_eq_false_iff_ne]; omega) | (rw [tuP_len]; exact bne_self_eq_false _))))
 | ((with_reducible (first | refine S_trueE ?_ ?_ | refine S_trueB ?_ ?_ | refine S_trueL ?_ ?_ | refine S_trueD ?_ ?_ | refine S_trueN ?_ ?_)); · (first | exact beq_self_eq_true _ | rfl | omega | exact decide_eq_true (by omega) | (simp only [bne_iff_ne, ne_eq]; assumption) | (rw [beq_iff_eq]; assumption)))
 | ((with_reducible refine S_trueA ?_ ?_ ?_); (· rfl); (· first | rfl | (first | exact beq_self_eq_true _ | rfl | omega | exact decide_eq_true (by omega) | (simp only [bne_iff_ne, ne_eq]; assumption) | (rw [beq_iff_eq]; assumption))))
 | refine S_unG rfl rfl rfl rfl ?_
 | ((with_reducible refine S_falseA ?_ ?_); · (first | rfl | exact decide_eq_false (by omega)))
 | refine S_offG (.v (.bool false)) rfl rfl rfl rfl rfl ?_
 | refine S_load rfl obQ rfl [.float .f32 (smp (clF q0 q1 (lvl (gB x.s k))))] (.past (W2, fun b => W1.heap.size ≤ b ∧ b < W2.heap.size) memQ _ _ hB _ _ rfl rfl hqx) rfl (.inr ⟨rfl, rfl⟩) ?_
 | refine S_nil ?_
 | refine S_runN rfl rfl obQ obQ ?_
 | refine S_call (f := 101) rfl obQ (by kernel_rfl) (fun w hw => rsmp_as hsq2) ?_
 | refine S_call (f := 98) rfl obQ (by kernel_rfl) (fun w hw => six_as hsq2 hsv) ?_
 | refine S_call (f := 98) rfl obQ (by kernel_rfl) (fun w hw => six_as hsm rfl) ?_
           )
 | (refine V_id ?_; first
 | refine V_nil ?_
 | refine V_q rfl (Yl_load rfl obQ rfl [.float .f32 (gB x.s k)] (.past (w, fun b => b < w.heap.size) memQ _ _ hrx.toS _ _ rfl rfl (gB_idxZ (k := k) rfl hlx)) rfl (.inr ⟨rfl, rfl⟩)) ?_
 | refine V_q rfl (Yl_step rfl obQ) ?_
 | refine V_n rfl ?_
           )
 | (refine G_id ?_; first
 | refine G_V ⟨⟨_, rfl, trivial⟩, ⟨_, rfl⟩, rfl, pstQ⟩ rfl ?_
 | refine G_loop (k + 1) (show k + 1 ≤ (tuP (clF q0 q1) x).s.length by omega) (by show (tuP (clF q0 q1) x).s.length - (k + 1) < (tuP (clF q0 q1) x).s.length - k; omega) ⟨⟨_, rfl, obQ⟩, ⟨_, rfl⟩, rfl, psQ⟩
 | refine G_then ?_
 | refine G_block ?_
           )
           )
          · repeat' (first
 | (refine C_id ?_; first
 | refine C_seq ?_
 | refine C_region rfl ?_
 | refine C_block ?_
 | refine C_skip ?_
 | refine C_drawV (id := 37) 8 [(0, true), (2, true), (3, true), (4, true), (5, true), (6, true), (7, true), (1, false)] rfl mixed (by kernel_rfl) rfl ?_
 | refine C_condT rfl obQ ?_
 | refine C_condF rfl obQ ?_
           )
 | (refine S_id ?_; first
 | ((with_reducible (first | refine S_falseN ?_ ?_ | refine S_falseB ?_ ?_ | refine S_falseL ?_ ?_ | refine S_falseD ?_ ?_ | refine S_falseE ?_ ?_)); · (first | rfl | exact bne_self_eq_false _ | assumption | omega | exact decide_eq_false (by omega) | (simp only [bne_eq_false_iff_eq]; assumption) | (rw [beq_eq_false_iff_ne]; omega) | (rw [tuP_len]; exact bne_self_eq_false _)))
 | ((with_reducible refine S_falseO ?_ ?_ ?_); (· rfl); (· first | rfl | (first | rfl | exact bne_self_eq_false _ | assumption | omega | exact decide_eq_false (by omega) | (simp only [bne_eq_false_iff_eq]; assumption) | (rw [beq_eq_false_iff_ne]; omega) | (rw [tuP_len]; exact bne_self_eq_false _))))
 | ((with_reducible (first | refine S_trueE ?_ ?_ | refine S_trueB ?_ ?_ | refine S_trueL ?_ ?_ | refine S_trueD ?_ ?_ | refine S_trueN ?_ ?_)); · (first | exact beq_self_eq_true _ | rfl | omega | exact decide_eq_true (by omega) | (simp only [bne_iff_ne, ne_eq]; assumption) | (rw [beq_iff_eq]; assumption)))
 | ((with_reducible refine S_trueA ?_ ?_ ?_); (· rfl); (· first | rfl | (first | exact beq_self_eq_true _ | rfl | omega | exact decide_eq_true (by omega) | (simp only [bne_iff_ne, ne_eq]; assumption) | (rw [beq_iff_eq]; assumption))))
 | refine S_unG rfl rfl rfl rfl ?_
 | ((with_reducible refine S_falseA ?_ ?_); · (first | rfl | exact decide_eq_false (by omega)))
 | refine S_offG (.v (.bool false)) rfl rfl rfl rfl rfl ?_
 | refine S_load rfl obQ rfl [.float .f32 (smp (clF q0 q1 (lvl (gB x.s k))))] (.past (W2, fun b => W1.heap.size ≤ b ∧ b < W2.heap.size) memQ _ _ hB _ _ rfl rfl hqx) rfl (.inr ⟨rfl, rfl⟩) ?_
 | refine S_nil ?_
 | refine S_runN rfl rfl obQ obQ ?_
 | refine S_call (f := 101) rfl obQ (by kernel_rfl) (fun w hw => rsmp_as hsq2) ?_
 | refine S_call (f := 98) rfl obQ (by kernel_rfl) (fun w hw => six_as hsq2 hsv) ?_
 | refine S_call (f := 98) rfl obQ (by kernel_rfl) (fun w hw => six_as hsm rfl) ?_
           )
 | (refine V_id ?_; first
 | refine V_nil ?_
 | refine V_q rfl (Yl_load rfl obQ rfl [.float .f32 (gB x.s k)] (.past (w, fun b => b < w.heap.size) memQ _ _ hrx.toS _ _ rfl rfl (gB_idxZ (k := k) rfl hlx)) rfl (.inr ⟨rfl, rfl⟩)) ?_
 | refine V_q rfl (Yl_step rfl obQ) ?_
 | refine V_n rfl ?_
           )
 | (refine G_id ?_; first
 | refine G_V ⟨⟨_, rfl, trivial⟩, ⟨_, rfl⟩, rfl, pstQ⟩ rfl ?_
 | refine G_loop (k + 1) (show k + 1 ≤ (tuP (clF q0 q1) x).s.length by omega) (by show (tuP (clF q0 q1) x).s.length - (k + 1) < (tuP (clF q0 q1) x).s.length - k; omega) ⟨⟨_, rfl, obQ⟩, ⟨_, rfl⟩, rfl, psQ⟩
 | refine G_then ?_
 | refine G_block ?_
           )
           )
        · repeat' (first
 | (refine C_id ?_; first
 | refine C_seq ?_
 | refine C_region rfl ?_
 | refine C_block ?_
 | refine C_skip ?_
 | refine C_drawV (id := 37) 8 [(0, true), (2, true), (3, true), (4, true), (5, true), (6, true), (7, true), (1, false)] rfl mixed (by kernel_rfl) rfl ?_
 | refine C_condT rfl obQ ?_
 | refine C_condF rfl obQ ?_
         )
 | (refine S_id ?_; first
 | ((with_reducible (first | refine S_falseN ?_ ?_ | refine S_falseB ?_ ?_ | refine S_falseL ?_ ?_ | refine S_falseD ?_ ?_ | refine S_falseE ?_ ?_)); · (first | rfl | exact bne_self_eq_false _ | assumption | omega | exact decide_eq_false (by omega) | (simp only [bne_eq_false_iff_eq]; assumption) | (rw [beq_eq_false_iff_ne]; omega) | (rw [tuP_len]; exact bne_self_eq_false _)))
 | ((with_reducible refine S_falseO ?_ ?_ ?_); (· rfl); (· first | rfl | (first | rfl | exact bne_self_eq_false _ | assumption | omega | exact decide_eq_false (by omega) | (simp only [bne_eq_false_iff_eq]; assumption) | (rw [beq_eq_false_iff_ne]; omega) | (rw [tuP_len]; exact bne_self_eq_false _))))
 | ((with_reducible (first | refine S_trueE ?_ ?_ | refine S_trueB ?_ ?_ | refine S_trueL ?_ ?_ | refine S_trueD ?_ ?_ | refine S_trueN ?_ ?_)); · (first | exact beq_self_eq_true _ | rfl | omega | exact decide_eq_true (by omega) | (simp only [bne_iff_ne, ne_eq]; assumption) | (rw [beq_iff_eq]; assumption)))
 | ((with_reducible refine S_trueA ?_ ?_ ?_); (· rfl); (· first | rfl | (first | exact beq_self_eq_true _ | rfl | omega | exact decide_eq_true (by omega) | (simp only [bne_iff_ne, ne_eq]; assumption) | (rw [beq_iff_eq]; assumption))))
 | refine S_unG rfl rfl rfl rfl ?_
 | ((with_reducible refine S_falseA ?_ ?_); · (first | rfl | exact decide_eq_false (by omega)))
 | refine S_offG (.v (.bool false)) rfl rfl rfl rfl rfl ?_
 | refine S_load rfl obQ rfl [.float .f32 (smp (clF q0 q1 (lvl (gB x.s k))))] (.past (W2, fun b => W1.heap.size ≤ b ∧ b < W2.heap.size) memQ _ _ hB _ _ rfl rfl hqx) rfl (.inr ⟨rfl, rfl⟩) ?_
 | refine S_nil ?_
 | refine S_runN rfl rfl obQ obQ ?_
 | refine S_call (f := 101) rfl obQ (by kernel_rfl) (fun w hw => rsmp_as hsq2) ?_
 | refine S_call (f := 98) rfl obQ (by kernel_rfl) (fun w hw => six_as hsq2 hsv) ?_
 | refine S_call (f := 98) rfl obQ (by kernel_rfl) (fun w hw => six_as hsm rfl) ?_
         )
 | (refine V_id ?_; first
 | refine V_nil ?_
 | refine V_q rfl (Yl_load rfl obQ rfl [.float .f32 (gB x.s k)] (.past (w, fun b => b < w.heap.size) memQ _ _ hrx.toS _ _ rfl rfl (gB_idxZ (k := k) rfl hlx)) rfl (.inr ⟨rfl, rfl⟩)) ?_
 | refine V_q rfl (Yl_step rfl obQ) ?_
 | refine V_n rfl ?_
         )
 | (refine G_id ?_; first
 | refine G_V ⟨⟨_, rfl, trivial⟩, ⟨_, rfl⟩, rfl, pstQ⟩ rfl ?_
 | refine G_loop (k + 1) (show k + 1 ≤ (tuP (clF q0 q1) x).s.length by omega) (by show (tuP (clF q0 q1) x).s.length - (k + 1) < (tuP (clF q0 q1) x).s.length - k; omega) ⟨⟨_, rfl, obQ⟩, ⟨_, rfl⟩, rfl, psQ⟩
 | refine G_then ?_
 | refine G_block ?_
         )
         )
      · repeat' (first
 | (refine C_id ?_; first
 | refine C_seq ?_
 | refine C_region rfl ?_
 | refine C_exit ?_
 | refine C_condF rfl obQ ?_
       )
 | (refine S_id ?_; first
 | ((with_reducible (first | refine S_falseN ?_ ?_ | refine S_falseB ?_ ?_ | refine S_falseL ?_ ?_ | refine S_falseD ?_ ?_ | refine S_falseE ?_ ?_)); · (first | rfl | exact bne_self_eq_false _ | assumption | omega | exact decide_eq_false (by omega) | (simp only [bne_eq_false_iff_eq]; assumption) | (rw [beq_eq_false_iff_ne]; omega) | (rw [tuP_len]; exact bne_self_eq_false _)))
 | refine S_nil ?_
 | refine S_runN rfl rfl obQ obQ ?_
       )
 | (refine G_id ?_; first
 | refine G_cutN () ⟨⟨_, rfl, obQ⟩, ⟨_, rfl⟩, rfl, psQ⟩
 | refine G_then ?_
 | refine G_blockX ?_
 | refine G_thenX ?_
       )
       )
    by_cases hr2 : wi q2 0 256 = 0
    rotate_left
    · have hr2 : wi q2 0 256 = wi q2 0 256 := rfl
      repeat' (first
 | (refine C_id ?_; first
 | refine C_seq ?_
 | refine C_region rfl ?_
 | refine C_skip ?_
 | refine C_ret0 ?_
 | refine C_condF rfl obQ ?_
     )
 | (refine S_id ?_; first
 | ((with_reducible (first | refine S_falseN ?_ ?_ | refine S_falseB ?_ ?_ | refine S_falseL ?_ ?_ | refine S_falseD ?_ ?_ | refine S_falseE ?_ ?_)); · (first | rfl | exact bne_self_eq_false _ | assumption | omega | exact decide_eq_false (by omega) | (simp only [bne_eq_false_iff_eq]; assumption) | (rw [beq_eq_false_iff_ne]; omega) | (rw [tuP_len]; exact bne_self_eq_false _)))
 | ((with_reducible (first | refine S_trueE ?_ ?_ | refine S_trueB ?_ ?_ | refine S_trueL ?_ ?_ | refine S_trueD ?_ ?_ | refine S_trueN ?_ ?_)); · (first | exact beq_self_eq_true _ | rfl | omega | exact decide_eq_true (by omega) | (simp only [bne_iff_ne, ne_eq]; assumption) | (rw [beq_iff_eq]; assumption)))
 | refine S_unG rfl rfl rfl rfl ?_
 | refine S_offG (.v (.bool false)) rfl rfl rfl rfl rfl ?_
 | ((with_reducible refine S_falseA ?_ ?_); · (first | rfl | exact decide_eq_false (by omega)))
 | refine S_nil ?_
 | refine S_runN rfl rfl obQ obQ ?_
 | refine S_box (fun bw => ⟨_, _, rfl, obQ, ?_⟩)
 | refine S_call (f := 20) rfl obQ (by kernel_rfl) (fun w hw => awake_c w (hw.rdm hO.toS memQ) (Pw_at hP hw memQ)) ?_
 | refine S_call (f := 29) rfl obQ (by kernel_rfl) (fun w hw => rng_as hr2) ?_
 | refine S_call (f := 29) rfl obQ (by kernel_rfl) (fun w hw => rng_as hr3) ?_
     )
 | (refine G_id ?_; first
 | refine G_then ?_
 | refine G_ret rfl obQ (fun w hw => ⟨?_, hw.below⟩)
     )
     )
      all_goals rfl
    have hq2 := (wi_eq _ _ _).1 hr2
    by_cases hr3 : wi q3 0 (256 - q2) = 0
    rotate_left
    · have hr3 : wi q3 0 (256 - q2) = wi q3 0 (256 - q2) := rfl
      repeat' (first
 | (refine C_id ?_; first
 | refine C_seq ?_
 | refine C_region rfl ?_
 | refine C_skip ?_
 | refine C_ret0 ?_
 | refine C_condF rfl obQ ?_
     )
 | (refine S_id ?_; first
 | ((with_reducible (first | refine S_falseN ?_ ?_ | refine S_falseB ?_ ?_ | refine S_falseL ?_ ?_ | refine S_falseD ?_ ?_ | refine S_falseE ?_ ?_)); · (first | rfl | exact bne_self_eq_false _ | assumption | omega | exact decide_eq_false (by omega) | (simp only [bne_eq_false_iff_eq]; assumption) | (rw [beq_eq_false_iff_ne]; omega) | (rw [tuP_len]; exact bne_self_eq_false _)))
 | ((with_reducible (first | refine S_trueE ?_ ?_ | refine S_trueB ?_ ?_ | refine S_trueL ?_ ?_ | refine S_trueD ?_ ?_ | refine S_trueN ?_ ?_)); · (first | exact beq_self_eq_true _ | rfl | omega | exact decide_eq_true (by omega) | (simp only [bne_iff_ne, ne_eq]; assumption) | (rw [beq_iff_eq]; assumption)))
 | refine S_unG rfl rfl rfl rfl ?_
 | refine S_offG (.v (.bool false)) rfl rfl rfl rfl rfl ?_
 | ((with_reducible refine S_falseA ?_ ?_); · (first | rfl | exact decide_eq_false (by omega)))
 | refine S_nil ?_
 | refine S_runN rfl rfl obQ obQ ?_
 | refine S_box (fun bw => ⟨_, _, rfl, obQ, ?_⟩)
 | refine S_call (f := 20) rfl obQ (by kernel_rfl) (fun w hw => awake_c w (hw.rdm hO.toS memQ) (Pw_at hP hw memQ)) ?_
 | refine S_call (f := 29) rfl obQ (by kernel_rfl) (fun w hw => rng_as hr2) ?_
 | refine S_call (f := 29) rfl obQ (by kernel_rfl) (fun w hw => rng_as hr3) ?_
     )
 | (refine G_id ?_; first
 | refine G_then ?_
 | refine G_ret rfl obQ (fun w hw => ⟨?_, hw.below⟩)
     )
     )
      all_goals rfl
    have hq3 := (wi_eq _ _ _).1 hr3
    have hwt : WtOk q2 q3 (256 - (q2 + q3)) := ⟨hq2, by omega, by omega, by omega⟩
    have hBl := luP_same ht.px hwt
    have hsl : (luP x x x q2 q3 (256 - (q2 + q3))).s.length ≤ 1000000 := by rw [luP_len]; exact hsx
    have hfl := luP_fin ht.px hwt
    have hfx : ∀ b ∈ x.s, Fin32 b := fun b hb => (ht.px.s b hb).fin
    repeat' (first
 | (refine C_id ?_; first
 | refine C_seq ?_
 | refine C_region rfl ?_
 | refine C_condT rfl obQ ?_
   )
 | (refine S_id ?_; first
 | ((with_reducible (first | refine S_trueE ?_ ?_ | refine S_trueB ?_ ?_ | refine S_trueL ?_ ?_ | refine S_trueD ?_ ?_ | refine S_trueN ?_ ?_)); · (first | exact beq_self_eq_true _ | rfl | omega | exact decide_eq_true (by omega) | (simp only [bne_iff_ne, ne_eq]; assumption) | (rw [beq_iff_eq]; assumption)))
 | ((with_reducible refine S_trueA ?_ ?_ ?_); (· rfl); (· first | rfl | (first | exact beq_self_eq_true _ | rfl | omega | exact decide_eq_true (by omega) | (simp only [bne_iff_ne, ne_eq]; assumption) | (rw [beq_iff_eq]; assumption))))
 | refine S_unG rfl rfl rfl rfl ?_
 | refine S_nil ?_
 | refine S_runN rfl rfl obQ obQ ?_
 | refine S_box (fun bw => ⟨_, _, rfl, obQ, ?_⟩)
 | refine S_call (f := 29) rfl obQ (by kernel_rfl) (fun w hw => rng_as hr2) ?_
 | refine S_call (f := 29) rfl obQ (by kernel_rfl) (fun w hw => rng_as hr3) ?_
   )
 | (refine G_id ?_; first
 | refine G_then ?_
   )
   )
    obtain ⟨bw, rfl⟩ : ∃ z, z = bw := ⟨bw, rfl⟩
    refine C_cut (fun E : SlA ((luP x x x q2 q3 (256 - (q2 + q3))).s.map (.float .f32)) × Nat => ([E.1.ps, (w, fun b => b < w.heap.size)], (⟨[(4, .s (.p b4 0 0)), (5, .s (.p b5 1 0)), (29, .s (.p E.2 3 0)), (30, .s (.v (.int .i64 0)))], [⟨b4, 106, [.v (.string x.nm), .v (.int .i64 x.w), .v (.int .i64 x.h), .v (.slice (some ax) x.s.length cx), .v (.string y.nm), .v (.int .i64 y.w), .v (.int .i64 y.h), .v (.slice (some ay) y.s.length cy), .v (.string z.nm), .v (.int .i64 z.w), .v (.int .i64 z.h), .v (.slice (some az) z.s.length cz)]⟩, ⟨b5, 167, [.v (.int .i64 q0), .v (.int .i64 q1), .v (.int .i64 q2), .v (.int .i64 q3)]⟩, ⟨bw, 50, [.v (.int .i64 q2), .v (.int .i64 q3), .v (.int .i64 (256 - (q2 + q3)))]⟩, ⟨E.2, 96, [.v (.string (luP x x x q2 q3 (256 - (q2 + q3))).nm), .v (.int .i64 (luP x x x q2 q3 (256 - (q2 + q3))).w), .v (.int .i64 (luP x x x q2 q3 (256 - (q2 + q3))).h), .v (.slice E.1.A (luP x x x q2 q3 (256 - (q2 + q3))).s.length E.1.c)]⟩], []⟩ : St))) ?_ (fun E => ?_)
    · repeat' (first
 | (refine C_id ?_; first
 | refine C_drawTr (id := 44) 17 (.q 0 (.q 1 (.q 3 (.q 4 (.q 6 (.q 7 (.q 10 (.two 2 15 (.two 5 15 (.two 8 15 (.q 9 (.two 11 15 (.q 12 (.q 13 (.q 14 (.n 15 (.n 16 .nil))))) (.n 11 (.q 12 (.q 13 (.q 14 (.n 16 .nil))))))) (.n 8 (.q 9 (.n 11 (.q 12 (.q 13 (.q 14 (.n 16 .nil)))))))) (.n 5 (.n 8 (.q 9 (.n 11 (.q 12 (.q 13 (.q 14 (.n 16 .nil))))))))) (.n 2 (.n 5 (.n 8 (.q 9 (.n 11 (.q 12 (.q 13 (.q 14 (.n 16 .nil))))))))))))))))) rfl mixed (by kernel_rfl) rfl ?_
     )
 | (refine S_id ?_; first
 | (have _z := hSP; refine S_callM (f := 56) rfl obQ (by kernel_rfl) (fun w hw => lown_c x _ _ hsx hax w (hw.rdm hrx.toS memQ)) (fun w1R w2R vR hw1R hbR hRR => ?_); obtain ⟨AR, cR, rfl, hSR⟩ := hRR; obtain ⟨oR, rfl⟩ := rdW_some hSR (by simp; omega))
 | (have _z := hSO; refine S_callM (f := 56) rfl obQ (by kernel_rfl) (fun w hw => lown_c x _ _ hsx hax w (hw.rdm hrx.toS memQ)) (fun w1P w2P vP hw1P hbP hRP => ?_); obtain ⟨AP, cP, rfl, hSP⟩ := hRP; obtain ⟨oP, rfl⟩ := rdW_some hSP (by simp; omega))
 | (refine S_callM (f := 56) rfl obQ (by kernel_rfl) (fun w hw => lown_c x _ _ hsx hax w (hw.rdm hrx.toS memQ)) (fun w1O w2O vO hw1O hbO hRO => ?_); obtain ⟨AO, cO, rfl, hSO⟩ := hRO; obtain ⟨oO, rfl⟩ := rdW_some hSO (by simp; omega))
 | (refine S_callM (f := 61) rfl obQ (by kernel_rfl) (fun w hw => lum_as ht.px hwt hsx (hw.rdm hSO memQ) (hw.rdm hSP memQ) (hw.rdm hSR memQ)) (fun w1Y w2Y vY hw1Y hbY hRY => ?_); obtain ⟨AY, cY, rfl, hSY⟩ := hRY)
 | refine S_nil ?_
 | refine S_runN rfl rfl obQ obQ ?_
 | refine S_box (fun be => ⟨_, _, rfl, obQ, ?_⟩)
     )
 | (refine VT_id ?_; first
 | refine VT_nil ?_
 | refine VT_q rfl (Yl_step rfl obQ) ?_
 | refine VT_n rfl ?_
 | refine VT_two rfl rfl ?_ ?_
     )
 | (refine G_id ?_; first
 | refine G_VT2 ⟨_, rfl⟩ ⟨_, rfl⟩ pstQ rfl ?_
 | refine G_cutN (⟨w1Y, w2Y, AY, cY, hSY⟩, be) ⟨⟨_, rfl, obQ⟩, ⟨_, rfl⟩, rfl, psQ⟩
     )
     )
    dsimp only
    repeat' (first
 | (refine C_id ?_; first
 | refine C_seq ?_
 | refine C_region rfl ?_
 | refine C_skip ?_
 | refine C_ret0 ?_
 | refine C_condF rfl obQ ?_
   )
 | (refine S_id ?_; first
 | ((with_reducible (first | refine S_falseN ?_ ?_ | refine S_falseB ?_ ?_ | refine S_falseL ?_ ?_ | refine S_falseD ?_ ?_ | refine S_falseE ?_ ?_)); · (first | rfl | exact bne_self_eq_false _ | assumption | omega | exact decide_eq_false (by omega) | (simp only [bne_eq_false_iff_eq]; assumption) | (rw [beq_eq_false_iff_ne]; omega) | (rw [tuP_len]; exact bne_self_eq_false _)))
 | ((with_reducible refine S_falseO ?_ ?_ ?_); (· rfl); (· first | rfl | (first | rfl | exact bne_self_eq_false _ | assumption | omega | exact decide_eq_false (by omega) | (simp only [bne_eq_false_iff_eq]; assumption) | (rw [beq_eq_false_iff_ne]; omega) | (rw [tuP_len]; exact bne_self_eq_false _))))
 | refine S_unG rfl rfl rfl rfl ?_
 | refine S_nil ?_
 | refine S_runN rfl rfl obQ obQ ?_
 | refine S_call (f := 97) rfl obQ (by kernel_rfl) (fun w hw => rSameW_c (luP x x x q2 q3 (256 - (q2 + q3))) x _ _ _ _ hsl hfl hsx hfx rfl rfl rfl hBl w (hw.rdm E.1.h memQ) (hw.rdm hrx.toS memQ)) ?_
 | refine S_call (f := 20) rfl obQ (by kernel_rfl) (fun w hw => awake_c w (hw.rdm hO.toS memQ) (Pw_at hP hw memQ)) ?_
   )
 | (refine G_id ?_; first
 | refine G_then ?_
 | refine G_ret rfl obQ (fun w hw => ⟨?_, hw.below⟩)
   )
   )
    all_goals rfl

end Go.Proofs.YtdbffbcobghbeaaGreatDoor
