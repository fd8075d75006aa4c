/- Pictures to which a curve is applied, clipped ones: the program, the reference and the walk of the law. -/
import Derived.Test.YtdbffbcobghbeaaGreatDoorColour53
import Derived.Test.YtdbffbcobghbeaaGreatDoorColour13
import Derived.Test.YtdbffbcobghbeaaGreatDoorColour28
import Derived.Test.YtdbffbcobghbeaaGreatDoorEngAL
import Derived.Test.YtdbffbcobghbeaaGreatDoorEngZ
namespace Go.Proofs.YtdbffbcobghbeaaGreatDoor
open Go.E Go.RowKit Go.Fl
attribute [local irreducible] G C S D Calls
set_option maxRecDepth 100000
set_option linter.unusedSimpArgs false
set_option linter.unusedVariables false

set_option maxHeartbeats 400000 in
/-- genlockref02.CheckInterval -/
theorem rCheckInterval_c (lo hi : Int) (w : World) : Calls Tryz.prog 49 #[.agg #[.int .i64 lo, .int .i64 hi]] w fun r w' => r = .returned (.int .i64 (ivE lo hi)) ∧ Below w.heap.size w w' := by
  refine calls_of (args := [.agg #[.int .i64 lo, .int .i64 hi]]) T_ok Tryz.func49 rfl Tryz.ntmps49 (Nat.le_of_ble_eq_true rfl) rfl ?_
  repeat' (first
 | (refine C_id ?_; first
 | refine C_seq ?_
 | refine C_region rfl ?_
 | refine C_ret0 ?_
 | refine C_drawV (id := 1) 11 [(0, true), (1, true), (3, true), (4, true), (6, true), (7, true), (8, true), (9, true), (10, true), (2, false), (5, false)] rfl mixed (by kernel_rfl) rfl ?_
 )
 | (refine S_id ?_; first
 | refine S_nil ?_
 | refine S_run rfl rfl obQ obQ ?_
 | refine S_box (fun b => ⟨_, _, rfl, obQ, ?_⟩)
 | refine S_slice (fun b => ⟨_, _, rfl, obQ, ?_⟩)
 | refine S_call (f := 118) rfl obQ (by kernel_rfl) (fun w hw => rlevel_c _ w) ?_
 | refine S_call (f := 119) rfl obQ (by kernel_rfl) (fun w hw => rWhen_c _ _ w) ?_
 | refine S_call (f := 117) rfl obQ (by kernel_rfl) (fun w hw => rFirst_c _ _ [lvE lo, lvE hi, wh (decide (hi < lo)) 11] (by simp) w (.inr ⟨_, rfl, hw.src (i := 1) rfl rfl⟩)) ?_
 )
 | (refine V_id ?_; first
 | refine V_nil ?_
 | refine V_q rfl (Yl_step rfl obQ) ?_
 | refine V_n rfl ?_
 )
 | (refine G_id ?_; first
 | refine G_V ⟨⟨_, rfl, trivial⟩, ⟨_, rfl⟩, rfl, pstQ⟩ rfl ?_
 | refine G_then ?_
 | refine G_ret rfl obQ (fun w hw => ⟨?_, hw.below⟩)
 )
 )
  rfl

/-- A picture, each level of which is turned. -/
def tuP (f : Int → Int) (p : Pic) : Pic := ⟨p.nm, p.w, p.h, p.s.map fun x => smp (f (lvl x))⟩
def clF (lo hi : Int) (n : Int) : Int := min hi (max lo n)
def apE (l : List Pt) (p : Pic) : Int := firstL [curveE l, picE p]
def clE (p : Pic) (lo hi : Int) : Int := firstL [picE p, ivE lo hi]
theorem apE_ok {l : List Pt} {p : Pic} (h : apE l p = 0) : CvOk l ∧ PicOk p := by
  unfold apE at h
  rw [firstL_zero] at h
  simp only [List.mem_cons, List.mem_nil_iff, or_false, forall_eq_or_imp, forall_eq, curve_ok, pic_ok] at h
  exact h
theorem clE_ok {p : Pic} {lo hi : Int} (h : clE p lo hi = 0) : PicOk p ∧ ivE lo hi = 0 := by
  unfold clE at h
  rw [firstL_zero] at h
  simp only [List.mem_cons, List.mem_nil_iff, or_false, forall_eq_or_imp, forall_eq, pic_ok] at h
  exact h
theorem clF_bd {lo hi : Int} (h : ivE lo hi = 0) (n : Int) : -16384 ≤ clF lo hi n ∧ clF lo hi n ≤ 16384 := by
  have := ivE_ok h
  unfold clF
  omega
theorem map_gB {s : List Nat} {α : Type} (f : Nat → α) : (List.range s.length).map (fun j => f (gB s j)) = s.map f := by
  apply List.ext_getElem
  · simp
  · intro i h1 h2
    have h : i < s.length := by simpa using h2
    simp [gB_at h]
theorem tuP_fin {f : Int → Int} {p : Pic} (hf : ∀ n, -16384 ≤ f n ∧ f n ≤ 16384) : ∀ x ∈ (tuP f p).s, Smp x := by
  intro x hx
  simp only [tuP, List.mem_map] at hx
  obtain ⟨b, _, rfl⟩ := hx
  exact smp_Smp (hf _)
theorem tuP_len {f : Int → Int} {p : Pic} : (tuP f p).s.length = p.s.length := by simp [tuP]

set_option maxHeartbeats 400000 in
/-- colour.Clipped$1 -/
theorem clip1_c (b : Nat) (lo hi n : Int) (w : World) (hM : w.heap[b]? = some (.cells ([.int .i64 lo, .int .i64 hi] : List Value).toArray 73 (0, 0))) : Calls Tryz.prog 159 #[.int .i64 n, .pointer (some ⟨b, 0, none⟩)] w fun r w' => r = .returned (.int .i64 (clF lo hi n)) ∧ Below w.heap.size w w' := by
  refine calls_of (args := [.int .i64 n, .pointer (some ⟨b, 0, none⟩)]) T_ok Tryz.func159 rfl Tryz.ntmps159 (Nat.le_of_ble_eq_true rfl) rfl ?_
  repeat' (first
 | (refine C_id ?_; first
 | refine C_seq ?_
 | refine C_region rfl ?_
 | refine C_ret0 ?_
 )
 | (refine S_id ?_; first
 | refine S_load rfl obQ rfl [.int .i64 hi] (.cell (_, fun b => b < _) memQ (heap_lt hM) (heap_cell1 hM (o := 1) rfl)) rfl (.inr ⟨rfl, rfl⟩) ?_
 | refine S_load rfl obQ rfl [.int .i64 lo] (.cell (_, fun b => b < _) memQ (heap_lt hM) (heap_cell1 hM (o := 0) rfl)) rfl (.inr ⟨rfl, rfl⟩) ?_
 | refine S_nil ?_
 | refine S_run rfl rfl obQ obQ ?_
 )
 | (refine G_id ?_; first
 | refine G_then ?_
 | refine G_ret rfl obQ (fun w hw => ⟨?_, hw.below⟩)
 )
 )
  rfl

set_option maxHeartbeats 400000 in
/-- colour.changed$1 -/
theorem chApp_c (b3 : Nat) (A : Option Addr) (c : Nat) (l : List Pt) (hv : CvOk l) (x : Nat) (hx : Smp x) (w : World) (hM : w.heap[b3]? = some (.cells ([.func (.func 113) #[.slice A l.length c] #[]] : List Value).toArray 39 (0, 0))) (hrl : Rd w A (l.flatMap ptC)) : Calls Tryz.prog 194 #[.float .f32 x, .pointer (some ⟨b3, 0, none⟩)] w fun r w' => r = .returned (.float .f32 (smp (valF l (lvl x)))) ∧ Below w.heap.size w w' := by
  refine calls_of (args := [.float .f32 x, .pointer (some ⟨b3, 0, none⟩)]) T_ok Tryz.func194 rfl Tryz.ntmps194 (Nat.le_of_ble_eq_true rfl) rfl ?_
  repeat' (first
 | (refine C_id ?_; first
 | refine C_seq ?_
 | refine C_region rfl ?_
 | refine C_ret0 ?_
 | refine C_draw (id := 1) rfl mixed (by kernel_rfl) ?_
 )
 | (refine S_id ?_; first
 | refine S_nil ?_
 | refine S_run rfl rfl obQ obQ ?_
 )
 | (refine D_id ?_; first
 | refine D_load rfl obQ rfl [.func (.func 113) #[.slice A l.length c] #[]] (.cell (_, fun b => b < _) memQ (heap_lt hM) (heap_cell1 hM (o := 0) rfl)) rfl (.inr ⟨rfl, rfl⟩) ?_
 | refine D_nil ?_
 | refine D_run rfl rfl obQ obQ ?_
 | refine D_call (f := 140) rfl obQ (by kernel_rfl) (fun w hw => level_c x hx.fin hx.bd w) ?_
 | refine D_call (f := 113) rfl obQ (by kernel_rfl) (fun w hw => value_c A c l (lvl x) hv w (hw.rdm hrl.toS memQ)) ?_
 | refine D_call (f := 141) rfl obQ (by kernel_rfl) (fun w hw => sample_c (valF l (lvl x)) (valF_lv hv _) w) ?_
 )
 | (refine G_id ?_; first
 | refine G_then ?_
 | refine G_ret rfl obQ (fun w hw => ⟨?_, hw.below⟩)
 )
 )
  rfl

set_option maxHeartbeats 400000 in
/-- colour.changed$1 -/
theorem chClip_c (b3 bl : Nat) (lo hi : Int) (hI : ivE lo hi = 0) (x : Nat) (hx : Smp x) (w : World) (hM : w.heap[b3]? = some (.cells ([.func (.func 159) #[] #[.pointer (some ⟨bl, 0, none⟩)]] : List Value).toArray 39 (0, 0))) (hM2 : w.heap[bl]? = some (.cells ([.int .i64 lo, .int .i64 hi] : List Value).toArray 73 (0, 0))) : Calls Tryz.prog 194 #[.float .f32 x, .pointer (some ⟨b3, 0, none⟩)] w fun r w' => r = .returned (.float .f32 (smp (clF lo hi (lvl x)))) ∧ Below w.heap.size w w' := by
  refine calls_of (args := [.float .f32 x, .pointer (some ⟨b3, 0, none⟩)]) T_ok Tryz.func194 rfl Tryz.ntmps194 (Nat.le_of_ble_eq_true rfl) rfl ?_
  repeat' (first
 | (refine C_id ?_; first
 | refine C_seq ?_
 | refine C_region rfl ?_
 | refine C_ret0 ?_
 | refine C_draw (id := 1) rfl mixed (by kernel_rfl) ?_
 )
 | (refine S_id ?_; first
 | refine S_nil ?_
 | refine S_run rfl rfl obQ obQ ?_
 )
 | (refine D_id ?_; first
 | refine D_load rfl obQ rfl [.func (.func 159) #[] #[.pointer (some ⟨bl, 0, none⟩)]] (.cell (_, fun b => b < _) memQ (heap_lt hM) (heap_cell1 hM (o := 0) rfl)) rfl (.inr ⟨rfl, rfl⟩) ?_
 | refine D_nil ?_
 | refine D_run rfl rfl obQ obQ ?_
 | refine D_call (f := 140) rfl obQ (by kernel_rfl) (fun w hw => level_c x hx.fin hx.bd w) ?_
 | refine D_call (f := 159) rfl obQ (by kernel_rfl) (fun w hw => clip1_c bl lo hi (lvl x) w ((hw.past _ memQ bl (heap_lt hM2)).1.2.trans hM2)) ?_
 | refine D_call (f := 141) rfl obQ (by kernel_rfl) (fun w hw => sample_c (clF lo hi (lvl x)) (clF_bd hI _) w) ?_
 )
 | (refine G_id ?_; first
 | refine G_then ?_
 | refine G_ret rfl obQ (fun w hw => ⟨?_, hw.below⟩)
 )
 )
  rfl

set_option maxHeartbeats 400000 in
/-- colour.mapped[float32,float32] -/
theorem mappedFF_c (q : FuncId) (c0 : Value) {g : Nat → Nat} (A : Option Addr) (c : Nat) (l : List (Nat)) (hl : l.length ≤ 1000000) (he : entB Tryz.prog q = true) (w : World) (hr : Rd w A (l.map fun x => Value.float .f32 x)) (hg : ∀ x ∈ l, ∀ W, Below w.heap.size w W → Calls Tryz.prog q #[Value.float .f32 x, c0] W fun e w' => e = .returned (Value.float .f32 (g x)) ∧ Below W.heap.size W w') : Calls Tryz.prog 193 #[.slice A l.length c, .func (.func q) #[] #[c0]] w fun r w' => ∃ v, r = .returned v ∧ Below w.heap.size w w' ∧ Sl w w' v l.length (l.map fun x => Value.float .f32 (g x)) := by
  refine calls_of (args := [.slice A l.length c, .func (.func q) #[] #[c0]]) T_ok Tryz.func193 rfl Tryz.ntmps193 (Nat.le_of_ble_eq_true rfl) rfl ?_
  repeat' (first
 | (refine C_id ?_; first
 | refine C_seq ?_
 | refine C_region rfl ?_
 | refine C_block ?_
 )
 | (refine S_id ?_; first
 | refine S_nil ?_
 | refine S_run rfl rfl obQ obQ ?_
 )
 | (refine G_id ?_; first
 | refine G_then ?_
 )
 )
  refine C_row0 5 114 1 rfl ?_
  refine C_loopS (fun i : Nat × Option Addr × Nat => ⟨[(5, .s (.r i.2.1 i.1 i.2.2 0)), (8, .s (.v (.slice A l.length c))), (9, .s (.v (.int .i64 l.length))), (10, .s (.v (.int .i64 i.1))), (1, .s (.v (.func (.func q) #[] #[c0])))], [], [⟨114, 1, i.1, (l.take i.1).map fun x => Value.float .f32 (g x), .slice i.2.1 i.1 i.2.2⟩]⟩) (fun i => i.1 ≤ l.length) (fun i => l.length - i.1) (0, none, 0) (Nat.zero_le _) ?_ (fun i hi => ?_)
  · exact ⟨⟨_, rfl, obQ⟩, ⟨_, rfl⟩, rfl, pstQ⟩
  obtain ⟨k, A', c'⟩ := i
  have hi' : k ≤ l.length := hi
  dsimp only
  by_cases hlt : k < l.length
  · obtain ⟨ad, rfl⟩ := hr.some (by simp; omega)
    have hmt := map_take_succ (f := fun x => Value.float .f32 (g x)) hlt
    repeat' (first
 | (refine C_id ?_; first
 | refine C_seq ?_
 | refine C_region rfl ?_
 | refine C_block ?_
 | refine C_skip ?_
 | (refine C_cond rfl obQ (fun h => ?_) (fun h => ?_) <;> (try simp only [Bool.or_eq_true, Bool.and_eq_true, Bool.or_eq_false_iff, Bool.and_eq_false_iff, decide_eq_true_eq, decide_eq_false_iff_not, beq_iff_eq, bne_iff_ne, beq_eq_false_iff_ne, bne_eq_false_iff_eq, ne_eq, Decidable.not_not, List.cons.injEq, and_true, Bool.not_eq_true', Bool.not_eq_false', Int.not_lt, Int.not_le] at h) <;> (try (exfalso; omega)))
     )
 | (refine S_id ?_; first
 | refine S_load rfl obQ rfl [Value.float .f32 l[k]] (.past _ memQ _ _ hr.toS _ _ rfl rfl (idx1 (f := fun x => Value.float .f32 x) hlt)) rfl (.inr ⟨rfl, rfl⟩) ?_
 | refine S_call rfl obQ he (fun W hW => hg l[k] (List.getElem_mem hlt) W hW.below) ?_
 | refine S_append rfl obQ rfl rfl rfl ⟨by decide, rfl⟩ rfl ⟨rfl, rfl, rfl, rfl⟩ [Value.float .f32 (g l[k])] ⟨by decide, rfl⟩ (by simp [Value.oneCell']) (fun w hw => by first | exact hw.src (i := 0) rfl rfl | exact hw.src (i := 1) rfl rfl | exact hw.src (i := 2) rfl rfl | exact hw.src (i := 3) rfl rfl | exact hw.src (i := 4) rfl rfl | exact hw.src (i := 5) rfl rfl | exact hw.src (i := 6) rfl rfl | exact hw.src (i := 7) rfl rfl | exact hw.src (i := 8) rfl rfl) (by unfold maxLen; dsimp only; omega) (fun gb cap' => ⟨_, rfl, ?_⟩)
 | refine S_nil ?_
 | refine S_run rfl rfl obQ obQ ?_
 | refine S_slice (fun b => ⟨_, _, rfl, obQ, ?_⟩)
     )
 | (refine G_id ?_; first
 | refine G_loop (k + 1, some ⟨gb, 0, none⟩, cap') (by show k + 1 ≤ _; omega) (by show l.length - (k + 1) < l.length - k; omega) ⟨⟨_, rfl, obQ⟩, ⟨_, rfl⟩, (by dsimp only; rw [hmt]), pstQ⟩
 | refine G_then ?_
 | refine G_block ?_
     )
     )
  · obtain rfl : k = l.length := by omega
    repeat' (first
 | (refine C_id ?_; first
 | refine C_seq ?_
 | refine C_region rfl ?_
 | refine C_exit ?_
 | refine C_ret0 ?_
 | (refine C_cond rfl obQ (fun h => ?_) (fun h => ?_) <;> (try simp only [Bool.or_eq_true, Bool.and_eq_true, Bool.or_eq_false_iff, Bool.and_eq_false_iff, decide_eq_true_eq, decide_eq_false_iff_not, beq_iff_eq, bne_iff_ne, beq_eq_false_iff_ne, bne_eq_false_iff_eq, ne_eq, Decidable.not_not, List.cons.injEq, and_true, Bool.not_eq_true', Bool.not_eq_false', Int.not_lt, Int.not_le] at h) <;> (try (exfalso; omega)))
     )
 | (refine S_id ?_; first
 | refine S_nil ?_
 | refine S_run rfl rfl obQ obQ ?_
     )
 | (refine G_id ?_; first
 | refine G_then ?_
 | refine G_blockX ?_
 | refine G_thenX ?_
 | refine G_ret rfl obQ (fun w2 hw => ⟨_, rfl, hw.below, HW.rowSl (i := 0) hw rfl rfl rfl (by rw [List.take_length])⟩)
     )
     )

set_option maxHeartbeats 400000 in
/-- colour.changed -/
theorem chgApp_c (p : Pic) (Ap : Option Addr) (cp : Nat) (hs : p.s.length ≤ 1000000) (hp : ∀ x ∈ p.s, Smp x) (A : Option Addr) (c : Nat) (l : List Pt) (hv : CvOk l) (w : World) (hr : Rd w Ap (p.s.map (.float .f32))) (hrl : Rd w A (l.flatMap ptC)) : Calls Tryz.prog 158 #[.agg #[.string p.nm, .int .i64 p.w, .int .i64 p.h, .slice Ap p.s.length cp], .func (.func 113) #[.slice A l.length c] #[]] w fun r w' => ∃ v, r = .returned v ∧ Below w.heap.size w w' ∧ PicA w w' v (tuP (valF l) p) := by
  refine calls_of (args := [.agg #[.string p.nm, .int .i64 p.w, .int .i64 p.h, .slice Ap p.s.length cp], .func (.func 113) #[.slice A l.length c] #[]]) T_ok Tryz.func158 rfl Tryz.ntmps158 (Nat.le_of_ble_eq_true rfl) rfl ?_
  repeat' (first
 | (refine C_id ?_; first
 | refine C_seq ?_
 | refine C_regionNe 1 rfl rfl ?_
 )
 | (refine S_id ?_; first
 | refine S_nil ?_
 | refine S_box (fun b => ⟨_, _, rfl, obQ, ?_⟩)
 )
 | (refine G_id ?_; first
 | refine G_then ?_
 )
 )
  rename_i b2 b3
  repeat' (first
 | (refine C_id ?_; first
 | refine C_seq ?_
 | refine C_region rfl ?_
 | refine C_ret0 ?_
   )
 | (refine S_id ?_; first
 | (refine S_callM (f := 193) rfl obQ (by kernel_rfl) (fun w2 hw2 => mappedFF_c 194 (.pointer (some ⟨b3, 0, none⟩)) (g := fun x => smp (valF l (lvl x))) Ap cp p.s hs (by kernel_rfl) w2 (hw2.rdm hr.toS memQ) (fun x hx W hW => chApp_c b3 A c l hv x (hp x hx) W ((hW.block b3 (HW.bxAt hw2 (i := 1) rfl rfl).1.2).trans (HW.bxAt hw2 (i := 1) rfl rfl).2) ((hw2.rdm hrl.toS memQ).below hW))) (fun w1M w2M vM hw1M hbM hRM => ?_); obtain ⟨AM, cM, rfl, hSM⟩ := hRM)
 | refine S_nil ?_
 | refine S_run rfl rfl obQ obQ ?_
   )
 | (refine G_id ?_; first
 | refine G_then ?_
 | refine G_ret rfl obQ (fun w2 hw => ⟨_, rfl, hw.below, PicA.of (s := (tuP (valF l) p).s) (HW.callSl hw (by rw [show ((tuP (valF l) p).s.map (Value.float .f32)) = p.s.map (fun x => Value.float .f32 (smp (valF l (lvl x)))) by simp [tuP]]; exact hSM) memQ hw1M.bsize) (by simp [tuP]) rfl⟩)
   )
   )

set_option maxHeartbeats 400000 in
/-- colour.changed -/
theorem chgClip_c (p : Pic) (Ap : Option Addr) (cp : Nat) (hs : p.s.length ≤ 1000000) (hp : ∀ x ∈ p.s, Smp x) (bl : Nat) (lo hi : Int) (hI : ivE lo hi = 0) (w : World) (hr : Rd w Ap (p.s.map (.float .f32))) (hM2 : w.heap[bl]? = some (.cells ([.int .i64 lo, .int .i64 hi] : List Value).toArray 73 (0, 0))) : Calls Tryz.prog 158 #[.agg #[.string p.nm, .int .i64 p.w, .int .i64 p.h, .slice Ap p.s.length cp], .func (.func 159) #[] #[.pointer (some ⟨bl, 0, none⟩)]] w fun r w' => ∃ v, r = .returned v ∧ Below w.heap.size w w' ∧ PicA w w' v (tuP (clF lo hi) p) := by
  refine calls_of (args := [.agg #[.string p.nm, .int .i64 p.w, .int .i64 p.h, .slice Ap p.s.length cp], .func (.func 159) #[] #[.pointer (some ⟨bl, 0, none⟩)]]) T_ok Tryz.func158 rfl Tryz.ntmps158 (Nat.le_of_ble_eq_true rfl) rfl ?_
  repeat' (first
 | (refine C_id ?_; first
 | refine C_seq ?_
 | refine C_regionNe 1 rfl rfl ?_
 )
 | (refine S_id ?_; first
 | refine S_nil ?_
 | refine S_box (fun b => ⟨_, _, rfl, obQ, ?_⟩)
 )
 | (refine G_id ?_; first
 | refine G_then ?_
 )
 )
  rename_i b2 b3
  repeat' (first
 | (refine C_id ?_; first
 | refine C_seq ?_
 | refine C_region rfl ?_
 | refine C_ret0 ?_
   )
 | (refine S_id ?_; first
 | (refine S_callM (f := 193) rfl obQ (by kernel_rfl) (fun w2 hw2 => mappedFF_c 194 (.pointer (some ⟨b3, 0, none⟩)) (g := fun x => smp (clF lo hi (lvl x))) Ap cp p.s hs (by kernel_rfl) w2 (hw2.rdm hr.toS memQ) (fun x hx W hW => chClip_c b3 bl lo hi hI x (hp x hx) W ((hW.block b3 (HW.bxAt hw2 (i := 1) rfl rfl).1.2).trans (HW.bxAt hw2 (i := 1) rfl rfl).2) ((hW.block bl (hw2.past _ memQ bl (heap_lt hM2)).1.1).trans ((hw2.past _ memQ bl (heap_lt hM2)).1.2.trans hM2)))) (fun w1M w2M vM hw1M hbM hRM => ?_); obtain ⟨AM, cM, rfl, hSM⟩ := hRM)
 | refine S_nil ?_
 | refine S_run rfl rfl obQ obQ ?_
   )
 | (refine G_id ?_; first
 | refine G_then ?_
 | refine G_ret rfl obQ (fun w2 hw => ⟨_, rfl, hw.below, PicA.of (s := (tuP (clF lo hi) p).s) (HW.callSl hw (by rw [show ((tuP (clF lo hi) p).s.map (Value.float .f32)) = p.s.map (fun x => Value.float .f32 (smp (clF lo hi (lvl x)))) by simp [tuP]]; exact hSM) memQ hw1M.bsize) (by simp [tuP]) rfl⟩)
   )
   )

set_option maxHeartbeats 400000 in
/-- colour.Applied -/
theorem Applied_c (p : Pic) (Ap : Option Addr) (cp : Nat) (hs : p.s.length ≤ 1000000) (A : Option Addr) (c : Nat) (l : List Pt) (hl : l.length ≤ 1000000) (w : World) (hr : Rd w Ap (p.s.map (.float .f32))) (hrl : Rd w A (l.flatMap ptC)) : Calls Tryz.prog 93 #[.slice A l.length c, .agg #[.string p.nm, .int .i64 p.w, .int .i64 p.h, .slice Ap p.s.length cp]] w fun r w' => ∃ v, r = .returned v ∧ Below w.heap.size w w' ∧ (if apE l p = 0 then PicR w w' v (tuP (valF l) p) 0 else PicR w w' v zP (apE l p)) := by
  refine calls_of (args := [.slice A l.length c, .agg #[.string p.nm, .int .i64 p.w, .int .i64 p.h, .slice Ap p.s.length cp]]) T_ok Tryz.func93 rfl Tryz.ntmps93 (Nat.le_of_ble_eq_true rfl) rfl ?_
  by_cases hE : apE l p = 0
  · simp only [if_pos hE]
    obtain ⟨h1, h2⟩ := apE_ok hE
    repeat' (first
 | (refine C_id ?_; first
 | refine C_seq ?_
 | refine C_region rfl ?_
 | refine C_skip ?_
 | refine C_ret0 ?_
 | refine C_drawV (id := 1) 3 [(0, true), (2, true), (1, false)] rfl mixed (by kernel_rfl) rfl ?_
 | (refine C_cond rfl obQ (fun h => ?_) (fun h => ?_) <;> (try simp only [Bool.or_eq_true, Bool.and_eq_true, Bool.or_eq_false_iff, Bool.and_eq_false_iff, decide_eq_true_eq, decide_eq_false_iff_not, beq_iff_eq, bne_iff_ne, beq_eq_false_iff_ne, bne_eq_false_iff_eq, ne_eq, Decidable.not_not, List.cons.injEq, and_true, Bool.not_eq_true', Bool.not_eq_false', Int.not_lt, Int.not_le] at h) <;> (try (exfalso; omega)) <;> (try (exfalso; simp at h; done)) <;> (try (exfalso; simp only [not_true_eq_false, false_or, or_false] at h; omega)) <;> (try contradiction))
     )
 | (refine S_id ?_; first
 | (refine S_callM (f := 158) rfl obQ (by kernel_rfl) (fun w hw => chgApp_c p Ap cp hs h2.s A c l h1 w (hw.rdm hr.toS memQ) (hw.rdm hrl.toS memQ)) (fun w1C w2C vC hw1C hbC hRC => ?_); obtain ⟨AC, cC, rfl, hSC⟩ := hRC)
 | refine S_nil ?_
 | refine S_run rfl rfl obQ obQ ?_
 | refine S_box (fun bb => ⟨_, _, rfl, obQ, ?_⟩)
 | refine S_slice (fun b => ⟨_, _, rfl, obQ, ?_⟩)
 | refine S_call (f := 34) rfl obQ (by kernel_rfl) (fun w hw => checkCurve_c A c l hl w (hw.rdm hrl.toS memQ)) ?_
 | refine S_call (f := 137) rfl obQ (by kernel_rfl) (fun w hw => checkPicture_c p Ap cp hs w (hw.rdm hr.toS memQ)) ?_
 | refine S_call (f := 111) rfl obQ (by kernel_rfl) (fun w hw => cfirst_c _ _ [curveE l, picE p] (by simp) w (.inr ⟨_, rfl, hw.src (i := 2) rfl rfl⟩)) ?_
     )
 | (refine V_id ?_; first
 | refine V_nil ?_
 | refine V_q rfl (Yl_step rfl obQ) ?_
 | refine V_n rfl ?_
     )
 | (refine G_id ?_; first
 | refine G_V ⟨⟨_, rfl, trivial⟩, ⟨_, rfl⟩, rfl, pstQ⟩ rfl ?_
 | refine G_then ?_
 | refine G_ret rfl obQ (fun w2 hw => ⟨_, rfl, hw.below, PicR.of (s := (tuP (valF l) p).s) (HW.callSl hw hSC memQ hw1C.bsize) rfl rfl⟩)
     )
     )
  · simp only [if_neg hE]
    repeat' (first
 | (refine C_id ?_; first
 | refine C_seq ?_
 | refine C_region rfl ?_
 | refine C_ret0 ?_
 | refine C_drawV (id := 1) 3 [(0, true), (2, true), (1, false)] rfl mixed (by kernel_rfl) rfl ?_
 | (refine C_cond rfl obQ (fun h => ?_) (fun h => ?_) <;> (try simp only [Bool.or_eq_true, Bool.and_eq_true, Bool.or_eq_false_iff, Bool.and_eq_false_iff, decide_eq_true_eq, decide_eq_false_iff_not, beq_iff_eq, bne_iff_ne, beq_eq_false_iff_ne, bne_eq_false_iff_eq, ne_eq, Decidable.not_not, List.cons.injEq, and_true, Bool.not_eq_true', Bool.not_eq_false', Int.not_lt, Int.not_le] at h) <;> (try (exfalso; omega)) <;> (try (exfalso; simp at h; done)) <;> (try (exfalso; simp only [not_true_eq_false, false_or, or_false] at h; omega)) <;> (try contradiction))
     )
 | (refine S_id ?_; first
 | refine S_nil ?_
 | refine S_run rfl rfl obQ obQ ?_
 | refine S_box (fun bb => ⟨_, _, rfl, obQ, ?_⟩)
 | refine S_slice (fun b => ⟨_, _, rfl, obQ, ?_⟩)
 | refine S_call (f := 34) rfl obQ (by kernel_rfl) (fun w hw => checkCurve_c A c l hl w (hw.rdm hrl.toS memQ)) ?_
 | refine S_call (f := 137) rfl obQ (by kernel_rfl) (fun w hw => checkPicture_c p Ap cp hs w (hw.rdm hr.toS memQ)) ?_
 | refine S_call (f := 111) rfl obQ (by kernel_rfl) (fun w hw => cfirst_c _ _ [curveE l, picE p] (by simp) w (.inr ⟨_, rfl, hw.src (i := 2) rfl rfl⟩)) ?_
     )
 | (refine V_id ?_; first
 | refine V_nil ?_
 | refine V_q rfl (Yl_step rfl obQ) ?_
 | refine V_n rfl ?_
     )
 | (refine G_id ?_; first
 | refine G_V ⟨⟨_, rfl, trivial⟩, ⟨_, rfl⟩, rfl, pstQ⟩ rfl ?_
 | refine G_then ?_
 | refine G_thenR ?_
 | refine G_ret rfl obQ (fun w2 hw => ⟨_, rfl, hw.below, PicR.zero _ _ _⟩)
     )
     )

set_option maxHeartbeats 400000 in
/-- colour.Clipped -/
theorem Clipped_c (p : Pic) (Ap : Option Addr) (cp : Nat) (hs : p.s.length ≤ 1000000) (lo hi : Int) (w : World) (hr : Rd w Ap (p.s.map (.float .f32)))  : Calls Tryz.prog 94 #[.agg #[.string p.nm, .int .i64 p.w, .int .i64 p.h, .slice Ap p.s.length cp], .agg #[.int .i64 lo, .int .i64 hi]] w fun r w' => ∃ v, r = .returned v ∧ Below w.heap.size w w' ∧ (if clE p lo hi = 0 then PicR w w' v (tuP (clF lo hi) p) 0 else PicR w w' v zP (clE p lo hi)) := by
  refine calls_of (args := [.agg #[.string p.nm, .int .i64 p.w, .int .i64 p.h, .slice Ap p.s.length cp], .agg #[.int .i64 lo, .int .i64 hi]]) T_ok Tryz.func94 rfl Tryz.ntmps94 (Nat.le_of_ble_eq_true rfl) rfl ?_
  by_cases hE : clE p lo hi = 0
  · simp only [if_pos hE]
    obtain ⟨h1, h2⟩ := clE_ok hE
    repeat' (first
 | (refine C_id ?_; first
 | refine C_seq ?_
 | refine C_region rfl ?_
 | refine C_skip ?_
 | refine C_ret0 ?_
 | refine C_drawV (id := 1) 3 [(0, true), (2, true), (1, false)] rfl mixed (by kernel_rfl) rfl ?_
 | (refine C_cond rfl obQ (fun h => ?_) (fun h => ?_) <;> (try simp only [Bool.or_eq_true, Bool.and_eq_true, Bool.or_eq_false_iff, Bool.and_eq_false_iff, decide_eq_true_eq, decide_eq_false_iff_not, beq_iff_eq, bne_iff_ne, beq_eq_false_iff_ne, bne_eq_false_iff_eq, ne_eq, Decidable.not_not, List.cons.injEq, and_true, Bool.not_eq_true', Bool.not_eq_false', Int.not_lt, Int.not_le] at h) <;> (try (exfalso; omega)) <;> (try (exfalso; simp at h; done)) <;> (try (exfalso; simp only [not_true_eq_false, false_or, or_false] at h; omega)) <;> (try contradiction))
     )
 | (refine S_id ?_; first
 | (refine S_callM (f := 158) rfl obQ (by kernel_rfl) (fun w hw => chgClip_c p Ap cp hs h1.s _ lo hi h2 w (hw.rdm hr.toS memQ) (HW.bxAt hw (i := 1) rfl rfl).2) (fun w1C w2C vC hw1C hbC hRC => ?_); obtain ⟨AC, cC, rfl, hSC⟩ := hRC)
 | refine S_nil ?_
 | refine S_run rfl rfl obQ obQ ?_
 | refine S_box (fun bb => ⟨_, _, rfl, obQ, ?_⟩)
 | refine S_slice (fun b => ⟨_, _, rfl, obQ, ?_⟩)
 | refine S_call (f := 137) rfl obQ (by kernel_rfl) (fun w hw => checkPicture_c p Ap cp hs w (hw.rdm hr.toS memQ)) ?_
 | refine S_call (f := 133) rfl obQ (by kernel_rfl) (fun w hw => checkInterval_c lo hi w) ?_
 | refine S_call (f := 111) rfl obQ (by kernel_rfl) (fun w hw => cfirst_c _ _ [picE p, ivE lo hi] (by simp) w (.inr ⟨_, rfl, hw.src (i := 3) rfl rfl⟩)) ?_
     )
 | (refine V_id ?_; first
 | refine V_nil ?_
 | refine V_q rfl (Yl_step rfl obQ) ?_
 | refine V_n rfl ?_
     )
 | (refine G_id ?_; first
 | refine G_V ⟨⟨_, rfl, trivial⟩, ⟨_, rfl⟩, rfl, pstQ⟩ rfl ?_
 | refine G_then ?_
 | refine G_ret rfl obQ (fun w2 hw => ⟨_, rfl, hw.below, PicR.of (s := (tuP (clF lo hi) p).s) (HW.callSl hw hSC memQ hw1C.bsize) rfl rfl⟩)
     )
     )
  · simp only [if_neg hE]
    repeat' (first
 | (refine C_id ?_; first
 | refine C_seq ?_
 | refine C_region rfl ?_
 | refine C_ret0 ?_
 | refine C_drawV (id := 1) 3 [(0, true), (2, true), (1, false)] rfl mixed (by kernel_rfl) rfl ?_
 | (refine C_cond rfl obQ (fun h => ?_) (fun h => ?_) <;> (try simp only [Bool.or_eq_true, Bool.and_eq_true, Bool.or_eq_false_iff, Bool.and_eq_false_iff, decide_eq_true_eq, decide_eq_false_iff_not, beq_iff_eq, bne_iff_ne, beq_eq_false_iff_ne, bne_eq_false_iff_eq, ne_eq, Decidable.not_not, List.cons.injEq, and_true, Bool.not_eq_true', Bool.not_eq_false', Int.not_lt, Int.not_le] at h) <;> (try (exfalso; omega)) <;> (try (exfalso; simp at h; done)) <;> (try (exfalso; simp only [not_true_eq_false, false_or, or_false] at h; omega)) <;> (try contradiction))
     )
 | (refine S_id ?_; first
 | refine S_nil ?_
 | refine S_run rfl rfl obQ obQ ?_
 | refine S_box (fun bb => ⟨_, _, rfl, obQ, ?_⟩)
 | refine S_slice (fun b => ⟨_, _, rfl, obQ, ?_⟩)
 | refine S_call (f := 137) rfl obQ (by kernel_rfl) (fun w hw => checkPicture_c p Ap cp hs w (hw.rdm hr.toS memQ)) ?_
 | refine S_call (f := 133) rfl obQ (by kernel_rfl) (fun w hw => checkInterval_c lo hi w) ?_
 | refine S_call (f := 111) rfl obQ (by kernel_rfl) (fun w hw => cfirst_c _ _ [picE p, ivE lo hi] (by simp) w (.inr ⟨_, rfl, hw.src (i := 3) rfl rfl⟩)) ?_
     )
 | (refine V_id ?_; first
 | refine V_nil ?_
 | refine V_q rfl (Yl_step rfl obQ) ?_
 | refine V_n rfl ?_
     )
 | (refine G_id ?_; first
 | refine G_V ⟨⟨_, rfl, trivial⟩, ⟨_, rfl⟩, rfl, pstQ⟩ rfl ?_
 | refine G_then ?_
 | refine G_thenR ?_
 | refine G_ret rfl obQ (fun w2 hw => ⟨_, rfl, hw.below, PicR.zero _ _ _⟩)
     )
     )

set_option maxHeartbeats 1000000 in
/-- genlockref02.Applied -/
theorem rApplied_c (p : Pic) (Ap : Option Addr) (cp : Nat) (hs : p.s.length ≤ 1000000) (hp : PicOk p) (hA : Ap = none → p.s.length = 0 ∧ cp = 0) (A : Option Addr) (c : Nat) (l : List Pt) (hv : CvOk l) (w : World) (hr : Rd w Ap (p.s.map (.float .f32))) (hrl : Rd w A (l.flatMap ptC)) : Calls Tryz.prog 95 #[.slice A l.length c, .agg #[.string p.nm, .int .i64 p.w, .int .i64 p.h, .slice Ap p.s.length cp]] w fun r w' => ∃ v, r = .returned v ∧ Below w.heap.size w w' ∧ PicA w w' v (tuP (valF l) p) := by
  refine calls_of (args := [.slice A l.length c, .agg #[.string p.nm, .int .i64 p.w, .int .i64 p.h, .slice Ap p.s.length cp]]) T_ok Tryz.func95 rfl Tryz.ntmps95 (Nat.le_of_ble_eq_true rfl) rfl ?_
  obtain ⟨h4, h0⟩ := pic_len hp
  repeat' (first
 | (refine C_id ?_; first
 | refine C_seq ?_
 | refine C_region rfl ?_
 | refine C_block ?_
   )
 | (refine S_id ?_; first
 | (refine S_callRws (f := 142) rfl obQ (by kernel_rfl) (fun w hw => rOwnR_c p Ap cp hs h0 hA w (hw.rdm hr.toS memQ)) (fun v rs hR => ?_); obtain ⟨g, cR, rfl, rfl⟩ := hR)
 | refine S_nil ?_
 | refine S_run rfl rfl obQ obQ ?_
 | refine S_box (fun b => ⟨_, _, rfl, obQ, ?_⟩)
   )
 | (refine G_id ?_; first
 | refine G_then ?_
   )
   )
  rename_i b3 b4
  obtain ⟨b5, rfl⟩ : ∃ z, z = b := ⟨b, rfl⟩
  refine C_loopS (fun k : Nat => ⟨[(6, .s (.v (.int .i64 k))), (0, .s (.v (.slice A l.length c))), (3, .s (.p b3 0 0)), (4, .s (.p b4 1 0)), (5, .s (.p b5 2 0))], [⟨b3, 93, [.v (.string p.nm), .v (.int .i64 p.w), .v (.int .i64 p.h), .v (.slice Ap p.s.length cp)]⟩, ⟨b4, 93, [.v (.string ByteArray.empty), .v (.int .i64 0), .v (.int .i64 0), .v (.slice none 0 0)]⟩, ⟨b5, 93, [.v (.string p.nm), .v (.int .i64 p.w), .v (.int .i64 p.h), .v (.slice (some ⟨g, 0, none⟩) p.s.length cR)]⟩], [⟨114, 1, p.s.length, (upX p.s (fun j => smp (valF l (lvl (gB p.s j)))) k).map (.float .f32), .slice (some ⟨g, 0, none⟩) p.s.length cR⟩]⟩) (fun k => k ≤ p.s.length) (fun k => p.s.length - k) 0 (Nat.zero_le _) ?_ (fun k hk0 => ?_)
  · rw [upX_0]
    exact ⟨⟨_, rfl, obQ⟩, ⟨_, rfl⟩, rfl, pstQ⟩
  have hk : k ≤ p.s.length := hk0
  by_cases hlt : k < p.s.length
  · obtain ⟨adp, rfl⟩ := hr.some (by simp; omega)
    have hsm := hp.s _ (gB_mem hlt)
    have hlv := hsm.lv
    have hbd := valF_lv hv (lvl (gB p.s k))
    repeat' (first
 | (refine C_id ?_; first
 | refine C_seq ?_
 | refine C_region rfl ?_
 | refine C_block ?_
 | refine C_skip ?_
 | refine C_drawT (id := 5) 13 rfl mixed (by kernel_rfl) rfl rfl ?_
 | (refine C_cond rfl obQ (fun h => ?_) (fun h => ?_) <;> (try simp only [Bool.or_eq_true, Bool.and_eq_true, Bool.or_eq_false_iff, Bool.and_eq_false_iff, decide_eq_true_eq, decide_eq_false_iff_not, beq_iff_eq, bne_iff_ne, beq_eq_false_iff_ne, bne_eq_false_iff_eq, ne_eq, Decidable.not_not, List.cons.injEq, and_true, Bool.not_eq_true', Bool.not_eq_false', Int.not_lt, Int.not_le] at h) <;> (try (exfalso; omega)) <;> (try (exfalso; simp at h; done)) <;> (try (exfalso; simp only [not_true_eq_false, false_or, or_false] at h; omega)) <;> (try (exfalso; omega)))
     )
 | (refine S_id ?_; first
 | refine S_storeRow rfl obQ rfl rfl rfl 0 rfl rfl (((k : Nat) : Int).toNat * 1) rfl (by dsimp only; rw [List.length_map, upX_len]; omega) (xs' := (upX p.s (fun j => smp (valF l (lvl (gB p.s j)))) (k + 1)).map (.float .f32)) (upX_put (f := (fun j => smp (valF l (lvl (gB p.s j))))) rfl hlt) rfl ?_
 | refine S_nil ?_
 | refine S_run rfl rfl obQ obQ ?_
     )
 | (refine D_id ?_; first
 | refine D_load rfl obQ rfl [.float .f32 (gB p.s k)] (.past _ memQ _ _ hr.toS _ _ rfl rfl (gB_idxZ (k := k) rfl hlt)) rfl (.inr ⟨rfl, rfl⟩) ?_
 | refine D_tail ?_
 | refine D_run rfl rfl obQ obQ ?_
 | refine D_call (f := 98) rfl obQ (by kernel_rfl) (fun w hw => sixteenths_c (gB p.s k) hsm.fin hsm.bd w) ?_
 | refine D_call (f := 30) rfl obQ (by kernel_rfl) (fun w hw => rValue_c A c l (lvl (gB p.s k)) hv w (hw.rdm hrl.toS memQ)) ?_
 | refine D_call (f := 99) rfl obQ (by kernel_rfl) (fun w hw => rSample_c (valF l (lvl (gB p.s k))) hbd w) ?_
     )
 | (refine G_id ?_; first
 | refine G_loop (k + 1) (show k + 1 ≤ p.s.length by omega) (by show p.s.length - (k + 1) < p.s.length - k; omega) ⟨⟨_, rfl, obQ⟩, ⟨_, rfl⟩, rfl, pstQ⟩
 | refine G_then ?_
 | refine G_block ?_
     )
     )
  · obtain rfl : k = p.s.length := by omega
    repeat' (first
 | (refine C_id ?_; first
 | refine C_seq ?_
 | refine C_region rfl ?_
 | refine C_exit ?_
 | refine C_ret0 ?_
 | (refine C_cond rfl obQ (fun h => ?_) (fun h => ?_) <;> (try simp only [Bool.or_eq_true, Bool.and_eq_true, Bool.or_eq_false_iff, Bool.and_eq_false_iff, decide_eq_true_eq, decide_eq_false_iff_not, beq_iff_eq, bne_iff_ne, beq_eq_false_iff_ne, bne_eq_false_iff_eq, ne_eq, Decidable.not_not, List.cons.injEq, and_true, Bool.not_eq_true', Bool.not_eq_false', Int.not_lt, Int.not_le] at h) <;> (try (exfalso; omega)) <;> (try (exfalso; simp at h; done)) <;> (try (exfalso; simp only [not_true_eq_false, false_or, or_false] at h; omega)) <;> (try (exfalso; omega)))
     )
 | (refine S_id ?_; first
 | refine S_nil ?_
 | refine S_run rfl rfl obQ obQ ?_
     )
 | (refine G_id ?_; first
 | refine G_then ?_
 | refine G_blockX ?_
 | refine G_thenX ?_
 | refine G_ret rfl obQ (fun w2 hw => ⟨_, rfl, hw.below, PicA.of (s := (tuP (valF l) p).s) (HW.rowSl (i := 0) hw rfl rfl rfl (by rw [upX_end, map_gB (fun x => smp (valF l (lvl x)))]; rfl)) (by simp [tuP]) rfl⟩)
     )
     )


theorem rSampleE_c {n m : Int} (e : n = m) (hn : -16384 ≤ m ∧ m ≤ 16384) (w : World) : Calls Tryz.prog 99 #[.int .i64 n] w fun r w' => r = .returned (.float .f32 (smp m)) ∧ Below w.heap.size w w' := by
  subst e
  exact rSample_c n hn w

set_option maxHeartbeats 1000000 in
/-- genlockref02.Clipped -/
theorem rClipped_c (p : Pic) (Ap : Option Addr) (cp : Nat) (hs : p.s.length ≤ 1000000) (hp : PicOk p) (hA : Ap = none → p.s.length = 0 ∧ cp = 0) (lo hi : Int) (hI : ivE lo hi = 0) (w : World) (hr : Rd w Ap (p.s.map (.float .f32)))  : Calls Tryz.prog 96 #[.agg #[.string p.nm, .int .i64 p.w, .int .i64 p.h, .slice Ap p.s.length cp], .agg #[.int .i64 lo, .int .i64 hi]] w fun r w' => ∃ v, r = .returned v ∧ Below w.heap.size w w' ∧ PicA w w' v (tuP (clF lo hi) p) := by
  refine calls_of (args := [.agg #[.string p.nm, .int .i64 p.w, .int .i64 p.h, .slice Ap p.s.length cp], .agg #[.int .i64 lo, .int .i64 hi]]) T_ok Tryz.func96 rfl Tryz.ntmps96 (Nat.le_of_ble_eq_true rfl) rfl ?_
  obtain ⟨h4, h0⟩ := pic_len hp
  repeat' (first
 | (refine C_id ?_; first
 | refine C_seq ?_
 | refine C_region rfl ?_
 | refine C_block ?_
   )
 | (refine S_id ?_; first
 | (refine S_callRws (f := 142) rfl obQ (by kernel_rfl) (fun w hw => rOwnR_c p Ap cp hs h0 hA w (hw.rdm hr.toS memQ)) (fun v rs hR => ?_); obtain ⟨g, cR, rfl, rfl⟩ := hR)
 | refine S_nil ?_
 | refine S_run rfl rfl obQ obQ ?_
 | refine S_box (fun b => ⟨_, _, rfl, obQ, ?_⟩)
   )
 | (refine G_id ?_; first
 | refine G_then ?_
   )
   )
  rename_i b2 b3 b4
  obtain ⟨b5, rfl⟩ : ∃ z, z = b := ⟨b, rfl⟩
  have hiv := ivE_ok hI
  refine C_loopS (fun k : Nat => ⟨[(6, .s (.v (.int .i64 k))), (2, .s (.p b2 0 0)), (3, .s (.p b3 1 0)), (4, .s (.p b4 2 0)), (5, .s (.p b5 3 0))], [⟨b2, 93, [.v (.string p.nm), .v (.int .i64 p.w), .v (.int .i64 p.h), .v (.slice Ap p.s.length cp)]⟩, ⟨b3, 73, [.v (.int .i64 lo), .v (.int .i64 hi)]⟩, ⟨b4, 93, [.v (.string ByteArray.empty), .v (.int .i64 0), .v (.int .i64 0), .v (.slice none 0 0)]⟩, ⟨b5, 93, [.v (.string p.nm), .v (.int .i64 p.w), .v (.int .i64 p.h), .v (.slice (some ⟨g, 0, none⟩) p.s.length cR)]⟩], [⟨114, 1, p.s.length, (upX p.s (fun j => smp (clF lo hi (lvl (gB p.s j)))) k).map (.float .f32), .slice (some ⟨g, 0, none⟩) p.s.length cR⟩]⟩) (fun k => k ≤ p.s.length) (fun k => p.s.length - k) 0 (Nat.zero_le _) ?_ (fun k hk0 => ?_)
  · rw [upX_0]
    exact ⟨⟨_, rfl, obQ⟩, ⟨_, rfl⟩, rfl, pstQ⟩
  have hk : k ≤ p.s.length := hk0
  by_cases hlt : k < p.s.length
  · obtain ⟨adp, rfl⟩ := hr.some (by simp; omega)
    have hsm := hp.s _ (gB_mem hlt)
    have hlv := hsm.lv
    have hbd := clF_bd hI (lvl (gB p.s k))
    repeat' (first
 | (refine C_id ?_; first
 | refine C_seq ?_
 | refine C_region rfl ?_
 | refine C_block ?_
 | refine C_skip ?_
 | refine C_drawT (id := 5) 17 rfl mixed (by kernel_rfl) rfl rfl ?_
 | (refine C_cond rfl obQ (fun h => ?_) (fun h => ?_) <;> (try simp only [Bool.or_eq_true, Bool.and_eq_true, Bool.or_eq_false_iff, Bool.and_eq_false_iff, decide_eq_true_eq, decide_eq_false_iff_not, beq_iff_eq, bne_iff_ne, beq_eq_false_iff_ne, bne_eq_false_iff_eq, ne_eq, Decidable.not_not, List.cons.injEq, and_true, Bool.not_eq_true', Bool.not_eq_false', Int.not_lt, Int.not_le] at h) <;> (try (exfalso; omega)) <;> (try (exfalso; simp at h; done)) <;> (try (exfalso; simp only [not_true_eq_false, false_or, or_false] at h; omega)) <;> (try (exfalso; omega)))
     )
 | (refine S_id ?_; first
 | refine S_storeRow rfl obQ rfl rfl rfl 0 rfl rfl (((k : Nat) : Int).toNat * 1) rfl (by dsimp only; rw [List.length_map, upX_len]; omega) (xs' := (upX p.s (fun j => smp (clF lo hi (lvl (gB p.s j)))) (k + 1)).map (.float .f32)) (upX_put (f := (fun j => smp (clF lo hi (lvl (gB p.s j))))) rfl hlt) rfl ?_
 | refine S_nil ?_
 | refine S_run rfl rfl obQ obQ ?_
     )
 | (refine D_id ?_; first
 | refine D_load rfl obQ rfl [.float .f32 (gB p.s k)] (.past _ memQ _ _ hr.toS _ _ rfl rfl (gB_idxZ (k := k) rfl hlt)) rfl (.inr ⟨rfl, rfl⟩) ?_
 | refine D_tail ?_
 | refine D_run rfl rfl obQ obQ ?_
 | refine D_call (f := 98) rfl obQ (by kernel_rfl) (fun w hw => sixteenths_c (gB p.s k) hsm.fin hsm.bd w) ?_
 | refine D_call (f := 99) rfl obQ (by kernel_rfl) (fun w hw => rSampleE_c (show max lo (min hi (lvl (gB p.s k))) = clF lo hi (lvl (gB p.s k)) by unfold clF; omega) hbd w) ?_
     )
 | (refine G_id ?_; first
 | refine G_loop (k + 1) (show k + 1 ≤ p.s.length by omega) (by show p.s.length - (k + 1) < p.s.length - k; omega) ⟨⟨_, rfl, obQ⟩, ⟨_, rfl⟩, rfl, pstQ⟩
 | refine G_then ?_
 | refine G_block ?_
     )
     )
  · obtain rfl : k = p.s.length := by omega
    repeat' (first
 | (refine C_id ?_; first
 | refine C_seq ?_
 | refine C_region rfl ?_
 | refine C_exit ?_
 | refine C_ret0 ?_
 | (refine C_cond rfl obQ (fun h => ?_) (fun h => ?_) <;> (try simp only [Bool.or_eq_true, Bool.and_eq_true, Bool.or_eq_false_iff, Bool.and_eq_false_iff, decide_eq_true_eq, decide_eq_false_iff_not, beq_iff_eq, bne_iff_ne, beq_eq_false_iff_ne, bne_eq_false_iff_eq, ne_eq, Decidable.not_not, List.cons.injEq, and_true, Bool.not_eq_true', Bool.not_eq_false', Int.not_lt, Int.not_le] at h) <;> (try (exfalso; omega)) <;> (try (exfalso; simp at h; done)) <;> (try (exfalso; simp only [not_true_eq_false, false_or, or_false] at h; omega)) <;> (try (exfalso; omega)))
     )
 | (refine S_id ?_; first
 | refine S_nil ?_
 | refine S_run rfl rfl obQ obQ ?_
     )
 | (refine G_id ?_; first
 | refine G_then ?_
 | refine G_blockX ?_
 | refine G_thenX ?_
 | refine G_ret rfl obQ (fun w2 hw => ⟨_, rfl, hw.below, PicA.of (s := (tuP (clF lo hi) p).s) (HW.rowSl (i := 0) hw rfl rfl rfl (by rw [upX_end, map_gB (fun x => smp (clF lo hi (lvl x)))]; rfl)) (by simp [tuP]) rfl⟩)
     )
     )

end Go.Proofs.YtdbffbcobghbeaaGreatDoor
namespace Go.Proofs.YtdbffbcobghbeaaGreatDoor
open Go.E Go.RowKit Go.Fl
attribute [local irreducible] G C S D DY DS V VT Yl QV QT Calls
set_option maxRecDepth 100000
set_option linter.unusedSimpArgs false
set_option linter.unusedVariables false

section
variable {p : Pic} {l : List Pt} {lo hi : Int} {w : World}
theorem lfirstE_c {A : Option Addr} {n : Nat} {l : List Int} {e : Int} (he : firstL l = e) (h6 : l.length ≤ 1000000) (hl : l.length = n) (c : Nat) (w : World) (hr : Rd w A (l.map (.int .i64))) : Calls Tryz.prog 27 #[.slice A n c] w fun r w' => r = .returned (.int .i64 e) ∧ Below w.heap.size w w' := by
  subst hl he
  exact lfirst_c A c l h6 w hr
theorem short_as {A : Option Addr} {n c : Nat} (b : Bool) (h : decide (n ≤ 17) = b) (hn : n ≤ maxLen) : Calls Tryz.prog 19 #[.slice A n c] w fun r w' => r = .returned (.bool b) ∧ Below w.heap.size w w' := by
  subst h
  exact rShortCurve_c A n c hn w
theorem app_1 {A Ap : Option Addr} {c cp : Nat} (h : apE l p = 0) (hs : p.s.length ≤ 1000000) (hl : l.length ≤ 1000000) (hr : Rd w Ap (p.s.map (.float .f32))) (hrl : Rd w A (l.flatMap ptC)) : Calls Tryz.prog 93 #[.slice A l.length c, .agg #[.string p.nm, .int .i64 p.w, .int .i64 p.h, .slice Ap p.s.length cp]] w fun r w' => ∃ v, r = .returned v ∧ Below w.heap.size w w' ∧ PicR w w' v (tuP (valF l) p) 0 := by
  have := Applied_c p Ap cp hs A c l hl w hr hrl
  simpa only [if_pos h] using this
theorem app_0 {A Ap : Option Addr} {c cp : Nat} (h : ¬ apE l p = 0) (hs : p.s.length ≤ 1000000) (hl : l.length ≤ 1000000) (hr : Rd w Ap (p.s.map (.float .f32))) (hrl : Rd w A (l.flatMap ptC)) : Calls Tryz.prog 93 #[.slice A l.length c, .agg #[.string p.nm, .int .i64 p.w, .int .i64 p.h, .slice Ap p.s.length cp]] w fun r w' => ∃ v, r = .returned v ∧ Below w.heap.size w w' ∧ PicR w w' v zP (apE l p) := by
  have := Applied_c p Ap cp hs A c l hl w hr hrl
  simpa only [if_neg h] using this
theorem clp_1 {Ap : Option Addr} {cp : Nat} (h : clE p lo hi = 0) (hs : p.s.length ≤ 1000000) (hr : Rd w Ap (p.s.map (.float .f32))) : Calls Tryz.prog 94 #[.agg #[.string p.nm, .int .i64 p.w, .int .i64 p.h, .slice Ap p.s.length cp], .agg #[.int .i64 lo, .int .i64 hi]] w fun r w' => ∃ v, r = .returned v ∧ Below w.heap.size w w' ∧ PicR w w' v (tuP (clF lo hi) p) 0 := by
  have := Clipped_c p Ap cp hs lo hi w hr
  simpa only [if_pos h] using this
theorem clp_0 {Ap : Option Addr} {cp : Nat} (h : ¬ clE p lo hi = 0) (hs : p.s.length ≤ 1000000) (hr : Rd w Ap (p.s.map (.float .f32))) : Calls Tryz.prog 94 #[.agg #[.string p.nm, .int .i64 p.w, .int .i64 p.h, .slice Ap p.s.length cp], .agg #[.int .i64 lo, .int .i64 hi]] w fun r w' => ∃ v, r = .returned v ∧ Below w.heap.size w w' ∧ PicR w w' v zP (clE p lo hi) := by
  have := Clipped_c p Ap cp hs lo hi w hr
  simpa only [if_neg h] using this
end

set_option maxHeartbeats 8000000 in
/-- genlocklaw02.ColourApplied -/
theorem lApplied_c (A Ap : Option Addr) (c cp : Nat) (l : List Pt) (p : Pic) (hmax : l.length ≤ maxLen) (hnm : p.nm.size ≤ maxLen) (hA : Ap = none → p.s.length = 0 ∧ cp = 0) (lo hi : Int) (w : World) (hrl : Rd w A (l.flatMap ptC)) (hr : Rd w Ap (p.s.map (.float .f32))) (hO : Ot w) (hP : Pw w) : Calls Tryz.prog 14 #[.slice A l.length c, .agg #[.string p.nm, .int .i64 p.w, .int .i64 p.h, .slice Ap p.s.length cp], .agg #[.int .i64 lo, .int .i64 hi]] w fun r w' => r = .returned (.bool true) ∧ Below w.heap.size w w' := by
  refine calls_of (args := [.slice A l.length c, .agg #[.string p.nm, .int .i64 p.w, .int .i64 p.h, .slice Ap p.s.length cp], .agg #[.int .i64 lo, .int .i64 hi]]) T_ok Tryz.func14 rfl Tryz.ntmps14 (Nat.le_of_ble_eq_true rfl) rfl ?_
  cases hSl : decide (l.length ≤ 17)
  · repeat' (first
 | (refine C_id ?_; first
 | refine C_seq ?_
 | refine C_region rfl ?_
 | refine C_ret0 ?_
 | refine C_condT rfl obQ ?_
     )
 | (refine S_id ?_; first
 | refine S_unG rfl rfl rfl rfl ?_
 | refine S_offG (.v (.bool false)) rfl rfl rfl rfl rfl ?_
 | refine S_nil ?_
 | refine S_runN rfl rfl obQ obQ ?_
 | refine S_box (fun bb => ⟨_, _, rfl, obQ, ?_⟩)
 | refine S_call (f := 20) rfl obQ (by kernel_rfl) (fun w hw => awake_c w (hw.rdm hO.toS memQ) (Pw_at hP hw memQ)) ?_
 | refine S_call (f := 19) rfl obQ (by kernel_rfl) (fun w hw => short_as _ hSl hmax) ?_
 | refine S_call (f := 54) rfl obQ (by kernel_rfl) (fun w hw => rShortPicture_c p _ _ _ hSp w) ?_
     )
 | (refine G_id ?_; first
 | refine G_then ?_
 | refine G_thenR ?_
 | refine G_ret rfl obQ (fun w hw => ⟨?_, hw.below⟩)
     )
     )
    all_goals rfl
  cases hSp : shortB p
  · repeat' (first
 | (refine C_id ?_; first
 | refine C_seq ?_
 | refine C_region rfl ?_
 | refine C_ret0 ?_
 | refine C_condT rfl obQ ?_
     )
 | (refine S_id ?_; first
 | refine S_unG rfl rfl rfl rfl ?_
 | refine S_offG (.v (.bool false)) rfl rfl rfl rfl rfl ?_
 | refine S_nil ?_
 | refine S_runN rfl rfl obQ obQ ?_
 | refine S_box (fun bb => ⟨_, _, rfl, obQ, ?_⟩)
 | refine S_call (f := 20) rfl obQ (by kernel_rfl) (fun w hw => awake_c w (hw.rdm hO.toS memQ) (Pw_at hP hw memQ)) ?_
 | refine S_call (f := 19) rfl obQ (by kernel_rfl) (fun w hw => short_as _ hSl hmax) ?_
 | refine S_call (f := 54) rfl obQ (by kernel_rfl) (fun w hw => rShortPicture_c p _ _ _ hSp w) ?_
     )
 | (refine G_id ?_; first
 | refine G_then ?_
 | refine G_thenR ?_
 | refine G_ret rfl obQ (fun w hw => ⟨?_, hw.below⟩)
     )
     )
    all_goals rfl
  have hl : l.length ≤ 1000000 := by have := of_decide_eq_true hSl; omega
  obtain ⟨h40, h160⟩ := shortB_ok hSp
  have hs : p.s.length ≤ 1000000 := by omega
  by_cases hap : apE l p = 0
  · obtain ⟨hcv, hpk⟩ := apE_ok hap
    have hT : firstL [curveE l, picE p] = 0 := hap
    by_cases hcl : clE p lo hi = 0
    · have hiv := (clE_ok hcl).2
      have hU : firstL [picE p, ivE lo hi] = 0 := hcl
      repeat' (first
 | (refine C_id ?_; first
 | refine C_seq ?_
 | refine C_region rfl ?_
 | refine C_skip ?_
 | refine C_condF rfl obQ ?_
       )
 | (refine S_id ?_; first
 | ((with_reducible refine S_falseO ?_ ?_ ?_); (· rfl); (· first | rfl | (first | rfl | omega)))
 | refine S_unG rfl rfl rfl rfl ?_
 | refine S_nil ?_
 | refine S_runN rfl rfl obQ obQ ?_
 | refine S_box (fun b => ⟨_, _, rfl, obQ, ?_⟩)
 | refine S_call (f := 19) rfl obQ (by kernel_rfl) (fun w hw => short_as _ hSl hmax) ?_
 | refine S_call (f := 54) rfl obQ (by kernel_rfl) (fun w hw => rShortPicture_c p _ _ _ hSp w) ?_
       )
 | (refine G_id ?_; first
 | refine G_then ?_
       )
       )
      obtain ⟨b5, rfl⟩ : ∃ z, z = b := ⟨b, rfl⟩
      obtain ⟨b4, rfl⟩ : ∃ z, z = b := ⟨b, rfl⟩
      refine C_cut (fun B : SlA ((tuP (valF l) p).s.map (.float .f32)) × Nat => ([B.1.ps, (w, fun b => b < w.heap.size)], ⟨[(0, .s (.v (.slice A l.length c))), (4, .s (.p b4 0 0)), (5, .s (.p b5 1 0)), (7, .s (.p B.2 2 0)), (8, .s (.v (.int .i64 (0))))], [⟨b4, 93, [.v (.string p.nm), .v (.int .i64 p.w), .v (.int .i64 p.h), .v (.slice Ap p.s.length cp)]⟩, ⟨b5, 73, [.v (.int .i64 lo), .v (.int .i64 hi)]⟩, ⟨B.2, 96, [.v (.string (tuP (valF l) p).nm), .v (.int .i64 (tuP (valF l) p).w), .v (.int .i64 (tuP (valF l) p).h), .v (.slice B.1.A (tuP (valF l) p).s.length B.1.c)]⟩], []⟩)) ?_ (fun B => ?_)
      · repeat' (first
 | (refine C_id ?_; first
 | refine C_drawTr (id := 3) 10 (.q 0 (.q 2 (.two 1 8 (.two 3 8 (.two 4 8 (.q 5 (.q 6 (.q 7 (.n 8 (.n 9 .nil))))) (.n 4 (.q 5 (.q 6 (.q 7 (.n 9 .nil)))))) (.n 3 (.n 4 (.q 5 (.q 6 (.q 7 (.n 9 .nil))))))) (.n 1 (.n 3 (.n 4 (.q 5 (.q 6 (.q 7 (.n 9 .nil)))))))))) rfl mixed (by kernel_rfl) rfl ?_
         )
 | (refine S_id ?_; first
 | (refine S_callM (f := 56) rfl obQ (by kernel_rfl) (fun w hw => lown_c p _ _ hs hA w (hw.rdm hr.toS memQ)) (fun w1O w2O vO hw1O hbO hRO => ?_); obtain ⟨AO, cO, rfl, hSO⟩ := hRO)
 | (refine S_callM (f := 22) rfl obQ (by kernel_rfl) (fun w hw => lcurve_c A c l hl w (hw.rdm hrl.toS memQ)) (fun w1C w2C vC hw1C hbC hRC => ?_); obtain ⟨AC, cC, rfl, hSC⟩ := hRC)
 | (refine S_callM (f := 93) rfl obQ (by kernel_rfl) (fun w hw => app_1 hap hs hl (hw.rdm hSO memQ) (hw.rdm hSC memQ)) (fun w1X w2X vX hw1X hbX hRX => ?_); obtain ⟨AX, cX, rfl, hSX⟩ := hRX)
 | refine S_nil ?_
 | refine S_runN rfl rfl obQ obQ ?_
 | refine S_box (fun bb => ⟨_, _, rfl, obQ, ?_⟩)
         )
 | (refine VT_id ?_; first
 | refine VT_nil ?_
 | refine VT_q rfl (Yl_step rfl obQ) ?_
 | refine VT_n rfl ?_
 | refine VT_two rfl rfl ?_ ?_
         )
 | (refine G_id ?_; first
 | refine G_VT2 ⟨_, rfl⟩ ⟨_, rfl⟩ pstQ rfl ?_
 | refine G_cutN (⟨w1X, w2X, AX, cX, hSX⟩, bb) ⟨⟨_, rfl, obQ⟩, ⟨_, rfl⟩, rfl, psQ⟩
         )
         )
      repeat' (first
 | (refine C_id ?_; first
 | refine C_seq ?_
       )
       )
      refine C_cut (fun D : SlA ((tuP (clF lo hi) p).s.map (.float .f32)) × Nat => ([D.1.ps, B.1.ps, (w, fun b => b < w.heap.size)], ⟨[(0, .s (.v (.slice A l.length c))), (4, .s (.p b4 0 0)), (5, .s (.p b5 1 0)), (7, .s (.p B.2 2 0)), (8, .s (.v (.int .i64 (0)))), (9, .s (.p D.2 3 0)), (10, .s (.v (.int .i64 (0))))], [⟨b4, 93, [.v (.string p.nm), .v (.int .i64 p.w), .v (.int .i64 p.h), .v (.slice Ap p.s.length cp)]⟩, ⟨b5, 73, [.v (.int .i64 lo), .v (.int .i64 hi)]⟩, ⟨B.2, 96, [.v (.string (tuP (valF l) p).nm), .v (.int .i64 (tuP (valF l) p).w), .v (.int .i64 (tuP (valF l) p).h), .v (.slice B.1.A (tuP (valF l) p).s.length B.1.c)]⟩, ⟨D.2, 96, [.v (.string (tuP (clF lo hi) p).nm), .v (.int .i64 (tuP (clF lo hi) p).w), .v (.int .i64 (tuP (clF lo hi) p).h), .v (.slice D.1.A (tuP (clF lo hi) p).s.length D.1.c)]⟩], []⟩)) ?_ (fun D => ?_)
      · repeat' (first
 | (refine C_id ?_; first
 | refine C_drawTr (id := 4) 9 (.q 0 (.q 2 (.two 1 7 (.two 3 7 (.q 4 (.q 5 (.q 6 (.n 7 (.n 8 .nil))))) (.n 3 (.q 4 (.q 5 (.q 6 (.n 8 .nil)))))) (.n 1 (.n 3 (.q 4 (.q 5 (.q 6 (.n 8 .nil))))))))) rfl mixed (by kernel_rfl) rfl ?_
         )
 | (refine S_id ?_; first
 | (refine S_callM (f := 56) rfl obQ (by kernel_rfl) (fun w hw => lown_c p _ _ hs hA w (hw.rdm hr.toS memQ)) (fun w1O w2O vO hw1O hbO hRO => ?_); obtain ⟨AO, cO, rfl, hSO⟩ := hRO)
 | (refine S_callM (f := 94) rfl obQ (by kernel_rfl) (fun w hw => clp_1 hcl hs (hw.rdm hSO memQ)) (fun w1Y w2Y vY hw1Y hbY hRY => ?_); obtain ⟨AY, cY, rfl, hSY⟩ := hRY)
 | refine S_nil ?_
 | refine S_runN rfl rfl obQ obQ ?_
 | refine S_box (fun bb => ⟨_, _, rfl, obQ, ?_⟩)
         )
 | (refine VT_id ?_; first
 | refine VT_nil ?_
 | refine VT_q rfl (Yl_step rfl obQ) ?_
 | refine VT_n rfl ?_
 | refine VT_two rfl rfl ?_ ?_
         )
 | (refine G_id ?_; first
 | refine G_VT2 ⟨_, rfl⟩ ⟨_, rfl⟩ pstQ rfl ?_
 | refine G_cutN (⟨w1Y, w2Y, AY, cY, hSY⟩, bb) ⟨⟨_, rfl, obQ⟩, ⟨_, rfl⟩, rfl, psQ⟩
         )
         )
      repeat' (first
 | (refine C_id ?_; first
 | refine C_seq ?_
 | refine C_region rfl ?_
 | refine C_ret0 ?_
 | refine C_drawV (id := 5) 9 [(0, true), (2, true), (6, true), (8, true), (1, false), (3, false), (4, false), (5, false), (7, false)] rfl mixed (by kernel_rfl) rfl ?_
 | refine C_condT rfl obQ ?_
       )
 | (refine S_id ?_; first
 | ((with_reducible (first | refine S_trueE ?_ ?_ | refine S_trueB ?_ ?_ | refine S_trueL ?_ ?_ | refine S_trueD ?_ ?_ | refine S_trueN ?_ ?_)); · (first | exact beq_self_eq_true _ | rfl | omega))
 | ((with_reducible refine S_trueA ?_ ?_ ?_); (· rfl); (· first | rfl | (first | exact beq_self_eq_true _ | rfl | omega)))
 | refine S_unG rfl rfl rfl rfl ?_
 | (refine S_callM (f := 95) rfl obQ (by kernel_rfl) (fun w hw => rApplied_c p _ _ hs hpk hA A c l hcv w (hw.rdm hr.toS memQ) (hw.rdm hrl.toS memQ)) (fun w1P w2P vP hw1P hbP hRP => ?_); obtain ⟨AP, cP, rfl, hSP⟩ := hRP)
 | (refine S_callM (f := 96) rfl obQ (by kernel_rfl) (fun w hw => rClipped_c p _ _ hs hpk hA lo hi hiv w (hw.rdm hr.toS memQ)) (fun w1Q w2Q vQ hw1Q hbQ hRQ => ?_); obtain ⟨AQ, cQ, rfl, hSQ⟩ := hRQ)
 | refine S_nil ?_
 | refine S_runN rfl rfl obQ obQ ?_
 | refine S_box (fun bb => ⟨_, _, rfl, obQ, ?_⟩)
 | refine S_slice (fun b => ⟨_, _, rfl, obQ, ?_⟩)
 | refine S_call (f := 20) rfl obQ (by kernel_rfl) (fun w hw => awake_c w (hw.rdm hO.toS memQ) (Pw_at hP hw memQ)) ?_
 | refine S_call (f := 26) rfl obQ (by kernel_rfl) (fun w hw => rCheckCurve_c A c l hl w (hw.rdm hrl.toS memQ)) ?_
 | refine S_call (f := 57) rfl obQ (by kernel_rfl) (fun w hw => rCheckPicture_c p _ _ hs hnm w (hw.rdm hr.toS memQ)) ?_
 | refine S_call (f := 49) rfl obQ (by kernel_rfl) (fun w hw => rCheckInterval_c lo hi w) ?_
 | refine S_call (f := 27) rfl obQ (by kernel_rfl) (fun w hw => lfirstE_c (l := [curveE l, picE p]) hT (by simp) rfl _ w (.inr ⟨_, rfl, hw.src (i := 4) rfl rfl⟩)) ?_
 | refine S_call (f := 27) rfl obQ (by kernel_rfl) (fun w hw => lfirstE_c (l := [picE p, ivE lo hi]) hU (by simp) rfl _ w (.inr ⟨_, rfl, hw.src (i := 5) rfl rfl⟩)) ?_
 | refine S_call (f := 60) rfl obQ (by kernel_rfl) (fun w hw => lone_c (tuP (valF l) p) _ _ _ _ (by rw [tuP_len]; omega) (fun x hx => (tuP_fin (valF_lv hcv) x hx).fin) w (hw.rdm B.1.h memQ) (hw.rdm hSP memQ)) ?_
 | refine S_call (f := 60) rfl obQ (by kernel_rfl) (fun w hw => lone_c (tuP (clF lo hi) p) _ _ _ _ (by rw [tuP_len]; omega) (fun x hx => (tuP_fin (clF_bd hiv) x hx).fin) w (hw.rdm D.1.h memQ) (hw.rdm hSQ memQ)) ?_
       )
 | (refine V_id ?_; first
 | refine V_nil ?_
 | refine V_q rfl (Yl_step rfl obQ) ?_
 | refine V_n rfl ?_
       )
 | (refine G_id ?_; first
 | refine G_V ⟨⟨_, rfl, trivial⟩, ⟨_, rfl⟩, rfl, pstQ⟩ rfl ?_
 | refine G_then ?_
 | refine G_ret rfl obQ (fun w hw => ⟨?_, hw.below⟩)
       )
       )
      all_goals rfl
      
    · have hU : firstL [picE p, ivE lo hi] = clE p lo hi := rfl
      repeat' (first
 | (refine C_id ?_; first
 | refine C_seq ?_
 | refine C_region rfl ?_
 | refine C_skip ?_
 | refine C_condF rfl obQ ?_
       )
 | (refine S_id ?_; first
 | ((with_reducible refine S_falseO ?_ ?_ ?_); (· rfl); (· first | rfl | (first | rfl | omega)))
 | refine S_unG rfl rfl rfl rfl ?_
 | refine S_nil ?_
 | refine S_runN rfl rfl obQ obQ ?_
 | refine S_box (fun b => ⟨_, _, rfl, obQ, ?_⟩)
 | refine S_call (f := 19) rfl obQ (by kernel_rfl) (fun w hw => short_as _ hSl hmax) ?_
 | refine S_call (f := 54) rfl obQ (by kernel_rfl) (fun w hw => rShortPicture_c p _ _ _ hSp w) ?_
       )
 | (refine G_id ?_; first
 | refine G_then ?_
       )
       )
      obtain ⟨b5, rfl⟩ : ∃ z, z = b := ⟨b, rfl⟩
      obtain ⟨b4, rfl⟩ : ∃ z, z = b := ⟨b, rfl⟩
      refine C_cut (fun B : SlA ((tuP (valF l) p).s.map (.float .f32)) × Nat => ([B.1.ps, (w, fun b => b < w.heap.size)], ⟨[(0, .s (.v (.slice A l.length c))), (4, .s (.p b4 0 0)), (5, .s (.p b5 1 0)), (7, .s (.p B.2 2 0)), (8, .s (.v (.int .i64 (0))))], [⟨b4, 93, [.v (.string p.nm), .v (.int .i64 p.w), .v (.int .i64 p.h), .v (.slice Ap p.s.length cp)]⟩, ⟨b5, 73, [.v (.int .i64 lo), .v (.int .i64 hi)]⟩, ⟨B.2, 96, [.v (.string (tuP (valF l) p).nm), .v (.int .i64 (tuP (valF l) p).w), .v (.int .i64 (tuP (valF l) p).h), .v (.slice B.1.A (tuP (valF l) p).s.length B.1.c)]⟩], []⟩)) ?_ (fun B => ?_)
      · repeat' (first
 | (refine C_id ?_; first
 | refine C_drawTr (id := 3) 10 (.q 0 (.q 2 (.two 1 8 (.two 3 8 (.two 4 8 (.q 5 (.q 6 (.q 7 (.n 8 (.n 9 .nil))))) (.n 4 (.q 5 (.q 6 (.q 7 (.n 9 .nil)))))) (.n 3 (.n 4 (.q 5 (.q 6 (.q 7 (.n 9 .nil))))))) (.n 1 (.n 3 (.n 4 (.q 5 (.q 6 (.q 7 (.n 9 .nil)))))))))) rfl mixed (by kernel_rfl) rfl ?_
         )
 | (refine S_id ?_; first
 | (refine S_callM (f := 56) rfl obQ (by kernel_rfl) (fun w hw => lown_c p _ _ hs hA w (hw.rdm hr.toS memQ)) (fun w1O w2O vO hw1O hbO hRO => ?_); obtain ⟨AO, cO, rfl, hSO⟩ := hRO)
 | (refine S_callM (f := 22) rfl obQ (by kernel_rfl) (fun w hw => lcurve_c A c l hl w (hw.rdm hrl.toS memQ)) (fun w1C w2C vC hw1C hbC hRC => ?_); obtain ⟨AC, cC, rfl, hSC⟩ := hRC)
 | (refine S_callM (f := 93) rfl obQ (by kernel_rfl) (fun w hw => app_1 hap hs hl (hw.rdm hSO memQ) (hw.rdm hSC memQ)) (fun w1X w2X vX hw1X hbX hRX => ?_); obtain ⟨AX, cX, rfl, hSX⟩ := hRX)
 | refine S_nil ?_
 | refine S_runN rfl rfl obQ obQ ?_
 | refine S_box (fun bb => ⟨_, _, rfl, obQ, ?_⟩)
         )
 | (refine VT_id ?_; first
 | refine VT_nil ?_
 | refine VT_q rfl (Yl_step rfl obQ) ?_
 | refine VT_n rfl ?_
 | refine VT_two rfl rfl ?_ ?_
         )
 | (refine G_id ?_; first
 | refine G_VT2 ⟨_, rfl⟩ ⟨_, rfl⟩ pstQ rfl ?_
 | refine G_cutN (⟨w1X, w2X, AX, cX, hSX⟩, bb) ⟨⟨_, rfl, obQ⟩, ⟨_, rfl⟩, rfl, psQ⟩
         )
         )
      repeat' (first
 | (refine C_id ?_; first
 | refine C_seq ?_
       )
       )
      refine C_cut (fun D : SlA ((zP).s.map (.float .f32)) × Nat => ([D.1.ps, B.1.ps, (w, fun b => b < w.heap.size)], ⟨[(0, .s (.v (.slice A l.length c))), (4, .s (.p b4 0 0)), (5, .s (.p b5 1 0)), (7, .s (.p B.2 2 0)), (8, .s (.v (.int .i64 (0)))), (9, .s (.p D.2 3 0)), (10, .s (.v (.int .i64 (clE p lo hi))))], [⟨b4, 93, [.v (.string p.nm), .v (.int .i64 p.w), .v (.int .i64 p.h), .v (.slice Ap p.s.length cp)]⟩, ⟨b5, 73, [.v (.int .i64 lo), .v (.int .i64 hi)]⟩, ⟨B.2, 96, [.v (.string (tuP (valF l) p).nm), .v (.int .i64 (tuP (valF l) p).w), .v (.int .i64 (tuP (valF l) p).h), .v (.slice B.1.A (tuP (valF l) p).s.length B.1.c)]⟩, ⟨D.2, 96, [.v (.string (zP).nm), .v (.int .i64 (zP).w), .v (.int .i64 (zP).h), .v (.slice D.1.A (zP).s.length D.1.c)]⟩], []⟩)) ?_ (fun D => ?_)
      · repeat' (first
 | (refine C_id ?_; first
 | refine C_drawTr (id := 4) 9 (.q 0 (.q 2 (.two 1 7 (.two 3 7 (.q 4 (.q 5 (.q 6 (.n 7 (.n 8 .nil))))) (.n 3 (.q 4 (.q 5 (.q 6 (.n 8 .nil)))))) (.n 1 (.n 3 (.q 4 (.q 5 (.q 6 (.n 8 .nil))))))))) rfl mixed (by kernel_rfl) rfl ?_
         )
 | (refine S_id ?_; first
 | (refine S_callM (f := 56) rfl obQ (by kernel_rfl) (fun w hw => lown_c p _ _ hs hA w (hw.rdm hr.toS memQ)) (fun w1O w2O vO hw1O hbO hRO => ?_); obtain ⟨AO, cO, rfl, hSO⟩ := hRO)
 | (refine S_callM (f := 94) rfl obQ (by kernel_rfl) (fun w hw => clp_0 hcl hs (hw.rdm hSO memQ)) (fun w1Y w2Y vY hw1Y hbY hRY => ?_); obtain ⟨AY, cY, rfl, hSY⟩ := hRY)
 | refine S_nil ?_
 | refine S_runN rfl rfl obQ obQ ?_
 | refine S_box (fun bb => ⟨_, _, rfl, obQ, ?_⟩)
         )
 | (refine VT_id ?_; first
 | refine VT_nil ?_
 | refine VT_q rfl (Yl_step rfl obQ) ?_
 | refine VT_n rfl ?_
 | refine VT_two rfl rfl ?_ ?_
         )
 | (refine G_id ?_; first
 | refine G_VT2 ⟨_, rfl⟩ ⟨_, rfl⟩ pstQ rfl ?_
 | refine G_cutN (⟨w1Y, w2Y, AY, cY, hSY⟩, bb) ⟨⟨_, rfl, obQ⟩, ⟨_, rfl⟩, rfl, psQ⟩
         )
         )
      repeat' (first
 | (refine C_id ?_; first
 | refine C_seq ?_
 | refine C_region rfl ?_
 | refine C_skip ?_
 | refine C_ret0 ?_
 | refine C_drawV (id := 5) 9 [(0, true), (2, true), (6, true), (8, true), (1, false), (3, false), (4, false), (5, false), (7, false)] rfl mixed (by kernel_rfl) rfl ?_
 | refine C_condT rfl obQ ?_
 | (refine C_cond rfl obQ (fun h => ?_) (fun h => ?_) <;> (try simp only [Bool.or_eq_true, Bool.and_eq_true, Bool.or_eq_false_iff, Bool.and_eq_false_iff, decide_eq_true_eq, decide_eq_false_iff_not, beq_iff_eq, bne_iff_ne, beq_eq_false_iff_ne, bne_eq_false_iff_eq, ne_eq, Decidable.not_not, List.cons.injEq, and_true, Bool.not_eq_true', Bool.not_eq_false', Int.not_lt, Int.not_le] at h) <;> (try (exfalso; omega)) <;> (try (exfalso; simp at h; done)) <;> (try (exfalso; simp only [not_true_eq_false, false_or, or_false] at h; omega)) <;> (try contradiction))
       )
 | (refine S_id ?_; first
 | ((with_reducible (first | refine S_trueE ?_ ?_ | refine S_trueB ?_ ?_ | refine S_trueL ?_ ?_ | refine S_trueD ?_ ?_ | refine S_trueN ?_ ?_)); · (first | exact beq_self_eq_true _ | rfl | omega))
 | ((with_reducible refine S_trueA ?_ ?_ ?_); (· rfl); (· first | rfl | (first | exact beq_self_eq_true _ | rfl | omega)))
 | refine S_unG rfl rfl rfl rfl ?_
 | (refine S_callM (f := 95) rfl obQ (by kernel_rfl) (fun w hw => rApplied_c p _ _ hs hpk hA A c l hcv w (hw.rdm hr.toS memQ) (hw.rdm hrl.toS memQ)) (fun w1P w2P vP hw1P hbP hRP => ?_); obtain ⟨AP, cP, rfl, hSP⟩ := hRP)
 | refine S_nil ?_
 | refine S_runN rfl rfl obQ obQ ?_
 | refine S_box (fun bb => ⟨_, _, rfl, obQ, ?_⟩)
 | refine S_slice (fun b => ⟨_, _, rfl, obQ, ?_⟩)
 | refine S_call (f := 20) rfl obQ (by kernel_rfl) (fun w hw => awake_c w (hw.rdm hO.toS memQ) (Pw_at hP hw memQ)) ?_
 | refine S_call (f := 26) rfl obQ (by kernel_rfl) (fun w hw => rCheckCurve_c A c l hl w (hw.rdm hrl.toS memQ)) ?_
 | refine S_call (f := 57) rfl obQ (by kernel_rfl) (fun w hw => rCheckPicture_c p _ _ hs hnm w (hw.rdm hr.toS memQ)) ?_
 | refine S_call (f := 49) rfl obQ (by kernel_rfl) (fun w hw => rCheckInterval_c lo hi w) ?_
 | refine S_call (f := 27) rfl obQ (by kernel_rfl) (fun w hw => lfirstE_c (l := [curveE l, picE p]) hT (by simp) rfl _ w (.inr ⟨_, rfl, hw.src (i := 4) rfl rfl⟩)) ?_
 | refine S_call (f := 27) rfl obQ (by kernel_rfl) (fun w hw => lfirstE_c (l := [picE p, ivE lo hi]) hU (by simp) rfl _ w (.inr ⟨_, rfl, hw.src (i := 5) rfl rfl⟩)) ?_
 | refine S_call (f := 60) rfl obQ (by kernel_rfl) (fun w hw => lone_c (tuP (valF l) p) _ _ _ _ (by rw [tuP_len]; omega) (fun x hx => (tuP_fin (valF_lv hcv) x hx).fin) w (hw.rdm B.1.h memQ) (hw.rdm hSP memQ)) ?_
 | refine S_call (f := 60) rfl obQ (by kernel_rfl) (fun w hw => loneE_c _ hcl zP _ none _ 0 w) ?_
       )
 | (refine V_id ?_; first
 | refine V_nil ?_
 | refine V_q rfl (Yl_step rfl obQ) ?_
 | refine V_n rfl ?_
       )
 | (refine G_id ?_; first
 | refine G_V ⟨⟨_, rfl, trivial⟩, ⟨_, rfl⟩, rfl, pstQ⟩ rfl ?_
 | refine G_then ?_
 | refine G_ret rfl obQ (fun w hw => ⟨?_, hw.below⟩)
       )
       )
      all_goals rfl
      
  · have hT : firstL [curveE l, picE p] = apE l p := rfl
    by_cases hcl : clE p lo hi = 0
    · obtain ⟨hpk, hiv⟩ := clE_ok hcl
      have hU : firstL [picE p, ivE lo hi] = 0 := hcl
      repeat' (first
 | (refine C_id ?_; first
 | refine C_seq ?_
 | refine C_region rfl ?_
 | refine C_skip ?_
 | refine C_condF rfl obQ ?_
       )
 | (refine S_id ?_; first
 | ((with_reducible refine S_falseO ?_ ?_ ?_); (· rfl); (· first | rfl | (first | rfl | omega)))
 | refine S_unG rfl rfl rfl rfl ?_
 | refine S_nil ?_
 | refine S_runN rfl rfl obQ obQ ?_
 | refine S_box (fun b => ⟨_, _, rfl, obQ, ?_⟩)
 | refine S_call (f := 19) rfl obQ (by kernel_rfl) (fun w hw => short_as _ hSl hmax) ?_
 | refine S_call (f := 54) rfl obQ (by kernel_rfl) (fun w hw => rShortPicture_c p _ _ _ hSp w) ?_
       )
 | (refine G_id ?_; first
 | refine G_then ?_
       )
       )
      obtain ⟨b5, rfl⟩ : ∃ z, z = b := ⟨b, rfl⟩
      obtain ⟨b4, rfl⟩ : ∃ z, z = b := ⟨b, rfl⟩
      refine C_cut (fun B : SlA ((zP).s.map (.float .f32)) × Nat => ([B.1.ps, (w, fun b => b < w.heap.size)], ⟨[(0, .s (.v (.slice A l.length c))), (4, .s (.p b4 0 0)), (5, .s (.p b5 1 0)), (7, .s (.p B.2 2 0)), (8, .s (.v (.int .i64 (apE l p))))], [⟨b4, 93, [.v (.string p.nm), .v (.int .i64 p.w), .v (.int .i64 p.h), .v (.slice Ap p.s.length cp)]⟩, ⟨b5, 73, [.v (.int .i64 lo), .v (.int .i64 hi)]⟩, ⟨B.2, 96, [.v (.string (zP).nm), .v (.int .i64 (zP).w), .v (.int .i64 (zP).h), .v (.slice B.1.A (zP).s.length B.1.c)]⟩], []⟩)) ?_ (fun B => ?_)
      · repeat' (first
 | (refine C_id ?_; first
 | refine C_drawTr (id := 3) 10 (.q 0 (.q 2 (.two 1 8 (.two 3 8 (.two 4 8 (.q 5 (.q 6 (.q 7 (.n 8 (.n 9 .nil))))) (.n 4 (.q 5 (.q 6 (.q 7 (.n 9 .nil)))))) (.n 3 (.n 4 (.q 5 (.q 6 (.q 7 (.n 9 .nil))))))) (.n 1 (.n 3 (.n 4 (.q 5 (.q 6 (.q 7 (.n 9 .nil)))))))))) rfl mixed (by kernel_rfl) rfl ?_
         )
 | (refine S_id ?_; first
 | (refine S_callM (f := 56) rfl obQ (by kernel_rfl) (fun w hw => lown_c p _ _ hs hA w (hw.rdm hr.toS memQ)) (fun w1O w2O vO hw1O hbO hRO => ?_); obtain ⟨AO, cO, rfl, hSO⟩ := hRO)
 | (refine S_callM (f := 22) rfl obQ (by kernel_rfl) (fun w hw => lcurve_c A c l hl w (hw.rdm hrl.toS memQ)) (fun w1C w2C vC hw1C hbC hRC => ?_); obtain ⟨AC, cC, rfl, hSC⟩ := hRC)
 | (refine S_callM (f := 93) rfl obQ (by kernel_rfl) (fun w hw => app_0 hap hs hl (hw.rdm hSO memQ) (hw.rdm hSC memQ)) (fun w1X w2X vX hw1X hbX hRX => ?_); obtain ⟨AX, cX, rfl, hSX⟩ := hRX)
 | refine S_nil ?_
 | refine S_runN rfl rfl obQ obQ ?_
 | refine S_box (fun bb => ⟨_, _, rfl, obQ, ?_⟩)
         )
 | (refine VT_id ?_; first
 | refine VT_nil ?_
 | refine VT_q rfl (Yl_step rfl obQ) ?_
 | refine VT_n rfl ?_
 | refine VT_two rfl rfl ?_ ?_
         )
 | (refine G_id ?_; first
 | refine G_VT2 ⟨_, rfl⟩ ⟨_, rfl⟩ pstQ rfl ?_
 | refine G_cutN (⟨w1X, w2X, AX, cX, hSX⟩, bb) ⟨⟨_, rfl, obQ⟩, ⟨_, rfl⟩, rfl, psQ⟩
         )
         )
      repeat' (first
 | (refine C_id ?_; first
 | refine C_seq ?_
       )
       )
      refine C_cut (fun D : SlA ((tuP (clF lo hi) p).s.map (.float .f32)) × Nat => ([D.1.ps, B.1.ps, (w, fun b => b < w.heap.size)], ⟨[(0, .s (.v (.slice A l.length c))), (4, .s (.p b4 0 0)), (5, .s (.p b5 1 0)), (7, .s (.p B.2 2 0)), (8, .s (.v (.int .i64 (apE l p)))), (9, .s (.p D.2 3 0)), (10, .s (.v (.int .i64 (0))))], [⟨b4, 93, [.v (.string p.nm), .v (.int .i64 p.w), .v (.int .i64 p.h), .v (.slice Ap p.s.length cp)]⟩, ⟨b5, 73, [.v (.int .i64 lo), .v (.int .i64 hi)]⟩, ⟨B.2, 96, [.v (.string (zP).nm), .v (.int .i64 (zP).w), .v (.int .i64 (zP).h), .v (.slice B.1.A (zP).s.length B.1.c)]⟩, ⟨D.2, 96, [.v (.string (tuP (clF lo hi) p).nm), .v (.int .i64 (tuP (clF lo hi) p).w), .v (.int .i64 (tuP (clF lo hi) p).h), .v (.slice D.1.A (tuP (clF lo hi) p).s.length D.1.c)]⟩], []⟩)) ?_ (fun D => ?_)
      · repeat' (first
 | (refine C_id ?_; first
 | refine C_drawTr (id := 4) 9 (.q 0 (.q 2 (.two 1 7 (.two 3 7 (.q 4 (.q 5 (.q 6 (.n 7 (.n 8 .nil))))) (.n 3 (.q 4 (.q 5 (.q 6 (.n 8 .nil)))))) (.n 1 (.n 3 (.q 4 (.q 5 (.q 6 (.n 8 .nil))))))))) rfl mixed (by kernel_rfl) rfl ?_
         )
 | (refine S_id ?_; first
 | (refine S_callM (f := 56) rfl obQ (by kernel_rfl) (fun w hw => lown_c p _ _ hs hA w (hw.rdm hr.toS memQ)) (fun w1O w2O vO hw1O hbO hRO => ?_); obtain ⟨AO, cO, rfl, hSO⟩ := hRO)
 | (refine S_callM (f := 94) rfl obQ (by kernel_rfl) (fun w hw => clp_1 hcl hs (hw.rdm hSO memQ)) (fun w1Y w2Y vY hw1Y hbY hRY => ?_); obtain ⟨AY, cY, rfl, hSY⟩ := hRY)
 | refine S_nil ?_
 | refine S_runN rfl rfl obQ obQ ?_
 | refine S_box (fun bb => ⟨_, _, rfl, obQ, ?_⟩)
         )
 | (refine VT_id ?_; first
 | refine VT_nil ?_
 | refine VT_q rfl (Yl_step rfl obQ) ?_
 | refine VT_n rfl ?_
 | refine VT_two rfl rfl ?_ ?_
         )
 | (refine G_id ?_; first
 | refine G_VT2 ⟨_, rfl⟩ ⟨_, rfl⟩ pstQ rfl ?_
 | refine G_cutN (⟨w1Y, w2Y, AY, cY, hSY⟩, bb) ⟨⟨_, rfl, obQ⟩, ⟨_, rfl⟩, rfl, psQ⟩
         )
         )
      repeat' (first
 | (refine C_id ?_; first
 | refine C_seq ?_
 | refine C_region rfl ?_
 | refine C_skip ?_
 | refine C_ret0 ?_
 | refine C_drawV (id := 5) 9 [(0, true), (2, true), (6, true), (8, true), (1, false), (3, false), (4, false), (5, false), (7, false)] rfl mixed (by kernel_rfl) rfl ?_
 | refine C_condT rfl obQ ?_
 | (refine C_cond rfl obQ (fun h => ?_) (fun h => ?_) <;> (try simp only [Bool.or_eq_true, Bool.and_eq_true, Bool.or_eq_false_iff, Bool.and_eq_false_iff, decide_eq_true_eq, decide_eq_false_iff_not, beq_iff_eq, bne_iff_ne, beq_eq_false_iff_ne, bne_eq_false_iff_eq, ne_eq, Decidable.not_not, List.cons.injEq, and_true, Bool.not_eq_true', Bool.not_eq_false', Int.not_lt, Int.not_le] at h) <;> (try (exfalso; omega)) <;> (try (exfalso; simp at h; done)) <;> (try (exfalso; simp only [not_true_eq_false, false_or, or_false] at h; omega)) <;> (try contradiction))
       )
 | (refine S_id ?_; first
 | ((with_reducible (first | refine S_trueE ?_ ?_ | refine S_trueB ?_ ?_ | refine S_trueL ?_ ?_ | refine S_trueD ?_ ?_ | refine S_trueN ?_ ?_)); · (first | exact beq_self_eq_true _ | rfl | omega))
 | ((with_reducible refine S_trueA ?_ ?_ ?_); (· rfl); (· first | rfl | (first | exact beq_self_eq_true _ | rfl | omega)))
 | refine S_unG rfl rfl rfl rfl ?_
 | (refine S_callM (f := 96) rfl obQ (by kernel_rfl) (fun w hw => rClipped_c p _ _ hs hpk hA lo hi hiv w (hw.rdm hr.toS memQ)) (fun w1Q w2Q vQ hw1Q hbQ hRQ => ?_); obtain ⟨AQ, cQ, rfl, hSQ⟩ := hRQ)
 | refine S_nil ?_
 | refine S_runN rfl rfl obQ obQ ?_
 | refine S_box (fun bb => ⟨_, _, rfl, obQ, ?_⟩)
 | refine S_slice (fun b => ⟨_, _, rfl, obQ, ?_⟩)
 | refine S_call (f := 20) rfl obQ (by kernel_rfl) (fun w hw => awake_c w (hw.rdm hO.toS memQ) (Pw_at hP hw memQ)) ?_
 | refine S_call (f := 26) rfl obQ (by kernel_rfl) (fun w hw => rCheckCurve_c A c l hl w (hw.rdm hrl.toS memQ)) ?_
 | refine S_call (f := 57) rfl obQ (by kernel_rfl) (fun w hw => rCheckPicture_c p _ _ hs hnm w (hw.rdm hr.toS memQ)) ?_
 | refine S_call (f := 49) rfl obQ (by kernel_rfl) (fun w hw => rCheckInterval_c lo hi w) ?_
 | refine S_call (f := 27) rfl obQ (by kernel_rfl) (fun w hw => lfirstE_c (l := [curveE l, picE p]) hT (by simp) rfl _ w (.inr ⟨_, rfl, hw.src (i := 4) rfl rfl⟩)) ?_
 | refine S_call (f := 27) rfl obQ (by kernel_rfl) (fun w hw => lfirstE_c (l := [picE p, ivE lo hi]) hU (by simp) rfl _ w (.inr ⟨_, rfl, hw.src (i := 5) rfl rfl⟩)) ?_
 | refine S_call (f := 60) rfl obQ (by kernel_rfl) (fun w hw => loneE_c _ hap zP _ none _ 0 w) ?_
 | refine S_call (f := 60) rfl obQ (by kernel_rfl) (fun w hw => lone_c (tuP (clF lo hi) p) _ _ _ _ (by rw [tuP_len]; omega) (fun x hx => (tuP_fin (clF_bd hiv) x hx).fin) w (hw.rdm D.1.h memQ) (hw.rdm hSQ memQ)) ?_
       )
 | (refine V_id ?_; first
 | refine V_nil ?_
 | refine V_q rfl (Yl_step rfl obQ) ?_
 | refine V_n rfl ?_
       )
 | (refine G_id ?_; first
 | refine G_V ⟨⟨_, rfl, trivial⟩, ⟨_, rfl⟩, rfl, pstQ⟩ rfl ?_
 | refine G_then ?_
 | refine G_ret rfl obQ (fun w hw => ⟨?_, hw.below⟩)
       )
       )
      all_goals rfl
      
    · have hU : firstL [picE p, ivE lo hi] = clE p lo hi := rfl
      repeat' (first
 | (refine C_id ?_; first
 | refine C_seq ?_
 | refine C_region rfl ?_
 | refine C_skip ?_
 | refine C_condF rfl obQ ?_
       )
 | (refine S_id ?_; first
 | ((with_reducible refine S_falseO ?_ ?_ ?_); (· rfl); (· first | rfl | (first | rfl | omega)))
 | refine S_unG rfl rfl rfl rfl ?_
 | refine S_nil ?_
 | refine S_runN rfl rfl obQ obQ ?_
 | refine S_box (fun b => ⟨_, _, rfl, obQ, ?_⟩)
 | refine S_call (f := 19) rfl obQ (by kernel_rfl) (fun w hw => short_as _ hSl hmax) ?_
 | refine S_call (f := 54) rfl obQ (by kernel_rfl) (fun w hw => rShortPicture_c p _ _ _ hSp w) ?_
       )
 | (refine G_id ?_; first
 | refine G_then ?_
       )
       )
      obtain ⟨b5, rfl⟩ : ∃ z, z = b := ⟨b, rfl⟩
      obtain ⟨b4, rfl⟩ : ∃ z, z = b := ⟨b, rfl⟩
      refine C_cut (fun B : SlA ((zP).s.map (.float .f32)) × Nat => ([B.1.ps, (w, fun b => b < w.heap.size)], ⟨[(0, .s (.v (.slice A l.length c))), (4, .s (.p b4 0 0)), (5, .s (.p b5 1 0)), (7, .s (.p B.2 2 0)), (8, .s (.v (.int .i64 (apE l p))))], [⟨b4, 93, [.v (.string p.nm), .v (.int .i64 p.w), .v (.int .i64 p.h), .v (.slice Ap p.s.length cp)]⟩, ⟨b5, 73, [.v (.int .i64 lo), .v (.int .i64 hi)]⟩, ⟨B.2, 96, [.v (.string (zP).nm), .v (.int .i64 (zP).w), .v (.int .i64 (zP).h), .v (.slice B.1.A (zP).s.length B.1.c)]⟩], []⟩)) ?_ (fun B => ?_)
      · repeat' (first
 | (refine C_id ?_; first
 | refine C_drawTr (id := 3) 10 (.q 0 (.q 2 (.two 1 8 (.two 3 8 (.two 4 8 (.q 5 (.q 6 (.q 7 (.n 8 (.n 9 .nil))))) (.n 4 (.q 5 (.q 6 (.q 7 (.n 9 .nil)))))) (.n 3 (.n 4 (.q 5 (.q 6 (.q 7 (.n 9 .nil))))))) (.n 1 (.n 3 (.n 4 (.q 5 (.q 6 (.q 7 (.n 9 .nil)))))))))) rfl mixed (by kernel_rfl) rfl ?_
         )
 | (refine S_id ?_; first
 | (refine S_callM (f := 56) rfl obQ (by kernel_rfl) (fun w hw => lown_c p _ _ hs hA w (hw.rdm hr.toS memQ)) (fun w1O w2O vO hw1O hbO hRO => ?_); obtain ⟨AO, cO, rfl, hSO⟩ := hRO)
 | (refine S_callM (f := 22) rfl obQ (by kernel_rfl) (fun w hw => lcurve_c A c l hl w (hw.rdm hrl.toS memQ)) (fun w1C w2C vC hw1C hbC hRC => ?_); obtain ⟨AC, cC, rfl, hSC⟩ := hRC)
 | (refine S_callM (f := 93) rfl obQ (by kernel_rfl) (fun w hw => app_0 hap hs hl (hw.rdm hSO memQ) (hw.rdm hSC memQ)) (fun w1X w2X vX hw1X hbX hRX => ?_); obtain ⟨AX, cX, rfl, hSX⟩ := hRX)
 | refine S_nil ?_
 | refine S_runN rfl rfl obQ obQ ?_
 | refine S_box (fun bb => ⟨_, _, rfl, obQ, ?_⟩)
         )
 | (refine VT_id ?_; first
 | refine VT_nil ?_
 | refine VT_q rfl (Yl_step rfl obQ) ?_
 | refine VT_n rfl ?_
 | refine VT_two rfl rfl ?_ ?_
         )
 | (refine G_id ?_; first
 | refine G_VT2 ⟨_, rfl⟩ ⟨_, rfl⟩ pstQ rfl ?_
 | refine G_cutN (⟨w1X, w2X, AX, cX, hSX⟩, bb) ⟨⟨_, rfl, obQ⟩, ⟨_, rfl⟩, rfl, psQ⟩
         )
         )
      repeat' (first
 | (refine C_id ?_; first
 | refine C_seq ?_
       )
       )
      refine C_cut (fun D : SlA ((zP).s.map (.float .f32)) × Nat => ([D.1.ps, B.1.ps, (w, fun b => b < w.heap.size)], ⟨[(0, .s (.v (.slice A l.length c))), (4, .s (.p b4 0 0)), (5, .s (.p b5 1 0)), (7, .s (.p B.2 2 0)), (8, .s (.v (.int .i64 (apE l p)))), (9, .s (.p D.2 3 0)), (10, .s (.v (.int .i64 (clE p lo hi))))], [⟨b4, 93, [.v (.string p.nm), .v (.int .i64 p.w), .v (.int .i64 p.h), .v (.slice Ap p.s.length cp)]⟩, ⟨b5, 73, [.v (.int .i64 lo), .v (.int .i64 hi)]⟩, ⟨B.2, 96, [.v (.string (zP).nm), .v (.int .i64 (zP).w), .v (.int .i64 (zP).h), .v (.slice B.1.A (zP).s.length B.1.c)]⟩, ⟨D.2, 96, [.v (.string (zP).nm), .v (.int .i64 (zP).w), .v (.int .i64 (zP).h), .v (.slice D.1.A (zP).s.length D.1.c)]⟩], []⟩)) ?_ (fun D => ?_)
      · repeat' (first
 | (refine C_id ?_; first
 | refine C_drawTr (id := 4) 9 (.q 0 (.q 2 (.two 1 7 (.two 3 7 (.q 4 (.q 5 (.q 6 (.n 7 (.n 8 .nil))))) (.n 3 (.q 4 (.q 5 (.q 6 (.n 8 .nil)))))) (.n 1 (.n 3 (.q 4 (.q 5 (.q 6 (.n 8 .nil))))))))) rfl mixed (by kernel_rfl) rfl ?_
         )
 | (refine S_id ?_; first
 | (refine S_callM (f := 56) rfl obQ (by kernel_rfl) (fun w hw => lown_c p _ _ hs hA w (hw.rdm hr.toS memQ)) (fun w1O w2O vO hw1O hbO hRO => ?_); obtain ⟨AO, cO, rfl, hSO⟩ := hRO)
 | (refine S_callM (f := 94) rfl obQ (by kernel_rfl) (fun w hw => clp_0 hcl hs (hw.rdm hSO memQ)) (fun w1Y w2Y vY hw1Y hbY hRY => ?_); obtain ⟨AY, cY, rfl, hSY⟩ := hRY)
 | refine S_nil ?_
 | refine S_runN rfl rfl obQ obQ ?_
 | refine S_box (fun bb => ⟨_, _, rfl, obQ, ?_⟩)
         )
 | (refine VT_id ?_; first
 | refine VT_nil ?_
 | refine VT_q rfl (Yl_step rfl obQ) ?_
 | refine VT_n rfl ?_
 | refine VT_two rfl rfl ?_ ?_
         )
 | (refine G_id ?_; first
 | refine G_VT2 ⟨_, rfl⟩ ⟨_, rfl⟩ pstQ rfl ?_
 | refine G_cutN (⟨w1Y, w2Y, AY, cY, hSY⟩, bb) ⟨⟨_, rfl, obQ⟩, ⟨_, rfl⟩, rfl, psQ⟩
         )
         )
      repeat' (first
 | (refine C_id ?_; first
 | refine C_seq ?_
 | refine C_region rfl ?_
 | refine C_skip ?_
 | refine C_ret0 ?_
 | refine C_drawV (id := 5) 9 [(0, true), (2, true), (6, true), (8, true), (1, false), (3, false), (4, false), (5, false), (7, false)] rfl mixed (by kernel_rfl) rfl ?_
 | (refine C_cond rfl obQ (fun h => ?_) (fun h => ?_) <;> (try simp only [Bool.or_eq_true, Bool.and_eq_true, Bool.or_eq_false_iff, Bool.and_eq_false_iff, decide_eq_true_eq, decide_eq_false_iff_not, beq_iff_eq, bne_iff_ne, beq_eq_false_iff_ne, bne_eq_false_iff_eq, ne_eq, Decidable.not_not, List.cons.injEq, and_true, Bool.not_eq_true', Bool.not_eq_false', Int.not_lt, Int.not_le] at h) <;> (try (exfalso; omega)) <;> (try (exfalso; simp at h; done)) <;> (try (exfalso; simp only [not_true_eq_false, false_or, or_false] at h; omega)) <;> (try contradiction))
       )
 | (refine S_id ?_; first
 | ((with_reducible refine S_trueA ?_ ?_ ?_); (· rfl); (· first | rfl | (first | exact beq_self_eq_true _ | rfl | omega)))
 | refine S_unG rfl rfl rfl rfl ?_
 | refine S_nil ?_
 | refine S_runN rfl rfl obQ obQ ?_
 | refine S_box (fun bb => ⟨_, _, rfl, obQ, ?_⟩)
 | refine S_slice (fun b => ⟨_, _, rfl, obQ, ?_⟩)
 | refine S_call (f := 20) rfl obQ (by kernel_rfl) (fun w hw => awake_c w (hw.rdm hO.toS memQ) (Pw_at hP hw memQ)) ?_
 | refine S_call (f := 26) rfl obQ (by kernel_rfl) (fun w hw => rCheckCurve_c A c l hl w (hw.rdm hrl.toS memQ)) ?_
 | refine S_call (f := 57) rfl obQ (by kernel_rfl) (fun w hw => rCheckPicture_c p _ _ hs hnm w (hw.rdm hr.toS memQ)) ?_
 | refine S_call (f := 49) rfl obQ (by kernel_rfl) (fun w hw => rCheckInterval_c lo hi w) ?_
 | refine S_call (f := 27) rfl obQ (by kernel_rfl) (fun w hw => lfirstE_c (l := [curveE l, picE p]) hT (by simp) rfl _ w (.inr ⟨_, rfl, hw.src (i := 4) rfl rfl⟩)) ?_
 | refine S_call (f := 27) rfl obQ (by kernel_rfl) (fun w hw => lfirstE_c (l := [picE p, ivE lo hi]) hU (by simp) rfl _ w (.inr ⟨_, rfl, hw.src (i := 5) rfl rfl⟩)) ?_
 | refine S_call (f := 60) rfl obQ (by kernel_rfl) (fun w hw => loneE_c _ hap zP _ none _ 0 w) ?_
 | refine S_call (f := 60) rfl obQ (by kernel_rfl) (fun w hw => loneE_c _ hcl zP _ none _ 0 w) ?_
       )
 | (refine V_id ?_; first
 | refine V_nil ?_
 | refine V_q rfl (Yl_step rfl obQ) ?_
 | refine V_n rfl ?_
       )
 | (refine G_id ?_; first
 | refine G_V ⟨⟨_, rfl, trivial⟩, ⟨_, rfl⟩, rfl, pstQ⟩ rfl ?_
 | refine G_then ?_
 | refine G_ret rfl obQ (fun w hw => ⟨?_, hw.below⟩)
       )
       )
      all_goals rfl
      

end Go.Proofs.YtdbffbcobghbeaaGreatDoor
