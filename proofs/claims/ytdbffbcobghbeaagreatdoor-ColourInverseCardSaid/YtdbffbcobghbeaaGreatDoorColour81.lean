/- Pictures to which a curve is applied, clipped ones; the law of inverses: the walk. -/
import Derived.Test.YtdbffbcobghbeaaGreatDoorColour53
import Derived.Test.YtdbffbcobghbeaaGreatDoorColour13
import Derived.Test.YtdbffbcobghbeaaGreatDoorColour4
import Derived.Test.YtdbffbcobghbeaaGreatDoorColour28
import Derived.Test.YtdbffbcobghbeaaGreatDoorEngAD
import Derived.Test.YtdbffbcobghbeaaGreatDoorEngAL
import Derived.Test.YtdbffbcobghbeaaGreatDoorEngZ
namespace Go.Proofs.YtdbffbcobghbeaaGreatDoor
open Go.E Go.RowKit Go.Fl
attribute [local irreducible] G C S D Calls
set_option maxRecDepth 100000
set_option linter.unusedSimpArgs false
set_option linter.unusedVariables false

set_option maxHeartbeats 400000 in
/-- genlockref02.CheckInterval -/
theorem rCheckInterval_c (lo hi : Int) (w : World) : Calls Tryz.prog 49 #[.agg #[.int .i64 lo, .int .i64 hi]] w fun r w' => r = .returned (.int .i64 (ivE lo hi)) ∧ Below w.heap.size w w' := by
  refine calls_of (args := [.agg #[.int .i64 lo, .int .i64 hi]]) T_ok Tryz.func49 rfl Tryz.ntmps49 (Nat.le_of_ble_eq_true rfl) rfl ?_
  repeat' (first
 | (refine C_id ?_; first
 | refine C_seq ?_
 | refine C_region rfl ?_
 | refine C_ret0 ?_
 | refine C_drawV (id := 1) 11 [(0, true), (1, true), (3, true), (4, true), (6, true), (7, true), (8, true), (9, true), (10, true), (2, false), (5, false)] rfl mixed (by kernel_rfl) rfl ?_
 )
 | (refine S_id ?_; first
 | refine S_nil ?_
 | refine S_run rfl rfl obQ obQ ?_
 | refine S_box (fun b => ⟨_, _, rfl, obQ, ?_⟩)
 | refine S_slice (fun b => ⟨_, _, rfl, obQ, ?_⟩)
 | refine S_call (f := 118) rfl obQ (by kernel_rfl) (fun w hw => rlevel_c _ w) ?_
 | refine S_call (f := 119) rfl obQ (by kernel_rfl) (fun w hw => rWhen_c _ _ w) ?_
 | refine S_call (f := 117) rfl obQ (by kernel_rfl) (fun w hw => rFirst_c _ _ [lvE lo, lvE hi, wh (decide (hi < lo)) 11] (by simp) w (.inr ⟨_, rfl, hw.src (i := 1) rfl rfl⟩)) ?_
 )
 | (refine V_id ?_; first
 | refine V_nil ?_
 | refine V_q rfl (Yl_step rfl obQ) ?_
 | refine V_n rfl ?_
 )
 | (refine G_id ?_; first
 | refine G_V ⟨⟨_, rfl, trivial⟩, ⟨_, rfl⟩, rfl, pstQ⟩ rfl ?_
 | refine G_then ?_
 | refine G_ret rfl obQ (fun w hw => ⟨?_, hw.below⟩)
 )
 )
  rfl

/-- A picture, each level of which is turned. -/
def tuP (f : Int → Int) (p : Pic) : Pic := ⟨p.nm, p.w, p.h, p.s.map fun x => smp (f (lvl x))⟩
def clF (lo hi : Int) (n : Int) : Int := min hi (max lo n)
def apE (l : List Pt) (p : Pic) : Int := firstL [curveE l, picE p]
def clE (p : Pic) (lo hi : Int) : Int := firstL [picE p, ivE lo hi]
theorem apE_ok {l : List Pt} {p : Pic} (h : apE l p = 0) : CvOk l ∧ PicOk p := by
  unfold apE at h
  rw [firstL_zero] at h
  simp only [List.mem_cons, List.mem_nil_iff, or_false, forall_eq_or_imp, forall_eq, curve_ok, pic_ok] at h
  exact h
theorem clE_ok {p : Pic} {lo hi : Int} (h : clE p lo hi = 0) : PicOk p ∧ ivE lo hi = 0 := by
  unfold clE at h
  rw [firstL_zero] at h
  simp only [List.mem_cons, List.mem_nil_iff, or_false, forall_eq_or_imp, forall_eq, pic_ok] at h
  exact h
theorem clF_bd {lo hi : Int} (h : ivE lo hi = 0) (n : Int) : -16384 ≤ clF lo hi n ∧ clF lo hi n ≤ 16384 := by
  have := ivE_ok h
  unfold clF
  omega
theorem map_gB {s : List Nat} {α : Type} (f : Nat → α) : (List.range s.length).map (fun j => f (gB s j)) = s.map f := by
  apply List.ext_getElem
  · simp
  · intro i h1 h2
    have h : i < s.length := by simpa using h2
    simp [gB_at h]
theorem tuP_fin {f : Int → Int} {p : Pic} (hf : ∀ n, -16384 ≤ f n ∧ f n ≤ 16384) : ∀ x ∈ (tuP f p).s, Smp x := by
  intro x hx
  simp only [tuP, List.mem_map] at hx
  obtain ⟨b, _, rfl⟩ := hx
  exact smp_Smp (hf _)
theorem tuP_len {f : Int → Int} {p : Pic} : (tuP f p).s.length = p.s.length := by simp [tuP]

set_option maxHeartbeats 400000 in
/-- colour.Clipped$1 -/
theorem clip1_c (b : Nat) (lo hi n : Int) (w : World) (hM : w.heap[b]? = some (.cells ([.int .i64 lo, .int .i64 hi] : List Value).toArray 73 (0, 0))) : Calls Tryz.prog 159 #[.int .i64 n, .pointer (some ⟨b, 0, none⟩)] w fun r w' => r = .returned (.int .i64 (clF lo hi n)) ∧ Below w.heap.size w w' := by
  refine calls_of (args := [.int .i64 n, .pointer (some ⟨b, 0, none⟩)]) T_ok Tryz.func159 rfl Tryz.ntmps159 (Nat.le_of_ble_eq_true rfl) rfl ?_
  repeat' (first
 | (refine C_id ?_; first
 | refine C_seq ?_
 | refine C_region rfl ?_
 | refine C_ret0 ?_
 )
 | (refine S_id ?_; first
 | refine S_load rfl obQ rfl [.int .i64 hi] (.cell (_, fun b => b < _) memQ (heap_lt hM) (heap_cell1 hM (o := 1) rfl)) rfl (.inr ⟨rfl, rfl⟩) ?_
 | refine S_load rfl obQ rfl [.int .i64 lo] (.cell (_, fun b => b < _) memQ (heap_lt hM) (heap_cell1 hM (o := 0) rfl)) rfl (.inr ⟨rfl, rfl⟩) ?_
 | refine S_nil ?_
 | refine S_run rfl rfl obQ obQ ?_
 )
 | (refine G_id ?_; first
 | refine G_then ?_
 | refine G_ret rfl obQ (fun w hw => ⟨?_, hw.below⟩)
 )
 )
  rfl

set_option maxHeartbeats 400000 in
/-- colour.changed$1 -/
theorem chApp_c (b3 : Nat) (A : Option Addr) (c : Nat) (l : List Pt) (hv : CvOk l) (x : Nat) (hx : Smp x) (w : World) (hM : w.heap[b3]? = some (.cells ([.func (.func 113) #[.slice A l.length c] #[]] : List Value).toArray 39 (0, 0))) (hrl : Rd w A (l.flatMap ptC)) : Calls Tryz.prog 194 #[.float .f32 x, .pointer (some ⟨b3, 0, none⟩)] w fun r w' => r = .returned (.float .f32 (smp (valF l (lvl x)))) ∧ Below w.heap.size w w' := by
  refine calls_of (args := [.float .f32 x, .pointer (some ⟨b3, 0, none⟩)]) T_ok Tryz.func194 rfl Tryz.ntmps194 (Nat.le_of_ble_eq_true rfl) rfl ?_
  repeat' (first
 | (refine C_id ?_; first
 | refine C_seq ?_
 | refine C_region rfl ?_
 | refine C_ret0 ?_
 | refine C_draw (id := 1) rfl mixed (by kernel_rfl) ?_
 )
 | (refine S_id ?_; first
 | refine S_nil ?_
 | refine S_run rfl rfl obQ obQ ?_
 )
 | (refine D_id ?_; first
 | refine D_load rfl obQ rfl [.func (.func 113) #[.slice A l.length c] #[]] (.cell (_, fun b => b < _) memQ (heap_lt hM) (heap_cell1 hM (o := 0) rfl)) rfl (.inr ⟨rfl, rfl⟩) ?_
 | refine D_nil ?_
 | refine D_run rfl rfl obQ obQ ?_
 | refine D_call (f := 140) rfl obQ (by kernel_rfl) (fun w hw => level_c x hx.fin hx.bd w) ?_
 | refine D_call (f := 113) rfl obQ (by kernel_rfl) (fun w hw => value_c A c l (lvl x) hv w (hw.rdm hrl.toS memQ)) ?_
 | refine D_call (f := 141) rfl obQ (by kernel_rfl) (fun w hw => sample_c (valF l (lvl x)) (valF_lv hv _) w) ?_
 )
 | (refine G_id ?_; first
 | refine G_then ?_
 | refine G_ret rfl obQ (fun w hw => ⟨?_, hw.below⟩)
 )
 )
  rfl

set_option maxHeartbeats 400000 in
/-- colour.changed$1 -/
theorem chClip_c (b3 bl : Nat) (lo hi : Int) (hI : ivE lo hi = 0) (x : Nat) (hx : Smp x) (w : World) (hM : w.heap[b3]? = some (.cells ([.func (.func 159) #[] #[.pointer (some ⟨bl, 0, none⟩)]] : List Value).toArray 39 (0, 0))) (hM2 : w.heap[bl]? = some (.cells ([.int .i64 lo, .int .i64 hi] : List Value).toArray 73 (0, 0))) : Calls Tryz.prog 194 #[.float .f32 x, .pointer (some ⟨b3, 0, none⟩)] w fun r w' => r = .returned (.float .f32 (smp (clF lo hi (lvl x)))) ∧ Below w.heap.size w w' := by
  refine calls_of (args := [.float .f32 x, .pointer (some ⟨b3, 0, none⟩)]) T_ok Tryz.func194 rfl Tryz.ntmps194 (Nat.le_of_ble_eq_true rfl) rfl ?_
  repeat' (first
 | (refine C_id ?_; first
 | refine C_seq ?_
 | refine C_region rfl ?_
 | refine C_ret0 ?_
 | refine C_draw (id := 1) rfl mixed (by kernel_rfl) ?_
 )
 | (refine S_id ?_; first
 | refine S_nil ?_
 | refine S_run rfl rfl obQ obQ ?_
 )
 | (refine D_id ?_; first
 | refine D_load rfl obQ rfl [.func (.func 159) #[] #[.pointer (some ⟨bl, 0, none⟩)]] (.cell (_, fun b => b < _) memQ (heap_lt hM) (heap_cell1 hM (o := 0) rfl)) rfl (.inr ⟨rfl, rfl⟩) ?_
 | refine D_nil ?_
 | refine D_run rfl rfl obQ obQ ?_
 | refine D_call (f := 140) rfl obQ (by kernel_rfl) (fun w hw => level_c x hx.fin hx.bd w) ?_
 | refine D_call (f := 159) rfl obQ (by kernel_rfl) (fun w hw => clip1_c bl lo hi (lvl x) w ((hw.past _ memQ bl (heap_lt hM2)).1.2.trans hM2)) ?_
 | refine D_call (f := 141) rfl obQ (by kernel_rfl) (fun w hw => sample_c (clF lo hi (lvl x)) (clF_bd hI _) w) ?_
 )
 | (refine G_id ?_; first
 | refine G_then ?_
 | refine G_ret rfl obQ (fun w hw => ⟨?_, hw.below⟩)
 )
 )
  rfl

set_option maxHeartbeats 400000 in
/-- colour.mapped[float32,float32] -/
theorem mappedFF_c (q : FuncId) (c0 : Value) {g : Nat → Nat} (A : Option Addr) (c : Nat) (l : List (Nat)) (hl : l.length ≤ 1000000) (he : entB Tryz.prog q = true) (w : World) (hr : Rd w A (l.map fun x => Value.float .f32 x)) (hg : ∀ x ∈ l, ∀ W, Below w.heap.size w W → Calls Tryz.prog q #[Value.float .f32 x, c0] W fun e w' => e = .returned (Value.float .f32 (g x)) ∧ Below W.heap.size W w') : Calls Tryz.prog 193 #[.slice A l.length c, .func (.func q) #[] #[c0]] w fun r w' => ∃ v, r = .returned v ∧ Below w.heap.size w w' ∧ Sl w w' v l.length (l.map fun x => Value.float .f32 (g x)) := by
  refine calls_of (args := [.slice A l.length c, .func (.func q) #[] #[c0]]) T_ok Tryz.func193 rfl Tryz.ntmps193 (Nat.le_of_ble_eq_true rfl) rfl ?_
  repeat' (first
 | (refine C_id ?_; first
 | refine C_seq ?_
 | refine C_region rfl ?_
 | refine C_block ?_
 )
 | (refine S_id ?_; first
 | refine S_nil ?_
 | refine S_run rfl rfl obQ obQ ?_
 )
 | (refine G_id ?_; first
 | refine G_then ?_
 )
 )
  refine C_row0 5 114 1 rfl ?_
  refine C_loopS (fun i : Nat × Option Addr × Nat => ⟨[(5, .s (.r i.2.1 i.1 i.2.2 0)), (8, .s (.v (.slice A l.length c))), (9, .s (.v (.int .i64 l.length))), (10, .s (.v (.int .i64 i.1))), (1, .s (.v (.func (.func q) #[] #[c0])))], [], [⟨114, 1, i.1, (l.take i.1).map fun x => Value.float .f32 (g x), .slice i.2.1 i.1 i.2.2⟩]⟩) (fun i => i.1 ≤ l.length) (fun i => l.length - i.1) (0, none, 0) (Nat.zero_le _) ?_ (fun i hi => ?_)
  · exact ⟨⟨_, rfl, obQ⟩, ⟨_, rfl⟩, rfl, pstQ⟩
  obtain ⟨k, A', c'⟩ := i
  have hi' : k ≤ l.length := hi
  dsimp only
  by_cases hlt : k < l.length
  · obtain ⟨ad, rfl⟩ := hr.some (by simp; omega)
    have hmt := map_take_succ (f := fun x => Value.float .f32 (g x)) hlt
    repeat' (first
 | (refine C_id ?_; first
 | refine C_seq ?_
 | refine C_region rfl ?_
 | refine C_block ?_
 | refine C_skip ?_
 | (refine C_cond rfl obQ (fun h => ?_) (fun h => ?_) <;> (try simp only [Bool.or_eq_true, Bool.and_eq_true, Bool.or_eq_false_iff, Bool.and_eq_false_iff, decide_eq_true_eq, decide_eq_false_iff_not, beq_iff_eq, bne_iff_ne, beq_eq_false_iff_ne, bne_eq_false_iff_eq, ne_eq, Decidable.not_not, List.cons.injEq, and_true, Bool.not_eq_true', Bool.not_eq_false', Int.not_lt, Int.not_le] at h) <;> (try (exfalso; omega)))
     )
 | (refine S_id ?_; first
 | refine S_load rfl obQ rfl [Value.float .f32 l[k]] (.past _ memQ _ _ hr.toS _ _ rfl rfl (idx1 (f := fun x => Value.float .f32 x) hlt)) rfl (.inr ⟨rfl, rfl⟩) ?_
 | refine S_call rfl obQ he (fun W hW => hg l[k] (List.getElem_mem hlt) W hW.below) ?_
 | refine S_append rfl obQ rfl rfl rfl ⟨by decide, rfl⟩ rfl ⟨rfl, rfl, rfl, rfl⟩ [Value.float .f32 (g l[k])] ⟨by decide, rfl⟩ (by simp [Value.oneCell']) (fun w hw => by first | exact hw.src (i := 0) rfl rfl | exact hw.src (i := 1) rfl rfl | exact hw.src (i := 2) rfl rfl | exact hw.src (i := 3) rfl rfl | exact hw.src (i := 4) rfl rfl | exact hw.src (i := 5) rfl rfl | exact hw.src (i := 6) rfl rfl | exact hw.src (i := 7) rfl rfl | exact hw.src (i := 8) rfl rfl) (by unfold maxLen; dsimp only; omega) (fun gb cap' => ⟨_, rfl, ?_⟩)
 | refine S_nil ?_
 | refine S_run rfl rfl obQ obQ ?_
 | refine S_slice (fun b => ⟨_, _, rfl, obQ, ?_⟩)
     )
 | (refine G_id ?_; first
 | refine G_loop (k + 1, some ⟨gb, 0, none⟩, cap') (by show k + 1 ≤ _; omega) (by show l.length - (k + 1) < l.length - k; omega) ⟨⟨_, rfl, obQ⟩, ⟨_, rfl⟩, (by dsimp only; rw [hmt]), pstQ⟩
 | refine G_then ?_
 | refine G_block ?_
     )
     )
  · obtain rfl : k = l.length := by omega
    repeat' (first
 | (refine C_id ?_; first
 | refine C_seq ?_
 | refine C_region rfl ?_
 | refine C_exit ?_
 | refine C_ret0 ?_
 | (refine C_cond rfl obQ (fun h => ?_) (fun h => ?_) <;> (try simp only [Bool.or_eq_true, Bool.and_eq_true, Bool.or_eq_false_iff, Bool.and_eq_false_iff, decide_eq_true_eq, decide_eq_false_iff_not, beq_iff_eq, bne_iff_ne, beq_eq_false_iff_ne, bne_eq_false_iff_eq, ne_eq, Decidable.not_not, List.cons.injEq, and_true, Bool.not_eq_true', Bool.not_eq_false', Int.not_lt, Int.not_le] at h) <;> (try (exfalso; omega)))
     )
 | (refine S_id ?_; first
 | refine S_nil ?_
 | refine S_run rfl rfl obQ obQ ?_
     )
 | (refine G_id ?_; first
 | refine G_then ?_
 | refine G_blockX ?_
 | refine G_thenX ?_
 | refine G_ret rfl obQ (fun w2 hw => ⟨_, rfl, hw.below, HW.rowSl (i := 0) hw rfl rfl rfl (by rw [List.take_length])⟩)
     )
     )

set_option maxHeartbeats 400000 in
/-- colour.changed -/
theorem chgApp_c (p : Pic) (Ap : Option Addr) (cp : Nat) (hs : p.s.length ≤ 1000000) (hp : ∀ x ∈ p.s, Smp x) (A : Option Addr) (c : Nat) (l : List Pt) (hv : CvOk l) (w : World) (hr : Rd w Ap (p.s.map (.float .f32))) (hrl : Rd w A (l.flatMap ptC)) : Calls Tryz.prog 158 #[.agg #[.string p.nm, .int .i64 p.w, .int .i64 p.h, .slice Ap p.s.length cp], .func (.func 113) #[.slice A l.length c] #[]] w fun r w' => ∃ v, r = .returned v ∧ Below w.heap.size w w' ∧ PicA w w' v (tuP (valF l) p) := by
  refine calls_of (args := [.agg #[.string p.nm, .int .i64 p.w, .int .i64 p.h, .slice Ap p.s.length cp], .func (.func 113) #[.slice A l.length c] #[]]) T_ok Tryz.func158 rfl Tryz.ntmps158 (Nat.le_of_ble_eq_true rfl) rfl ?_
  repeat' (first
 | (refine C_id ?_; first
 | refine C_seq ?_
 | refine C_regionNe 1 rfl rfl ?_
 )
 | (refine S_id ?_; first
 | refine S_nil ?_
 | refine S_box (fun b => ⟨_, _, rfl, obQ, ?_⟩)
 )
 | (refine G_id ?_; first
 | refine G_then ?_
 )
 )
  rename_i b2 b3
  repeat' (first
 | (refine C_id ?_; first
 | refine C_seq ?_
 | refine C_region rfl ?_
 | refine C_ret0 ?_
   )
 | (refine S_id ?_; first
 | (refine S_callM (f := 193) rfl obQ (by kernel_rfl) (fun w2 hw2 => mappedFF_c 194 (.pointer (some ⟨b3, 0, none⟩)) (g := fun x => smp (valF l (lvl x))) Ap cp p.s hs (by kernel_rfl) w2 (hw2.rdm hr.toS memQ) (fun x hx W hW => chApp_c b3 A c l hv x (hp x hx) W ((hW.block b3 (HW.bxAt hw2 (i := 1) rfl rfl).1.2).trans (HW.bxAt hw2 (i := 1) rfl rfl).2) ((hw2.rdm hrl.toS memQ).below hW))) (fun w1M w2M vM hw1M hbM hRM => ?_); obtain ⟨AM, cM, rfl, hSM⟩ := hRM)
 | refine S_nil ?_
 | refine S_run rfl rfl obQ obQ ?_
   )
 | (refine G_id ?_; first
 | refine G_then ?_
 | refine G_ret rfl obQ (fun w2 hw => ⟨_, rfl, hw.below, PicA.of (s := (tuP (valF l) p).s) (HW.callSl hw (by rw [show ((tuP (valF l) p).s.map (Value.float .f32)) = p.s.map (fun x => Value.float .f32 (smp (valF l (lvl x)))) by simp [tuP]]; exact hSM) memQ hw1M.bsize) (by simp [tuP]) rfl⟩)
   )
   )

set_option maxHeartbeats 400000 in
/-- colour.changed -/
theorem chgClip_c (p : Pic) (Ap : Option Addr) (cp : Nat) (hs : p.s.length ≤ 1000000) (hp : ∀ x ∈ p.s, Smp x) (bl : Nat) (lo hi : Int) (hI : ivE lo hi = 0) (w : World) (hr : Rd w Ap (p.s.map (.float .f32))) (hM2 : w.heap[bl]? = some (.cells ([.int .i64 lo, .int .i64 hi] : List Value).toArray 73 (0, 0))) : Calls Tryz.prog 158 #[.agg #[.string p.nm, .int .i64 p.w, .int .i64 p.h, .slice Ap p.s.length cp], .func (.func 159) #[] #[.pointer (some ⟨bl, 0, none⟩)]] w fun r w' => ∃ v, r = .returned v ∧ Below w.heap.size w w' ∧ PicA w w' v (tuP (clF lo hi) p) := by
  refine calls_of (args := [.agg #[.string p.nm, .int .i64 p.w, .int .i64 p.h, .slice Ap p.s.length cp], .func (.func 159) #[] #[.pointer (some ⟨bl, 0, none⟩)]]) T_ok Tryz.func158 rfl Tryz.ntmps158 (Nat.le_of_ble_eq_true rfl) rfl ?_
  repeat' (first
 | (refine C_id ?_; first
 | refine C_seq ?_
 | refine C_regionNe 1 rfl rfl ?_
 )
 | (refine S_id ?_; first
 | refine S_nil ?_
 | refine S_box (fun b => ⟨_, _, rfl, obQ, ?_⟩)
 )
 | (refine G_id ?_; first
 | refine G_then ?_
 )
 )
  rename_i b2 b3
  repeat' (first
 | (refine C_id ?_; first
 | refine C_seq ?_
 | refine C_region rfl ?_
 | refine C_ret0 ?_
   )
 | (refine S_id ?_; first
 | (refine S_callM (f := 193) rfl obQ (by kernel_rfl) (fun w2 hw2 => mappedFF_c 194 (.pointer (some ⟨b3, 0, none⟩)) (g := fun x => smp (clF lo hi (lvl x))) Ap cp p.s hs (by kernel_rfl) w2 (hw2.rdm hr.toS memQ) (fun x hx W hW => chClip_c b3 bl lo hi hI x (hp x hx) W ((hW.block b3 (HW.bxAt hw2 (i := 1) rfl rfl).1.2).trans (HW.bxAt hw2 (i := 1) rfl rfl).2) ((hW.block bl (hw2.past _ memQ bl (heap_lt hM2)).1.1).trans ((hw2.past _ memQ bl (heap_lt hM2)).1.2.trans hM2)))) (fun w1M w2M vM hw1M hbM hRM => ?_); obtain ⟨AM, cM, rfl, hSM⟩ := hRM)
 | refine S_nil ?_
 | refine S_run rfl rfl obQ obQ ?_
   )
 | (refine G_id ?_; first
 | refine G_then ?_
 | refine G_ret rfl obQ (fun w2 hw => ⟨_, rfl, hw.below, PicA.of (s := (tuP (clF lo hi) p).s) (HW.callSl hw (by rw [show ((tuP (clF lo hi) p).s.map (Value.float .f32)) = p.s.map (fun x => Value.float .f32 (smp (clF lo hi (lvl x)))) by simp [tuP]]; exact hSM) memQ hw1M.bsize) (by simp [tuP]) rfl⟩)
   )
   )

set_option maxHeartbeats 400000 in
/-- colour.Applied -/
theorem Applied_c (p : Pic) (Ap : Option Addr) (cp : Nat) (hs : p.s.length ≤ 1000000) (A : Option Addr) (c : Nat) (l : List Pt) (hl : l.length ≤ 1000000) (w : World) (hr : Rd w Ap (p.s.map (.float .f32))) (hrl : Rd w A (l.flatMap ptC)) : Calls Tryz.prog 93 #[.slice A l.length c, .agg #[.string p.nm, .int .i64 p.w, .int .i64 p.h, .slice Ap p.s.length cp]] w fun r w' => ∃ v, r = .returned v ∧ Below w.heap.size w w' ∧ (if apE l p = 0 then PicR w w' v (tuP (valF l) p) 0 else PicR w w' v zP (apE l p)) := by
  refine calls_of (args := [.slice A l.length c, .agg #[.string p.nm, .int .i64 p.w, .int .i64 p.h, .slice Ap p.s.length cp]]) T_ok Tryz.func93 rfl Tryz.ntmps93 (Nat.le_of_ble_eq_true rfl) rfl ?_
  by_cases hE : apE l p = 0
  · simp only [if_pos hE]
    obtain ⟨h1, h2⟩ := apE_ok hE
    repeat' (first
 | (refine C_id ?_; first
 | refine C_seq ?_
 | refine C_region rfl ?_
 | refine C_skip ?_
 | refine C_ret0 ?_
 | refine C_drawV (id := 1) 3 [(0, true), (2, true), (1, false)] rfl mixed (by kernel_rfl) rfl ?_
 | (refine C_cond rfl obQ (fun h => ?_) (fun h => ?_) <;> (try simp only [Bool.or_eq_true, Bool.and_eq_true, Bool.or_eq_false_iff, Bool.and_eq_false_iff, decide_eq_true_eq, decide_eq_false_iff_not, beq_iff_eq, bne_iff_ne, beq_eq_false_iff_ne, bne_eq_false_iff_eq, ne_eq, Decidable.not_not, List.cons.injEq, and_true, Bool.not_eq_true', Bool.not_eq_false', Int.not_lt, Int.not_le] at h) <;> (try (exfalso; omega)) <;> (try (exfalso; simp at h; done)) <;> (try (exfalso; simp only [not_true_eq_false, false_or, or_false] at h; omega)) <;> (try contradiction))
     )
 | (refine S_id ?_; first
 | (refine S_callM (f := 158) rfl obQ (by kernel_rfl) (fun w hw => chgApp_c p Ap cp hs h2.s A c l h1 w (hw.rdm hr.toS memQ) (hw.rdm hrl.toS memQ)) (fun w1C w2C vC hw1C hbC hRC => ?_); obtain ⟨AC, cC, rfl, hSC⟩ := hRC)
 | refine S_nil ?_
 | refine S_run rfl rfl obQ obQ ?_
 | refine S_box (fun bb => ⟨_, _, rfl, obQ, ?_⟩)
 | refine S_slice (fun b => ⟨_, _, rfl, obQ, ?_⟩)
 | refine S_call (f := 34) rfl obQ (by kernel_rfl) (fun w hw => checkCurve_c A c l hl w (hw.rdm hrl.toS memQ)) ?_
 | refine S_call (f := 137) rfl obQ (by kernel_rfl) (fun w hw => checkPicture_c p Ap cp hs w (hw.rdm hr.toS memQ)) ?_
 | refine S_call (f := 111) rfl obQ (by kernel_rfl) (fun w hw => cfirst_c _ _ [curveE l, picE p] (by simp) w (.inr ⟨_, rfl, hw.src (i := 2) rfl rfl⟩)) ?_
     )
 | (refine V_id ?_; first
 | refine V_nil ?_
 | refine V_q rfl (Yl_step rfl obQ) ?_
 | refine V_n rfl ?_
     )
 | (refine G_id ?_; first
 | refine G_V ⟨⟨_, rfl, trivial⟩, ⟨_, rfl⟩, rfl, pstQ⟩ rfl ?_
 | refine G_then ?_
 | refine G_ret rfl obQ (fun w2 hw => ⟨_, rfl, hw.below, PicR.of (s := (tuP (valF l) p).s) (HW.callSl hw hSC memQ hw1C.bsize) rfl rfl⟩)
     )
     )
  · simp only [if_neg hE]
    repeat' (first
 | (refine C_id ?_; first
 | refine C_seq ?_
 | refine C_region rfl ?_
 | refine C_ret0 ?_
 | refine C_drawV (id := 1) 3 [(0, true), (2, true), (1, false)] rfl mixed (by kernel_rfl) rfl ?_
 | (refine C_cond rfl obQ (fun h => ?_) (fun h => ?_) <;> (try simp only [Bool.or_eq_true, Bool.and_eq_true, Bool.or_eq_false_iff, Bool.and_eq_false_iff, decide_eq_true_eq, decide_eq_false_iff_not, beq_iff_eq, bne_iff_ne, beq_eq_false_iff_ne, bne_eq_false_iff_eq, ne_eq, Decidable.not_not, List.cons.injEq, and_true, Bool.not_eq_true', Bool.not_eq_false', Int.not_lt, Int.not_le] at h) <;> (try (exfalso; omega)) <;> (try (exfalso; simp at h; done)) <;> (try (exfalso; simp only [not_true_eq_false, false_or, or_false] at h; omega)) <;> (try contradiction))
     )
 | (refine S_id ?_; first
 | refine S_nil ?_
 | refine S_run rfl rfl obQ obQ ?_
 | refine S_box (fun bb => ⟨_, _, rfl, obQ, ?_⟩)
 | refine S_slice (fun b => ⟨_, _, rfl, obQ, ?_⟩)
 | refine S_call (f := 34) rfl obQ (by kernel_rfl) (fun w hw => checkCurve_c A c l hl w (hw.rdm hrl.toS memQ)) ?_
 | refine S_call (f := 137) rfl obQ (by kernel_rfl) (fun w hw => checkPicture_c p Ap cp hs w (hw.rdm hr.toS memQ)) ?_
 | refine S_call (f := 111) rfl obQ (by kernel_rfl) (fun w hw => cfirst_c _ _ [curveE l, picE p] (by simp) w (.inr ⟨_, rfl, hw.src (i := 2) rfl rfl⟩)) ?_
     )
 | (refine V_id ?_; first
 | refine V_nil ?_
 | refine V_q rfl (Yl_step rfl obQ) ?_
 | refine V_n rfl ?_
     )
 | (refine G_id ?_; first
 | refine G_V ⟨⟨_, rfl, trivial⟩, ⟨_, rfl⟩, rfl, pstQ⟩ rfl ?_
 | refine G_then ?_
 | refine G_thenR ?_
 | refine G_ret rfl obQ (fun w2 hw => ⟨_, rfl, hw.below, PicR.zero _ _ _⟩)
     )
     )

set_option maxHeartbeats 400000 in
/-- colour.Clipped -/
theorem Clipped_c (p : Pic) (Ap : Option Addr) (cp : Nat) (hs : p.s.length ≤ 1000000) (lo hi : Int) (w : World) (hr : Rd w Ap (p.s.map (.float .f32)))  : Calls Tryz.prog 94 #[.agg #[.string p.nm, .int .i64 p.w, .int .i64 p.h, .slice Ap p.s.length cp], .agg #[.int .i64 lo, .int .i64 hi]] w fun r w' => ∃ v, r = .returned v ∧ Below w.heap.size w w' ∧ (if clE p lo hi = 0 then PicR w w' v (tuP (clF lo hi) p) 0 else PicR w w' v zP (clE p lo hi)) := by
  refine calls_of (args := [.agg #[.string p.nm, .int .i64 p.w, .int .i64 p.h, .slice Ap p.s.length cp], .agg #[.int .i64 lo, .int .i64 hi]]) T_ok Tryz.func94 rfl Tryz.ntmps94 (Nat.le_of_ble_eq_true rfl) rfl ?_
  by_cases hE : clE p lo hi = 0
  · simp only [if_pos hE]
    obtain ⟨h1, h2⟩ := clE_ok hE
    repeat' (first
 | (refine C_id ?_; first
 | refine C_seq ?_
 | refine C_region rfl ?_
 | refine C_skip ?_
 | refine C_ret0 ?_
 | refine C_drawV (id := 1) 3 [(0, true), (2, true), (1, false)] rfl mixed (by kernel_rfl) rfl ?_
 | (refine C_cond rfl obQ (fun h => ?_) (fun h => ?_) <;> (try simp only [Bool.or_eq_true, Bool.and_eq_true, Bool.or_eq_false_iff, Bool.and_eq_false_iff, decide_eq_true_eq, decide_eq_false_iff_not, beq_iff_eq, bne_iff_ne, beq_eq_false_iff_ne, bne_eq_false_iff_eq, ne_eq, Decidable.not_not, List.cons.injEq, and_true, Bool.not_eq_true', Bool.not_eq_false', Int.not_lt, Int.not_le] at h) <;> (try (exfalso; omega)) <;> (try (exfalso; simp at h; done)) <;> (try (exfalso; simp only [not_true_eq_false, false_or, or_false] at h; omega)) <;> (try contradiction))
     )
 | (refine S_id ?_; first
 | (refine S_callM (f := 158) rfl obQ (by kernel_rfl) (fun w hw => chgClip_c p Ap cp hs h1.s _ lo hi h2 w (hw.rdm hr.toS memQ) (HW.bxAt hw (i := 1) rfl rfl).2) (fun w1C w2C vC hw1C hbC hRC => ?_); obtain ⟨AC, cC, rfl, hSC⟩ := hRC)
 | refine S_nil ?_
 | refine S_run rfl rfl obQ obQ ?_
 | refine S_box (fun bb => ⟨_, _, rfl, obQ, ?_⟩)
 | refine S_slice (fun b => ⟨_, _, rfl, obQ, ?_⟩)
 | refine S_call (f := 137) rfl obQ (by kernel_rfl) (fun w hw => checkPicture_c p Ap cp hs w (hw.rdm hr.toS memQ)) ?_
 | refine S_call (f := 133) rfl obQ (by kernel_rfl) (fun w hw => checkInterval_c lo hi w) ?_
 | refine S_call (f := 111) rfl obQ (by kernel_rfl) (fun w hw => cfirst_c _ _ [picE p, ivE lo hi] (by simp) w (.inr ⟨_, rfl, hw.src (i := 3) rfl rfl⟩)) ?_
     )
 | (refine V_id ?_; first
 | refine V_nil ?_
 | refine V_q rfl (Yl_step rfl obQ) ?_
 | refine V_n rfl ?_
     )
 | (refine G_id ?_; first
 | refine G_V ⟨⟨_, rfl, trivial⟩, ⟨_, rfl⟩, rfl, pstQ⟩ rfl ?_
 | refine G_then ?_
 | refine G_ret rfl obQ (fun w2 hw => ⟨_, rfl, hw.below, PicR.of (s := (tuP (clF lo hi) p).s) (HW.callSl hw hSC memQ hw1C.bsize) rfl rfl⟩)
     )
     )
  · simp only [if_neg hE]
    repeat' (first
 | (refine C_id ?_; first
 | refine C_seq ?_
 | refine C_region rfl ?_
 | refine C_ret0 ?_
 | refine C_drawV (id := 1) 3 [(0, true), (2, true), (1, false)] rfl mixed (by kernel_rfl) rfl ?_
 | (refine C_cond rfl obQ (fun h => ?_) (fun h => ?_) <;> (try simp only [Bool.or_eq_true, Bool.and_eq_true, Bool.or_eq_false_iff, Bool.and_eq_false_iff, decide_eq_true_eq, decide_eq_false_iff_not, beq_iff_eq, bne_iff_ne, beq_eq_false_iff_ne, bne_eq_false_iff_eq, ne_eq, Decidable.not_not, List.cons.injEq, and_true, Bool.not_eq_true', Bool.not_eq_false', Int.not_lt, Int.not_le] at h) <;> (try (exfalso; omega)) <;> (try (exfalso; simp at h; done)) <;> (try (exfalso; simp only [not_true_eq_false, false_or, or_false] at h; omega)) <;> (try contradiction))
     )
 | (refine S_id ?_; first
 | refine S_nil ?_
 | refine S_run rfl rfl obQ obQ ?_
 | refine S_box (fun bb => ⟨_, _, rfl, obQ, ?_⟩)
 | refine S_slice (fun b => ⟨_, _, rfl, obQ, ?_⟩)
 | refine S_call (f := 137) rfl obQ (by kernel_rfl) (fun w hw => checkPicture_c p Ap cp hs w (hw.rdm hr.toS memQ)) ?_
 | refine S_call (f := 133) rfl obQ (by kernel_rfl) (fun w hw => checkInterval_c lo hi w) ?_
 | refine S_call (f := 111) rfl obQ (by kernel_rfl) (fun w hw => cfirst_c _ _ [picE p, ivE lo hi] (by simp) w (.inr ⟨_, rfl, hw.src (i := 3) rfl rfl⟩)) ?_
     )
 | (refine V_id ?_; first
 | refine V_nil ?_
 | refine V_q rfl (Yl_step rfl obQ) ?_
 | refine V_n rfl ?_
     )
 | (refine G_id ?_; first
 | refine G_V ⟨⟨_, rfl, trivial⟩, ⟨_, rfl⟩, rfl, pstQ⟩ rfl ?_
 | refine G_then ?_
 | refine G_thenR ?_
 | refine G_ret rfl obQ (fun w2 hw => ⟨_, rfl, hw.below, PicR.zero _ _ _⟩)
     )
     )

set_option maxHeartbeats 1000000 in
/-- genlockref02.Applied -/
theorem rApplied_c (p : Pic) (Ap : Option Addr) (cp : Nat) (hs : p.s.length ≤ 1000000) (hp : PicOk p) (hA : Ap = none → p.s.length = 0 ∧ cp = 0) (A : Option Addr) (c : Nat) (l : List Pt) (hv : CvOk l) (w : World) (hr : Rd w Ap (p.s.map (.float .f32))) (hrl : Rd w A (l.flatMap ptC)) : Calls Tryz.prog 95 #[.slice A l.length c, .agg #[.string p.nm, .int .i64 p.w, .int .i64 p.h, .slice Ap p.s.length cp]] w fun r w' => ∃ v, r = .returned v ∧ Below w.heap.size w w' ∧ PicA w w' v (tuP (valF l) p) := by
  refine calls_of (args := [.slice A l.length c, .agg #[.string p.nm, .int .i64 p.w, .int .i64 p.h, .slice Ap p.s.length cp]]) T_ok Tryz.func95 rfl Tryz.ntmps95 (Nat.le_of_ble_eq_true rfl) rfl ?_
  obtain ⟨h4, h0⟩ := pic_len hp
  repeat' (first
 | (refine C_id ?_; first
 | refine C_seq ?_
 | refine C_region rfl ?_
 | refine C_block ?_
   )
 | (refine S_id ?_; first
 | (refine S_callRws (f := 142) rfl obQ (by kernel_rfl) (fun w hw => rOwnR_c p Ap cp hs h0 hA w (hw.rdm hr.toS memQ)) (fun v rs hR => ?_); obtain ⟨g, cR, rfl, rfl⟩ := hR)
 | refine S_nil ?_
 | refine S_run rfl rfl obQ obQ ?_
 | refine S_box (fun b => ⟨_, _, rfl, obQ, ?_⟩)
   )
 | (refine G_id ?_; first
 | refine G_then ?_
   )
   )
  rename_i b3 b4
  obtain ⟨b5, rfl⟩ : ∃ z, z = b := ⟨b, rfl⟩
  refine C_loopS (fun k : Nat => ⟨[(6, .s (.v (.int .i64 k))), (0, .s (.v (.slice A l.length c))), (3, .s (.p b3 0 0)), (4, .s (.p b4 1 0)), (5, .s (.p b5 2 0))], [⟨b3, 93, [.v (.string p.nm), .v (.int .i64 p.w), .v (.int .i64 p.h), .v (.slice Ap p.s.length cp)]⟩, ⟨b4, 93, [.v (.string ByteArray.empty), .v (.int .i64 0), .v (.int .i64 0), .v (.slice none 0 0)]⟩, ⟨b5, 93, [.v (.string p.nm), .v (.int .i64 p.w), .v (.int .i64 p.h), .v (.slice (some ⟨g, 0, none⟩) p.s.length cR)]⟩], [⟨114, 1, p.s.length, (upX p.s (fun j => smp (valF l (lvl (gB p.s j)))) k).map (.float .f32), .slice (some ⟨g, 0, none⟩) p.s.length cR⟩]⟩) (fun k => k ≤ p.s.length) (fun k => p.s.length - k) 0 (Nat.zero_le _) ?_ (fun k hk0 => ?_)
  · rw [upX_0]
    exact ⟨⟨_, rfl, obQ⟩, ⟨_, rfl⟩, rfl, pstQ⟩
  have hk : k ≤ p.s.length := hk0
  by_cases hlt : k < p.s.length
  · obtain ⟨adp, rfl⟩ := hr.some (by simp; omega)
    have hsm := hp.s _ (gB_mem hlt)
    have hlv := hsm.lv
    have hbd := valF_lv hv (lvl (gB p.s k))
    repeat' (first
 | (refine C_id ?_; first
 | refine C_seq ?_
 | refine C_region rfl ?_
 | refine C_block ?_
 | refine C_skip ?_
 | refine C_drawT (id := 5) 13 rfl mixed (by kernel_rfl) rfl rfl ?_
 | (refine C_cond rfl obQ (fun h => ?_) (fun h => ?_) <;> (try simp only [Bool.or_eq_true, Bool.and_eq_true, Bool.or_eq_false_iff, Bool.and_eq_false_iff, decide_eq_true_eq, decide_eq_false_iff_not, beq_iff_eq, bne_iff_ne, beq_eq_false_iff_ne, bne_eq_false_iff_eq, ne_eq, Decidable.not_not, List.cons.injEq, and_true, Bool.not_eq_true', Bool.not_eq_false', Int.not_lt, Int.not_le] at h) <;> (try (exfalso; omega)) <;> (try (exfalso; simp at h; done)) <;> (try (exfalso; simp only [not_true_eq_false, false_or, or_false] at h; omega)) <;> (try (exfalso; omega)))
     )
 | (refine S_id ?_; first
 | refine S_storeRow rfl obQ rfl rfl rfl 0 rfl rfl (((k : Nat) : Int).toNat * 1) rfl (by dsimp only; rw [List.length_map, upX_len]; omega) (xs' := (upX p.s (fun j => smp (valF l (lvl (gB p.s j)))) (k + 1)).map (.float .f32)) (upX_put (f := (fun j => smp (valF l (lvl (gB p.s j))))) rfl hlt) rfl ?_
 | refine S_nil ?_
 | refine S_run rfl rfl obQ obQ ?_
     )
 | (refine D_id ?_; first
 | refine D_load rfl obQ rfl [.float .f32 (gB p.s k)] (.past _ memQ _ _ hr.toS _ _ rfl rfl (gB_idxZ (k := k) rfl hlt)) rfl (.inr ⟨rfl, rfl⟩) ?_
 | refine D_tail ?_
 | refine D_run rfl rfl obQ obQ ?_
 | refine D_call (f := 98) rfl obQ (by kernel_rfl) (fun w hw => sixteenths_c (gB p.s k) hsm.fin hsm.bd w) ?_
 | refine D_call (f := 30) rfl obQ (by kernel_rfl) (fun w hw => rValue_c A c l (lvl (gB p.s k)) hv w (hw.rdm hrl.toS memQ)) ?_
 | refine D_call (f := 99) rfl obQ (by kernel_rfl) (fun w hw => rSample_c (valF l (lvl (gB p.s k))) hbd w) ?_
     )
 | (refine G_id ?_; first
 | refine G_loop (k + 1) (show k + 1 ≤ p.s.length by omega) (by show p.s.length - (k + 1) < p.s.length - k; omega) ⟨⟨_, rfl, obQ⟩, ⟨_, rfl⟩, rfl, pstQ⟩
 | refine G_then ?_
 | refine G_block ?_
     )
     )
  · obtain rfl : k = p.s.length := by omega
    repeat' (first
 | (refine C_id ?_; first
 | refine C_seq ?_
 | refine C_region rfl ?_
 | refine C_exit ?_
 | refine C_ret0 ?_
 | (refine C_cond rfl obQ (fun h => ?_) (fun h => ?_) <;> (try simp only [Bool.or_eq_true, Bool.and_eq_true, Bool.or_eq_false_iff, Bool.and_eq_false_iff, decide_eq_true_eq, decide_eq_false_iff_not, beq_iff_eq, bne_iff_ne, beq_eq_false_iff_ne, bne_eq_false_iff_eq, ne_eq, Decidable.not_not, List.cons.injEq, and_true, Bool.not_eq_true', Bool.not_eq_false', Int.not_lt, Int.not_le] at h) <;> (try (exfalso; omega)) <;> (try (exfalso; simp at h; done)) <;> (try (exfalso; simp only [not_true_eq_false, false_or, or_false] at h; omega)) <;> (try (exfalso; omega)))
     )
 | (refine S_id ?_; first
 | refine S_nil ?_
 | refine S_run rfl rfl obQ obQ ?_
     )
 | (refine G_id ?_; first
 | refine G_then ?_
 | refine G_blockX ?_
 | refine G_thenX ?_
 | refine G_ret rfl obQ (fun w2 hw => ⟨_, rfl, hw.below, PicA.of (s := (tuP (valF l) p).s) (HW.rowSl (i := 0) hw rfl rfl rfl (by rw [upX_end, map_gB (fun x => smp (valF l (lvl x)))]; rfl)) (by simp [tuP]) rfl⟩)
     )
     )


theorem rSampleE_c {n m : Int} (e : n = m) (hn : -16384 ≤ m ∧ m ≤ 16384) (w : World) : Calls Tryz.prog 99 #[.int .i64 n] w fun r w' => r = .returned (.float .f32 (smp m)) ∧ Below w.heap.size w w' := by
  subst e
  exact rSample_c n hn w

set_option maxHeartbeats 1000000 in
/-- genlockref02.Clipped -/
theorem rClipped_c (p : Pic) (Ap : Option Addr) (cp : Nat) (hs : p.s.length ≤ 1000000) (hp : PicOk p) (hA : Ap = none → p.s.length = 0 ∧ cp = 0) (lo hi : Int) (hI : ivE lo hi = 0) (w : World) (hr : Rd w Ap (p.s.map (.float .f32)))  : Calls Tryz.prog 96 #[.agg #[.string p.nm, .int .i64 p.w, .int .i64 p.h, .slice Ap p.s.length cp], .agg #[.int .i64 lo, .int .i64 hi]] w fun r w' => ∃ v, r = .returned v ∧ Below w.heap.size w w' ∧ PicA w w' v (tuP (clF lo hi) p) := by
  refine calls_of (args := [.agg #[.string p.nm, .int .i64 p.w, .int .i64 p.h, .slice Ap p.s.length cp], .agg #[.int .i64 lo, .int .i64 hi]]) T_ok Tryz.func96 rfl Tryz.ntmps96 (Nat.le_of_ble_eq_true rfl) rfl ?_
  obtain ⟨h4, h0⟩ := pic_len hp
  repeat' (first
 | (refine C_id ?_; first
 | refine C_seq ?_
 | refine C_region rfl ?_
 | refine C_block ?_
   )
 | (refine S_id ?_; first
 | (refine S_callRws (f := 142) rfl obQ (by kernel_rfl) (fun w hw => rOwnR_c p Ap cp hs h0 hA w (hw.rdm hr.toS memQ)) (fun v rs hR => ?_); obtain ⟨g, cR, rfl, rfl⟩ := hR)
 | refine S_nil ?_
 | refine S_run rfl rfl obQ obQ ?_
 | refine S_box (fun b => ⟨_, _, rfl, obQ, ?_⟩)
   )
 | (refine G_id ?_; first
 | refine G_then ?_
   )
   )
  rename_i b2 b3 b4
  obtain ⟨b5, rfl⟩ : ∃ z, z = b := ⟨b, rfl⟩
  have hiv := ivE_ok hI
  refine C_loopS (fun k : Nat => ⟨[(6, .s (.v (.int .i64 k))), (2, .s (.p b2 0 0)), (3, .s (.p b3 1 0)), (4, .s (.p b4 2 0)), (5, .s (.p b5 3 0))], [⟨b2, 93, [.v (.string p.nm), .v (.int .i64 p.w), .v (.int .i64 p.h), .v (.slice Ap p.s.length cp)]⟩, ⟨b3, 73, [.v (.int .i64 lo), .v (.int .i64 hi)]⟩, ⟨b4, 93, [.v (.string ByteArray.empty), .v (.int .i64 0), .v (.int .i64 0), .v (.slice none 0 0)]⟩, ⟨b5, 93, [.v (.string p.nm), .v (.int .i64 p.w), .v (.int .i64 p.h), .v (.slice (some ⟨g, 0, none⟩) p.s.length cR)]⟩], [⟨114, 1, p.s.length, (upX p.s (fun j => smp (clF lo hi (lvl (gB p.s j)))) k).map (.float .f32), .slice (some ⟨g, 0, none⟩) p.s.length cR⟩]⟩) (fun k => k ≤ p.s.length) (fun k => p.s.length - k) 0 (Nat.zero_le _) ?_ (fun k hk0 => ?_)
  · rw [upX_0]
    exact ⟨⟨_, rfl, obQ⟩, ⟨_, rfl⟩, rfl, pstQ⟩
  have hk : k ≤ p.s.length := hk0
  by_cases hlt : k < p.s.length
  · obtain ⟨adp, rfl⟩ := hr.some (by simp; omega)
    have hsm := hp.s _ (gB_mem hlt)
    have hlv := hsm.lv
    have hbd := clF_bd hI (lvl (gB p.s k))
    repeat' (first
 | (refine C_id ?_; first
 | refine C_seq ?_
 | refine C_region rfl ?_
 | refine C_block ?_
 | refine C_skip ?_
 | refine C_drawT (id := 5) 17 rfl mixed (by kernel_rfl) rfl rfl ?_
 | (refine C_cond rfl obQ (fun h => ?_) (fun h => ?_) <;> (try simp only [Bool.or_eq_true, Bool.and_eq_true, Bool.or_eq_false_iff, Bool.and_eq_false_iff, decide_eq_true_eq, decide_eq_false_iff_not, beq_iff_eq, bne_iff_ne, beq_eq_false_iff_ne, bne_eq_false_iff_eq, ne_eq, Decidable.not_not, List.cons.injEq, and_true, Bool.not_eq_true', Bool.not_eq_false', Int.not_lt, Int.not_le] at h) <;> (try (exfalso; omega)) <;> (try (exfalso; simp at h; done)) <;> (try (exfalso; simp only [not_true_eq_false, false_or, or_false] at h; omega)) <;> (try (exfalso; omega)))
     )
 | (refine S_id ?_; first
 | refine S_storeRow rfl obQ rfl rfl rfl 0 rfl rfl (((k : Nat) : Int).toNat * 1) rfl (by dsimp only; rw [List.length_map, upX_len]; omega) (xs' := (upX p.s (fun j => smp (clF lo hi (lvl (gB p.s j)))) (k + 1)).map (.float .f32)) (upX_put (f := (fun j => smp (clF lo hi (lvl (gB p.s j))))) rfl hlt) rfl ?_
 | refine S_nil ?_
 | refine S_run rfl rfl obQ obQ ?_
     )
 | (refine D_id ?_; first
 | refine D_load rfl obQ rfl [.float .f32 (gB p.s k)] (.past _ memQ _ _ hr.toS _ _ rfl rfl (gB_idxZ (k := k) rfl hlt)) rfl (.inr ⟨rfl, rfl⟩) ?_
 | refine D_tail ?_
 | refine D_run rfl rfl obQ obQ ?_
 | refine D_call (f := 98) rfl obQ (by kernel_rfl) (fun w hw => sixteenths_c (gB p.s k) hsm.fin hsm.bd w) ?_
 | refine D_call (f := 99) rfl obQ (by kernel_rfl) (fun w hw => rSampleE_c (show max lo (min hi (lvl (gB p.s k))) = clF lo hi (lvl (gB p.s k)) by unfold clF; omega) hbd w) ?_
     )
 | (refine G_id ?_; first
 | refine G_loop (k + 1) (show k + 1 ≤ p.s.length by omega) (by show p.s.length - (k + 1) < p.s.length - k; omega) ⟨⟨_, rfl, obQ⟩, ⟨_, rfl⟩, rfl, pstQ⟩
 | refine G_then ?_
 | refine G_block ?_
     )
     )
  · obtain rfl : k = p.s.length := by omega
    repeat' (first
 | (refine C_id ?_; first
 | refine C_seq ?_
 | refine C_region rfl ?_
 | refine C_exit ?_
 | refine C_ret0 ?_
 | (refine C_cond rfl obQ (fun h => ?_) (fun h => ?_) <;> (try simp only [Bool.or_eq_true, Bool.and_eq_true, Bool.or_eq_false_iff, Bool.and_eq_false_iff, decide_eq_true_eq, decide_eq_false_iff_not, beq_iff_eq, bne_iff_ne, beq_eq_false_iff_ne, bne_eq_false_iff_eq, ne_eq, Decidable.not_not, List.cons.injEq, and_true, Bool.not_eq_true', Bool.not_eq_false', Int.not_lt, Int.not_le] at h) <;> (try (exfalso; omega)) <;> (try (exfalso; simp at h; done)) <;> (try (exfalso; simp only [not_true_eq_false, false_or, or_false] at h; omega)) <;> (try (exfalso; omega)))
     )
 | (refine S_id ?_; first
 | refine S_nil ?_
 | refine S_run rfl rfl obQ obQ ?_
     )
 | (refine G_id ?_; first
 | refine G_then ?_
 | refine G_blockX ?_
 | refine G_thenX ?_
 | refine G_ret rfl obQ (fun w2 hw => ⟨_, rfl, hw.below, PicA.of (s := (tuP (clF lo hi) p).s) (HW.rowSl (i := 0) hw rfl rfl rfl (by rw [upX_end, map_gB (fun x => smp (clF lo hi (lvl x)))]; rfl)) (by simp [tuP]) rfl⟩)
     )
     )

end Go.Proofs.YtdbffbcobghbeaaGreatDoor
namespace Go.Proofs.YtdbffbcobghbeaaGreatDoor
open Go.E Go.RowKit Go.Fl
attribute [local irreducible] G C S D Calls
set_option maxRecDepth 100000
set_option linter.unusedSimpArgs false
set_option linter.unusedVariables false

theorem rnd_zero {d : Int} (hd : 0 < d) : rnd 0 d = 0 := by
  unfold rnd
  exact ediv_of (by omega) (by omega) (by omega)
theorem rnd_all {d e : Int} (hd : 0 < d) : rnd (e * d) d = e := by
  unfold rnd
  have : e * (2 * d) = 2 * (e * d) := by rw [← Int.mul_assoc, Int.mul_comm e 2, Int.mul_assoc]
  exact ediv_of (by omega) (by omega) (by rw [Int.add_mul, Int.one_mul]; omega)
theorem rnd_mono {a b d : Int} (hd : 0 < d) (h : a ≤ b) : rnd a d ≤ rnd b d := by
  unfold rnd
  exact Int.ediv_le_ediv (by omega) (by omega)
/-- A curve keeps its points. -/
theorem valF_pt {l : List Pt} (h : CvOk l) {k : Nat} (hk : k < l.length) : valF l (gP l k).1 = (gP l k).2 := by
  rcases Nat.eq_zero_or_pos k with rfl | h0
  · exact valF_low (Int.le_refl _)
  · have hu := h.up k h0 hk
    rw [valF_at h0 hk (fun j hj => by
      have h1 := (h.mono (show j ≤ k - 1 by omega) (by omega)).1
      omega) (Int.le_refl _)]
    unfold segF
    rw [rnd_all (by omega)]
    omega
theorem segF_mono {p q : Pt} {n m : Int} (h3 : p.1 < q.1) (h4 : p.2 < q.2) (h : n ≤ m) : segF p q n ≤ segF p q m := by
  unfold segF
  have h1 := Int.mul_le_mul_of_nonneg_left (show n - p.1 ≤ m - p.1 by omega) (show 0 ≤ q.2 - p.2 by omega)
  have h2 := rnd_mono (d := q.1 - p.1) (by omega) h1
  omega
/-- A curve never descends. -/
theorem valF_mono {l : List Pt} (h : CvOk l) {n m : Int} (hnm : n ≤ m) : valF l n ≤ valF l m := by
  have hlo := h.lo
  have hbn := valF_bd h n
  have hbm := valF_bd h m
  rcases val_cases h n with ⟨_, e⟩ | ⟨i, i1, i2, i3, i4, e⟩ | ⟨g, e⟩
  · rw [e]; exact hbm.1
  · rcases val_cases h m with ⟨g', _⟩ | ⟨j, j1, j2, j3, j4, e'⟩ | ⟨_, e'⟩
    · have := (h.mono (show 0 ≤ i - 1 by omega) (by omega)).1
      omega
    · rcases Nat.lt_trichotomy i j with hij | hij | hij
      · have hs := segF_bd (p := gP l (i - 1)) (q := gP l i) (n := n) (by omega) i4 (h.up i i1 i2).1 (h.up i i1 i2).2
        have hs' := segF_bd (p := gP l (j - 1)) (q := gP l j) (n := m) (by omega) j4 (h.up j j1 j2).1 (h.up j j1 j2).2
        have := (h.mono (show i ≤ j - 1 by omega) (by omega)).2
        rw [e, e']
        omega
      · subst hij
        rw [e, e']
        exact segF_mono (h.up i i1 i2).1 (h.up i i1 i2).2 hnm
      · have := (h.mono (show j ≤ i - 1 by omega) (by omega)).1
        omega
    · rw [e']; exact hbn.2
  · rcases val_cases h m with ⟨g', _⟩ | ⟨j, j1, j2, j3, j4, _⟩ | ⟨_, e'⟩
    · have := (h.mono (show 0 ≤ l.length - 1 by omega) (by omega)).1
      omega
    · have := (h.mono (show j ≤ l.length - 1 by omega) (by omega)).1
      omega
    · rw [e, e']; exact Int.le_refl _
theorem inv_inv (l : List Pt) : invF (invF l) = l := by
  unfold invF
  rw [List.map_map]
  conv => rhs; rw [← List.map_id l]
  exact List.map_congr_left fun p _ => rfl
/-- Nowhere flatter than the diagonal. -/
def stpB (l : List Pt) (k : Nat) : Bool := decide (k = 0) || decide ((gP l k).1 - (gP l (k - 1)).1 ≤ (gP l k).2 - (gP l (k - 1)).2)
/-- There and back, on a segment that is no flatter than the diagonal. -/
theorem seg_back {dI dO t : Int} (hI : 0 < dI) (hO : dI ≤ dO) (ht : 0 < t ∧ t ≤ dI) : t ≤ rnd (dO * t) dI ∧ rnd (dI * rnd (dO * t) dI) dO = t := by
  obtain ⟨y, hy⟩ : ∃ y, y = rnd (dO * t) dI := ⟨_, rfl⟩
  have e0 : rnd (dO * t) dI = (2 * (dO * t) + dI) / (2 * dI) := rfl
  rw [← hy]
  rw [← hy] at e0
  have d1 := Int.mul_ediv_add_emod (2 * (dO * t) + dI) (2 * dI)
  have d2 := Int.emod_nonneg (2 * (dO * t) + dI) (show 2 * dI ≠ 0 by omega)
  have d3 := Int.emod_lt_of_pos (2 * (dO * t) + dI) (show 0 < 2 * dI by omega)
  rw [← e0] at d1
  obtain ⟨r, hr⟩ : ∃ r, r = (2 * (dO * t) + dI) % (2 * dI) := ⟨_, rfl⟩
  rw [← hr] at d1 d2 d3
  have c1 : 2 * dI * y = 2 * (dI * y) := Int.mul_assoc _ _ _
  rw [c1] at d1
  have c2 : (t + 1) * (2 * dO) = 2 * (dO * t) + 2 * dO := by
    rw [Int.add_mul, Int.one_mul, ← Int.mul_assoc, Int.mul_comm t 2, Int.mul_assoc, Int.mul_comm t dO]
  have c3 : t * (2 * dO) = 2 * (dO * t) := by rw [← Int.mul_assoc, Int.mul_comm t 2, Int.mul_assoc, Int.mul_comm t dO]
  constructor
  · rw [e0, Int.le_ediv_iff_mul_le (by omega)]
    have := Int.mul_le_mul_of_nonneg_right hO (show 0 ≤ t by omega)
    have c4 : t * (2 * dI) = 2 * (dI * t) := by rw [← Int.mul_assoc, Int.mul_comm t 2, Int.mul_assoc, Int.mul_comm t dI]
    omega
  · unfold rnd
    refine ediv_of (by omega) ?_ ?_
    · rw [c3]; omega
    · rw [c2]
      rcases Int.lt_or_eq_of_le hO with hlt | heq
      · omega
      · subst heq
        have : y = t := by
          rw [hy, Int.mul_comm]
          exact rnd_all hI
        subst this
        omega
/-- What lies between the ends of such a curve survives. -/
theorem steep_surv {l : List Pt} (h : CvOk l) (hst : ∀ k, k < l.length → stpB l k = true) {n : Int} (h1 : (gP l 0).1 ≤ n) (h2 : n ≤ (gP l (l.length - 1)).1) : survF l n = true := by
  have hlo := h.lo
  have hil : (invF l).length = l.length := by simp [invF]
  refine decide_eq_true ?_
  rcases val_cases h n with ⟨g, e⟩ | ⟨k, k1, k2, k3, k4, e⟩ | ⟨g, _⟩
  · rw [e, valF_low (by rw [gP_inv (by omega)]; exact Int.le_refl _), gP_inv (by omega)]
    show (gP l 0).1 = n
    omega
  · have hu := h.up k k1 k2
    have hs := hst k k2
    simp only [stpB, Bool.or_eq_true, decide_eq_true_eq] at hs
    have hb := seg_back (dI := (gP l k).1 - (gP l (k - 1)).1) (dO := (gP l k).2 - (gP l (k - 1)).2) (t := n - (gP l (k - 1)).1) (by omega) (by omega) (by omega)
    have hsb := segF_bd (p := gP l (k - 1)) (q := gP l k) (n := n) (by omega) k4 hu.1 hu.2
    have hy : segF (gP l (k - 1)) (gP l k) n = (gP l (k - 1)).2 + rnd (((gP l k).2 - (gP l (k - 1)).2) * (n - (gP l (k - 1)).1)) ((gP l k).1 - (gP l (k - 1)).1) := rfl
    rw [e, valF_at k1 (by omega) (fun j hj => ?_) (by rw [gP_inv k2]; exact hsb.2), gP_inv k2, gP_inv (by omega)]
    · show (gP l (k - 1)).1 + rnd (((gP l k).1 - (gP l (k - 1)).1) * (segF (gP l (k - 1)) (gP l k) n - (gP l (k - 1)).2)) ((gP l k).2 - (gP l (k - 1)).2) = n
      rw [hy, Int.add_comm (gP l (k - 1)).2, Int.add_sub_cancel, hb.2]
      omega
    · rw [gP_inv (by omega)]
      show (gP l j).2 < _
      have := (h.mono (show j ≤ k - 1 by omega) (by omega)).2
      omega
  · omega

end Go.Proofs.YtdbffbcobghbeaaGreatDoor
namespace Go.Proofs.YtdbffbcobghbeaaGreatDoor
open Go.E Go.RowKit Go.Fl
attribute [local irreducible] G C S D DY DS V VT Yl QV QT Calls
set_option maxRecDepth 100000
set_option linter.unusedSimpArgs false
set_option linter.unusedVariables false

set_option maxHeartbeats 400000 in
/-- genlockref02.CheckCurve -/
theorem rCheckCurveHi_c (A : Option Addr) (c : Nat) (l : List Pt) (h16 : 16 < l.length) (hmax : l.length ≤ maxLen) (w : World) : Calls Tryz.prog 26 #[.slice A l.length c] w fun r w' => r = .returned (.int .i64 5) ∧ Below w.heap.size w w' := by
  refine calls_of (args := [.slice A l.length c]) T_ok Tryz.func26 rfl Tryz.ntmps26 (Nat.le_of_ble_eq_true rfl) rfl ?_
  unfold maxLen at hmax
  repeat' (first
 | (refine C_id ?_; first
 | refine C_seq ?_
 | refine C_region rfl ?_
 | refine C_block ?_
 | refine C_skip ?_
 | refine C_exit ?_
 | refine C_ret0 ?_
 | refine C_drawT (id := 8) 12 rfl mixed (by kernel_rfl) rfl rfl ?_
 | refine C_draw (id := 11) rfl mixed (by kernel_rfl) ?_
 | refine C_condT rfl obQ ?_
 | refine C_condF rfl obQ ?_
 | (refine C_cond rfl obQ (fun h => ?_) (fun h => ?_) <;> (try simp only [Bool.or_eq_true, Bool.and_eq_true, Bool.or_eq_false_iff, Bool.and_eq_false_iff, decide_eq_true_eq, decide_eq_false_iff_not, beq_iff_eq, bne_iff_ne, beq_eq_false_iff_ne, bne_eq_false_iff_eq, ne_eq, Decidable.not_not, List.cons.injEq, and_true, Bool.not_eq_true', Bool.not_eq_false', Int.not_lt, Int.not_le] at h) <;> (try (exfalso; omega)))
 )
 | (refine S_id ?_; first
 | fail
 | refine S_nil ?_
 | refine S_run rfl rfl obQ obQ ?_
 | refine S_slice (fun b => ⟨_, _, rfl, obQ, ?_⟩)
 )
 | (refine D_id ?_; first
 | refine D_nil ?_
 | refine D_tail ?_
 | refine D_run rfl rfl obQ obQ ?_
 )
 | (refine G_id ?_; first
 | refine G_then ?_
 | refine G_block ?_
 | refine G_blockX ?_
 | refine G_blockN rfl ?_
 | refine G_blockR ?_
 | refine G_thenR ?_
 | refine G_thenX ?_
 | refine G_ret rfl obQ (fun w hw => ⟨?_, hw.below⟩)
 )
 )
  all_goals rfl

theorem neqV {P : Program} {t : TypeId} {a b : Bool} (ht : P.underlying t = some .bool) (x y : Operand) (w : World) : (do eqGuard .neq t x y (.bool a) (.bool b); binOp .neq t (.bool a) (.bool b) : Sem Value).run P w = .ok (.bool (a != b)) w := by
  have hg : (eqGuard .neq t x y (.bool a) (.bool b)).run P w = .ok () w := by unfold eqGuard; simp
  simp only [Sem.run_bind, hg, Result.andThen_ok]
  have he : (Op.equalIn Op.maxDepth t (.bool a) (.bool b)).run P w = .ok (a == b) w := Go.run_equalIn_bool' (w := w) (P := P) 9999 t a b ht
  simp only [binOp, Op.equal]
  simp [Sem.run_bind, he, bne]
/-- Nowhere flatter than the diagonal, up to there. -/
def stF (l : List Pt) (k : Nat) : Bool := (List.range k).all (stpB l)
theorem stF_s (l : List Pt) (k : Nat) : stF l (k + 1) = (stF l k && stpB l k) := by
  unfold stF
  rw [List.range_succ, List.all_append]
  simp
theorem stF_all {l : List Pt} {n : Nat} (h : stF l n = true) : ∀ k, k < n → stpB l k = true := by
  unfold stF at h
  rw [List.all_eq_true] at h
  exact fun k hk => h k (List.mem_range.2 hk)
theorem val_ok {l : List Pt} (h : CvOk l) {n : Int} (hn : -16384 ≤ n ∧ n ≤ 16384) : vE l n = 0 := by
  unfold vE
  rw [firstL_zero]
  simp only [List.mem_cons, List.mem_nil_iff, or_false, forall_eq_or_imp, forall_eq, curve_ok, lvE, wi_eq]
  exact ⟨h, hn⟩
theorem valR_ok {l : List Pt} (h : CvOk l) {n : Int} (hn : -16384 ≤ n ∧ n ≤ 16384) : valR l n = (valF l n, 0) := if_pos (val_ok h hn)
theorem iv_zero {lo hi : Int} (h1 : -16384 ≤ lo ∧ lo ≤ 16384) (h2 : -16384 ≤ hi ∧ hi ≤ 16384) (h3 : lo ≤ hi) : ivE lo hi = 0 := by
  unfold ivE
  rw [firstL_zero]
  simp only [List.mem_cons, List.mem_nil_iff, or_false, forall_eq_or_imp, forall_eq, lvE, wi_eq, wh_zero (show (11 : Int) ≠ 0 by omega), decide_eq_false_iff_not]
  omega
theorem cl_zero {p : Pic} {lo hi : Int} (hp : PicOk p) (h : ivE lo hi = 0) : clE p lo hi = 0 := by
  unfold clE
  rw [firstL_zero]
  simp only [List.mem_cons, List.mem_nil_iff, or_false, forall_eq_or_imp, forall_eq]
  exact ⟨pic_ok.2 hp, h⟩
theorem ap_zero {p : Pic} {l : List Pt} (hp : PicOk p) (h : CvOk l) : apE l p = 0 := by
  unfold apE
  rw [firstL_zero]
  simp only [List.mem_cons, List.mem_nil_iff, or_false, forall_eq_or_imp, forall_eq]
  exact ⟨curve_ok.2 h, pic_ok.2 hp⟩
theorem tuP_ok {f : Int → Int} {p : Pic} (hp : PicOk p) (hf : ∀ n, -16384 ≤ f n ∧ f n ≤ 16384) : PicOk (tuP f p) := ⟨hp.nm, hp.w, hp.h, by rw [tuP_len]; exact hp.n, tuP_fin hf⟩
theorem tuP_cl {f : Int → Int} {p : Pic} {lo hi : Int} (hf : ∀ n, lo ≤ f n ∧ f n ≤ hi) (h1 : -16384 ≤ lo) (h2 : hi ≤ 16384) : tuP (clF lo hi) (tuP f p) = tuP f p := by
  have : ((tuP f p).s.map fun x => smp (clF lo hi (lvl x))) = (tuP f p).s := by
    simp only [tuP, List.map_map]
    refine List.map_congr_left fun x _ => ?_
    have := hf (lvl x)
    show smp (clF lo hi (lvl (smp (f (lvl x))))) = smp (f (lvl x))
    rw [smp_lvl (by omega), show clF lo hi (f (lvl x)) = f (lvl x) by unfold clF; omega]
  show (⟨p.nm, p.w, p.h, (tuP f p).s.map fun x => smp (clF lo hi (lvl x))⟩ : Pic) = tuP f p
  rw [this]
  rfl
theorem smp_self {n : Int} (h : -16384 ≤ n ∧ n ≤ 16384) : (FloatKind.f32.format.order (smp n) (smp n) != some .eq) = false := by
  rw [show FloatKind.f32.format = Ieee.single from rfl, order32 (smp_Smp h).fin (smp_Smp h).fin, cmp_ne]
  simp
theorem tuP_gB {f : Int → Int} {p : Pic} {k : Nat} (h : k < p.s.length) : gB (tuP f p).s k = smp (f (lvl (gB p.s k))) := by
  rw [gB_at (by rw [tuP_len]; exact h), gB_at h]
  simp [tuP]
theorem rdS_some {S : Nat → Prop} {W : World} {A : Option Addr} {xs : List Value} (h : RdS S W A xs) (h0 : 0 < xs.length) : ∃ a, A = some a := by
  rcases h with h | ⟨ad, h, _⟩
  · rw [h] at h0; simp at h0
  · exact ⟨ad, h⟩
theorem inv_len (l : List Pt) : (invF l).length = l.length := by simp [invF]
section
variable {A Ap : Option Addr} {c cp n : Nat} {l : List Pt} {p : Pic} {lo hi : Int} {w : World}
theorem rck_as {e : Int} (h : curveE l = e) (hn : l.length = n) (hmax : n ≤ maxLen) (hr : Rd w A (l.flatMap ptC)) : Calls Tryz.prog 26 #[.slice A n c] w fun r w' => r = .returned (.int .i64 e) ∧ Below w.heap.size w w' := by
  subst h hn
  by_cases h : l.length ≤ 1000000
  · exact rCheckCurve_c A c l h w hr
  · have := rCheckCurveHi_c A c l (by omega) hmax w
    rwa [curveE_hi (by omega)]
theorem value_as {x v e : Int} (h : valR l x = (v, e)) (hn : l.length = n) (hl : n ≤ 1000000) (hr : Rd w A (l.flatMap ptC)) : Calls Tryz.prog 21 #[.slice A n c, .int .i64 x] w fun r w' => r = .returned (.tuple #[.int .i64 v, .int .i64 e]) ∧ Below w.heap.size w w' := by
  subst hn
  have := Value_c A c l hl x w hr
  rw [h] at this
  exact this
theorem survives_as {x e : Int} {v : Bool} (h : survR l x = (v, e)) (hl : l.length ≤ 1000000) (hr : Rd w A (l.flatMap ptC)) : Calls Tryz.prog 24 #[.slice A l.length c, .int .i64 x] w fun r w' => r = .returned (.tuple #[.bool v, .int .i64 e]) ∧ Below w.heap.size w w' := by
  have := Survives_c A c l hl x w hr
  rw [h] at this
  exact this
theorem inverse_as {xs : List Pt} {e : Int} {m : Nat} (h : invR l = (xs, e)) (hn : l.length = n) (hm : xs.length = m) (hl : n ≤ 1000000) (hr : Rd w A (l.flatMap ptC)) : Calls Tryz.prog 23 #[.slice A n c] w fun r w' => ∃ v, r = .returned v ∧ Below w.heap.size w w' ∧ Sl2 w w' v m (xs.flatMap ptC) (.int .i64 e) := by
  subst hm hn
  have := Inverse_c A c l hl w hr
  rw [h] at this
  exact this
theorem points_as {m : Nat} (hm : l.length = m) (hl : m ≤ 1000000) (hr : Rd w A (l.flatMap ptC)) : Calls Tryz.prog 37 #[.slice A m c] w fun r w' => ∃ v, r = .returned v ∧ Below w.heap.size w w' ∧ Sl w w' v m (l.flatMap ptC) := by
  subst hm
  exact lpoints_c A c l hl w hr
theorem app_as (h : apE l p = 0) (hs : p.s.length ≤ 1000000) (hl : l.length ≤ 1000000) (hr : Rd w Ap (p.s.map (.float .f32))) (hrl : Rd w A (l.flatMap ptC)) : Calls Tryz.prog 93 #[.slice A l.length c, .agg #[.string p.nm, .int .i64 p.w, .int .i64 p.h, .slice Ap p.s.length cp]] w fun r w' => ∃ v, r = .returned v ∧ Below w.heap.size w w' ∧ PicR w w' v (tuP (valF l) p) 0 := by
  have := Applied_c p Ap cp hs A c l hl w hr hrl
  simpa only [if_pos h] using this
theorem clp_as (h : clE p lo hi = 0) (he : tuP (clF lo hi) p = p) (hs : p.s.length ≤ 1000000) (hr : Rd w Ap (p.s.map (.float .f32))) : Calls Tryz.prog 94 #[.agg #[.string p.nm, .int .i64 p.w, .int .i64 p.h, .slice Ap p.s.length cp], .agg #[.int .i64 lo, .int .i64 hi]] w fun r w' => ∃ v, r = .returned v ∧ Below w.heap.size w w' ∧ PicR w w' v p 0 := by
  have := Clipped_c p Ap cp hs lo hi w hr
  rw [he] at this
  simpa only [if_pos h] using this
end

set_option maxHeartbeats 8000000 in
/-- genlocklaw02.ColourInverse -/
theorem lInverse_c (A Ap : Option Addr) (c cp : Nat) (l : List Pt) (p : Pic) (hmax : l.length ≤ maxLen) (hnm : p.nm.size ≤ maxLen) (hA : Ap = none → p.s.length = 0 ∧ cp = 0) (lev : Int) (w : World) (hrl : Rd w A (l.flatMap ptC)) (hr : Rd w Ap (p.s.map (.float .f32))) (hO : Ot w) (hP : Pw w) : Calls Tryz.prog 15 #[.slice A l.length c, .int .i64 lev, .agg #[.string p.nm, .int .i64 p.w, .int .i64 p.h, .slice Ap p.s.length cp]] w fun r w' => r = .returned (.bool true) ∧ Below w.heap.size w w' := by
  refine calls_of (args := [.slice A l.length c, .int .i64 lev, .agg #[.string p.nm, .int .i64 p.w, .int .i64 p.h, .slice Ap p.s.length cp]]) T_ok Tryz.func15 rfl Tryz.ntmps15 (Nat.le_of_ble_eq_true rfl) rfl ?_
  by_cases hE0 : curveE l = 0
  rotate_left
  · have hE : curveE l = curveE l := rfl
    repeat' (first
 | (refine C_id ?_; first
 | refine C_seq ?_
 | refine C_region rfl ?_
 | refine C_block ?_
 | refine C_skip ?_
 | refine C_exit ?_
 | refine C_ret0 ?_
 | refine C_draw (id := 8) rfl mixed (by kernel_rfl) ?_
 | refine C_draw (id := 11) rfl mixed (by kernel_rfl) ?_
 | refine C_drawT (id := 26) 8 rfl mixed (by kernel_rfl) rfl rfl ?_
 | refine C_drawT (id := 29) 16 rfl mixed (by kernel_rfl) rfl rfl ?_
 | refine C_draw (id := 36) rfl mixed (by kernel_rfl) ?_
 | refine C_condT rfl obQ ?_
 | refine C_condF rfl obQ ?_
 | (refine C_cond rfl obQ (fun h => ?_) (fun h => ?_) <;> (try simp only [Bool.or_eq_true, Bool.and_eq_true, Bool.or_eq_false_iff, Bool.and_eq_false_iff, decide_eq_true_eq, decide_eq_false_iff_not, beq_iff_eq, bne_iff_ne, beq_eq_false_iff_ne, bne_eq_false_iff_eq, ne_eq, Decidable.not_not, List.cons.injEq, and_true, Bool.not_eq_true', Bool.not_eq_false', Int.not_lt, Int.not_le] at h) <;> (try (exfalso; omega)) <;> (try (exfalso; simp at h; done)) <;> (try (exfalso; simp only [not_true_eq_false, false_or, or_false] at h; omega)) <;> (try contradiction))
     )
 | (refine S_id ?_; first
 | ((with_reducible (first | refine S_falseN ?_ ?_ | refine S_falseB ?_ ?_ | refine S_falseL ?_ ?_ | refine S_falseD ?_ ?_ | refine S_falseE ?_ ?_)); · (first | rfl | exact bne_self_eq_false _ | assumption | omega | exact decide_eq_false (by omega) | (simp only [bne_eq_false_iff_eq]; assumption) | (rw [tuP_len]; exact bne_self_eq_false _)))
 | ((with_reducible refine S_falseO ?_ ?_ ?_); (· rfl); (· first | rfl | (first | rfl | exact bne_self_eq_false _ | assumption | omega | exact decide_eq_false (by omega) | (simp only [bne_eq_false_iff_eq]; assumption) | (rw [tuP_len]; exact bne_self_eq_false _))))
 | ((with_reducible (first | refine S_trueE ?_ ?_ | refine S_trueB ?_ ?_ | refine S_trueL ?_ ?_ | refine S_trueD ?_ ?_ | refine S_trueN ?_ ?_)); · (first | exact beq_self_eq_true _ | rfl | omega | exact decide_eq_true (by omega) | (simp only [bne_iff_ne, ne_eq]; assumption)))
 | ((with_reducible refine S_trueA ?_ ?_ ?_); (· rfl); (· first | rfl | (first | exact beq_self_eq_true _ | rfl | omega | exact decide_eq_true (by omega) | (simp only [bne_iff_ne, ne_eq]; assumption))))
 | refine S_unG rfl rfl rfl rfl ?_
 | refine S_offG (.v (.bool false)) rfl rfl rfl rfl rfl ?_
 | ((with_reducible refine S_falseA ?_ ?_); · (first | rfl | exact decide_eq_false (by omega) | exact hsn))
 | ((with_reducible refine S_trueO ?_ ?_); · (first | rfl | exact bne_iff_ne.2 (by assumption)))
 | refine S_nil ?_
 | refine S_runN rfl rfl obQ obQ ?_
 | refine S_box (fun b5 => ⟨_, _, rfl, obQ, ?_⟩)
 | refine S_call (f := 20) rfl obQ (by kernel_rfl) (fun w hw => awake_c w (hw.rdm hO.toS memQ) (Pw_at hP hw memQ)) ?_
 | refine S_call (f := 26) rfl obQ (by kernel_rfl) (fun w hw => rck_as hE rfl hmax (hw.rdm hrl.toS memQ)) ?_
 | refine S_call (f := 28) rfl obQ (by kernel_rfl) (fun w hw => rCheckLevel_c lev w) ?_
 | refine S_call (f := 54) rfl obQ (by kernel_rfl) (fun w hw => rShortPicture_c p _ _ _ hSp w) ?_
     )
 | (refine D_id ?_; first
 | refine D_nil ?_
 | refine D_tail ?_
 | refine D_run rfl rfl obQ obQ ?_
 | refine D_call (f := 20) rfl obQ (by kernel_rfl) (fun w hw => awake_c w (hw.rdm hO.toS memQ) (Pw_at hP hw memQ)) ?_
 | refine D_call (f := 26) rfl obQ (by kernel_rfl) (fun w hw => rck_as hE rfl hmax (hw.rdm hrl.toS memQ)) ?_
 | refine D_call (f := 28) rfl obQ (by kernel_rfl) (fun w hw => rCheckLevel_c lev w) ?_
 | refine D_call (f := 54) rfl obQ (by kernel_rfl) (fun w hw => rShortPicture_c p _ _ _ hSp w) ?_
     )
 | (refine G_id ?_; first
 | refine G_then ?_
 | refine G_block ?_
 | refine G_blockX ?_
 | refine G_blockN rfl ?_
 | refine G_blockR ?_
 | refine G_thenR ?_
 | refine G_thenX ?_
 | refine G_ret rfl obQ (fun w hw => ⟨?_, hw.below⟩)
     )
     )
    all_goals rfl
  have hE : curveE l = 0 := hE0
  by_cases hlv : lvE lev = 0
  rotate_left
  · repeat' (first
 | (refine C_id ?_; first
 | refine C_seq ?_
 | refine C_region rfl ?_
 | refine C_block ?_
 | refine C_skip ?_
 | refine C_exit ?_
 | refine C_ret0 ?_
 | refine C_draw (id := 8) rfl mixed (by kernel_rfl) ?_
 | refine C_draw (id := 11) rfl mixed (by kernel_rfl) ?_
 | refine C_drawT (id := 26) 8 rfl mixed (by kernel_rfl) rfl rfl ?_
 | refine C_drawT (id := 29) 16 rfl mixed (by kernel_rfl) rfl rfl ?_
 | refine C_draw (id := 36) rfl mixed (by kernel_rfl) ?_
 | refine C_condT rfl obQ ?_
 | refine C_condF rfl obQ ?_
 | (refine C_cond rfl obQ (fun h => ?_) (fun h => ?_) <;> (try simp only [Bool.or_eq_true, Bool.and_eq_true, Bool.or_eq_false_iff, Bool.and_eq_false_iff, decide_eq_true_eq, decide_eq_false_iff_not, beq_iff_eq, bne_iff_ne, beq_eq_false_iff_ne, bne_eq_false_iff_eq, ne_eq, Decidable.not_not, List.cons.injEq, and_true, Bool.not_eq_true', Bool.not_eq_false', Int.not_lt, Int.not_le] at h) <;> (try (exfalso; omega)) <;> (try (exfalso; simp at h; done)) <;> (try (exfalso; simp only [not_true_eq_false, false_or, or_false] at h; omega)) <;> (try contradiction))
     )
 | (refine S_id ?_; first
 | ((with_reducible (first | refine S_falseN ?_ ?_ | refine S_falseB ?_ ?_ | refine S_falseL ?_ ?_ | refine S_falseD ?_ ?_ | refine S_falseE ?_ ?_)); · (first | rfl | exact bne_self_eq_false _ | assumption | omega | exact decide_eq_false (by omega) | (simp only [bne_eq_false_iff_eq]; assumption) | (rw [tuP_len]; exact bne_self_eq_false _)))
 | ((with_reducible refine S_falseO ?_ ?_ ?_); (· rfl); (· first | rfl | (first | rfl | exact bne_self_eq_false _ | assumption | omega | exact decide_eq_false (by omega) | (simp only [bne_eq_false_iff_eq]; assumption) | (rw [tuP_len]; exact bne_self_eq_false _))))
 | ((with_reducible (first | refine S_trueE ?_ ?_ | refine S_trueB ?_ ?_ | refine S_trueL ?_ ?_ | refine S_trueD ?_ ?_ | refine S_trueN ?_ ?_)); · (first | exact beq_self_eq_true _ | rfl | omega | exact decide_eq_true (by omega) | (simp only [bne_iff_ne, ne_eq]; assumption)))
 | ((with_reducible refine S_trueA ?_ ?_ ?_); (· rfl); (· first | rfl | (first | exact beq_self_eq_true _ | rfl | omega | exact decide_eq_true (by omega) | (simp only [bne_iff_ne, ne_eq]; assumption))))
 | refine S_unG rfl rfl rfl rfl ?_
 | refine S_offG (.v (.bool false)) rfl rfl rfl rfl rfl ?_
 | ((with_reducible refine S_falseA ?_ ?_); · (first | rfl | exact decide_eq_false (by omega) | exact hsn))
 | ((with_reducible refine S_trueO ?_ ?_); · (first | rfl | exact bne_iff_ne.2 (by assumption)))
 | refine S_nil ?_
 | refine S_runN rfl rfl obQ obQ ?_
 | refine S_box (fun b5 => ⟨_, _, rfl, obQ, ?_⟩)
 | refine S_call (f := 20) rfl obQ (by kernel_rfl) (fun w hw => awake_c w (hw.rdm hO.toS memQ) (Pw_at hP hw memQ)) ?_
 | refine S_call (f := 26) rfl obQ (by kernel_rfl) (fun w hw => rck_as hE rfl hmax (hw.rdm hrl.toS memQ)) ?_
 | refine S_call (f := 28) rfl obQ (by kernel_rfl) (fun w hw => rCheckLevel_c lev w) ?_
 | refine S_call (f := 54) rfl obQ (by kernel_rfl) (fun w hw => rShortPicture_c p _ _ _ hSp w) ?_
     )
 | (refine D_id ?_; first
 | refine D_nil ?_
 | refine D_tail ?_
 | refine D_run rfl rfl obQ obQ ?_
 | refine D_call (f := 20) rfl obQ (by kernel_rfl) (fun w hw => awake_c w (hw.rdm hO.toS memQ) (Pw_at hP hw memQ)) ?_
 | refine D_call (f := 26) rfl obQ (by kernel_rfl) (fun w hw => rck_as hE rfl hmax (hw.rdm hrl.toS memQ)) ?_
 | refine D_call (f := 28) rfl obQ (by kernel_rfl) (fun w hw => rCheckLevel_c lev w) ?_
 | refine D_call (f := 54) rfl obQ (by kernel_rfl) (fun w hw => rShortPicture_c p _ _ _ hSp w) ?_
     )
 | (refine G_id ?_; first
 | refine G_then ?_
 | refine G_block ?_
 | refine G_blockX ?_
 | refine G_blockN rfl ?_
 | refine G_blockR ?_
 | refine G_thenR ?_
 | refine G_thenX ?_
 | refine G_ret rfl obQ (fun w hw => ⟨?_, hw.below⟩)
     )
     )
    all_goals rfl
  cases hSp : shortB p
  · repeat' (first
 | (refine C_id ?_; first
 | refine C_seq ?_
 | refine C_region rfl ?_
 | refine C_block ?_
 | refine C_skip ?_
 | refine C_exit ?_
 | refine C_ret0 ?_
 | refine C_draw (id := 8) rfl mixed (by kernel_rfl) ?_
 | refine C_draw (id := 11) rfl mixed (by kernel_rfl) ?_
 | refine C_drawT (id := 26) 8 rfl mixed (by kernel_rfl) rfl rfl ?_
 | refine C_drawT (id := 29) 16 rfl mixed (by kernel_rfl) rfl rfl ?_
 | refine C_draw (id := 36) rfl mixed (by kernel_rfl) ?_
 | refine C_condT rfl obQ ?_
 | refine C_condF rfl obQ ?_
 | (refine C_cond rfl obQ (fun h => ?_) (fun h => ?_) <;> (try simp only [Bool.or_eq_true, Bool.and_eq_true, Bool.or_eq_false_iff, Bool.and_eq_false_iff, decide_eq_true_eq, decide_eq_false_iff_not, beq_iff_eq, bne_iff_ne, beq_eq_false_iff_ne, bne_eq_false_iff_eq, ne_eq, Decidable.not_not, List.cons.injEq, and_true, Bool.not_eq_true', Bool.not_eq_false', Int.not_lt, Int.not_le] at h) <;> (try (exfalso; omega)) <;> (try (exfalso; simp at h; done)) <;> (try (exfalso; simp only [not_true_eq_false, false_or, or_false] at h; omega)) <;> (try contradiction))
     )
 | (refine S_id ?_; first
 | ((with_reducible (first | refine S_falseN ?_ ?_ | refine S_falseB ?_ ?_ | refine S_falseL ?_ ?_ | refine S_falseD ?_ ?_ | refine S_falseE ?_ ?_)); · (first | rfl | exact bne_self_eq_false _ | assumption | omega | exact decide_eq_false (by omega) | (simp only [bne_eq_false_iff_eq]; assumption) | (rw [tuP_len]; exact bne_self_eq_false _)))
 | ((with_reducible refine S_falseO ?_ ?_ ?_); (· rfl); (· first | rfl | (first | rfl | exact bne_self_eq_false _ | assumption | omega | exact decide_eq_false (by omega) | (simp only [bne_eq_false_iff_eq]; assumption) | (rw [tuP_len]; exact bne_self_eq_false _))))
 | ((with_reducible (first | refine S_trueE ?_ ?_ | refine S_trueB ?_ ?_ | refine S_trueL ?_ ?_ | refine S_trueD ?_ ?_ | refine S_trueN ?_ ?_)); · (first | exact beq_self_eq_true _ | rfl | omega | exact decide_eq_true (by omega) | (simp only [bne_iff_ne, ne_eq]; assumption)))
 | ((with_reducible refine S_trueA ?_ ?_ ?_); (· rfl); (· first | rfl | (first | exact beq_self_eq_true _ | rfl | omega | exact decide_eq_true (by omega) | (simp only [bne_iff_ne, ne_eq]; assumption))))
 | refine S_unG rfl rfl rfl rfl ?_
 | refine S_offG (.v (.bool false)) rfl rfl rfl rfl rfl ?_
 | ((with_reducible refine S_falseA ?_ ?_); · (first | rfl | exact decide_eq_false (by omega) | exact hsn))
 | ((with_reducible refine S_trueO ?_ ?_); · (first | rfl | exact bne_iff_ne.2 (by assumption)))
 | refine S_nil ?_
 | refine S_runN rfl rfl obQ obQ ?_
 | refine S_box (fun b5 => ⟨_, _, rfl, obQ, ?_⟩)
 | refine S_call (f := 20) rfl obQ (by kernel_rfl) (fun w hw => awake_c w (hw.rdm hO.toS memQ) (Pw_at hP hw memQ)) ?_
 | refine S_call (f := 26) rfl obQ (by kernel_rfl) (fun w hw => rck_as hE rfl hmax (hw.rdm hrl.toS memQ)) ?_
 | refine S_call (f := 28) rfl obQ (by kernel_rfl) (fun w hw => rCheckLevel_c lev w) ?_
 | refine S_call (f := 54) rfl obQ (by kernel_rfl) (fun w hw => rShortPicture_c p _ _ _ hSp w) ?_
     )
 | (refine D_id ?_; first
 | refine D_nil ?_
 | refine D_tail ?_
 | refine D_run rfl rfl obQ obQ ?_
 | refine D_call (f := 20) rfl obQ (by kernel_rfl) (fun w hw => awake_c w (hw.rdm hO.toS memQ) (Pw_at hP hw memQ)) ?_
 | refine D_call (f := 26) rfl obQ (by kernel_rfl) (fun w hw => rck_as hE rfl hmax (hw.rdm hrl.toS memQ)) ?_
 | refine D_call (f := 28) rfl obQ (by kernel_rfl) (fun w hw => rCheckLevel_c lev w) ?_
 | refine D_call (f := 54) rfl obQ (by kernel_rfl) (fun w hw => rShortPicture_c p _ _ _ hSp w) ?_
     )
 | (refine G_id ?_; first
 | refine G_then ?_
 | refine G_block ?_
 | refine G_blockX ?_
 | refine G_blockN rfl ?_
 | refine G_blockR ?_
 | refine G_thenR ?_
 | refine G_thenX ?_
 | refine G_ret rfl obQ (fun w hw => ⟨?_, hw.below⟩)
     )
     )
    all_goals rfl
  obtain ⟨h40, h160⟩ := shortB_ok hSp
  have hs : p.s.length ≤ 1000000 := by omega
  by_cases hpk0 : picE p = 0
  rotate_left
  · repeat' (first
 | (refine C_id ?_; first
 | refine C_seq ?_
 | refine C_region rfl ?_
 | refine C_block ?_
 | refine C_skip ?_
 | refine C_exit ?_
 | refine C_ret0 ?_
 | refine C_draw (id := 8) rfl mixed (by kernel_rfl) ?_
 | refine C_draw (id := 11) rfl mixed (by kernel_rfl) ?_
 | refine C_drawT (id := 26) 8 rfl mixed (by kernel_rfl) rfl rfl ?_
 | refine C_drawT (id := 29) 16 rfl mixed (by kernel_rfl) rfl rfl ?_
 | refine C_draw (id := 36) rfl mixed (by kernel_rfl) ?_
 | refine C_condT rfl obQ ?_
 | refine C_condF rfl obQ ?_
 | (refine C_cond rfl obQ (fun h => ?_) (fun h => ?_) <;> (try simp only [Bool.or_eq_true, Bool.and_eq_true, Bool.or_eq_false_iff, Bool.and_eq_false_iff, decide_eq_true_eq, decide_eq_false_iff_not, beq_iff_eq, bne_iff_ne, beq_eq_false_iff_ne, bne_eq_false_iff_eq, ne_eq, Decidable.not_not, List.cons.injEq, and_true, Bool.not_eq_true', Bool.not_eq_false', Int.not_lt, Int.not_le] at h) <;> (try (exfalso; omega)) <;> (try (exfalso; simp at h; done)) <;> (try (exfalso; simp only [not_true_eq_false, false_or, or_false] at h; omega)) <;> (try contradiction))
     )
 | (refine S_id ?_; first
 | ((with_reducible (first | refine S_falseN ?_ ?_ | refine S_falseB ?_ ?_ | refine S_falseL ?_ ?_ | refine S_falseD ?_ ?_ | refine S_falseE ?_ ?_)); · (first | rfl | exact bne_self_eq_false _ | assumption | omega | exact decide_eq_false (by omega) | (simp only [bne_eq_false_iff_eq]; assumption) | (rw [tuP_len]; exact bne_self_eq_false _)))
 | ((with_reducible refine S_falseO ?_ ?_ ?_); (· rfl); (· first | rfl | (first | rfl | exact bne_self_eq_false _ | assumption | omega | exact decide_eq_false (by omega) | (simp only [bne_eq_false_iff_eq]; assumption) | (rw [tuP_len]; exact bne_self_eq_false _))))
 | ((with_reducible (first | refine S_trueE ?_ ?_ | refine S_trueB ?_ ?_ | refine S_trueL ?_ ?_ | refine S_trueD ?_ ?_ | refine S_trueN ?_ ?_)); · (first | exact beq_self_eq_true _ | rfl | omega | exact decide_eq_true (by omega) | (simp only [bne_iff_ne, ne_eq]; assumption)))
 | ((with_reducible refine S_trueA ?_ ?_ ?_); (· rfl); (· first | rfl | (first | exact beq_self_eq_true _ | rfl | omega | exact decide_eq_true (by omega) | (simp only [bne_iff_ne, ne_eq]; assumption))))
 | refine S_unG rfl rfl rfl rfl ?_
 | refine S_offG (.v (.bool false)) rfl rfl rfl rfl rfl ?_
 | ((with_reducible refine S_falseA ?_ ?_); · (first | rfl | exact decide_eq_false (by omega) | exact hsn))
 | ((with_reducible refine S_trueO ?_ ?_); · (first | rfl | exact bne_iff_ne.2 (by assumption)))
 | refine S_nil ?_
 | refine S_runN rfl rfl obQ obQ ?_
 | refine S_box (fun b5 => ⟨_, _, rfl, obQ, ?_⟩)
 | refine S_call (f := 20) rfl obQ (by kernel_rfl) (fun w hw => awake_c w (hw.rdm hO.toS memQ) (Pw_at hP hw memQ)) ?_
 | refine S_call (f := 26) rfl obQ (by kernel_rfl) (fun w hw => rck_as hE rfl hmax (hw.rdm hrl.toS memQ)) ?_
 | refine S_call (f := 28) rfl obQ (by kernel_rfl) (fun w hw => rCheckLevel_c lev w) ?_
 | refine S_call (f := 54) rfl obQ (by kernel_rfl) (fun w hw => rShortPicture_c p _ _ _ hSp w) ?_
 | refine S_call (f := 57) rfl obQ (by kernel_rfl) (fun w hw => rCheckPicture_c p _ _ hs hnm w (hw.rdm hr.toS memQ)) ?_
     )
 | (refine D_id ?_; first
 | refine D_nil ?_
 | refine D_tail ?_
 | refine D_run rfl rfl obQ obQ ?_
 | refine D_call (f := 20) rfl obQ (by kernel_rfl) (fun w hw => awake_c w (hw.rdm hO.toS memQ) (Pw_at hP hw memQ)) ?_
 | refine D_call (f := 26) rfl obQ (by kernel_rfl) (fun w hw => rck_as hE rfl hmax (hw.rdm hrl.toS memQ)) ?_
 | refine D_call (f := 28) rfl obQ (by kernel_rfl) (fun w hw => rCheckLevel_c lev w) ?_
 | refine D_call (f := 54) rfl obQ (by kernel_rfl) (fun w hw => rShortPicture_c p _ _ _ hSp w) ?_
 | refine D_call (f := 57) rfl obQ (by kernel_rfl) (fun w hw => rCheckPicture_c p _ _ hs hnm w (hw.rdm hr.toS memQ)) ?_
     )
 | (refine G_id ?_; first
 | refine G_then ?_
 | refine G_block ?_
 | refine G_blockX ?_
 | refine G_blockN rfl ?_
 | refine G_blockR ?_
 | refine G_thenR ?_
 | refine G_thenX ?_
 | refine G_ret rfl obQ (fun w hw => ⟨?_, hw.below⟩)
     )
     )
    all_goals rfl
  have hcv := curve_ok.1 hE0
  have hpk := pic_ok.1 hpk0
  have hlo := hcv.lo
  have hhi := hcv.hi
  have hl : l.length ≤ 1000000 := by omega
  obtain ⟨_, h0⟩ := pic_len hpk
  have hlvb : -16384 ≤ lev ∧ lev ≤ 16384 := by
    have := hlv
    simp only [lvE, wi_eq] at this
    exact this
  have hvb := valF_bd hcv lev
  have hvl := valF_lv hcv lev
  have hmo := valF_mono hcv (show lev ≤ lev + 1 by omega)
  have hIn := inv_len l
  have hB2 : curveE (invF l) = 0 := curve_ok.2 hcv.inv
  have hI : invR l = (invF l, 0) := if_pos hE0
  have hJ : invR (invF l) = (l, 0) := by
    rw [show invR (invF l) = (invF (invF l), 0) from if_pos hB2, inv_inv]
  have hV1 : valR l lev = (valF l lev, 0) := valR_ok hcv hlvb
  have hV2 : valR (invF l) (valF l lev) = (valF (invF l) (valF l lev), 0) := valR_ok hcv.inv hvl
  have hU : survR l lev = (survF l lev, 0) := if_pos (val_ok hcv hlvb)
  have hsv : (survF l lev != (valF (invF l) (valF l lev) == lev)) = false := by
    rw [bne_eq_false_iff_eq]
    rfl
  have hap := ap_zero hpk hcv
  have hsq : (tuP (valF l) p).s.length ≤ 1000000 := by rw [tuP_len]; exact hs
  have hfq : ∀ x ∈ (tuP (valF l) p).s, Fin32 x := fun x hx => (tuP_fin (valF_lv hcv) x hx).fin
  have hd0 := (hcv.bd 0 (by omega)).2
  have hd1 := (hcv.bd (l.length - 1) (by omega)).2
  have hm0 := (hcv.mono (show 0 ≤ l.length - 1 by omega) (by omega)).2
  have hcl : clE (tuP (valF l) p) (gP l 0).2 (gP l (l.length - 1)).2 = 0 := cl_zero (tuP_ok hpk (valF_lv hcv)) (iv_zero hd0 hd1 hm0)
  have hcq : tuP (clF (gP l 0).2 (gP l (l.length - 1)).2) (tuP (valF l) p) = tuP (valF l) p := tuP_cl (valF_bd hcv) hd0.1 hd1.2
  obtain ⟨ad, rfl⟩ := hrl.some (by rw [pt_len]; omega)
  obtain ⟨ap, rfl⟩ := hr.some (by simp; omega)
  repeat' (first
 | (refine C_id ?_; first
 | refine C_seq ?_
 | refine C_region rfl ?_
 | refine C_block ?_
 | refine C_skip ?_
 | refine C_exit ?_
 | refine C_ret0 ?_
 | refine C_draw (id := 8) rfl mixed (by kernel_rfl) ?_
 | refine C_draw (id := 11) rfl mixed (by kernel_rfl) ?_
 | refine C_drawT (id := 26) 8 rfl mixed (by kernel_rfl) rfl rfl ?_
 | refine C_drawT (id := 29) 16 rfl mixed (by kernel_rfl) rfl rfl ?_
 | refine C_draw (id := 36) rfl mixed (by kernel_rfl) ?_
 | refine C_condT rfl obQ ?_
 | refine C_condF rfl obQ ?_
 | (refine C_cond rfl obQ (fun h => ?_) (fun h => ?_) <;> (try simp only [Bool.or_eq_true, Bool.and_eq_true, Bool.or_eq_false_iff, Bool.and_eq_false_iff, decide_eq_true_eq, decide_eq_false_iff_not, beq_iff_eq, bne_iff_ne, beq_eq_false_iff_ne, bne_eq_false_iff_eq, ne_eq, Decidable.not_not, List.cons.injEq, and_true, Bool.not_eq_true', Bool.not_eq_false', Int.not_lt, Int.not_le] at h) <;> (try (exfalso; omega)) <;> (try (exfalso; simp at h; done)) <;> (try (exfalso; simp only [not_true_eq_false, false_or, or_false] at h; omega)) <;> (try contradiction))
 )
 | (refine S_id ?_; first
 | ((with_reducible (first | refine S_falseN ?_ ?_ | refine S_falseB ?_ ?_ | refine S_falseL ?_ ?_ | refine S_falseD ?_ ?_ | refine S_falseE ?_ ?_)); · (first | rfl | exact bne_self_eq_false _ | assumption | omega | exact decide_eq_false (by omega) | (simp only [bne_eq_false_iff_eq]; assumption) | (rw [tuP_len]; exact bne_self_eq_false _)))
 | ((with_reducible refine S_falseO ?_ ?_ ?_); (· rfl); (· first | rfl | (first | rfl | exact bne_self_eq_false _ | assumption | omega | exact decide_eq_false (by omega) | (simp only [bne_eq_false_iff_eq]; assumption) | (rw [tuP_len]; exact bne_self_eq_false _))))
 | ((with_reducible (first | refine S_trueE ?_ ?_ | refine S_trueB ?_ ?_ | refine S_trueL ?_ ?_ | refine S_trueD ?_ ?_ | refine S_trueN ?_ ?_)); · (first | exact beq_self_eq_true _ | rfl | omega | exact decide_eq_true (by omega) | (simp only [bne_iff_ne, ne_eq]; assumption)))
 | ((with_reducible refine S_trueA ?_ ?_ ?_); (· rfl); (· first | rfl | (first | exact beq_self_eq_true _ | rfl | omega | exact decide_eq_true (by omega) | (simp only [bne_iff_ne, ne_eq]; assumption))))
 | refine S_unG rfl rfl rfl rfl ?_
 | refine S_offG (.v (.bool false)) rfl rfl rfl rfl rfl ?_
 | ((with_reducible refine S_falseA ?_ ?_); · (first | rfl | exact decide_eq_false (by omega) | exact hsn))
 | ((with_reducible refine S_trueO ?_ ?_); · (first | rfl | exact bne_iff_ne.2 (by assumption)))
 | refine S_nil ?_
 | refine S_runN rfl rfl obQ obQ ?_
 | refine S_box (fun b5 => ⟨_, _, rfl, obQ, ?_⟩)
 | refine S_call (f := 20) rfl obQ (by kernel_rfl) (fun w hw => awake_c w (hw.rdm hO.toS memQ) (Pw_at hP hw memQ)) ?_
 | refine S_call (f := 26) rfl obQ (by kernel_rfl) (fun w hw => rck_as hE rfl hmax (hw.rdm hrl.toS memQ)) ?_
 | refine S_call (f := 28) rfl obQ (by kernel_rfl) (fun w hw => rCheckLevel_c lev w) ?_
 | refine S_call (f := 54) rfl obQ (by kernel_rfl) (fun w hw => rShortPicture_c p _ _ _ hSp w) ?_
 | refine S_call (f := 57) rfl obQ (by kernel_rfl) (fun w hw => rCheckPicture_c p _ _ hs hnm w (hw.rdm hr.toS memQ)) ?_
 )
 | (refine D_id ?_; first
 | refine D_nil ?_
 | refine D_tail ?_
 | refine D_run rfl rfl obQ obQ ?_
 | refine D_call (f := 20) rfl obQ (by kernel_rfl) (fun w hw => awake_c w (hw.rdm hO.toS memQ) (Pw_at hP hw memQ)) ?_
 | refine D_call (f := 26) rfl obQ (by kernel_rfl) (fun w hw => rck_as hE rfl hmax (hw.rdm hrl.toS memQ)) ?_
 | refine D_call (f := 28) rfl obQ (by kernel_rfl) (fun w hw => rCheckLevel_c lev w) ?_
 | refine D_call (f := 54) rfl obQ (by kernel_rfl) (fun w hw => rShortPicture_c p _ _ _ hSp w) ?_
 | refine D_call (f := 57) rfl obQ (by kernel_rfl) (fun w hw => rCheckPicture_c p _ _ hs hnm w (hw.rdm hr.toS memQ)) ?_
 )
 | (refine G_id ?_; first
 | refine G_then ?_
 | refine G_block ?_
 | refine G_blockX ?_
 | refine G_blockN rfl ?_
 | refine G_blockR ?_
 | refine G_thenR ?_
 | refine G_thenX ?_
 | refine G_ret rfl obQ (fun w hw => ⟨?_, hw.below⟩)
 )
 )
  refine C_loopS (fun i : Nat × Bool => ⟨[(0, .s (.v (.slice (some ad) l.length c))), (1, .s (.v (.int .i64 lev))), (5, .s (.p b5 0 0)), (7, .s (.v (.int .i64 (((l.length : Nat) : Int) - 1)))), (8, .s (.v (.bool i.2))), (55, .s (.v (.slice (some ad) l.length c))), (56, .s (.v (.int .i64 ((l.length : Nat) : Int)))), (57, .s (.v (.int .i64 i.1)))], [⟨b5, 93, [.v (.string p.nm), .v (.int .i64 p.w), .v (.int .i64 p.h), .v (.slice (some ap) p.s.length cp)]⟩], []⟩) (fun i => i.1 ≤ l.length ∧ i.2 = stF l i.1) (fun i => l.length - i.1) (0, true) ⟨Nat.zero_le _, rfl⟩ ?_ (fun i hi => ?_)
  · exact ⟨⟨_, rfl, obQ⟩, ⟨_, rfl⟩, rfl, pstQ⟩
  obtain ⟨k, s⟩ := i
  obtain ⟨hk, hst⟩ := hi
  dsimp only at hk hst ⊢
  by_cases hlt : k < l.length
  · have hbk := hcv.bd k hlt
    have hbk1 := hcv.bd (k - 1) (by omega)
    have hV : valR l (gP l k).1 = ((gP l k).2, 0) := by rw [valR_ok hcv hbk.1, valF_pt hcv hlt]
    repeat' (first
 | (refine C_id ?_; first
 | refine C_seq ?_
 | refine C_region rfl ?_
 | refine C_block ?_
 | refine C_skip ?_
 | refine C_exit ?_
 | refine C_ret0 ?_
 | refine C_drawV (id := 8) 9 [(0, true), (2, true), (3, true), (1, false), (4, false), (5, true), (6, true), (7, true), (8, true)] rfl mixed (by kernel_rfl) rfl ?_
 | refine C_draw (id := 11) rfl mixed (by kernel_rfl) ?_
 | refine C_drawT (id := 26) 8 rfl mixed (by kernel_rfl) rfl rfl ?_
 | refine C_drawT (id := 29) 16 rfl mixed (by kernel_rfl) rfl rfl ?_
 | refine C_draw (id := 36) rfl mixed (by kernel_rfl) ?_
 | refine C_condT rfl (by (repeat' (first | exact trivial | apply And.intro | rfl | omega | intro _ | (simp only [obS, beq_eq_false_iff_ne, ne_eq] at *; omega))); first | done | fail) ?_
 | refine C_condF rfl (by (repeat' (first | exact trivial | apply And.intro | rfl | omega | intro _ | (simp only [obS, beq_eq_false_iff_ne, ne_eq] at *; omega))); first | done | fail) ?_
 | (refine C_cond rfl (by (repeat' (first | exact trivial | apply And.intro | rfl | omega | intro _ | (simp only [obS, beq_eq_false_iff_ne, ne_eq] at *; omega))); first | done | fail) (fun h => ?_) (fun h => ?_) <;> (try simp only [Bool.or_eq_true, Bool.and_eq_true, Bool.or_eq_false_iff, Bool.and_eq_false_iff, decide_eq_true_eq, decide_eq_false_iff_not, beq_iff_eq, bne_iff_ne, beq_eq_false_iff_ne, bne_eq_false_iff_eq, ne_eq, Decidable.not_not, List.cons.injEq, and_true, Bool.not_eq_true', Bool.not_eq_false', Int.not_lt, Int.not_le] at h) <;> (try (exfalso; omega)) <;> (try (exfalso; simp at h; done)) <;> (try (exfalso; simp only [not_true_eq_false, false_or, or_false] at h; omega)) <;> (try contradiction))
   )
 | (refine S_id ?_; first
 | ((with_reducible (first | refine S_falseN ?_ ?_ | refine S_falseB ?_ ?_ | refine S_falseL ?_ ?_ | refine S_falseD ?_ ?_ | refine S_falseE ?_ ?_)); · (first | rfl | exact bne_self_eq_false _ | assumption | omega | exact decide_eq_false (by omega) | (simp only [bne_eq_false_iff_eq]; assumption) | (rw [tuP_len]; exact bne_self_eq_false _)))
 | ((with_reducible refine S_falseO ?_ ?_ ?_); (· rfl); (· first | rfl | (first | rfl | exact bne_self_eq_false _ | assumption | omega | exact decide_eq_false (by omega) | (simp only [bne_eq_false_iff_eq]; assumption) | (rw [tuP_len]; exact bne_self_eq_false _))))
 | ((with_reducible (first | refine S_trueE ?_ ?_ | refine S_trueB ?_ ?_ | refine S_trueL ?_ ?_ | refine S_trueD ?_ ?_ | refine S_trueN ?_ ?_)); · (first | exact beq_self_eq_true _ | rfl | omega | exact decide_eq_true (by omega) | (simp only [bne_iff_ne, ne_eq]; assumption)))
 | ((with_reducible refine S_trueA ?_ ?_ ?_); (· rfl); (· first | rfl | (first | exact beq_self_eq_true _ | rfl | omega | exact decide_eq_true (by omega) | (simp only [bne_iff_ne, ne_eq]; assumption))))
 | refine S_unG rfl rfl rfl rfl ?_
 | ((with_reducible refine S_falseA ?_ ?_); · (first | rfl | exact decide_eq_false (by omega) | exact hsn))
 | ((with_reducible refine S_trueO ?_ ?_); · (first | rfl | exact bne_iff_ne.2 (by assumption)))
 | refine S_offG (.v (.bool false)) rfl rfl rfl rfl rfl ?_
 | (refine S_callM (f := 22) rfl obQ (by kernel_rfl) (fun w hw => lcurve_c _ _ l hl w (hw.rdm hrl.toS memQ)) (fun w1C w2C vC hw1C hbC hRC => ?_); obtain ⟨AC, cC, rfl, hSC⟩ := hRC)
 | refine S_load rfl obQ rfl [.int .i64 (gP l k).1, .int .i64 (gP l k).2] (.past (w, fun b => b < w.heap.size) memQ _ _ hrl.toS _ _ rfl rfl (gP_idxZ (k := k) rfl hlt)) rfl (.inl ⟨rfl, rfl⟩) ?_
 | refine S_nil ?_
 | refine S_runN rfl rfl (by (repeat' (first | exact trivial | apply And.intro | rfl | omega | intro _ | (simp only [obS, beq_eq_false_iff_ne, ne_eq] at *; omega))); first | done | fail) (by (repeat' (first | exact trivial | apply And.intro | rfl | omega | intro _ | (simp only [obS, beq_eq_false_iff_ne, ne_eq] at *; omega))); first | done | fail) ?_
 | refine S_box (fun b10 => ⟨_, _, rfl, (by (repeat' (first | exact trivial | apply And.intro | rfl | omega | intro _ | (simp only [obS, beq_eq_false_iff_ne, ne_eq] at *; omega))); first | done | fail), ?_⟩)
 | refine S_call (f := 21) rfl (by (repeat' (first | exact trivial | apply And.intro | rfl | omega | intro _ | (simp only [obS, beq_eq_false_iff_ne, ne_eq] at *; omega))); first | done | fail) (by kernel_rfl) (fun w hw => value_as hV rfl hl (hw.rdm hSC memQ)) ?_
   )
 | (refine D_id ?_; first
 | refine D_loadG rfl rfl (fun hg => obQ) rfl [.int .i64 (gP l (k - 1)).1] (fun hg => .past (w, fun b => b < w.heap.size) memQ _ _ hrl.toS _ _ rfl (add_of_add _ _ _) (gP_1 (k := k - 1) (by simp [gOk] at hg; omega) (by omega))) rfl (.inr ⟨rfl, rfl⟩) ?_
 | refine D_loadG rfl rfl (fun hg => obQ) rfl [.int .i64 (gP l (k - 1)).2] (fun hg => .past (w, fun b => b < w.heap.size) memQ _ _ hrl.toS _ _ rfl (add_of_add _ _ _) (gP_2 (k := k - 1) (by simp [gOk] at hg; omega) (by omega))) rfl (.inr ⟨rfl, rfl⟩) ?_
 | refine D_nil ?_
 | refine D_tail ?_
 | refine D_run rfl rfl (by (repeat' (first | exact trivial | apply And.intro | rfl | omega | intro _ | (simp only [obS, beq_eq_false_iff_ne, ne_eq] at *; omega))); first | done | fail) (by (repeat' (first | exact trivial | apply And.intro | rfl | omega | intro _ | (simp only [obS, beq_eq_false_iff_ne, ne_eq] at *; omega))); first | done | fail) ?_
 | refine D_call (f := 21) rfl (by (repeat' (first | exact trivial | apply And.intro | rfl | omega | intro _ | (simp only [obS, beq_eq_false_iff_ne, ne_eq] at *; omega))); first | done | fail) (by kernel_rfl) (fun w hw => value_as hV rfl hl (hw.rdm hSC memQ)) ?_
   )
 | (refine V_id ?_; first
 | refine V_nil ?_
 | refine V_q rfl (Yl_load rfl obQ rfl [.int .i64 (gP l k).1, .int .i64 (gP l k).2] (.past (w, fun b => b < w.heap.size) memQ _ _ hrl.toS _ _ rfl rfl (gP_idxZ (k := k) rfl hlt)) rfl (.inl ⟨rfl, rfl⟩)) ?_
 | refine V_q rfl (Yl_step rfl (by (repeat' (first | exact trivial | apply And.intro | rfl | omega | intro _ | (simp only [obS, beq_eq_false_iff_ne, ne_eq] at *; omega))); first | done | fail)) ?_
 | refine V_n rfl ?_
   )
 | (refine G_id ?_; first
 | refine G_V ⟨⟨_, rfl, trivial⟩, ⟨_, rfl⟩, rfl, pstQ⟩ rfl ?_
 | refine G_loop (k + 1, _) ?_ (by show l.length - (k + 1) < l.length - k; omega) ⟨⟨_, rfl, obQ⟩, ⟨_, rfl⟩, rfl, psQ⟩
 | refine G_then ?_
 | refine G_block ?_
 | refine G_blockX ?_
 | refine G_blockN rfl ?_
 | refine G_blockR ?_
 | refine G_thenR ?_
 | refine G_thenX ?_
 | refine G_ret rfl (by (repeat' (first | exact trivial | apply And.intro | rfl | omega | intro _ | (simp only [obS, beq_eq_false_iff_ne, ne_eq] at *; omega))); first | done | fail) (fun w hw => ⟨?_, hw.below⟩)
   )
   )
    all_goals
      refine ⟨hlt, ?_⟩
      dsimp only
      rw [stF_s, ← hst, show ((k : Int) == 0) = decide (k = 0) by by_cases h : k = 0 <;> simp [h]]
      rfl
  have hke : k = l.length := by omega
  have hst' : s = stF l l.length := by rw [hst, hke]
  repeat' (first
 | (refine C_id ?_; first
 | refine C_seq ?_
 | refine C_regionNe 20 rfl rfl ?_
 | refine C_block ?_
 | refine C_skip ?_
 | refine C_exit ?_
 | refine C_ret0 ?_
 | refine C_draw (id := 8) rfl mixed (by kernel_rfl) ?_
 | refine C_draw (id := 11) rfl mixed (by kernel_rfl) ?_
 | refine C_drawT (id := 26) 8 rfl mixed (by kernel_rfl) rfl rfl ?_
 | refine C_drawT (id := 29) 16 rfl mixed (by kernel_rfl) rfl rfl ?_
 | refine C_draw (id := 36) rfl mixed (by kernel_rfl) ?_
 | refine C_condT rfl obQ ?_
 | refine C_condF rfl obQ ?_
 | (refine C_cond rfl obQ (fun h => ?_) (fun h => ?_) <;> (try simp only [Bool.or_eq_true, Bool.and_eq_true, Bool.or_eq_false_iff, Bool.and_eq_false_iff, decide_eq_true_eq, decide_eq_false_iff_not, beq_iff_eq, bne_iff_ne, beq_eq_false_iff_ne, bne_eq_false_iff_eq, ne_eq, Decidable.not_not, List.cons.injEq, and_true, Bool.not_eq_true', Bool.not_eq_false', Int.not_lt, Int.not_le] at h) <;> (try (exfalso; omega)) <;> (try (exfalso; simp at h; done)) <;> (try (exfalso; simp only [not_true_eq_false, false_or, or_false] at h; omega)) <;> (try contradiction))
 )
 | (refine S_id ?_; first
 | ((with_reducible (first | refine S_falseN ?_ ?_ | refine S_falseB ?_ ?_ | refine S_falseL ?_ ?_ | refine S_falseD ?_ ?_ | refine S_falseE ?_ ?_)); · (first | rfl | exact bne_self_eq_false _ | assumption | omega | exact decide_eq_false (by omega) | (simp only [bne_eq_false_iff_eq]; assumption) | (rw [tuP_len]; exact bne_self_eq_false _)))
 | ((with_reducible refine S_falseO ?_ ?_ ?_); (· rfl); (· first | rfl | (first | rfl | exact bne_self_eq_false _ | assumption | omega | exact decide_eq_false (by omega) | (simp only [bne_eq_false_iff_eq]; assumption) | (rw [tuP_len]; exact bne_self_eq_false _))))
 | ((with_reducible (first | refine S_trueE ?_ ?_ | refine S_trueB ?_ ?_ | refine S_trueL ?_ ?_ | refine S_trueD ?_ ?_ | refine S_trueN ?_ ?_)); · (first | exact beq_self_eq_true _ | rfl | omega | exact decide_eq_true (by omega) | (simp only [bne_iff_ne, ne_eq]; assumption)))
 | ((with_reducible refine S_trueA ?_ ?_ ?_); (· rfl); (· first | rfl | (first | exact beq_self_eq_true _ | rfl | omega | exact decide_eq_true (by omega) | (simp only [bne_iff_ne, ne_eq]; assumption))))
 | refine S_unG rfl rfl rfl rfl ?_
 | ((with_reducible refine S_falseA ?_ ?_); · (first | rfl | exact decide_eq_false (by omega) | exact hsn))
 | ((with_reducible refine S_trueO ?_ ?_); · (first | rfl | exact bne_iff_ne.2 (by assumption)))
 | refine S_offG (.v (.bool false)) rfl rfl rfl rfl rfl ?_
 | (refine S_callM (f := 22) rfl obQ (by kernel_rfl) (fun w hw => lcurve_c _ _ l hl w (hw.rdm hrl.toS memQ)) (fun w1C w2C vC hw1C hbC hRC => ?_); obtain ⟨AC, cC, rfl, hSC⟩ := hRC)
 | (refine S_callM (f := 23) rfl obQ (by kernel_rfl) (fun w hw => inverse_as hI rfl hIn hl (hw.rdm hSC memQ)) (fun w1I w2I vI hw1I hbI hRI => ?_); obtain ⟨AI, cI, rfl, hSI⟩ := hRI)
 | (refine S_callM (f := 23) rfl obQ (by kernel_rfl) (fun w hw => inverse_as hJ hIn rfl hl (hw.rdm hSI memQ)) (fun w1J w2J vJ hw1J hbJ hRJ => ?_); obtain ⟨AJ, cJ, rfl, hSJ⟩ := hRJ)
 | (refine S_callM (f := 37) rfl obQ (by kernel_rfl) (fun w hw => points_as hIn hl (hw.rdm hSI memQ)) (fun w1P w2P vP hw1P hbP hRP => ?_); obtain ⟨AP, cP, rfl, hSP⟩ := hRP)
 | refine S_nil ?_
 | refine S_runN rfl rfl obQ obQ ?_
 | refine S_box (fun b => ⟨_, _, rfl, obQ, ?_⟩)
 | refine S_call (f := 21) rfl obQ (by kernel_rfl) (fun w hw => value_as hV1 rfl hl (hw.rdm hSC memQ)) ?_
 | refine S_call (f := 21) rfl obQ (by kernel_rfl) (fun w hw => value_as hV2 hIn hl (hw.rdm hSI memQ)) ?_
 | refine S_call (f := 24) rfl obQ (by kernel_rfl) (fun w hw => survives_as hU hl (hw.rdm hSC memQ)) ?_
 | refine S_call (f := 26) rfl obQ (by kernel_rfl) (fun w hw => rck_as hB2 hIn hmax (hw.rdm hSP memQ)) ?_
 )
 | (refine D_id ?_; first
 | refine D_nil ?_
 | refine D_tail ?_
 | refine D_run rfl rfl obQ obQ ?_
 | refine D_call (f := 21) rfl obQ (by kernel_rfl) (fun w hw => value_as hV1 rfl hl (hw.rdm hSC memQ)) ?_
 | refine D_call (f := 21) rfl obQ (by kernel_rfl) (fun w hw => value_as hV2 hIn hl (hw.rdm hSI memQ)) ?_
 | refine D_call (f := 24) rfl obQ (by kernel_rfl) (fun w hw => survives_as hU hl (hw.rdm hSC memQ)) ?_
 | refine D_call (f := 26) rfl obQ (by kernel_rfl) (fun w hw => rck_as hB2 hIn hmax (hw.rdm hSP memQ)) ?_
 )
 | (refine G_id ?_; first
 | refine G_then ?_
 | refine G_block ?_
 | refine G_blockX ?_
 | refine G_blockN rfl ?_
 | refine G_blockR ?_
 | refine G_thenR ?_
 | refine G_thenX ?_
 | refine G_ret rfl obQ (fun w hw => ⟨?_, hw.below⟩)
 )
 )
  refine C_cut (fun _ : Unit => ([(w, fun b => b < w.heap.size)], (⟨[(0, .s (.v (.slice (some ad) l.length c))), (1, .s (.v (.int .i64 lev))), (5, .s (.p b5 0 0)), (7, .s (.v (.int .i64 (((l.length : Nat) : Int) - 1)))), (17, .s (.v (.int .i64 (valF l lev)))), (206, .s (.v (.bool false)))], [⟨b5, 93, [.v (.string p.nm), .v (.int .i64 p.w), .v (.int .i64 p.h), .v (.slice (some ap) p.s.length cp)]⟩], []⟩ : St))) ?_ (fun _ => ?_)
  · cases s
    · repeat' (first
 | (refine C_id ?_; first
 | refine C_seq ?_
 | refine C_region rfl ?_
 | refine C_block ?_
 | refine C_skip ?_
 | refine C_exit ?_
 | refine C_ret0 ?_
 | refine C_draw (id := 8) rfl mixed (by kernel_rfl) ?_
 | refine C_draw (id := 11) rfl mixed (by kernel_rfl) ?_
 | refine C_drawT (id := 26) 8 rfl mixed (by kernel_rfl) rfl rfl ?_
 | refine C_drawT (id := 29) 16 rfl mixed (by kernel_rfl) rfl rfl ?_
 | refine C_draw (id := 36) rfl mixed (by kernel_rfl) ?_
 | refine C_condT rfl obQ ?_
 | refine C_condF rfl obQ ?_
 | (refine C_cond rfl obQ (fun h => ?_) (fun h => ?_) <;> (try simp only [Bool.or_eq_true, Bool.and_eq_true, Bool.or_eq_false_iff, Bool.and_eq_false_iff, decide_eq_true_eq, decide_eq_false_iff_not, beq_iff_eq, bne_iff_ne, beq_eq_false_iff_ne, bne_eq_false_iff_eq, ne_eq, Decidable.not_not, List.cons.injEq, and_true, Bool.not_eq_true', Bool.not_eq_false', Int.not_lt, Int.not_le] at h) <;> (try (exfalso; omega)) <;> (try (exfalso; simp at h; done)) <;> (try (exfalso; simp only [not_true_eq_false, false_or, or_false] at h; omega)) <;> (try contradiction))
     )
 | (refine S_id ?_; first
 | ((with_reducible (first | refine S_falseN ?_ ?_ | refine S_falseB ?_ ?_ | refine S_falseL ?_ ?_ | refine S_falseD ?_ ?_ | refine S_falseE ?_ ?_)); · (first | rfl | exact bne_self_eq_false _ | assumption | omega | exact decide_eq_false (by omega) | (simp only [bne_eq_false_iff_eq]; assumption) | (rw [tuP_len]; exact bne_self_eq_false _)))
 | ((with_reducible refine S_falseO ?_ ?_ ?_); (· rfl); (· first | rfl | (first | rfl | exact bne_self_eq_false _ | assumption | omega | exact decide_eq_false (by omega) | (simp only [bne_eq_false_iff_eq]; assumption) | (rw [tuP_len]; exact bne_self_eq_false _))))
 | ((with_reducible (first | refine S_trueE ?_ ?_ | refine S_trueB ?_ ?_ | refine S_trueL ?_ ?_ | refine S_trueD ?_ ?_ | refine S_trueN ?_ ?_)); · (first | exact beq_self_eq_true _ | rfl | omega | exact decide_eq_true (by omega) | (simp only [bne_iff_ne, ne_eq]; assumption)))
 | ((with_reducible refine S_trueA ?_ ?_ ?_); (· rfl); (· first | rfl | (first | exact beq_self_eq_true _ | rfl | omega | exact decide_eq_true (by omega) | (simp only [bne_iff_ne, ne_eq]; assumption))))
 | refine S_unG rfl rfl rfl rfl ?_
 | ((with_reducible refine S_falseA ?_ ?_); · (first | rfl | exact decide_eq_false (by omega) | exact hsn))
 | ((with_reducible refine S_trueO ?_ ?_); · (first | rfl | exact bne_iff_ne.2 (by assumption)))
 | refine S_offG (.v (.bool false)) rfl rfl rfl rfl rfl ?_
 | (refine S_callM (f := 37) rfl obQ (by kernel_rfl) (fun w hw => points_as rfl hl (hw.rdm hSJ memQ)) (fun w1Q w2Q vQ hw1Q hbQ hRQ => ?_); obtain ⟨AQ, cQ, rfl, hSQ⟩ := hRQ)
 | refine S_pure (binX_pure rfl obQ (fun w => neqV (by kernel_rfl) _ _ w)) ?_
 | ((with_reducible refine S_notV (q := false) ?_ ?_); · (first | rfl | assumption))
 | refine S_load rfl obQ rfl [.int .i64 (gP l (0)).1] (.past (w, fun b => b < w.heap.size) memQ _ _ hrl.toS _ _ rfl (add_of_add _ _ _) (gP_1 (k := 0) rfl (by omega))) rfl (.inr ⟨rfl, rfl⟩) ?_
 | refine S_load rfl obQ rfl [.int .i64 (gP l (0)).2] (.past (w, fun b => b < w.heap.size) memQ _ _ hrl.toS _ _ rfl (add_of_add _ _ _) (gP_2 (k := 0) rfl (by omega))) rfl (.inr ⟨rfl, rfl⟩) ?_
 | refine S_load rfl obQ rfl [.int .i64 (gP l (l.length - 1)).1] (.past (w, fun b => b < w.heap.size) memQ _ _ hrl.toS _ _ rfl (add_of_add _ _ _) (gP_1 (k := l.length - 1) (by omega) (by omega))) rfl (.inr ⟨rfl, rfl⟩) ?_
 | refine S_load rfl obQ rfl [.int .i64 (gP l (l.length - 1)).2] (.past (w, fun b => b < w.heap.size) memQ _ _ hrl.toS _ _ rfl (add_of_add _ _ _) (gP_2 (k := l.length - 1) (by omega) (by omega))) rfl (.inr ⟨rfl, rfl⟩) ?_
 | refine S_nil ?_
 | refine S_runN rfl rfl obQ obQ ?_
 | refine S_box (fun b => ⟨_, _, rfl, obQ, ?_⟩)
 | refine S_call (f := 36) rfl obQ (by kernel_rfl) (fun w hw => sameCurveT_c _ _ _ _ l _ rfl hl w (hw.rdm hSQ memQ) (hw.rdm hrl.toS memQ)) ?_
     )
 | (refine D_id ?_; first
 | refine D_nil ?_
 | refine D_tail ?_
 | refine D_run rfl rfl obQ obQ ?_
 | refine D_call (f := 36) rfl obQ (by kernel_rfl) (fun w hw => sameCurveT_c _ _ _ _ l _ rfl hl w (hw.rdm hSQ memQ) (hw.rdm hrl.toS memQ)) ?_
     )
 | (refine G_id ?_; first
 | refine G_cutN () ⟨⟨_, rfl, obQ⟩, ⟨_, rfl⟩, rfl, psQ⟩
 | refine G_then ?_
 | refine G_block ?_
 | refine G_blockX ?_
 | refine G_blockN rfl ?_
 | refine G_blockR ?_
 | refine G_thenR ?_
 | refine G_thenX ?_
 | refine G_ret rfl obQ (fun w hw => ⟨?_, hw.below⟩)
     )
     )
    by_cases h1 : (gP l 0).1 ≤ lev
    · by_cases h2 : lev ≤ (gP l (l.length - 1)).1
      · have hsn : (!survF l lev) = false := by rw [steep_surv hcv (stF_all hst'.symm) h1 h2]; rfl
        repeat' (first
 | (refine C_id ?_; first
 | refine C_seq ?_
 | refine C_region rfl ?_
 | refine C_block ?_
 | refine C_skip ?_
 | refine C_exit ?_
 | refine C_ret0 ?_
 | refine C_draw (id := 8) rfl mixed (by kernel_rfl) ?_
 | refine C_draw (id := 11) rfl mixed (by kernel_rfl) ?_
 | refine C_drawT (id := 26) 8 rfl mixed (by kernel_rfl) rfl rfl ?_
 | refine C_drawT (id := 29) 16 rfl mixed (by kernel_rfl) rfl rfl ?_
 | refine C_draw (id := 36) rfl mixed (by kernel_rfl) ?_
 | refine C_condT rfl obQ ?_
 | refine C_condF rfl obQ ?_
 | (refine C_cond rfl obQ (fun h => ?_) (fun h => ?_) <;> (try simp only [Bool.or_eq_true, Bool.and_eq_true, Bool.or_eq_false_iff, Bool.and_eq_false_iff, decide_eq_true_eq, decide_eq_false_iff_not, beq_iff_eq, bne_iff_ne, beq_eq_false_iff_ne, bne_eq_false_iff_eq, ne_eq, Decidable.not_not, List.cons.injEq, and_true, Bool.not_eq_true', Bool.not_eq_false', Int.not_lt, Int.not_le] at h) <;> (try (exfalso; omega)) <;> (try (exfalso; simp at h; done)) <;> (try (exfalso; simp only [not_true_eq_false, false_or, or_false] at h; omega)) <;> (try contradiction))
       )
 | (refine S_id ?_; first
 | ((with_reducible (first | refine S_falseN ?_ ?_ | refine S_falseB ?_ ?_ | refine S_falseL ?_ ?_ | refine S_falseD ?_ ?_ | refine S_falseE ?_ ?_)); · (first | rfl | exact bne_self_eq_false _ | assumption | omega | exact decide_eq_false (by omega) | (simp only [bne_eq_false_iff_eq]; assumption) | (rw [tuP_len]; exact bne_self_eq_false _)))
 | ((with_reducible refine S_falseO ?_ ?_ ?_); (· rfl); (· first | rfl | (first | rfl | exact bne_self_eq_false _ | assumption | omega | exact decide_eq_false (by omega) | (simp only [bne_eq_false_iff_eq]; assumption) | (rw [tuP_len]; exact bne_self_eq_false _))))
 | ((with_reducible (first | refine S_trueE ?_ ?_ | refine S_trueB ?_ ?_ | refine S_trueL ?_ ?_ | refine S_trueD ?_ ?_ | refine S_trueN ?_ ?_)); · (first | exact beq_self_eq_true _ | rfl | omega | exact decide_eq_true (by omega) | (simp only [bne_iff_ne, ne_eq]; assumption)))
 | ((with_reducible refine S_trueA ?_ ?_ ?_); (· rfl); (· first | rfl | (first | exact beq_self_eq_true _ | rfl | omega | exact decide_eq_true (by omega) | (simp only [bne_iff_ne, ne_eq]; assumption))))
 | refine S_unG rfl rfl rfl rfl ?_
 | ((with_reducible refine S_falseA ?_ ?_); · (first | rfl | exact decide_eq_false (by omega) | exact hsn))
 | ((with_reducible refine S_trueO ?_ ?_); · (first | rfl | exact bne_iff_ne.2 (by assumption)))
 | refine S_offG (.v (.bool false)) rfl rfl rfl rfl rfl ?_
 | (refine S_callM (f := 37) rfl obQ (by kernel_rfl) (fun w hw => points_as rfl hl (hw.rdm hSJ memQ)) (fun w1Q w2Q vQ hw1Q hbQ hRQ => ?_); obtain ⟨AQ, cQ, rfl, hSQ⟩ := hRQ)
 | refine S_pure (binX_pure rfl obQ (fun w => neqV (by kernel_rfl) _ _ w)) ?_
 | ((with_reducible refine S_notV (q := false) ?_ ?_); · (first | rfl | assumption))
 | refine S_load rfl obQ rfl [.int .i64 (gP l (0)).1] (.past (w, fun b => b < w.heap.size) memQ _ _ hrl.toS _ _ rfl (add_of_add _ _ _) (gP_1 (k := 0) rfl (by omega))) rfl (.inr ⟨rfl, rfl⟩) ?_
 | refine S_load rfl obQ rfl [.int .i64 (gP l (0)).2] (.past (w, fun b => b < w.heap.size) memQ _ _ hrl.toS _ _ rfl (add_of_add _ _ _) (gP_2 (k := 0) rfl (by omega))) rfl (.inr ⟨rfl, rfl⟩) ?_
 | refine S_load rfl obQ rfl [.int .i64 (gP l (l.length - 1)).1] (.past (w, fun b => b < w.heap.size) memQ _ _ hrl.toS _ _ rfl (add_of_add _ _ _) (gP_1 (k := l.length - 1) (by omega) (by omega))) rfl (.inr ⟨rfl, rfl⟩) ?_
 | refine S_load rfl obQ rfl [.int .i64 (gP l (l.length - 1)).2] (.past (w, fun b => b < w.heap.size) memQ _ _ hrl.toS _ _ rfl (add_of_add _ _ _) (gP_2 (k := l.length - 1) (by omega) (by omega))) rfl (.inr ⟨rfl, rfl⟩) ?_
 | refine S_nil ?_
 | refine S_runN rfl rfl obQ obQ ?_
 | refine S_box (fun b => ⟨_, _, rfl, obQ, ?_⟩)
 | refine S_call (f := 36) rfl obQ (by kernel_rfl) (fun w hw => sameCurveT_c _ _ _ _ l _ rfl hl w (hw.rdm hSQ memQ) (hw.rdm hrl.toS memQ)) ?_
       )
 | (refine D_id ?_; first
 | refine D_nil ?_
 | refine D_tail ?_
 | refine D_run rfl rfl obQ obQ ?_
 | refine D_call (f := 36) rfl obQ (by kernel_rfl) (fun w hw => sameCurveT_c _ _ _ _ l _ rfl hl w (hw.rdm hSQ memQ) (hw.rdm hrl.toS memQ)) ?_
       )
 | (refine G_id ?_; first
 | refine G_cutN () ⟨⟨_, rfl, obQ⟩, ⟨_, rfl⟩, rfl, psQ⟩
 | refine G_then ?_
 | refine G_block ?_
 | refine G_blockX ?_
 | refine G_blockN rfl ?_
 | refine G_blockR ?_
 | refine G_thenR ?_
 | refine G_thenX ?_
 | refine G_ret rfl obQ (fun w hw => ⟨?_, hw.below⟩)
       )
       )
      · repeat' (first
 | (refine C_id ?_; first
 | refine C_seq ?_
 | refine C_region rfl ?_
 | refine C_block ?_
 | refine C_skip ?_
 | refine C_exit ?_
 | refine C_ret0 ?_
 | refine C_draw (id := 8) rfl mixed (by kernel_rfl) ?_
 | refine C_draw (id := 11) rfl mixed (by kernel_rfl) ?_
 | refine C_drawT (id := 26) 8 rfl mixed (by kernel_rfl) rfl rfl ?_
 | refine C_drawT (id := 29) 16 rfl mixed (by kernel_rfl) rfl rfl ?_
 | refine C_draw (id := 36) rfl mixed (by kernel_rfl) ?_
 | refine C_condT rfl obQ ?_
 | refine C_condF rfl obQ ?_
 | (refine C_cond rfl obQ (fun h => ?_) (fun h => ?_) <;> (try simp only [Bool.or_eq_true, Bool.and_eq_true, Bool.or_eq_false_iff, Bool.and_eq_false_iff, decide_eq_true_eq, decide_eq_false_iff_not, beq_iff_eq, bne_iff_ne, beq_eq_false_iff_ne, bne_eq_false_iff_eq, ne_eq, Decidable.not_not, List.cons.injEq, and_true, Bool.not_eq_true', Bool.not_eq_false', Int.not_lt, Int.not_le] at h) <;> (try (exfalso; omega)) <;> (try (exfalso; simp at h; done)) <;> (try (exfalso; simp only [not_true_eq_false, false_or, or_false] at h; omega)) <;> (try contradiction))
       )
 | (refine S_id ?_; first
 | ((with_reducible (first | refine S_falseN ?_ ?_ | refine S_falseB ?_ ?_ | refine S_falseL ?_ ?_ | refine S_falseD ?_ ?_ | refine S_falseE ?_ ?_)); · (first | rfl | exact bne_self_eq_false _ | assumption | omega | exact decide_eq_false (by omega) | (simp only [bne_eq_false_iff_eq]; assumption) | (rw [tuP_len]; exact bne_self_eq_false _)))
 | ((with_reducible refine S_falseO ?_ ?_ ?_); (· rfl); (· first | rfl | (first | rfl | exact bne_self_eq_false _ | assumption | omega | exact decide_eq_false (by omega) | (simp only [bne_eq_false_iff_eq]; assumption) | (rw [tuP_len]; exact bne_self_eq_false _))))
 | ((with_reducible (first | refine S_trueE ?_ ?_ | refine S_trueB ?_ ?_ | refine S_trueL ?_ ?_ | refine S_trueD ?_ ?_ | refine S_trueN ?_ ?_)); · (first | exact beq_self_eq_true _ | rfl | omega | exact decide_eq_true (by omega) | (simp only [bne_iff_ne, ne_eq]; assumption)))
 | ((with_reducible refine S_trueA ?_ ?_ ?_); (· rfl); (· first | rfl | (first | exact beq_self_eq_true _ | rfl | omega | exact decide_eq_true (by omega) | (simp only [bne_iff_ne, ne_eq]; assumption))))
 | refine S_unG rfl rfl rfl rfl ?_
 | ((with_reducible refine S_falseA ?_ ?_); · (first | rfl | exact decide_eq_false (by omega) | exact hsn))
 | ((with_reducible refine S_trueO ?_ ?_); · (first | rfl | exact bne_iff_ne.2 (by assumption)))
 | refine S_offG (.v (.bool false)) rfl rfl rfl rfl rfl ?_
 | (refine S_callM (f := 37) rfl obQ (by kernel_rfl) (fun w hw => points_as rfl hl (hw.rdm hSJ memQ)) (fun w1Q w2Q vQ hw1Q hbQ hRQ => ?_); obtain ⟨AQ, cQ, rfl, hSQ⟩ := hRQ)
 | refine S_pure (binX_pure rfl obQ (fun w => neqV (by kernel_rfl) _ _ w)) ?_
 | ((with_reducible refine S_notV (q := false) ?_ ?_); · (first | rfl | assumption))
 | refine S_load rfl obQ rfl [.int .i64 (gP l (0)).1] (.past (w, fun b => b < w.heap.size) memQ _ _ hrl.toS _ _ rfl (add_of_add _ _ _) (gP_1 (k := 0) rfl (by omega))) rfl (.inr ⟨rfl, rfl⟩) ?_
 | refine S_load rfl obQ rfl [.int .i64 (gP l (0)).2] (.past (w, fun b => b < w.heap.size) memQ _ _ hrl.toS _ _ rfl (add_of_add _ _ _) (gP_2 (k := 0) rfl (by omega))) rfl (.inr ⟨rfl, rfl⟩) ?_
 | refine S_load rfl obQ rfl [.int .i64 (gP l (l.length - 1)).1] (.past (w, fun b => b < w.heap.size) memQ _ _ hrl.toS _ _ rfl (add_of_add _ _ _) (gP_1 (k := l.length - 1) (by omega) (by omega))) rfl (.inr ⟨rfl, rfl⟩) ?_
 | refine S_load rfl obQ rfl [.int .i64 (gP l (l.length - 1)).2] (.past (w, fun b => b < w.heap.size) memQ _ _ hrl.toS _ _ rfl (add_of_add _ _ _) (gP_2 (k := l.length - 1) (by omega) (by omega))) rfl (.inr ⟨rfl, rfl⟩) ?_
 | refine S_nil ?_
 | refine S_runN rfl rfl obQ obQ ?_
 | refine S_box (fun b => ⟨_, _, rfl, obQ, ?_⟩)
 | refine S_call (f := 36) rfl obQ (by kernel_rfl) (fun w hw => sameCurveT_c _ _ _ _ l _ rfl hl w (hw.rdm hSQ memQ) (hw.rdm hrl.toS memQ)) ?_
       )
 | (refine D_id ?_; first
 | refine D_nil ?_
 | refine D_tail ?_
 | refine D_run rfl rfl obQ obQ ?_
 | refine D_call (f := 36) rfl obQ (by kernel_rfl) (fun w hw => sameCurveT_c _ _ _ _ l _ rfl hl w (hw.rdm hSQ memQ) (hw.rdm hrl.toS memQ)) ?_
       )
 | (refine G_id ?_; first
 | refine G_cutN () ⟨⟨_, rfl, obQ⟩, ⟨_, rfl⟩, rfl, psQ⟩
 | refine G_then ?_
 | refine G_block ?_
 | refine G_blockX ?_
 | refine G_blockN rfl ?_
 | refine G_blockR ?_
 | refine G_thenR ?_
 | refine G_thenX ?_
 | refine G_ret rfl obQ (fun w hw => ⟨?_, hw.below⟩)
       )
       )
    · repeat' (first
 | (refine C_id ?_; first
 | refine C_seq ?_
 | refine C_region rfl ?_
 | refine C_block ?_
 | refine C_skip ?_
 | refine C_exit ?_
 | refine C_ret0 ?_
 | refine C_draw (id := 8) rfl mixed (by kernel_rfl) ?_
 | refine C_draw (id := 11) rfl mixed (by kernel_rfl) ?_
 | refine C_drawT (id := 26) 8 rfl mixed (by kernel_rfl) rfl rfl ?_
 | refine C_drawT (id := 29) 16 rfl mixed (by kernel_rfl) rfl rfl ?_
 | refine C_draw (id := 36) rfl mixed (by kernel_rfl) ?_
 | refine C_condT rfl obQ ?_
 | refine C_condF rfl obQ ?_
 | (refine C_cond rfl obQ (fun h => ?_) (fun h => ?_) <;> (try simp only [Bool.or_eq_true, Bool.and_eq_true, Bool.or_eq_false_iff, Bool.and_eq_false_iff, decide_eq_true_eq, decide_eq_false_iff_not, beq_iff_eq, bne_iff_ne, beq_eq_false_iff_ne, bne_eq_false_iff_eq, ne_eq, Decidable.not_not, List.cons.injEq, and_true, Bool.not_eq_true', Bool.not_eq_false', Int.not_lt, Int.not_le] at h) <;> (try (exfalso; omega)) <;> (try (exfalso; simp at h; done)) <;> (try (exfalso; simp only [not_true_eq_false, false_or, or_false] at h; omega)) <;> (try contradiction))
     )
 | (refine S_id ?_; first
 | ((with_reducible (first | refine S_falseN ?_ ?_ | refine S_falseB ?_ ?_ | refine S_falseL ?_ ?_ | refine S_falseD ?_ ?_ | refine S_falseE ?_ ?_)); · (first | rfl | exact bne_self_eq_false _ | assumption | omega | exact decide_eq_false (by omega) | (simp only [bne_eq_false_iff_eq]; assumption) | (rw [tuP_len]; exact bne_self_eq_false _)))
 | ((with_reducible refine S_falseO ?_ ?_ ?_); (· rfl); (· first | rfl | (first | rfl | exact bne_self_eq_false _ | assumption | omega | exact decide_eq_false (by omega) | (simp only [bne_eq_false_iff_eq]; assumption) | (rw [tuP_len]; exact bne_self_eq_false _))))
 | ((with_reducible (first | refine S_trueE ?_ ?_ | refine S_trueB ?_ ?_ | refine S_trueL ?_ ?_ | refine S_trueD ?_ ?_ | refine S_trueN ?_ ?_)); · (first | exact beq_self_eq_true _ | rfl | omega | exact decide_eq_true (by omega) | (simp only [bne_iff_ne, ne_eq]; assumption)))
 | ((with_reducible refine S_trueA ?_ ?_ ?_); (· rfl); (· first | rfl | (first | exact beq_self_eq_true _ | rfl | omega | exact decide_eq_true (by omega) | (simp only [bne_iff_ne, ne_eq]; assumption))))
 | refine S_unG rfl rfl rfl rfl ?_
 | ((with_reducible refine S_falseA ?_ ?_); · (first | rfl | exact decide_eq_false (by omega) | exact hsn))
 | ((with_reducible refine S_trueO ?_ ?_); · (first | rfl | exact bne_iff_ne.2 (by assumption)))
 | refine S_offG (.v (.bool false)) rfl rfl rfl rfl rfl ?_
 | (refine S_callM (f := 37) rfl obQ (by kernel_rfl) (fun w hw => points_as rfl hl (hw.rdm hSJ memQ)) (fun w1Q w2Q vQ hw1Q hbQ hRQ => ?_); obtain ⟨AQ, cQ, rfl, hSQ⟩ := hRQ)
 | refine S_pure (binX_pure rfl obQ (fun w => neqV (by kernel_rfl) _ _ w)) ?_
 | ((with_reducible refine S_notV (q := false) ?_ ?_); · (first | rfl | assumption))
 | refine S_load rfl obQ rfl [.int .i64 (gP l (0)).1] (.past (w, fun b => b < w.heap.size) memQ _ _ hrl.toS _ _ rfl (add_of_add _ _ _) (gP_1 (k := 0) rfl (by omega))) rfl (.inr ⟨rfl, rfl⟩) ?_
 | refine S_load rfl obQ rfl [.int .i64 (gP l (0)).2] (.past (w, fun b => b < w.heap.size) memQ _ _ hrl.toS _ _ rfl (add_of_add _ _ _) (gP_2 (k := 0) rfl (by omega))) rfl (.inr ⟨rfl, rfl⟩) ?_
 | refine S_load rfl obQ rfl [.int .i64 (gP l (l.length - 1)).1] (.past (w, fun b => b < w.heap.size) memQ _ _ hrl.toS _ _ rfl (add_of_add _ _ _) (gP_1 (k := l.length - 1) (by omega) (by omega))) rfl (.inr ⟨rfl, rfl⟩) ?_
 | refine S_load rfl obQ rfl [.int .i64 (gP l (l.length - 1)).2] (.past (w, fun b => b < w.heap.size) memQ _ _ hrl.toS _ _ rfl (add_of_add _ _ _) (gP_2 (k := l.length - 1) (by omega) (by omega))) rfl (.inr ⟨rfl, rfl⟩) ?_
 | refine S_nil ?_
 | refine S_runN rfl rfl obQ obQ ?_
 | refine S_box (fun b => ⟨_, _, rfl, obQ, ?_⟩)
 | refine S_call (f := 36) rfl obQ (by kernel_rfl) (fun w hw => sameCurveT_c _ _ _ _ l _ rfl hl w (hw.rdm hSQ memQ) (hw.rdm hrl.toS memQ)) ?_
     )
 | (refine D_id ?_; first
 | refine D_nil ?_
 | refine D_tail ?_
 | refine D_run rfl rfl obQ obQ ?_
 | refine D_call (f := 36) rfl obQ (by kernel_rfl) (fun w hw => sameCurveT_c _ _ _ _ l _ rfl hl w (hw.rdm hSQ memQ) (hw.rdm hrl.toS memQ)) ?_
     )
 | (refine G_id ?_; first
 | refine G_cutN () ⟨⟨_, rfl, obQ⟩, ⟨_, rfl⟩, rfl, psQ⟩
 | refine G_then ?_
 | refine G_block ?_
 | refine G_blockX ?_
 | refine G_blockN rfl ?_
 | refine G_blockR ?_
 | refine G_thenR ?_
 | refine G_thenX ?_
 | refine G_ret rfl obQ (fun w hw => ⟨?_, hw.below⟩)
     )
     )
  repeat' (first
 | (refine C_id ?_; first
 | refine C_condF rfl obQ ?_
 | refine C_seq ?_
 | refine C_region rfl ?_
 | refine C_block ?_
 | refine C_skip ?_
 | refine C_exit ?_
 | refine C_ret0 ?_
 | refine C_draw (id := 8) rfl mixed (by kernel_rfl) ?_
 | refine C_draw (id := 11) rfl mixed (by kernel_rfl) ?_
 | refine C_drawT (id := 26) 8 rfl mixed (by kernel_rfl) rfl rfl ?_
 | refine C_drawT (id := 29) 16 rfl mixed (by kernel_rfl) rfl rfl ?_
 | refine C_draw (id := 36) rfl mixed (by kernel_rfl) ?_
 )
 | (refine S_id ?_; first
 | ((with_reducible (first | refine S_falseN ?_ ?_ | refine S_falseB ?_ ?_ | refine S_falseL ?_ ?_ | refine S_falseD ?_ ?_ | refine S_falseE ?_ ?_)); · (first | rfl | exact bne_self_eq_false _ | assumption | omega | exact decide_eq_false (by omega) | (simp only [bne_eq_false_iff_eq]; assumption) | (rw [tuP_len]; exact bne_self_eq_false _)))
 | ((with_reducible refine S_falseO ?_ ?_ ?_); (· rfl); (· first | rfl | (first | rfl | exact bne_self_eq_false _ | assumption | omega | exact decide_eq_false (by omega) | (simp only [bne_eq_false_iff_eq]; assumption) | (rw [tuP_len]; exact bne_self_eq_false _))))
 | ((with_reducible (first | refine S_trueE ?_ ?_ | refine S_trueB ?_ ?_ | refine S_trueL ?_ ?_ | refine S_trueD ?_ ?_ | refine S_trueN ?_ ?_)); · (first | exact beq_self_eq_true _ | rfl | omega | exact decide_eq_true (by omega) | (simp only [bne_iff_ne, ne_eq]; assumption)))
 | ((with_reducible refine S_trueA ?_ ?_ ?_); (· rfl); (· first | rfl | (first | exact beq_self_eq_true _ | rfl | omega | exact decide_eq_true (by omega) | (simp only [bne_iff_ne, ne_eq]; assumption))))
 | refine S_unG rfl rfl rfl rfl ?_
 | refine S_offG (.v (.bool false)) rfl rfl rfl rfl rfl ?_
 | ((with_reducible refine S_falseA ?_ ?_); · (first | rfl | exact decide_eq_false (by omega) | exact hsn))
 | ((with_reducible refine S_trueO ?_ ?_); · (first | rfl | exact bne_iff_ne.2 (by assumption)))
 | refine S_nil ?_
 | refine S_runN rfl rfl obQ obQ ?_
 | refine S_box (fun b => ⟨_, _, rfl, obQ, ?_⟩)
 )
 | (refine D_id ?_; first
 | refine D_nil ?_
 | refine D_tail ?_
 | refine D_run rfl rfl obQ obQ ?_
 )
 | (refine G_id ?_; first
 | refine G_then ?_
 | refine G_block ?_
 | refine G_blockX ?_
 | refine G_blockN rfl ?_
 | refine G_blockR ?_
 | refine G_thenR ?_
 | refine G_thenX ?_
 | refine G_ret rfl obQ (fun w hw => ⟨?_, hw.below⟩)
 )
 )
  refine C_cut (fun _ : Unit => ([(w, fun b => b < w.heap.size)], (⟨[(0, .s (.v (.slice (some ad) l.length c))), (5, .s (.p b5 0 0)), (7, .s (.v (.int .i64 (((l.length : Nat) : Int) - 1))))], [⟨b5, 93, [.v (.string p.nm), .v (.int .i64 p.w), .v (.int .i64 p.h), .v (.slice (some ap) p.s.length cp)]⟩], []⟩ : St))) ?_ (fun _ => ?_)
  · repeat' (first
 | (refine C_id ?_; first
 | refine C_seq ?_
 | refine C_region rfl ?_
 | refine C_block ?_
 | refine C_skip ?_
 | refine C_exit ?_
 | refine C_ret0 ?_
 | refine C_draw (id := 8) rfl mixed (by kernel_rfl) ?_
 | refine C_draw (id := 11) rfl mixed (by kernel_rfl) ?_
 | refine C_drawT (id := 26) 8 rfl mixed (by kernel_rfl) rfl rfl ?_
 | refine C_drawT (id := 29) 16 rfl mixed (by kernel_rfl) rfl rfl ?_
 | refine C_draw (id := 36) rfl mixed (by kernel_rfl) ?_
 | refine C_condT rfl obQ ?_
 | refine C_condF rfl obQ ?_
 | (refine C_cond rfl obQ (fun h => ?_) (fun h => ?_) <;> (try simp only [Bool.or_eq_true, Bool.and_eq_true, Bool.or_eq_false_iff, Bool.and_eq_false_iff, decide_eq_true_eq, decide_eq_false_iff_not, beq_iff_eq, bne_iff_ne, beq_eq_false_iff_ne, bne_eq_false_iff_eq, ne_eq, Decidable.not_not, List.cons.injEq, and_true, Bool.not_eq_true', Bool.not_eq_false', Int.not_lt, Int.not_le] at h) <;> (try (exfalso; omega)) <;> (try (exfalso; simp at h; done)) <;> (try (exfalso; simp only [not_true_eq_false, false_or, or_false] at h; omega)) <;> (try contradiction))
   )
 | (refine S_id ?_; first
 | ((with_reducible (first | refine S_falseN ?_ ?_ | refine S_falseB ?_ ?_ | refine S_falseL ?_ ?_ | refine S_falseD ?_ ?_ | refine S_falseE ?_ ?_)); · (first | rfl | exact bne_self_eq_false _ | assumption | omega | exact decide_eq_false (by omega) | (simp only [bne_eq_false_iff_eq]; assumption) | (rw [tuP_len]; exact bne_self_eq_false _)))
 | ((with_reducible refine S_falseO ?_ ?_ ?_); (· rfl); (· first | rfl | (first | rfl | exact bne_self_eq_false _ | assumption | omega | exact decide_eq_false (by omega) | (simp only [bne_eq_false_iff_eq]; assumption) | (rw [tuP_len]; exact bne_self_eq_false _))))
 | ((with_reducible (first | refine S_trueE ?_ ?_ | refine S_trueB ?_ ?_ | refine S_trueL ?_ ?_ | refine S_trueD ?_ ?_ | refine S_trueN ?_ ?_)); · (first | exact beq_self_eq_true _ | rfl | omega | exact decide_eq_true (by omega) | (simp only [bne_iff_ne, ne_eq]; assumption)))
 | ((with_reducible refine S_trueA ?_ ?_ ?_); (· rfl); (· first | rfl | (first | exact beq_self_eq_true _ | rfl | omega | exact decide_eq_true (by omega) | (simp only [bne_iff_ne, ne_eq]; assumption))))
 | refine S_unG rfl rfl rfl rfl ?_
 | ((with_reducible refine S_falseA ?_ ?_); · (first | rfl | exact decide_eq_false (by omega) | exact hsn))
 | ((with_reducible refine S_trueO ?_ ?_); · (first | rfl | exact bne_iff_ne.2 (by assumption)))
 | refine S_offG (.v (.bool false)) rfl rfl rfl rfl rfl ?_
 | (refine S_callM (f := 22) rfl obQ (by kernel_rfl) (fun w hw => lcurve_c _ _ l hl w (hw.rdm hrl.toS memQ)) (fun w1C w2C vC hw1C hbC hRC => ?_); obtain ⟨AC, cC, rfl, hSC⟩ := hRC)
 | refine S_nil ?_
 | refine S_runN rfl rfl obQ obQ ?_
 | refine S_box (fun b => ⟨_, _, rfl, obQ, ?_⟩)
 | refine S_call (f := 21) rfl obQ (by kernel_rfl) (fun w hw => value_as (valR_ok hcv (show -16384 ≤ lev + 1 ∧ lev + 1 ≤ 16384 by omega)) rfl hl (hw.rdm hSC memQ)) ?_
   )
 | (refine D_id ?_; first
 | refine D_nil ?_
 | refine D_tail ?_
 | refine D_run rfl rfl obQ obQ ?_
 | refine D_call (f := 21) rfl obQ (by kernel_rfl) (fun w hw => value_as (valR_ok hcv (show -16384 ≤ lev + 1 ∧ lev + 1 ≤ 16384 by omega)) rfl hl (hw.rdm hSC memQ)) ?_
   )
 | (refine G_id ?_; first
 | refine G_cutN () ⟨⟨_, rfl, obQ⟩, ⟨_, rfl⟩, rfl, psQ⟩
 | refine G_then ?_
 | refine G_block ?_
 | refine G_blockX ?_
 | refine G_blockN rfl ?_
 | refine G_blockR ?_
 | refine G_thenR ?_
 | refine G_thenX ?_
 | refine G_ret rfl obQ (fun w hw => ⟨?_, hw.below⟩)
   )
   )
  repeat' (first
 | (refine C_id ?_; first
 | refine C_seq ?_
 | refine C_region rfl ?_
 | refine C_block ?_
 | refine C_skip ?_
 | refine C_exit ?_
 | refine C_ret0 ?_
 | refine C_draw (id := 8) rfl mixed (by kernel_rfl) ?_
 | refine C_draw (id := 11) rfl mixed (by kernel_rfl) ?_
 | refine C_drawT (id := 29) 16 rfl mixed (by kernel_rfl) rfl rfl ?_
 | refine C_draw (id := 36) rfl mixed (by kernel_rfl) ?_
 | refine C_condT rfl obQ ?_
 | refine C_condF rfl obQ ?_
 | (refine C_cond rfl obQ (fun h => ?_) (fun h => ?_) <;> (try simp only [Bool.or_eq_true, Bool.and_eq_true, Bool.or_eq_false_iff, Bool.and_eq_false_iff, decide_eq_true_eq, decide_eq_false_iff_not, beq_iff_eq, bne_iff_ne, beq_eq_false_iff_ne, bne_eq_false_iff_eq, ne_eq, Decidable.not_not, List.cons.injEq, and_true, Bool.not_eq_true', Bool.not_eq_false', Int.not_lt, Int.not_le] at h) <;> (try (exfalso; omega)) <;> (try (exfalso; simp at h; done)) <;> (try (exfalso; simp only [not_true_eq_false, false_or, or_false] at h; omega)) <;> (try contradiction))
 )
 | (refine S_id ?_; first
 | ((with_reducible (first | refine S_falseN ?_ ?_ | refine S_falseB ?_ ?_ | refine S_falseL ?_ ?_ | refine S_falseD ?_ ?_ | refine S_falseE ?_ ?_)); · (first | rfl | exact bne_self_eq_false _ | assumption | omega | exact decide_eq_false (by omega) | (simp only [bne_eq_false_iff_eq]; assumption) | (rw [tuP_len]; exact bne_self_eq_false _)))
 | ((with_reducible refine S_falseO ?_ ?_ ?_); (· rfl); (· first | rfl | (first | rfl | exact bne_self_eq_false _ | assumption | omega | exact decide_eq_false (by omega) | (simp only [bne_eq_false_iff_eq]; assumption) | (rw [tuP_len]; exact bne_self_eq_false _))))
 | ((with_reducible (first | refine S_trueE ?_ ?_ | refine S_trueB ?_ ?_ | refine S_trueL ?_ ?_ | refine S_trueD ?_ ?_ | refine S_trueN ?_ ?_)); · (first | exact beq_self_eq_true _ | rfl | omega | exact decide_eq_true (by omega) | (simp only [bne_iff_ne, ne_eq]; assumption)))
 | ((with_reducible refine S_trueA ?_ ?_ ?_); (· rfl); (· first | rfl | (first | exact beq_self_eq_true _ | rfl | omega | exact decide_eq_true (by omega) | (simp only [bne_iff_ne, ne_eq]; assumption))))
 | refine S_unG rfl rfl rfl rfl ?_
 | refine S_offG (.v (.bool false)) rfl rfl rfl rfl rfl ?_
 | ((with_reducible refine S_falseA ?_ ?_); · (first | rfl | exact decide_eq_false (by omega) | exact hsn))
 | ((with_reducible refine S_trueO ?_ ?_); · (first | rfl | exact bne_iff_ne.2 (by assumption)))
 | refine S_nil ?_
 | refine S_runN rfl rfl obQ obQ ?_
 | refine S_box (fun b => ⟨_, _, rfl, obQ, ?_⟩)
 )
 | (refine D_id ?_; first
 | refine D_nil ?_
 | refine D_tail ?_
 | refine D_run rfl rfl obQ obQ ?_
 )
 | (refine G_id ?_; first
 | refine G_then ?_
 | refine G_block ?_
 | refine G_blockX ?_
 | refine G_blockN rfl ?_
 | refine G_blockR ?_
 | refine G_thenR ?_
 | refine G_thenX ?_
 | refine G_ret rfl obQ (fun w hw => ⟨?_, hw.below⟩)
 )
 )
  refine C_cut (fun B : SlA ((tuP (valF l) p).s.map (.float .f32)) × Nat => ([B.1.ps, (w, fun b => b < w.heap.size)], (⟨[(0, .s (.v (.slice (some ad) l.length c))), (5, .s (.p b5 0 0)), (7, .s (.v (.int .i64 (((l.length : Nat) : Int) - 1)))), (25, .s (.p B.2 1 0)), (26, .s (.v (.int .i64 0)))], [⟨b5, 93, [.v (.string p.nm), .v (.int .i64 p.w), .v (.int .i64 p.h), .v (.slice (some ap) p.s.length cp)]⟩, ⟨B.2, 96, [.v (.string (tuP (valF l) p).nm), .v (.int .i64 (tuP (valF l) p).w), .v (.int .i64 (tuP (valF l) p).h), .v (.slice B.1.A (tuP (valF l) p).s.length B.1.c)]⟩], []⟩ : St))) ?_ (fun B => ?_)
  · repeat' (first
 | (refine C_id ?_; first
 | refine C_seq ?_
 | refine C_region rfl ?_
 | refine C_block ?_
 | refine C_skip ?_
 | refine C_exit ?_
 | refine C_ret0 ?_
 | refine C_draw (id := 8) rfl mixed (by kernel_rfl) ?_
 | refine C_draw (id := 11) rfl mixed (by kernel_rfl) ?_
 | refine C_drawTr (id := 26) 10 (.q 0 (.q 2 (.two 1 8 (.two 3 8 (.two 4 8 (.q 5 (.q 6 (.q 7 (.n 8 (.n 9 .nil))))) (.n 4 (.q 5 (.q 6 (.q 7 (.n 9 .nil)))))) (.n 3 (.n 4 (.q 5 (.q 6 (.q 7 (.n 9 .nil))))))) (.n 1 (.n 3 (.n 4 (.q 5 (.q 6 (.q 7 (.n 9 .nil)))))))))) rfl mixed (by kernel_rfl) rfl ?_
 | refine C_drawT (id := 29) 16 rfl mixed (by kernel_rfl) rfl rfl ?_
 | refine C_draw (id := 36) rfl mixed (by kernel_rfl) ?_
 | refine C_condT rfl obQ ?_
 | refine C_condF rfl obQ ?_
 | (refine C_cond rfl obQ (fun h => ?_) (fun h => ?_) <;> (try simp only [Bool.or_eq_true, Bool.and_eq_true, Bool.or_eq_false_iff, Bool.and_eq_false_iff, decide_eq_true_eq, decide_eq_false_iff_not, beq_iff_eq, bne_iff_ne, beq_eq_false_iff_ne, bne_eq_false_iff_eq, ne_eq, Decidable.not_not, List.cons.injEq, and_true, Bool.not_eq_true', Bool.not_eq_false', Int.not_lt, Int.not_le] at h) <;> (try (exfalso; omega)) <;> (try (exfalso; simp at h; done)) <;> (try (exfalso; simp only [not_true_eq_false, false_or, or_false] at h; omega)) <;> (try contradiction))
   )
 | (refine S_id ?_; first
 | ((with_reducible (first | refine S_falseN ?_ ?_ | refine S_falseB ?_ ?_ | refine S_falseL ?_ ?_ | refine S_falseD ?_ ?_ | refine S_falseE ?_ ?_)); · (first | rfl | exact bne_self_eq_false _ | assumption | omega | exact decide_eq_false (by omega) | (simp only [bne_eq_false_iff_eq]; assumption) | (rw [tuP_len]; exact bne_self_eq_false _)))
 | ((with_reducible refine S_falseO ?_ ?_ ?_); (· rfl); (· first | rfl | (first | rfl | exact bne_self_eq_false _ | assumption | omega | exact decide_eq_false (by omega) | (simp only [bne_eq_false_iff_eq]; assumption) | (rw [tuP_len]; exact bne_self_eq_false _))))
 | ((with_reducible (first | refine S_trueE ?_ ?_ | refine S_trueB ?_ ?_ | refine S_trueL ?_ ?_ | refine S_trueD ?_ ?_ | refine S_trueN ?_ ?_)); · (first | exact beq_self_eq_true _ | rfl | omega | exact decide_eq_true (by omega) | (simp only [bne_iff_ne, ne_eq]; assumption)))
 | ((with_reducible refine S_trueA ?_ ?_ ?_); (· rfl); (· first | rfl | (first | exact beq_self_eq_true _ | rfl | omega | exact decide_eq_true (by omega) | (simp only [bne_iff_ne, ne_eq]; assumption))))
 | refine S_unG rfl rfl rfl rfl ?_
 | ((with_reducible refine S_falseA ?_ ?_); · (first | rfl | exact decide_eq_false (by omega) | exact hsn))
 | ((with_reducible refine S_trueO ?_ ?_); · (first | rfl | exact bne_iff_ne.2 (by assumption)))
 | refine S_offG (.v (.bool false)) rfl rfl rfl rfl rfl ?_
 | (refine S_callM (f := 22) rfl obQ (by kernel_rfl) (fun w hw => lcurve_c _ _ l hl w (hw.rdm hrl.toS memQ)) (fun w1C w2C vC hw1C hbC hRC => ?_); obtain ⟨AC, cC, rfl, hSC⟩ := hRC)
 | (refine S_callM (f := 56) rfl obQ (by kernel_rfl) (fun w hw => lown_c p _ _ hs hA w (hw.rdm hr.toS memQ)) (fun w1O w2O vO hw1O hbO hRO => ?_); obtain ⟨AO, cO, rfl, hSO⟩ := hRO)
 | (refine S_callM (f := 93) rfl obQ (by kernel_rfl) (fun w hw => app_as hap hs hl (hw.rdm hSO memQ) (hw.rdm hSC memQ)) (fun w1X w2X vX hw1X hbX hRX => ?_); obtain ⟨AX, cX, rfl, hSX⟩ := hRX)
 | refine S_nil ?_
 | refine S_runN rfl rfl obQ obQ ?_
 | refine S_box (fun bb => ⟨_, _, rfl, obQ, ?_⟩)
   )
 | (refine D_id ?_; first
 | refine D_nil ?_
 | refine D_tail ?_
 | refine D_run rfl rfl obQ obQ ?_
   )
 | (refine VT_id ?_; first
 | refine VT_nil ?_
 | refine VT_q rfl (Yl_step rfl obQ) ?_
 | refine VT_n rfl ?_
 | refine VT_two rfl rfl ?_ ?_
   )
 | (refine G_id ?_; first
 | refine G_VT2 ⟨_, rfl⟩ ⟨_, rfl⟩ pstQ rfl ?_
 | refine G_cutN (⟨w1X, w2X, AX, cX, hSX⟩, bb) ⟨⟨_, rfl, obQ⟩, ⟨_, rfl⟩, rfl, psQ⟩
 | refine G_then ?_
 | refine G_block ?_
 | refine G_blockX ?_
 | refine G_blockN rfl ?_
 | refine G_blockR ?_
 | refine G_thenR ?_
 | refine G_thenX ?_
 | refine G_ret rfl obQ (fun w hw => ⟨?_, hw.below⟩)
   )
   )
  obtain ⟨⟨W1, W2, AB, cB, hB⟩, bb⟩ := B
  obtain ⟨aB, rfl⟩ := rdS_some hB (by rw [List.length_map, tuP_len]; exact h0)
  dsimp only [SlA.ps]
  repeat' (first
 | (refine C_id ?_; first
 | refine C_seq ?_
 | refine C_region rfl ?_
 | refine C_block ?_
 | refine C_skip ?_
 | refine C_exit ?_
 | refine C_ret0 ?_
 | refine C_draw (id := 8) rfl mixed (by kernel_rfl) ?_
 | refine C_draw (id := 11) rfl mixed (by kernel_rfl) ?_
 | refine C_drawT (id := 26) 8 rfl mixed (by kernel_rfl) rfl rfl ?_
 | refine C_draw (id := 36) rfl mixed (by kernel_rfl) ?_
 | refine C_condT rfl obQ ?_
 | refine C_condF rfl obQ ?_
 | (refine C_cond rfl obQ (fun h => ?_) (fun h => ?_) <;> (try simp only [Bool.or_eq_true, Bool.and_eq_true, Bool.or_eq_false_iff, Bool.and_eq_false_iff, decide_eq_true_eq, decide_eq_false_iff_not, beq_iff_eq, bne_iff_ne, beq_eq_false_iff_ne, bne_eq_false_iff_eq, ne_eq, Decidable.not_not, List.cons.injEq, and_true, Bool.not_eq_true', Bool.not_eq_false', Int.not_lt, Int.not_le] at h) <;> (try (exfalso; omega)) <;> (try (exfalso; simp at h; done)) <;> (try (exfalso; simp only [not_true_eq_false, false_or, or_false] at h; omega)) <;> (try contradiction))
 )
 | (refine S_id ?_; first
 | ((with_reducible (first | refine S_falseN ?_ ?_ | refine S_falseB ?_ ?_ | refine S_falseL ?_ ?_ | refine S_falseD ?_ ?_ | refine S_falseE ?_ ?_)); · (first | rfl | exact bne_self_eq_false _ | assumption | omega | exact decide_eq_false (by omega) | (simp only [bne_eq_false_iff_eq]; assumption) | (rw [tuP_len]; exact bne_self_eq_false _)))
 | ((with_reducible refine S_falseO ?_ ?_ ?_); (· rfl); (· first | rfl | (first | rfl | exact bne_self_eq_false _ | assumption | omega | exact decide_eq_false (by omega) | (simp only [bne_eq_false_iff_eq]; assumption) | (rw [tuP_len]; exact bne_self_eq_false _))))
 | ((with_reducible (first | refine S_trueE ?_ ?_ | refine S_trueB ?_ ?_ | refine S_trueL ?_ ?_ | refine S_trueD ?_ ?_ | refine S_trueN ?_ ?_)); · (first | exact beq_self_eq_true _ | rfl | omega | exact decide_eq_true (by omega) | (simp only [bne_iff_ne, ne_eq]; assumption)))
 | ((with_reducible refine S_trueA ?_ ?_ ?_); (· rfl); (· first | rfl | (first | exact beq_self_eq_true _ | rfl | omega | exact decide_eq_true (by omega) | (simp only [bne_iff_ne, ne_eq]; assumption))))
 | refine S_unG rfl rfl rfl rfl ?_
 | refine S_offG (.v (.bool false)) rfl rfl rfl rfl rfl ?_
 | ((with_reducible refine S_falseA ?_ ?_); · (first | rfl | exact decide_eq_false (by omega) | exact hsn))
 | ((with_reducible refine S_trueO ?_ ?_); · (first | rfl | exact bne_iff_ne.2 (by assumption)))
 | refine S_nil ?_
 | refine S_runN rfl rfl obQ obQ ?_
 | refine S_box (fun b => ⟨_, _, rfl, obQ, ?_⟩)
 )
 | (refine D_id ?_; first
 | refine D_nil ?_
 | refine D_tail ?_
 | refine D_run rfl rfl obQ obQ ?_
 )
 | (refine G_id ?_; first
 | refine G_then ?_
 | refine G_block ?_
 | refine G_blockX ?_
 | refine G_blockN rfl ?_
 | refine G_blockR ?_
 | refine G_thenR ?_
 | refine G_thenX ?_
 | refine G_ret rfl obQ (fun w hw => ⟨?_, hw.below⟩)
 )
 )
  have hAq : (some aB : Option Addr) = none → (tuP (valF l) p).s.length = 0 ∧ cB = 0 := fun e => by cases e
  refine C_cut (fun D : SlA ((tuP (valF l) p).s.map (.float .f32)) × Nat => ([D.1.ps, (W2, fun b => W1.heap.size ≤ b ∧ b < W2.heap.size), (w, fun b => b < w.heap.size)], (⟨[(0, .s (.v (.slice (some ad) l.length c))), (5, .s (.p b5 0 0)), (25, .s (.p bb 1 0)), (27, .s (.p D.2 2 0)), (28, .s (.v (.int .i64 0)))], [⟨b5, 93, [.v (.string p.nm), .v (.int .i64 p.w), .v (.int .i64 p.h), .v (.slice (some ap) p.s.length cp)]⟩, ⟨bb, 96, [.v (.string (tuP (valF l) p).nm), .v (.int .i64 (tuP (valF l) p).w), .v (.int .i64 (tuP (valF l) p).h), .v (.slice (some aB) (tuP (valF l) p).s.length cB)]⟩, ⟨D.2, 96, [.v (.string (tuP (valF l) p).nm), .v (.int .i64 (tuP (valF l) p).w), .v (.int .i64 (tuP (valF l) p).h), .v (.slice D.1.A (tuP (valF l) p).s.length D.1.c)]⟩], []⟩ : St))) ?_ (fun D => ?_)
  · repeat' (first
 | (refine C_id ?_; first
 | refine C_seq ?_
 | refine C_region rfl ?_
 | refine C_block ?_
 | refine C_skip ?_
 | refine C_exit ?_
 | refine C_ret0 ?_
 | refine C_draw (id := 8) rfl mixed (by kernel_rfl) ?_
 | refine C_draw (id := 11) rfl mixed (by kernel_rfl) ?_
 | refine C_drawT (id := 26) 8 rfl mixed (by kernel_rfl) rfl rfl ?_
 | refine C_drawTr (id := 29) 18 (.q 0 (.q 2 (.q 3 (.q 4 (.q 5 (.q 6 (.q 7 (.q 8 (.q 9 (.q 10 (.q 11 (.two 1 16 (.two 12 16 (.q 13 (.q 14 (.q 15 (.n 16 (.n 17 .nil))))) (.n 12 (.q 13 (.q 14 (.q 15 (.n 17 .nil)))))) (.n 1 (.n 12 (.q 13 (.q 14 (.q 15 (.n 17 .nil)))))))))))))))))) rfl mixed (by kernel_rfl) rfl ?_
 | refine C_draw (id := 36) rfl mixed (by kernel_rfl) ?_
 | refine C_condT rfl obQ ?_
 | refine C_condF rfl obQ ?_
 | (refine C_cond rfl obQ (fun h => ?_) (fun h => ?_) <;> (try simp only [Bool.or_eq_true, Bool.and_eq_true, Bool.or_eq_false_iff, Bool.and_eq_false_iff, decide_eq_true_eq, decide_eq_false_iff_not, beq_iff_eq, bne_iff_ne, beq_eq_false_iff_ne, bne_eq_false_iff_eq, ne_eq, Decidable.not_not, List.cons.injEq, and_true, Bool.not_eq_true', Bool.not_eq_false', Int.not_lt, Int.not_le] at h) <;> (try (exfalso; omega)) <;> (try (exfalso; simp at h; done)) <;> (try (exfalso; simp only [not_true_eq_false, false_or, or_false] at h; omega)) <;> (try contradiction))
   )
 | (refine S_id ?_; first
 | ((with_reducible (first | refine S_falseN ?_ ?_ | refine S_falseB ?_ ?_ | refine S_falseL ?_ ?_ | refine S_falseD ?_ ?_ | refine S_falseE ?_ ?_)); · (first | rfl | exact bne_self_eq_false _ | assumption | omega | exact decide_eq_false (by omega) | (simp only [bne_eq_false_iff_eq]; assumption) | (rw [tuP_len]; exact bne_self_eq_false _)))
 | ((with_reducible refine S_falseO ?_ ?_ ?_); (· rfl); (· first | rfl | (first | rfl | exact bne_self_eq_false _ | assumption | omega | exact decide_eq_false (by omega) | (simp only [bne_eq_false_iff_eq]; assumption) | (rw [tuP_len]; exact bne_self_eq_false _))))
 | ((with_reducible (first | refine S_trueE ?_ ?_ | refine S_trueB ?_ ?_ | refine S_trueL ?_ ?_ | refine S_trueD ?_ ?_ | refine S_trueN ?_ ?_)); · (first | exact beq_self_eq_true _ | rfl | omega | exact decide_eq_true (by omega) | (simp only [bne_iff_ne, ne_eq]; assumption)))
 | ((with_reducible refine S_trueA ?_ ?_ ?_); (· rfl); (· first | rfl | (first | exact beq_self_eq_true _ | rfl | omega | exact decide_eq_true (by omega) | (simp only [bne_iff_ne, ne_eq]; assumption))))
 | refine S_unG rfl rfl rfl rfl ?_
 | ((with_reducible refine S_falseA ?_ ?_); · (first | rfl | exact decide_eq_false (by omega) | exact hsn))
 | ((with_reducible refine S_trueO ?_ ?_); · (first | rfl | exact bne_iff_ne.2 (by assumption)))
 | refine S_offG (.v (.bool false)) rfl rfl rfl rfl rfl ?_
 | (refine S_callM (f := 56) rfl obQ (by kernel_rfl) (fun w hw => lown_c (tuP (valF l) p) _ _ hsq hAq w (hw.rdm hB memQ)) (fun w1O w2O vO hw1O hbO hRO => ?_); obtain ⟨AO, cO, rfl, hSO⟩ := hRO)
 | (refine S_callM (f := 94) rfl obQ (by kernel_rfl) (fun w hw => clp_as hcl hcq hsq (hw.rdm hSO memQ)) (fun w1Y w2Y vY hw1Y hbY hRY => ?_); obtain ⟨AY, cY, rfl, hSY⟩ := hRY)
 | refine S_load rfl obQ rfl [.int .i64 (gP l (0)).1] (.past (w, fun b => b < w.heap.size) memQ _ _ hrl.toS _ _ rfl (add_of_add _ _ _) (gP_1 (k := 0) rfl (by omega))) rfl (.inr ⟨rfl, rfl⟩) ?_
 | refine S_load rfl obQ rfl [.int .i64 (gP l (0)).2] (.past (w, fun b => b < w.heap.size) memQ _ _ hrl.toS _ _ rfl (add_of_add _ _ _) (gP_2 (k := 0) rfl (by omega))) rfl (.inr ⟨rfl, rfl⟩) ?_
 | refine S_load rfl obQ rfl [.int .i64 (gP l (l.length - 1)).1] (.past (w, fun b => b < w.heap.size) memQ _ _ hrl.toS _ _ rfl (add_of_add _ _ _) (gP_1 (k := l.length - 1) (by omega) (by omega))) rfl (.inr ⟨rfl, rfl⟩) ?_
 | refine S_load rfl obQ rfl [.int .i64 (gP l (l.length - 1)).2] (.past (w, fun b => b < w.heap.size) memQ _ _ hrl.toS _ _ rfl (add_of_add _ _ _) (gP_2 (k := l.length - 1) (by omega) (by omega))) rfl (.inr ⟨rfl, rfl⟩) ?_
 | refine S_nil ?_
 | refine S_runN rfl rfl obQ obQ ?_
 | refine S_box (fun bd => ⟨_, _, rfl, obQ, ?_⟩)
   )
 | (refine D_id ?_; first
 | refine D_nil ?_
 | refine D_tail ?_
 | refine D_run rfl rfl obQ obQ ?_
   )
 | (refine VT_id ?_; first
 | refine VT_nil ?_
 | refine VT_q rfl (Yl_load rfl obQ rfl [.int .i64 (gP l (0)).1] (.past (w, fun b => b < w.heap.size) memQ _ _ hrl.toS _ _ rfl (add_of_add _ _ _) (gP_1 (k := 0) rfl (by omega))) rfl (.inr ⟨rfl, rfl⟩)) ?_
 | refine VT_q rfl (Yl_load rfl obQ rfl [.int .i64 (gP l (0)).2] (.past (w, fun b => b < w.heap.size) memQ _ _ hrl.toS _ _ rfl (add_of_add _ _ _) (gP_2 (k := 0) rfl (by omega))) rfl (.inr ⟨rfl, rfl⟩)) ?_
 | refine VT_q rfl (Yl_load rfl obQ rfl [.int .i64 (gP l (l.length - 1)).1] (.past (w, fun b => b < w.heap.size) memQ _ _ hrl.toS _ _ rfl (add_of_add _ _ _) (gP_1 (k := l.length - 1) (by omega) (by omega))) rfl (.inr ⟨rfl, rfl⟩)) ?_
 | refine VT_q rfl (Yl_load rfl obQ rfl [.int .i64 (gP l (l.length - 1)).2] (.past (w, fun b => b < w.heap.size) memQ _ _ hrl.toS _ _ rfl (add_of_add _ _ _) (gP_2 (k := l.length - 1) (by omega) (by omega))) rfl (.inr ⟨rfl, rfl⟩)) ?_
 | refine VT_q rfl (Yl_step rfl obQ) ?_
 | refine VT_n rfl ?_
 | refine VT_two rfl rfl ?_ ?_
   )
 | (refine G_id ?_; first
 | refine G_VT2 ⟨_, rfl⟩ ⟨_, rfl⟩ pstQ rfl ?_
 | refine G_cutN (⟨w1Y, w2Y, AY, cY, hSY⟩, bd) ⟨⟨_, rfl, obQ⟩, ⟨_, rfl⟩, rfl, psQ⟩
 | refine G_then ?_
 | refine G_block ?_
 | refine G_blockX ?_
 | refine G_blockN rfl ?_
 | refine G_blockR ?_
 | refine G_thenR ?_
 | refine G_thenX ?_
 | refine G_ret rfl obQ (fun w hw => ⟨?_, hw.below⟩)
   )
   )
  dsimp only
  repeat' (first
 | (refine C_id ?_; first
 | refine C_seq ?_
 | refine C_region rfl ?_
 | refine C_block ?_
 | refine C_skip ?_
 | refine C_exit ?_
 | refine C_ret0 ?_
 | refine C_draw (id := 8) rfl mixed (by kernel_rfl) ?_
 | refine C_draw (id := 11) rfl mixed (by kernel_rfl) ?_
 | refine C_drawT (id := 26) 8 rfl mixed (by kernel_rfl) rfl rfl ?_
 | refine C_drawT (id := 29) 16 rfl mixed (by kernel_rfl) rfl rfl ?_
 | refine C_draw (id := 36) rfl mixed (by kernel_rfl) ?_
 | refine C_condT rfl obQ ?_
 | refine C_condF rfl obQ ?_
 | (refine C_cond rfl obQ (fun h => ?_) (fun h => ?_) <;> (try simp only [Bool.or_eq_true, Bool.and_eq_true, Bool.or_eq_false_iff, Bool.and_eq_false_iff, decide_eq_true_eq, decide_eq_false_iff_not, beq_iff_eq, bne_iff_ne, beq_eq_false_iff_ne, bne_eq_false_iff_eq, ne_eq, Decidable.not_not, List.cons.injEq, and_true, Bool.not_eq_true', Bool.not_eq_false', Int.not_lt, Int.not_le] at h) <;> (try (exfalso; omega)) <;> (try (exfalso; simp at h; done)) <;> (try (exfalso; simp only [not_true_eq_false, false_or, or_false] at h; omega)) <;> (try contradiction))
 )
 | (refine S_id ?_; first
 | ((with_reducible (first | refine S_falseN ?_ ?_ | refine S_falseB ?_ ?_ | refine S_falseL ?_ ?_ | refine S_falseD ?_ ?_ | refine S_falseE ?_ ?_)); · (first | rfl | exact bne_self_eq_false _ | assumption | omega | exact decide_eq_false (by omega) | (simp only [bne_eq_false_iff_eq]; assumption) | (rw [tuP_len]; exact bne_self_eq_false _)))
 | ((with_reducible refine S_falseO ?_ ?_ ?_); (· rfl); (· first | rfl | (first | rfl | exact bne_self_eq_false _ | assumption | omega | exact decide_eq_false (by omega) | (simp only [bne_eq_false_iff_eq]; assumption) | (rw [tuP_len]; exact bne_self_eq_false _))))
 | ((with_reducible (first | refine S_trueE ?_ ?_ | refine S_trueB ?_ ?_ | refine S_trueL ?_ ?_ | refine S_trueD ?_ ?_ | refine S_trueN ?_ ?_)); · (first | exact beq_self_eq_true _ | rfl | omega | exact decide_eq_true (by omega) | (simp only [bne_iff_ne, ne_eq]; assumption)))
 | ((with_reducible refine S_trueA ?_ ?_ ?_); (· rfl); (· first | rfl | (first | exact beq_self_eq_true _ | rfl | omega | exact decide_eq_true (by omega) | (simp only [bne_iff_ne, ne_eq]; assumption))))
 | refine S_unG rfl rfl rfl rfl ?_
 | refine S_offG (.v (.bool false)) rfl rfl rfl rfl rfl ?_
 | ((with_reducible refine S_falseA ?_ ?_); · (first | rfl | exact decide_eq_false (by omega) | exact hsn))
 | ((with_reducible refine S_trueO ?_ ?_); · (first | rfl | exact bne_iff_ne.2 (by assumption)))
 | refine S_nil ?_
 | refine S_runN rfl rfl obQ obQ ?_
 | refine S_box (fun b => ⟨_, _, rfl, obQ, ?_⟩)
 | refine S_call (f := 97) rfl obQ (by kernel_rfl) (fun w hw => rSameP_c (tuP (valF l) p) _ _ _ _ hsq hfq w (hw.rdm hB memQ) (hw.rdm D.1.h memQ)) ?_
 )
 | (refine D_id ?_; first
 | refine D_nil ?_
 | refine D_tail ?_
 | refine D_run rfl rfl obQ obQ ?_
 | refine D_call (f := 97) rfl obQ (by kernel_rfl) (fun w hw => rSameP_c (tuP (valF l) p) _ _ _ _ hsq hfq w (hw.rdm hB memQ) (hw.rdm D.1.h memQ)) ?_
 )
 | (refine G_id ?_; first
 | refine G_then ?_
 | refine G_block ?_
 | refine G_blockX ?_
 | refine G_blockN rfl ?_
 | refine G_blockR ?_
 | refine G_thenR ?_
 | refine G_thenX ?_
 | refine G_ret rfl obQ (fun w hw => ⟨?_, hw.below⟩)
 )
 )
  refine C_loopS (fun k : Nat => ⟨[(0, .s (.v (.slice (some ad) l.length c))), (5, .s (.p b5 0 0)), (25, .s (.p bb 1 0)), (268, .s (.v (.slice (some ap) p.s.length cp))), (269, .s (.v (.int .i64 ((p.s.length : Nat) : Int)))), (270, .s (.v (.int .i64 k)))], [⟨b5, 93, [.v (.string p.nm), .v (.int .i64 p.w), .v (.int .i64 p.h), .v (.slice (some ap) p.s.length cp)]⟩, ⟨bb, 96, [.v (.string (tuP (valF l) p).nm), .v (.int .i64 (tuP (valF l) p).w), .v (.int .i64 (tuP (valF l) p).h), .v (.slice (some aB) (tuP (valF l) p).s.length cB)]⟩], []⟩) (fun k => k ≤ p.s.length) (fun k => p.s.length - k) 0 (Nat.zero_le _) ?_ (fun k hk0 => ?_)
  · exact ⟨⟨_, rfl, obQ⟩, ⟨_, rfl⟩, rfl, pstQ⟩
  have hk2 : k ≤ p.s.length := hk0
  by_cases hlt : k < p.s.length
  · have hsm := hpk.s _ (gB_mem hlt)
    have hlv2 := hsm.lv
    have hvk := valF_lv hcv (lvl (gB p.s k))
    have hne := smp_self hvk
    have hlq : k < (tuP (valF l) p).s.length := by rw [tuP_len]; exact hlt
    have hqx : ∀ (j : Nat) (u : Value), ([.float .f32 (smp (valF l (lvl (gB p.s k))))] : List Value)[j]? = some u → ((tuP (valF l) p).s.map (Value.float .f32))[((k : Int).toNat * 1 + j)]? = some u := by
      rw [← tuP_gB (f := valF l) hlt]
      exact gB_idxZ rfl (by rw [tuP_len]; exact hlt)
    repeat' (first
 | (refine C_id ?_; first
 | refine C_seq ?_
 | refine C_region rfl ?_
 | refine C_block ?_
 | refine C_skip ?_
 | refine C_exit ?_
 | refine C_ret0 ?_
 | refine C_draw (id := 8) rfl mixed (by kernel_rfl) ?_
 | refine C_draw (id := 11) rfl mixed (by kernel_rfl) ?_
 | refine C_drawT (id := 26) 8 rfl mixed (by kernel_rfl) rfl rfl ?_
 | refine C_drawT (id := 29) 16 rfl mixed (by kernel_rfl) rfl rfl ?_
 | refine C_draw (id := 36) rfl mixed (by kernel_rfl) ?_
 | refine C_condT rfl obQ ?_
 | refine C_condF rfl obQ ?_
 | (refine C_cond rfl obQ (fun h => ?_) (fun h => ?_) <;> (try simp only [Bool.or_eq_true, Bool.and_eq_true, Bool.or_eq_false_iff, Bool.and_eq_false_iff, decide_eq_true_eq, decide_eq_false_iff_not, beq_iff_eq, bne_iff_ne, beq_eq_false_iff_ne, bne_eq_false_iff_eq, ne_eq, Decidable.not_not, List.cons.injEq, and_true, Bool.not_eq_true', Bool.not_eq_false', Int.not_lt, Int.not_le] at h) <;> (try (exfalso; omega)) <;> (try (exfalso; simp at h; done)) <;> (try (exfalso; simp only [not_true_eq_false, false_or, or_false] at h; omega)) <;> (try contradiction))
   )
 | (refine S_id ?_; first
 | ((with_reducible (first | refine S_falseN ?_ ?_ | refine S_falseB ?_ ?_ | refine S_falseL ?_ ?_ | refine S_falseD ?_ ?_ | refine S_falseE ?_ ?_)); · (first | rfl | exact bne_self_eq_false _ | assumption | omega | exact decide_eq_false (by omega) | (simp only [bne_eq_false_iff_eq]; assumption) | (rw [tuP_len]; exact bne_self_eq_false _)))
 | ((with_reducible refine S_falseO ?_ ?_ ?_); (· rfl); (· first | rfl | (first | rfl | exact bne_self_eq_false _ | assumption | omega | exact decide_eq_false (by omega) | (simp only [bne_eq_false_iff_eq]; assumption) | (rw [tuP_len]; exact bne_self_eq_false _))))
 | ((with_reducible (first | refine S_trueE ?_ ?_ | refine S_trueB ?_ ?_ | refine S_trueL ?_ ?_ | refine S_trueD ?_ ?_ | refine S_trueN ?_ ?_)); · (first | exact beq_self_eq_true _ | rfl | omega | exact decide_eq_true (by omega) | (simp only [bne_iff_ne, ne_eq]; assumption)))
 | ((with_reducible refine S_trueA ?_ ?_ ?_); (· rfl); (· first | rfl | (first | exact beq_self_eq_true _ | rfl | omega | exact decide_eq_true (by omega) | (simp only [bne_iff_ne, ne_eq]; assumption))))
 | refine S_unG rfl rfl rfl rfl ?_
 | ((with_reducible refine S_falseA ?_ ?_); · (first | rfl | exact decide_eq_false (by omega) | exact hsn))
 | ((with_reducible refine S_trueO ?_ ?_); · (first | rfl | exact bne_iff_ne.2 (by assumption)))
 | refine S_offG (.v (.bool false)) rfl rfl rfl rfl rfl ?_
 | (refine S_callM (f := 22) rfl obQ (by kernel_rfl) (fun w hw => lcurve_c _ _ l hl w (hw.rdm hrl.toS memQ)) (fun w1C w2C vC hw1C hbC hRC => ?_); obtain ⟨AC, cC, rfl, hSC⟩ := hRC)
 | refine S_load rfl obQ rfl [.float .f32 (gB p.s k)] (.past (w, fun b => b < w.heap.size) memQ _ _ hr.toS _ _ rfl rfl (gB_idxZ (k := k) rfl hlt)) rfl (.inr ⟨rfl, rfl⟩) ?_
 | refine S_nil ?_
 | refine S_runN rfl rfl obQ obQ ?_
 | refine S_box (fun b => ⟨_, _, rfl, obQ, ?_⟩)
 | refine S_call (f := 21) rfl obQ (by kernel_rfl) (fun w hw => value_as (valR_ok hcv hlv2) rfl hl (hw.rdm hSC memQ)) ?_
 | refine S_call (f := 98) rfl obQ (by kernel_rfl) (fun w hw => sixteenths_c (gB p.s k) hsm.fin hsm.bd w) ?_
 | refine S_call (f := 99) rfl obQ (by kernel_rfl) (fun w hw => rSample_c (valF l (lvl (gB p.s k))) hvk w) ?_
 | refine S_callG (f := 99) rfl rfl (fun hg => obQ) (by kernel_rfl) (fun hg w hw => rSample_c (valF l (lvl (gB p.s k))) hvk w) ?_
   )
 | (refine D_id ?_; first
 | refine D_loadG rfl rfl (fun hg => obQ) rfl [.float .f32 (smp (valF l (lvl (gB p.s k))))] (fun hg => .past (W2, fun b => W1.heap.size ≤ b ∧ b < W2.heap.size) memQ _ _ hB _ _ rfl rfl hqx) rfl (.inr ⟨rfl, rfl⟩) ?_
 | refine D_binG rfl rfl (fun hg => obQ) (fun hg w => fl_ne_to hne _ _ _ w) ?_
 | refine D_nil ?_
 | refine D_tail ?_
 | refine D_run rfl rfl obQ obQ ?_
 | refine D_call (f := 21) rfl obQ (by kernel_rfl) (fun w hw => value_as (valR_ok hcv hlv2) rfl hl (hw.rdm hSC memQ)) ?_
 | refine D_call (f := 98) rfl obQ (by kernel_rfl) (fun w hw => sixteenths_c (gB p.s k) hsm.fin hsm.bd w) ?_
 | refine D_call (f := 99) rfl obQ (by kernel_rfl) (fun w hw => rSample_c (valF l (lvl (gB p.s k))) hvk w) ?_
 | refine D_callG (f := 99) rfl rfl (fun hg => obQ) (by kernel_rfl) (fun hg w hw => rSample_c (valF l (lvl (gB p.s k))) hvk w) ?_
   )
 | (refine G_id ?_; first
 | refine G_loop (k + 1) (show k + 1 ≤ p.s.length by omega) (by show p.s.length - (k + 1) < p.s.length - k; omega) ⟨⟨_, rfl, obQ⟩, ⟨_, rfl⟩, rfl, psQ⟩
 | refine G_then ?_
 | refine G_block ?_
 | refine G_blockX ?_
 | refine G_blockN rfl ?_
 | refine G_blockR ?_
 | refine G_thenR ?_
 | refine G_thenX ?_
 | refine G_ret rfl obQ (fun w hw => ⟨?_, hw.below⟩)
   )
   )
  · repeat' (first
 | (refine C_id ?_; first
 | refine C_seq ?_
 | refine C_region rfl ?_
 | refine C_block ?_
 | refine C_skip ?_
 | refine C_exit ?_
 | refine C_ret0 ?_
 | refine C_draw (id := 8) rfl mixed (by kernel_rfl) ?_
 | refine C_draw (id := 11) rfl mixed (by kernel_rfl) ?_
 | refine C_drawT (id := 26) 8 rfl mixed (by kernel_rfl) rfl rfl ?_
 | refine C_drawT (id := 29) 16 rfl mixed (by kernel_rfl) rfl rfl ?_
 | refine C_draw (id := 36) rfl mixed (by kernel_rfl) ?_
 | refine C_condT rfl obQ ?_
 | refine C_condF rfl obQ ?_
 | (refine C_cond rfl obQ (fun h => ?_) (fun h => ?_) <;> (try simp only [Bool.or_eq_true, Bool.and_eq_true, Bool.or_eq_false_iff, Bool.and_eq_false_iff, decide_eq_true_eq, decide_eq_false_iff_not, beq_iff_eq, bne_iff_ne, beq_eq_false_iff_ne, bne_eq_false_iff_eq, ne_eq, Decidable.not_not, List.cons.injEq, and_true, Bool.not_eq_true', Bool.not_eq_false', Int.not_lt, Int.not_le] at h) <;> (try (exfalso; omega)) <;> (try (exfalso; simp at h; done)) <;> (try (exfalso; simp only [not_true_eq_false, false_or, or_false] at h; omega)) <;> (try contradiction))
   )
 | (refine S_id ?_; first
 | ((with_reducible (first | refine S_falseN ?_ ?_ | refine S_falseB ?_ ?_ | refine S_falseL ?_ ?_ | refine S_falseD ?_ ?_ | refine S_falseE ?_ ?_)); · (first | rfl | exact bne_self_eq_false _ | assumption | omega | exact decide_eq_false (by omega) | (simp only [bne_eq_false_iff_eq]; assumption) | (rw [tuP_len]; exact bne_self_eq_false _)))
 | ((with_reducible refine S_falseO ?_ ?_ ?_); (· rfl); (· first | rfl | (first | rfl | exact bne_self_eq_false _ | assumption | omega | exact decide_eq_false (by omega) | (simp only [bne_eq_false_iff_eq]; assumption) | (rw [tuP_len]; exact bne_self_eq_false _))))
 | ((with_reducible (first | refine S_trueE ?_ ?_ | refine S_trueB ?_ ?_ | refine S_trueL ?_ ?_ | refine S_trueD ?_ ?_ | refine S_trueN ?_ ?_)); · (first | exact beq_self_eq_true _ | rfl | omega | exact decide_eq_true (by omega) | (simp only [bne_iff_ne, ne_eq]; assumption)))
 | ((with_reducible refine S_trueA ?_ ?_ ?_); (· rfl); (· first | rfl | (first | exact beq_self_eq_true _ | rfl | omega | exact decide_eq_true (by omega) | (simp only [bne_iff_ne, ne_eq]; assumption))))
 | refine S_unG rfl rfl rfl rfl ?_
 | refine S_offG (.v (.bool false)) rfl rfl rfl rfl rfl ?_
 | ((with_reducible refine S_falseA ?_ ?_); · (first | rfl | exact decide_eq_false (by omega) | exact hsn))
 | ((with_reducible refine S_trueO ?_ ?_); · (first | rfl | exact bne_iff_ne.2 (by assumption)))
 | refine S_nil ?_
 | refine S_runN rfl rfl obQ obQ ?_
 | refine S_box (fun b => ⟨_, _, rfl, obQ, ?_⟩)
 | refine S_call (f := 20) rfl obQ (by kernel_rfl) (fun w hw => awake_c w (hw.rdm hO.toS memQ) (Pw_at hP hw memQ)) ?_
   )
 | (refine D_id ?_; first
 | refine D_nil ?_
 | refine D_tail ?_
 | refine D_run rfl rfl obQ obQ ?_
 | refine D_call (f := 20) rfl obQ (by kernel_rfl) (fun w hw => awake_c w (hw.rdm hO.toS memQ) (Pw_at hP hw memQ)) ?_
   )
 | (refine G_id ?_; first
 | refine G_then ?_
 | refine G_block ?_
 | refine G_blockX ?_
 | refine G_blockN rfl ?_
 | refine G_blockR ?_
 | refine G_thenR ?_
 | refine G_thenX ?_
 | refine G_ret rfl obQ (fun w hw => ⟨?_, hw.below⟩)
   )
   )
    all_goals rfl

end Go.Proofs.YtdbffbcobghbeaaGreatDoor
