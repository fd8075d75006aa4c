/- Pictures to which a curve is applied; clipped ones: the program. An own picture as a row. -/
import Derived.Test.YtedlaominconaaaTops21
import Derived.Test.YtedlaominconaaaColour4
import Derived.Test.YtedlaominconaaaColour16
namespace Go.Proofs.Ytedlaominconaaa
open Go.E Go.RowKit Go.Fl
attribute [local irreducible] G C S D Calls
set_option maxRecDepth 100000
set_option linter.unusedSimpArgs false
set_option linter.unusedVariables false

/-- A picture of a call's own, as a row. -/
def PRow (v : Value) (rs : List Rw) (p : Pic) : Prop := ∃ g c, v = .agg #[.string p.nm, .int .i64 p.w, .int .i64 p.h, .slice (some ⟨g, 0, none⟩) p.s.length c] ∧ rs = [⟨47, 1, p.s.length, p.s.map (.float .f32), .slice (some ⟨g, 0, none⟩) p.s.length c⟩]
theorem HW.picRow {w0 w : World} {Ps : Past} {σ : St} (hw : HW w0.heap.size w0 Ps σ w) {i : Nat} {r : Rw} (h : nth σ.rw i = some r) {p : Pic} (h0 : 0 < p.s.length) (he : r.e = 47 ∧ r.size = 1) (hn : r.n = p.s.length) (hx : r.xs = p.s.map (.float .f32)) {u : Value} (hu : u = .agg #[.string p.nm, .int .i64 p.w, .int .i64 p.h, r.val]) :
    ∃ v rs, Ending.returned u = .returned v ∧ Below w0.heap.size w0 w ∧ (∀ r ∈ rs, w.ownsRow w0.heap.size r.e r.size r.val r.n r.xs) ∧ rs.Pairwise (fun r s => ∀ g, r.val.ownBlock = some g → s.val.ownBlock ≠ some g) ∧ PRow v rs p := by
  obtain ⟨h1, _⟩ := hw.row r (nth_mem h)
  obtain ⟨e1, e2⟩ := he
  have h2 := h1.2
  rw [e1, e2, hn, hx] at h1
  rcases h2 with ⟨h2, h3⟩ | ⟨g, cap', cur, h2, _⟩
  · omega
  · rw [hn] at h2
    rw [h2] at h1
    refine ⟨u, [_], rfl, hw.below, fun r hr => ?_, by simp, g, cap', by rw [hu, h2], rfl⟩
    simp only [List.mem_cons, List.mem_nil_iff, or_false] at hr
    subst hr
    exact h1

set_option maxHeartbeats 400000 in
/-- genlockref01.Own -/
theorem rOwnR_c (p : Pic) (A : Option Addr) (c : Nat) (hs : p.s.length ≤ 1000000) (h0 : 0 < p.s.length) (hA : A = none → p.s.length = 0 ∧ c = 0) (w : World) (hr : Rd w A (p.s.map (.float .f32))) : Calls Try.prog 51 #[.agg #[.string p.nm, .int .i64 p.w, .int .i64 p.h, .slice A p.s.length c]] w fun r w' => ∃ v rs, r = .returned v ∧ Below w.heap.size w w' ∧ (∀ r ∈ rs, w'.ownsRow w.heap.size r.e r.size r.val r.n r.xs) ∧ rs.Pairwise (fun r s => ∀ g, r.val.ownBlock = some g → s.val.ownBlock ≠ some g) ∧ PRow v rs p := by
  refine calls_of (args := [.agg #[.string p.nm, .int .i64 p.w, .int .i64 p.h, .slice A p.s.length c]]) T_ok Try.func51 rfl Try.ntmps51 (Nat.le_of_ble_eq_true rfl) rfl ?_
  repeat' (first
 | (refine C_id ?_; first
 | refine C_seq ?_
 | refine C_region rfl ?_
 | refine C_ret0 ?_
 )
 | (refine S_id ?_; first
 | refine S_row00 rfl rfl rfl (fun g => ?_)
 | refine S_appendS rfl obQ rfl rfl rfl ⟨by decide, rfl⟩ rfl ⟨rfl, rfl, rfl, rfl⟩ (p.s.map (.float .f32)) (by simp) hA (one_fl _) (srcS hr memQ) (by unfold maxLen; dsimp only; omega) (fun A' cap' => ⟨_, rfl, ?_⟩)
 | refine S_nil ?_
 | refine S_run rfl rfl obQ obQ ?_
 | refine S_box (fun bb => ⟨_, _, rfl, obQ, ?_⟩)
 )
 | (refine G_id ?_; first
 | refine G_then ?_
 | refine G_ret rfl obQ (fun w2 hw => HW.picRow hw (i := 0) rfl h0 ⟨rfl, rfl⟩ (by simp) rfl rfl)
 )
 )

/-- The error of an interval of levels. -/
def ivE (lo hi : Int) : Int := firstL [lvE lo, lvE hi, wh (decide (hi < lo)) 11]
theorem ivE_ok {lo hi : Int} (h : ivE lo hi = 0) : (-16384 ≤ lo ∧ lo ≤ 16384) ∧ (-16384 ≤ hi ∧ hi ≤ 16384) ∧ lo ≤ hi := by
  unfold ivE at h
  rw [firstL_zero] at h
  simp only [List.mem_cons, List.mem_nil_iff, or_false, forall_eq_or_imp, forall_eq, lvE, wi_eq, wh_zero (show (11 : Int) ≠ 0 by omega), decide_eq_false_iff_not] at h
  omega

set_option maxHeartbeats 400000 in
/-- colour.checkInterval -/
theorem checkInterval_c (lo hi : Int) (w : World) : Calls Try.prog 56 #[.agg #[.int .i64 lo, .int .i64 hi]] w fun r w' => r = .returned (.int .i64 (ivE lo hi)) ∧ Below w.heap.size w w' := by
  refine calls_of (args := [.agg #[.int .i64 lo, .int .i64 hi]]) T_ok Try.func56 rfl Try.ntmps56 (Nat.le_of_ble_eq_true rfl) rfl ?_
  repeat' (first
 | (refine C_id ?_; first
 | refine C_seq ?_
 | refine C_region rfl ?_
 | refine C_ret0 ?_
 | refine C_drawT (id := 1) 12 rfl mixed (by kernel_rfl) rfl rfl ?_
 )
 | (refine S_id ?_; first
 | refine S_nil ?_
 | refine S_run rfl rfl obQ obQ ?_
 | refine S_box (fun b => ⟨_, _, rfl, obQ, ?_⟩)
 | refine S_slice (fun b => ⟨_, _, rfl, obQ, ?_⟩)
 | refine S_call (f := 31) rfl obQ (by kernel_rfl) (fun w hw => cfirst_c _ _ [lvE lo, lvE hi, wh (decide (hi < lo)) 11] (by simp) w (.inr ⟨_, rfl, hw.src (i := 1) rfl rfl⟩)) ?_
 )
 | (refine D_id ?_; first
 | refine D_tail ?_
 | refine D_run rfl rfl obQ obQ ?_
 | refine D_call (f := 55) rfl obQ (by kernel_rfl) (fun w hw => ccheckLevel_c _ w) ?_
 | refine D_call (f := 77) rfl obQ (by kernel_rfl) (fun w hw => cwhen_c _ _ w) ?_
 )
 | (refine G_id ?_; first
 | refine G_then ?_
 | refine G_ret rfl obQ (fun w hw => ⟨?_, hw.below⟩)
 )
 )
  rfl

/-- A picture, each level of which is turned. -/
def tuP (f : Int → Int) (p : Pic) : Pic := ⟨p.nm, p.w, p.h, p.s.map fun x => smp (f (lvl x))⟩
def clF (lo hi : Int) (n : Int) : Int := min hi (max lo n)
def apE (l : List Pt) (p : Pic) : Int := firstL [curveE l, picE p]
def clE (p : Pic) (lo hi : Int) : Int := firstL [picE p, ivE lo hi]
theorem apE_ok {l : List Pt} {p : Pic} (h : apE l p = 0) : CvOk l ∧ PicOk p := by
  unfold apE at h
  rw [firstL_zero] at h
  simp only [List.mem_cons, List.mem_nil_iff, or_false, forall_eq_or_imp, forall_eq, curve_ok, pic_ok] at h
  exact h
theorem clE_ok {p : Pic} {lo hi : Int} (h : clE p lo hi = 0) : PicOk p ∧ ivE lo hi = 0 := by
  unfold clE at h
  rw [firstL_zero] at h
  simp only [List.mem_cons, List.mem_nil_iff, or_false, forall_eq_or_imp, forall_eq, pic_ok] at h
  exact h
theorem clF_bd {lo hi : Int} (h : ivE lo hi = 0) (n : Int) : -16384 ≤ clF lo hi n ∧ clF lo hi n ≤ 16384 := by
  have := ivE_ok h
  unfold clF
  omega
theorem tuP_fin {f : Int → Int} {p : Pic} (hf : ∀ n, -16384 ≤ f n ∧ f n ≤ 16384) : ∀ x ∈ (tuP f p).s, Smp x := by
  intro x hx
  simp only [tuP, List.mem_map] at hx
  obtain ⟨b, _, rfl⟩ := hx
  exact smp_Smp (hf _)
theorem tuP_len {f : Int → Int} {p : Pic} : (tuP f p).s.length = p.s.length := by simp [tuP]

set_option maxHeartbeats 400000 in
/-- colour.Clipped$1 -/
theorem clip1_c (b : Nat) (lo hi n : Int) (w : World) (hM : w.heap[b]? = some (.cells ([.int .i64 lo, .int .i64 hi] : List Value).toArray 76 (0, 0))) : Calls Try.prog 57 #[.int .i64 n, .pointer (some ⟨b, 0, none⟩)] w fun r w' => r = .returned (.int .i64 (clF lo hi n)) ∧ Below w.heap.size w w' := by
  refine calls_of (args := [.int .i64 n, .pointer (some ⟨b, 0, none⟩)]) T_ok Try.func57 rfl Try.ntmps57 (Nat.le_of_ble_eq_true rfl) rfl ?_
  repeat' (first
 | (refine C_id ?_; first
 | refine C_seq ?_
 | refine C_region rfl ?_
 | refine C_ret0 ?_
 )
 | (refine S_id ?_; first
 | refine S_load rfl obQ rfl [.int .i64 hi] (.cell (_, fun b => b < _) memQ (heap_lt hM) (heap_cell1 hM (o := 1) rfl)) rfl (.inr ⟨rfl, rfl⟩) ?_
 | refine S_load rfl obQ rfl [.int .i64 lo] (.cell (_, fun b => b < _) memQ (heap_lt hM) (heap_cell1 hM (o := 0) rfl)) rfl (.inr ⟨rfl, rfl⟩) ?_
 | refine S_nil ?_
 | refine S_run rfl rfl obQ obQ ?_
 )
 | (refine G_id ?_; first
 | refine G_then ?_
 | refine G_ret rfl obQ (fun w hw => ⟨?_, hw.below⟩)
 )
 )
  rfl

set_option maxHeartbeats 400000 in
/-- colour.changed$1 -/
theorem chApp_c (b3 : Nat) (A : Option Addr) (c : Nat) (l : List Pt) (hv : CvOk l) (x : Nat) (hx : Smp x) (w : World) (hM : w.heap[b3]? = some (.cells ([.func (.func 50) #[.slice A l.length c] #[]] : List Value).toArray 106 (0, 0))) (hrl : Rd w A (l.flatMap ptC)) : Calls Try.prog 92 #[.float .f32 x, .pointer (some ⟨b3, 0, none⟩)] w fun r w' => r = .returned (.float .f32 (smp (valF l (lvl x)))) ∧ Below w.heap.size w w' := by
  refine calls_of (args := [.float .f32 x, .pointer (some ⟨b3, 0, none⟩)]) T_ok Try.func92 rfl Try.ntmps92 (Nat.le_of_ble_eq_true rfl) rfl ?_
  repeat' (first
 | (refine C_id ?_; first
 | refine C_seq ?_
 | refine C_region rfl ?_
 | refine C_ret0 ?_
 | refine C_draw (id := 1) rfl mixed (by kernel_rfl) ?_
 )
 | (refine S_id ?_; first
 | refine S_nil ?_
 | refine S_run rfl rfl obQ obQ ?_
 )
 | (refine D_id ?_; first
 | refine D_load rfl obQ rfl [.func (.func 50) #[.slice A l.length c] #[]] (.cell (_, fun b => b < _) memQ (heap_lt hM) (heap_cell1 hM (o := 0) rfl)) rfl (.inr ⟨rfl, rfl⟩) ?_
 | refine D_nil ?_
 | refine D_run rfl rfl obQ obQ ?_
 | refine D_call (f := 79) rfl obQ (by kernel_rfl) (fun w hw => level_c x hx.fin hx.bd w) ?_
 | refine D_call (f := 50) rfl obQ (by kernel_rfl) (fun w hw => value_c A c l (lvl x) hv w (hw.rdm hrl.toS memQ)) ?_
 | refine D_call (f := 93) rfl obQ (by kernel_rfl) (fun w hw => sample_c (valF l (lvl x)) (valF_lv hv _) w) ?_
 )
 | (refine G_id ?_; first
 | refine G_then ?_
 | refine G_ret rfl obQ (fun w hw => ⟨?_, hw.below⟩)
 )
 )
  rfl

set_option maxHeartbeats 400000 in
/-- colour.changed$1 -/
theorem chClip_c (b3 bl : Nat) (lo hi : Int) (hI : ivE lo hi = 0) (x : Nat) (hx : Smp x) (w : World) (hM : w.heap[b3]? = some (.cells ([.func (.func 57) #[] #[.pointer (some ⟨bl, 0, none⟩)]] : List Value).toArray 106 (0, 0))) (hM2 : w.heap[bl]? = some (.cells ([.int .i64 lo, .int .i64 hi] : List Value).toArray 76 (0, 0))) : Calls Try.prog 92 #[.float .f32 x, .pointer (some ⟨b3, 0, none⟩)] w fun r w' => r = .returned (.float .f32 (smp (clF lo hi (lvl x)))) ∧ Below w.heap.size w w' := by
  refine calls_of (args := [.float .f32 x, .pointer (some ⟨b3, 0, none⟩)]) T_ok Try.func92 rfl Try.ntmps92 (Nat.le_of_ble_eq_true rfl) rfl ?_
  repeat' (first
 | (refine C_id ?_; first
 | refine C_seq ?_
 | refine C_region rfl ?_
 | refine C_ret0 ?_
 | refine C_draw (id := 1) rfl mixed (by kernel_rfl) ?_
 )
 | (refine S_id ?_; first
 | refine S_nil ?_
 | refine S_run rfl rfl obQ obQ ?_
 )
 | (refine D_id ?_; first
 | refine D_load rfl obQ rfl [.func (.func 57) #[] #[.pointer (some ⟨bl, 0, none⟩)]] (.cell (_, fun b => b < _) memQ (heap_lt hM) (heap_cell1 hM (o := 0) rfl)) rfl (.inr ⟨rfl, rfl⟩) ?_
 | refine D_nil ?_
 | refine D_run rfl rfl obQ obQ ?_
 | refine D_call (f := 79) rfl obQ (by kernel_rfl) (fun w hw => level_c x hx.fin hx.bd w) ?_
 | refine D_call (f := 57) rfl obQ (by kernel_rfl) (fun w hw => clip1_c bl lo hi (lvl x) w ((hw.past _ memQ bl (heap_lt hM2)).1.2.trans hM2)) ?_
 | refine D_call (f := 93) rfl obQ (by kernel_rfl) (fun w hw => sample_c (clF lo hi (lvl x)) (clF_bd hI _) w) ?_
 )
 | (refine G_id ?_; first
 | refine G_then ?_
 | refine G_ret rfl obQ (fun w hw => ⟨?_, hw.below⟩)
 )
 )
  rfl

set_option maxHeartbeats 400000 in
/-- colour.mapped[float32,float32] -/
theorem mappedFF_c (q : FuncId) (c0 : Value) {g : Nat → Nat} (A : Option Addr) (c : Nat) (l : List (Nat)) (hl : l.length ≤ 1000000) (he : entB Try.prog q = true) (w : World) (hr : Rd w A (l.map fun x => Value.float .f32 x)) (hg : ∀ x ∈ l, ∀ W, Below w.heap.size w W → Calls Try.prog q #[Value.float .f32 x, c0] W fun e w' => e = .returned (Value.float .f32 (g x)) ∧ Below W.heap.size W w') : Calls Try.prog 91 #[.slice A l.length c, .func (.func q) #[] #[c0]] w fun r w' => ∃ v, r = .returned v ∧ Below w.heap.size w w' ∧ Sl w w' v l.length (l.map fun x => Value.float .f32 (g x)) := by
  refine calls_of (args := [.slice A l.length c, .func (.func q) #[] #[c0]]) T_ok Try.func91 rfl Try.ntmps91 (Nat.le_of_ble_eq_true rfl) rfl ?_
  repeat' (first
 | (refine C_id ?_; first
 | refine C_seq ?_
 | refine C_region rfl ?_
 | refine C_block ?_
 )
 | (refine S_id ?_; first
 | refine S_nil ?_
 | refine S_run rfl rfl obQ obQ ?_
 )
 | (refine G_id ?_; first
 | refine G_then ?_
 )
 )
  refine C_row0 5 47 1 rfl ?_
  refine C_loopS (fun i : Nat × Option Addr × Nat => ⟨[(5, .s (.r i.2.1 i.1 i.2.2 0)), (8, .s (.v (.slice A l.length c))), (9, .s (.v (.int .i64 l.length))), (10, .s (.v (.int .i64 i.1))), (1, .s (.v (.func (.func q) #[] #[c0])))], [], [⟨47, 1, i.1, (l.take i.1).map fun x => Value.float .f32 (g x), .slice i.2.1 i.1 i.2.2⟩]⟩) (fun i => i.1 ≤ l.length) (fun i => l.length - i.1) (0, none, 0) (Nat.zero_le _) ?_ (fun i hi => ?_)
  · exact ⟨⟨_, rfl, obQ⟩, ⟨_, rfl⟩, rfl, pstQ⟩
  obtain ⟨k, A', c'⟩ := i
  have hi' : k ≤ l.length := hi
  dsimp only
  by_cases hlt : k < l.length
  · obtain ⟨ad, rfl⟩ := hr.some (by simp; omega)
    have hmt := map_take_succ (f := fun x => Value.float .f32 (g x)) hlt
    repeat' (first
 | (refine C_id ?_; first
 | refine C_seq ?_
 | refine C_region rfl ?_
 | refine C_block ?_
 | refine C_skip ?_
 | (refine C_cond rfl obQ (fun h => ?_) (fun h => ?_) <;> (try simp only [Bool.or_eq_true, Bool.and_eq_true, Bool.or_eq_false_iff, Bool.and_eq_false_iff, decide_eq_true_eq, decide_eq_false_iff_not, beq_iff_eq, bne_iff_ne, beq_eq_false_iff_ne, bne_eq_false_iff_eq, ne_eq, Decidable.not_not, List.cons.injEq, and_true, Bool.not_eq_true', Bool.not_eq_false', Int.not_lt, Int.not_le] at h) <;> (try (exfalso; omega)))
     )
 | (refine S_id ?_; first
 | refine S_load rfl obQ rfl [Value.float .f32 l[k]] (.past _ memQ _ _ hr.toS _ _ rfl rfl (idx1 (f := fun x => Value.float .f32 x) hlt)) rfl (.inr ⟨rfl, rfl⟩) ?_
 | refine S_call rfl obQ he (fun W hW => hg l[k] (List.getElem_mem hlt) W hW.below) ?_
 | refine S_append rfl obQ rfl rfl rfl ⟨by decide, rfl⟩ rfl ⟨rfl, rfl, rfl, rfl⟩ [Value.float .f32 (g l[k])] ⟨by decide, rfl⟩ (by simp [Value.oneCell']) (fun w hw => by first | exact hw.src (i := 0) rfl rfl | exact hw.src (i := 1) rfl rfl | exact hw.src (i := 2) rfl rfl | exact hw.src (i := 3) rfl rfl | exact hw.src (i := 4) rfl rfl | exact hw.src (i := 5) rfl rfl | exact hw.src (i := 6) rfl rfl | exact hw.src (i := 7) rfl rfl | exact hw.src (i := 8) rfl rfl) (by unfold maxLen; dsimp only; omega) (fun gb cap' => ⟨_, rfl, ?_⟩)
 | refine S_nil ?_
 | refine S_run rfl rfl obQ obQ ?_
 | refine S_slice (fun b => ⟨_, _, rfl, obQ, ?_⟩)
     )
 | (refine G_id ?_; first
 | refine G_loop (k + 1, some ⟨gb, 0, none⟩, cap') (by show k + 1 ≤ _; omega) (by show l.length - (k + 1) < l.length - k; omega) ⟨⟨_, rfl, obQ⟩, ⟨_, rfl⟩, (by dsimp only; rw [hmt]), pstQ⟩
 | refine G_then ?_
 | refine G_block ?_
     )
     )
  · obtain rfl : k = l.length := by omega
    repeat' (first
 | (refine C_id ?_; first
 | refine C_seq ?_
 | refine C_region rfl ?_
 | refine C_exit ?_
 | refine C_ret0 ?_
 | (refine C_cond rfl obQ (fun h => ?_) (fun h => ?_) <;> (try simp only [Bool.or_eq_true, Bool.and_eq_true, Bool.or_eq_false_iff, Bool.and_eq_false_iff, decide_eq_true_eq, decide_eq_false_iff_not, beq_iff_eq, bne_iff_ne, beq_eq_false_iff_ne, bne_eq_false_iff_eq, ne_eq, Decidable.not_not, List.cons.injEq, and_true, Bool.not_eq_true', Bool.not_eq_false', Int.not_lt, Int.not_le] at h) <;> (try (exfalso; omega)))
     )
 | (refine S_id ?_; first
 | refine S_nil ?_
 | refine S_run rfl rfl obQ obQ ?_
     )
 | (refine G_id ?_; first
 | refine G_then ?_
 | refine G_blockX ?_
 | refine G_thenX ?_
 | refine G_ret rfl obQ (fun w2 hw => ⟨_, rfl, hw.below, HW.rowSl (i := 0) hw rfl rfl rfl (by rw [List.take_length])⟩)
     )
     )

set_option maxHeartbeats 400000 in
/-- colour.changed -/
theorem chgApp_c (p : Pic) (Ap : Option Addr) (cp : Nat) (hs : p.s.length ≤ 1000000) (hp : ∀ x ∈ p.s, Smp x) (A : Option Addr) (c : Nat) (l : List Pt) (hv : CvOk l) (w : World) (hr : Rd w Ap (p.s.map (.float .f32))) (hrl : Rd w A (l.flatMap ptC)) : Calls Try.prog 49 #[.agg #[.string p.nm, .int .i64 p.w, .int .i64 p.h, .slice Ap p.s.length cp], .func (.func 50) #[.slice A l.length c] #[]] w fun r w' => ∃ v, r = .returned v ∧ Below w.heap.size w w' ∧ PicA w w' v (tuP (valF l) p) := by
  refine calls_of (args := [.agg #[.string p.nm, .int .i64 p.w, .int .i64 p.h, .slice Ap p.s.length cp], .func (.func 50) #[.slice A l.length c] #[]]) T_ok Try.func49 rfl Try.ntmps49 (Nat.le_of_ble_eq_true rfl) rfl ?_
  repeat' (first
 | (refine C_id ?_; first
 | refine C_seq ?_
 | refine C_regionNe 1 rfl rfl ?_
 )
 | (refine S_id ?_; first
 | refine S_nil ?_
 | refine S_box (fun b => ⟨_, _, rfl, obQ, ?_⟩)
 )
 | (refine G_id ?_; first
 | refine G_then ?_
 )
 )
  rename_i b2 b3
  repeat' (first
 | (refine C_id ?_; first
 | refine C_seq ?_
 | refine C_region rfl ?_
 | refine C_ret0 ?_
   )
 | (refine S_id ?_; first
 | (refine S_callM (f := 91) rfl obQ (by kernel_rfl) (fun w2 hw2 => mappedFF_c 92 (.pointer (some ⟨b3, 0, none⟩)) (g := fun x => smp (valF l (lvl x))) Ap cp p.s hs (by kernel_rfl) w2 (hw2.rdm hr.toS memQ) (fun x hx W hW => chApp_c b3 A c l hv x (hp x hx) W ((hW.block b3 (HW.bxAt hw2 (i := 1) rfl rfl).1.2).trans (HW.bxAt hw2 (i := 1) rfl rfl).2) ((hw2.rdm hrl.toS memQ).below hW))) (fun w1M w2M vM hw1M hbM hRM => ?_); obtain ⟨AM, cM, rfl, hSM⟩ := hRM)
 | refine S_nil ?_
 | refine S_run rfl rfl obQ obQ ?_
   )
 | (refine G_id ?_; first
 | refine G_then ?_
 | refine G_ret rfl obQ (fun w2 hw => ⟨_, rfl, hw.below, PicA.of (s := (tuP (valF l) p).s) (HW.callSl hw (by rw [show ((tuP (valF l) p).s.map (Value.float .f32)) = p.s.map (fun x => Value.float .f32 (smp (valF l (lvl x)))) by simp [tuP]]; exact hSM) memQ hw1M.bsize) (by simp [tuP]) rfl⟩)
   )
   )

set_option maxHeartbeats 400000 in
/-- colour.changed -/
theorem chgClip_c (p : Pic) (Ap : Option Addr) (cp : Nat) (hs : p.s.length ≤ 1000000) (hp : ∀ x ∈ p.s, Smp x) (bl : Nat) (lo hi : Int) (hI : ivE lo hi = 0) (w : World) (hr : Rd w Ap (p.s.map (.float .f32))) (hM2 : w.heap[bl]? = some (.cells ([.int .i64 lo, .int .i64 hi] : List Value).toArray 76 (0, 0))) : Calls Try.prog 49 #[.agg #[.string p.nm, .int .i64 p.w, .int .i64 p.h, .slice Ap p.s.length cp], .func (.func 57) #[] #[.pointer (some ⟨bl, 0, none⟩)]] w fun r w' => ∃ v, r = .returned v ∧ Below w.heap.size w w' ∧ PicA w w' v (tuP (clF lo hi) p) := by
  refine calls_of (args := [.agg #[.string p.nm, .int .i64 p.w, .int .i64 p.h, .slice Ap p.s.length cp], .func (.func 57) #[] #[.pointer (some ⟨bl, 0, none⟩)]]) T_ok Try.func49 rfl Try.ntmps49 (Nat.le_of_ble_eq_true rfl) rfl ?_
  repeat' (first
 | (refine C_id ?_; first
 | refine C_seq ?_
 | refine C_regionNe 1 rfl rfl ?_
 )
 | (refine S_id ?_; first
 | refine S_nil ?_
 | refine S_box (fun b => ⟨_, _, rfl, obQ, ?_⟩)
 )
 | (refine G_id ?_; first
 | refine G_then ?_
 )
 )
  rename_i b2 b3
  repeat' (first
 | (refine C_id ?_; first
 | refine C_seq ?_
 | refine C_region rfl ?_
 | refine C_ret0 ?_
   )
 | (refine S_id ?_; first
 | (refine S_callM (f := 91) rfl obQ (by kernel_rfl) (fun w2 hw2 => mappedFF_c 92 (.pointer (some ⟨b3, 0, none⟩)) (g := fun x => smp (clF lo hi (lvl x))) Ap cp p.s hs (by kernel_rfl) w2 (hw2.rdm hr.toS memQ) (fun x hx W hW => chClip_c b3 bl lo hi hI x (hp x hx) W ((hW.block b3 (HW.bxAt hw2 (i := 1) rfl rfl).1.2).trans (HW.bxAt hw2 (i := 1) rfl rfl).2) ((hW.block bl (hw2.past _ memQ bl (heap_lt hM2)).1.1).trans ((hw2.past _ memQ bl (heap_lt hM2)).1.2.trans hM2)))) (fun w1M w2M vM hw1M hbM hRM => ?_); obtain ⟨AM, cM, rfl, hSM⟩ := hRM)
 | refine S_nil ?_
 | refine S_run rfl rfl obQ obQ ?_
   )
 | (refine G_id ?_; first
 | refine G_then ?_
 | refine G_ret rfl obQ (fun w2 hw => ⟨_, rfl, hw.below, PicA.of (s := (tuP (clF lo hi) p).s) (HW.callSl hw (by rw [show ((tuP (clF lo hi) p).s.map (Value.float .f32)) = p.s.map (fun x => Value.float .f32 (smp (clF lo hi (lvl x)))) by simp [tuP]]; exact hSM) memQ hw1M.bsize) (by simp [tuP]) rfl⟩)
   )
   )

set_option maxHeartbeats 400000 in
/-- colour.Applied -/
theorem Applied_c (p : Pic) (Ap : Option Addr) (cp : Nat) (hs : p.s.length ≤ 1000000) (A : Option Addr) (c : Nat) (l : List Pt) (hl : l.length ≤ 1000000) (w : World) (hr : Rd w Ap (p.s.map (.float .f32))) (hrl : Rd w A (l.flatMap ptC)) : Calls Try.prog 18 #[.slice A l.length c, .agg #[.string p.nm, .int .i64 p.w, .int .i64 p.h, .slice Ap p.s.length cp]] w fun r w' => ∃ v, r = .returned v ∧ Below w.heap.size w w' ∧ (if apE l p = 0 then PicR w w' v (tuP (valF l) p) 0 else PicR w w' v zP (apE l p)) := by
  refine calls_of (args := [.slice A l.length c, .agg #[.string p.nm, .int .i64 p.w, .int .i64 p.h, .slice Ap p.s.length cp]]) T_ok Try.func18 rfl Try.ntmps18 (Nat.le_of_ble_eq_true rfl) rfl ?_
  by_cases hE : apE l p = 0
  · simp only [if_pos hE]
    obtain ⟨h1, h2⟩ := apE_ok hE
    repeat' (first
 | (refine C_id ?_; first
 | refine C_seq ?_
 | refine C_region rfl ?_
 | refine C_skip ?_
 | refine C_ret0 ?_
 | refine C_drawV (id := 1) 3 [(0, true), (2, true), (1, false)] rfl mixed (by kernel_rfl) rfl ?_
 | (refine C_cond rfl obQ (fun h => ?_) (fun h => ?_) <;> (try simp only [Bool.or_eq_true, Bool.and_eq_true, Bool.or_eq_false_iff, Bool.and_eq_false_iff, decide_eq_true_eq, decide_eq_false_iff_not, beq_iff_eq, bne_iff_ne, beq_eq_false_iff_ne, bne_eq_false_iff_eq, ne_eq, Decidable.not_not, List.cons.injEq, and_true, Bool.not_eq_true', Bool.not_eq_false', Int.not_lt, Int.not_le] at h) <;> (try (exfalso; omega)) <;> (try (exfalso; simp at h; done)) <;> (try (exfalso; simp only [not_true_eq_false, false_or, or_false] at h; omega)) <;> (try contradiction))
     )
 | (refine S_id ?_; first
 | (refine S_callM (f := 49) rfl obQ (by kernel_rfl) (fun w hw => chgApp_c p Ap cp hs h2.s A c l h1 w (hw.rdm hr.toS memQ) (hw.rdm hrl.toS memQ)) (fun w1C w2C vC hw1C hbC hRC => ?_); obtain ⟨AC, cC, rfl, hSC⟩ := hRC)
 | refine S_nil ?_
 | refine S_run rfl rfl obQ obQ ?_
 | refine S_box (fun bb => ⟨_, _, rfl, obQ, ?_⟩)
 | refine S_slice (fun b => ⟨_, _, rfl, obQ, ?_⟩)
 | refine S_call (f := 45) rfl obQ (by kernel_rfl) (fun w hw => checkCurve_c A c l hl w (hw.rdm hrl.toS memQ)) ?_
 | refine S_call (f := 48) rfl obQ (by kernel_rfl) (fun w hw => checkPicture_c p Ap cp hs w (hw.rdm hr.toS memQ)) ?_
 | refine S_call (f := 31) rfl obQ (by kernel_rfl) (fun w hw => cfirst_c _ _ [curveE l, picE p] (by simp) w (.inr ⟨_, rfl, hw.src (i := 2) rfl rfl⟩)) ?_
     )
 | (refine V_id ?_; first
 | refine V_nil ?_
 | refine V_q rfl (Yl_step rfl obQ) ?_
 | refine V_n rfl ?_
     )
 | (refine G_id ?_; first
 | refine G_V ⟨⟨_, rfl, trivial⟩, ⟨_, rfl⟩, rfl, pstQ⟩ rfl ?_
 | refine G_then ?_
 | refine G_ret rfl obQ (fun w2 hw => ⟨_, rfl, hw.below, PicR.of (s := (tuP (valF l) p).s) (HW.callSl hw hSC memQ hw1C.bsize) rfl rfl⟩)
     )
     )
  · simp only [if_neg hE]
    repeat' (first
 | (refine C_id ?_; first
 | refine C_seq ?_
 | refine C_region rfl ?_
 | refine C_ret0 ?_
 | refine C_drawV (id := 1) 3 [(0, true), (2, true), (1, false)] rfl mixed (by kernel_rfl) rfl ?_
 | (refine C_cond rfl obQ (fun h => ?_) (fun h => ?_) <;> (try simp only [Bool.or_eq_true, Bool.and_eq_true, Bool.or_eq_false_iff, Bool.and_eq_false_iff, decide_eq_true_eq, decide_eq_false_iff_not, beq_iff_eq, bne_iff_ne, beq_eq_false_iff_ne, bne_eq_false_iff_eq, ne_eq, Decidable.not_not, List.cons.injEq, and_true, Bool.not_eq_true', Bool.not_eq_false', Int.not_lt, Int.not_le] at h) <;> (try (exfalso; omega)) <;> (try (exfalso; simp at h; done)) <;> (try (exfalso; simp only [not_true_eq_false, false_or, or_false] at h; omega)) <;> (try contradiction))
     )
 | (refine S_id ?_; first
 | refine S_nil ?_
 | refine S_run rfl rfl obQ obQ ?_
 | refine S_box (fun bb => ⟨_, _, rfl, obQ, ?_⟩)
 | refine S_slice (fun b => ⟨_, _, rfl, obQ, ?_⟩)
 | refine S_call (f := 45) rfl obQ (by kernel_rfl) (fun w hw => checkCurve_c A c l hl w (hw.rdm hrl.toS memQ)) ?_
 | refine S_call (f := 48) rfl obQ (by kernel_rfl) (fun w hw => checkPicture_c p Ap cp hs w (hw.rdm hr.toS memQ)) ?_
 | refine S_call (f := 31) rfl obQ (by kernel_rfl) (fun w hw => cfirst_c _ _ [curveE l, picE p] (by simp) w (.inr ⟨_, rfl, hw.src (i := 2) rfl rfl⟩)) ?_
     )
 | (refine V_id ?_; first
 | refine V_nil ?_
 | refine V_q rfl (Yl_step rfl obQ) ?_
 | refine V_n rfl ?_
     )
 | (refine G_id ?_; first
 | refine G_V ⟨⟨_, rfl, trivial⟩, ⟨_, rfl⟩, rfl, pstQ⟩ rfl ?_
 | refine G_then ?_
 | refine G_thenR ?_
 | refine G_ret rfl obQ (fun w2 hw => ⟨_, rfl, hw.below, PicR.zero _ _ _⟩)
     )
     )

set_option maxHeartbeats 400000 in
/-- colour.Clipped -/
theorem Clipped_c (p : Pic) (Ap : Option Addr) (cp : Nat) (hs : p.s.length ≤ 1000000) (lo hi : Int) (w : World) (hr : Rd w Ap (p.s.map (.float .f32)))  : Calls Try.prog 23 #[.agg #[.string p.nm, .int .i64 p.w, .int .i64 p.h, .slice Ap p.s.length cp], .agg #[.int .i64 lo, .int .i64 hi]] w fun r w' => ∃ v, r = .returned v ∧ Below w.heap.size w w' ∧ (if clE p lo hi = 0 then PicR w w' v (tuP (clF lo hi) p) 0 else PicR w w' v zP (clE p lo hi)) := by
  refine calls_of (args := [.agg #[.string p.nm, .int .i64 p.w, .int .i64 p.h, .slice Ap p.s.length cp], .agg #[.int .i64 lo, .int .i64 hi]]) T_ok Try.func23 rfl Try.ntmps23 (Nat.le_of_ble_eq_true rfl) rfl ?_
  by_cases hE : clE p lo hi = 0
  · simp only [if_pos hE]
    obtain ⟨h1, h2⟩ := clE_ok hE
    repeat' (first
 | (refine C_id ?_; first
 | refine C_seq ?_
 | refine C_region rfl ?_
 | refine C_skip ?_
 | refine C_ret0 ?_
 | refine C_drawV (id := 1) 3 [(0, true), (2, true), (1, false)] rfl mixed (by kernel_rfl) rfl ?_
 | (refine C_cond rfl obQ (fun h => ?_) (fun h => ?_) <;> (try simp only [Bool.or_eq_true, Bool.and_eq_true, Bool.or_eq_false_iff, Bool.and_eq_false_iff, decide_eq_true_eq, decide_eq_false_iff_not, beq_iff_eq, bne_iff_ne, beq_eq_false_iff_ne, bne_eq_false_iff_eq, ne_eq, Decidable.not_not, List.cons.injEq, and_true, Bool.not_eq_true', Bool.not_eq_false', Int.not_lt, Int.not_le] at h) <;> (try (exfalso; omega)) <;> (try (exfalso; simp at h; done)) <;> (try (exfalso; simp only [not_true_eq_false, false_or, or_false] at h; omega)) <;> (try contradiction))
     )
 | (refine S_id ?_; first
 | (refine S_callM (f := 49) rfl obQ (by kernel_rfl) (fun w hw => chgClip_c p Ap cp hs h1.s _ lo hi h2 w (hw.rdm hr.toS memQ) (HW.bxAt hw (i := 1) rfl rfl).2) (fun w1C w2C vC hw1C hbC hRC => ?_); obtain ⟨AC, cC, rfl, hSC⟩ := hRC)
 | refine S_nil ?_
 | refine S_run rfl rfl obQ obQ ?_
 | refine S_box (fun bb => ⟨_, _, rfl, obQ, ?_⟩)
 | refine S_slice (fun b => ⟨_, _, rfl, obQ, ?_⟩)
 | refine S_call (f := 48) rfl obQ (by kernel_rfl) (fun w hw => checkPicture_c p Ap cp hs w (hw.rdm hr.toS memQ)) ?_
 | refine S_call (f := 56) rfl obQ (by kernel_rfl) (fun w hw => checkInterval_c lo hi w) ?_
 | refine S_call (f := 31) rfl obQ (by kernel_rfl) (fun w hw => cfirst_c _ _ [picE p, ivE lo hi] (by simp) w (.inr ⟨_, rfl, hw.src (i := 3) rfl rfl⟩)) ?_
     )
 | (refine V_id ?_; first
 | refine V_nil ?_
 | refine V_q rfl (Yl_step rfl obQ) ?_
 | refine V_n rfl ?_
     )
 | (refine G_id ?_; first
 | refine G_V ⟨⟨_, rfl, trivial⟩, ⟨_, rfl⟩, rfl, pstQ⟩ rfl ?_
 | refine G_then ?_
 | refine G_ret rfl obQ (fun w2 hw => ⟨_, rfl, hw.below, PicR.of (s := (tuP (clF lo hi) p).s) (HW.callSl hw hSC memQ hw1C.bsize) rfl rfl⟩)
     )
     )
  · simp only [if_neg hE]
    repeat' (first
 | (refine C_id ?_; first
 | refine C_seq ?_
 | refine C_region rfl ?_
 | refine C_ret0 ?_
 | refine C_drawV (id := 1) 3 [(0, true), (2, true), (1, false)] rfl mixed (by kernel_rfl) rfl ?_
 | (refine C_cond rfl obQ (fun h => ?_) (fun h => ?_) <;> (try simp only [Bool.or_eq_true, Bool.and_eq_true, Bool.or_eq_false_iff, Bool.and_eq_false_iff, decide_eq_true_eq, decide_eq_false_iff_not, beq_iff_eq, bne_iff_ne, beq_eq_false_iff_ne, bne_eq_false_iff_eq, ne_eq, Decidable.not_not, List.cons.injEq, and_true, Bool.not_eq_true', Bool.not_eq_false', Int.not_lt, Int.not_le] at h) <;> (try (exfalso; omega)) <;> (try (exfalso; simp at h; done)) <;> (try (exfalso; simp only [not_true_eq_false, false_or, or_false] at h; omega)) <;> (try contradiction))
     )
 | (refine S_id ?_; first
 | refine S_nil ?_
 | refine S_run rfl rfl obQ obQ ?_
 | refine S_box (fun bb => ⟨_, _, rfl, obQ, ?_⟩)
 | refine S_slice (fun b => ⟨_, _, rfl, obQ, ?_⟩)
 | refine S_call (f := 48) rfl obQ (by kernel_rfl) (fun w hw => checkPicture_c p Ap cp hs w (hw.rdm hr.toS memQ)) ?_
 | refine S_call (f := 56) rfl obQ (by kernel_rfl) (fun w hw => checkInterval_c lo hi w) ?_
 | refine S_call (f := 31) rfl obQ (by kernel_rfl) (fun w hw => cfirst_c _ _ [picE p, ivE lo hi] (by simp) w (.inr ⟨_, rfl, hw.src (i := 3) rfl rfl⟩)) ?_
     )
 | (refine V_id ?_; first
 | refine V_nil ?_
 | refine V_q rfl (Yl_step rfl obQ) ?_
 | refine V_n rfl ?_
     )
 | (refine G_id ?_; first
 | refine G_V ⟨⟨_, rfl, trivial⟩, ⟨_, rfl⟩, rfl, pstQ⟩ rfl ?_
 | refine G_then ?_
 | refine G_thenR ?_
 | refine G_ret rfl obQ (fun w2 hw => ⟨_, rfl, hw.below, PicR.zero _ _ _⟩)
     )
     )

end Go.Proofs.Ytedlaominconaaa
