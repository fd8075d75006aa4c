/- Pictures to which a curve is applied; clipped ones: the program. An own picture as a row. -/
import Derived.Test.YtedlaominconaaaDoorTops21
import Derived.Test.YtedlaominconaaaDoorColour4
import Derived.Test.YtedlaominconaaaDoorColour16
namespace Go.Proofs.YtedlaominconaaaDoor
open Go.E Go.RowKit Go.Fl
attribute [local irreducible] G C S D Calls
set_option maxRecDepth 100000
set_option linter.unusedSimpArgs false
set_option linter.unusedVariables false

/-- A picture of a call's own, as a row. -/
def PRow (v : Value) (rs : List Rw) (p : Pic) : Prop := ∃ g c, v = .agg #[.string p.nm, .int .i64 p.w, .int .i64 p.h, .slice (some ⟨g, 0, none⟩) p.s.length c] ∧ rs = [⟨33, 1, p.s.length, p.s.map (.float .f32), .slice (some ⟨g, 0, none⟩) p.s.length c⟩]
theorem HW.picRow {w0 w : World} {Ps : Past} {σ : St} (hw : HW w0.heap.size w0 Ps σ w) {i : Nat} {r : Rw} (h : nth σ.rw i = some r) {p : Pic} (h0 : 0 < p.s.length) (he : r.e = 33 ∧ r.size = 1) (hn : r.n = p.s.length) (hx : r.xs = p.s.map (.float .f32)) {u : Value} (hu : u = .agg #[.string p.nm, .int .i64 p.w, .int .i64 p.h, r.val]) :
    ∃ v rs, Ending.returned u = .returned v ∧ Below w0.heap.size w0 w ∧ (∀ r ∈ rs, w.ownsRow w0.heap.size r.e r.size r.val r.n r.xs) ∧ rs.Pairwise (fun r s => ∀ g, r.val.ownBlock = some g → s.val.ownBlock ≠ some g) ∧ PRow v rs p := by
  obtain ⟨h1, _⟩ := hw.row r (nth_mem h)
  obtain ⟨e1, e2⟩ := he
  have h2 := h1.2
  rw [e1, e2, hn, hx] at h1
  rcases h2 with ⟨h2, h3⟩ | ⟨g, cap', cur, h2, _⟩
  · omega
  · rw [hn] at h2
    rw [h2] at h1
    refine ⟨u, [_], rfl, hw.below, fun r hr => ?_, by simp, g, cap', by rw [hu, h2], rfl⟩
    simp only [List.mem_cons, List.mem_nil_iff, or_false] at hr
    subst hr
    exact h1

set_option maxHeartbeats 400000 in
/-- genlockref01.Own -/
theorem rOwnR_c (p : Pic) (A : Option Addr) (c : Nat) (hs : p.s.length ≤ 1000000) (h0 : 0 < p.s.length) (hA : A = none → p.s.length = 0 ∧ c = 0) (w : World) (hr : Rd w A (p.s.map (.float .f32))) : Calls Tryd.prog 37 #[.agg #[.string p.nm, .int .i64 p.w, .int .i64 p.h, .slice A p.s.length c]] w fun r w' => ∃ v rs, r = .returned v ∧ Below w.heap.size w w' ∧ (∀ r ∈ rs, w'.ownsRow w.heap.size r.e r.size r.val r.n r.xs) ∧ rs.Pairwise (fun r s => ∀ g, r.val.ownBlock = some g → s.val.ownBlock ≠ some g) ∧ PRow v rs p := by
  refine calls_of (args := [.agg #[.string p.nm, .int .i64 p.w, .int .i64 p.h, .slice A p.s.length c]]) T_ok Tryd.func37 rfl Tryd.ntmps37 (Nat.le_of_ble_eq_true rfl) rfl ?_
  repeat' (first
 | (refine C_id ?_; first
 | refine C_seq ?_
 | refine C_region rfl ?_
 | refine C_ret0 ?_
 )
 | (refine S_id ?_; first
 | refine S_row00 rfl rfl rfl (fun g => ?_)
 | refine S_appendS rfl obQ rfl rfl rfl ⟨by decide, rfl⟩ rfl ⟨rfl, rfl, rfl, rfl⟩ (p.s.map (.float .f32)) (by simp) hA (one_fl _) (srcS hr memQ) (by unfold maxLen; dsimp only; omega) (fun A' cap' => ⟨_, rfl, ?_⟩)
 | refine S_nil ?_
 | refine S_run rfl rfl obQ obQ ?_
 | refine S_box (fun bb => ⟨_, _, rfl, obQ, ?_⟩)
 )
 | (refine G_id ?_; first
 | refine G_then ?_
 | refine G_ret rfl obQ (fun w2 hw => HW.picRow hw (i := 0) rfl h0 ⟨rfl, rfl⟩ (by simp) rfl rfl)
 )
 )

-- checkInterval

/-- A picture, each level of which is turned. -/
def tuP (f : Int → Int) (p : Pic) : Pic := ⟨p.nm, p.w, p.h, p.s.map fun x => smp (f (lvl x))⟩
def apE (l : List Pt) (p : Pic) : Int := firstL [curveE l, picE p]
theorem apE_ok {l : List Pt} {p : Pic} (h : apE l p = 0) : CvOk l ∧ PicOk p := by
  unfold apE at h
  rw [firstL_zero] at h
  simp only [List.mem_cons, List.mem_nil_iff, or_false, forall_eq_or_imp, forall_eq, curve_ok, pic_ok] at h
  exact h
-- clip1

set_option maxHeartbeats 400000 in
/-- colour.changed$1 -/
theorem chApp_c (b3 : Nat) (A : Option Addr) (c : Nat) (l : List Pt) (hv : CvOk l) (x : Nat) (hx : Smp x) (w : World) (hM : w.heap[b3]? = some (.cells ([.func (.func 53) #[.slice A l.length c] #[]] : List Value).toArray 97 (0, 0))) (hrl : Rd w A (l.flatMap ptC)) : Calls Tryd.prog 72 #[.float .f32 x, .pointer (some ⟨b3, 0, none⟩)] w fun r w' => r = .returned (.float .f32 (smp (valF l (lvl x)))) ∧ Below w.heap.size w w' := by
  refine calls_of (args := [.float .f32 x, .pointer (some ⟨b3, 0, none⟩)]) T_ok Tryd.func72 rfl Tryd.ntmps72 (Nat.le_of_ble_eq_true rfl) rfl ?_
  repeat' (first
 | (refine C_id ?_; first
 | refine C_seq ?_
 | refine C_region rfl ?_
 | refine C_block ?_
 | refine C_skip ?_
 | refine C_exit ?_
 | refine C_ret0 ?_
 | refine C_draw (id := 1) rfl mixed (by kernel_rfl) ?_
 | refine C_condT rfl obQ ?_
 | refine C_condF rfl obQ ?_
 | (refine C_cond rfl obQ (fun h => ?_) (fun h => ?_) <;> (try simp only [Bool.or_eq_true, Bool.and_eq_true, Bool.or_eq_false_iff, Bool.and_eq_false_iff, decide_eq_true_eq, decide_eq_false_iff_not, beq_iff_eq, bne_iff_ne, beq_eq_false_iff_ne, bne_eq_false_iff_eq, ne_eq, Decidable.not_not, List.cons.injEq, and_true, Bool.not_eq_true', Bool.not_eq_false', Int.not_lt, Int.not_le] at h))
 )
 | (refine S_id ?_; first
 | refine S_load rfl obQ rfl [.func (.func 53) #[.slice A l.length c] #[]] (.cell (_, fun b => b < _) memQ (heap_lt hM) (heap_cell1 hM (o := 0) rfl)) rfl (.inr ⟨rfl, rfl⟩) ?_
 | refine S_nil ?_
 | refine S_run rfl rfl obQ obQ ?_
 | refine S_call (f := 59) rfl obQ (by kernel_rfl) (fun w hw => level_c x hx.fin hx.bd w) ?_
 | refine S_call (f := 53) rfl obQ (by kernel_rfl) (fun w hw => value_c A c l (lvl x) hv w (hw.rdm hrl.toS memQ)) ?_
 | refine S_call (f := 35) rfl obQ (by kernel_rfl) (fun w hw => sample_c (valF l (lvl x)) (valF_lv hv _) w) ?_
 )
 | (refine D_id ?_; first
 | refine D_load rfl obQ rfl [.func (.func 53) #[.slice A l.length c] #[]] (.cell (_, fun b => b < _) memQ (heap_lt hM) (heap_cell1 hM (o := 0) rfl)) rfl (.inr ⟨rfl, rfl⟩) ?_
 | refine D_nil ?_
 | refine D_tail ?_
 | refine D_run rfl rfl obQ obQ ?_
 | refine D_call (f := 59) rfl obQ (by kernel_rfl) (fun w hw => level_c x hx.fin hx.bd w) ?_
 | refine D_call (f := 53) rfl obQ (by kernel_rfl) (fun w hw => value_c A c l (lvl x) hv w (hw.rdm hrl.toS memQ)) ?_
 | refine D_call (f := 35) rfl obQ (by kernel_rfl) (fun w hw => sample_c (valF l (lvl x)) (valF_lv hv _) w) ?_
 )
 | (refine G_id ?_; first
 | refine G_then ?_
 | refine G_block ?_
 | refine G_blockX ?_
 | refine G_blockN rfl ?_
 | refine G_blockR ?_
 | refine G_thenR ?_
 | refine G_thenX ?_
 | refine G_ret rfl obQ (fun w hw => ⟨?_, hw.below⟩)
 )
 )
  rfl

-- chClip_c

set_option maxHeartbeats 400000 in
/-- colour.mapped[float32,float32] -/
theorem mappedFF_c (q : FuncId) (c0 : Value) {g : Nat → Nat} (A : Option Addr) (c : Nat) (l : List (Nat)) (hl : l.length ≤ 1000000) (he : entB Tryd.prog q = true) (w : World) (hr : Rd w A (l.map fun x => Value.float .f32 x)) (hg : ∀ x ∈ l, ∀ W, Below w.heap.size w W → Calls Tryd.prog q #[Value.float .f32 x, c0] W fun e w' => e = .returned (Value.float .f32 (g x)) ∧ Below W.heap.size W w') : Calls Tryd.prog 71 #[.slice A l.length c, .func (.func q) #[] #[c0]] w fun r w' => ∃ v, r = .returned v ∧ Below w.heap.size w w' ∧ Sl w w' v l.length (l.map fun x => Value.float .f32 (g x)) := by
  refine calls_of (args := [.slice A l.length c, .func (.func q) #[] #[c0]]) T_ok Tryd.func71 rfl Tryd.ntmps71 (Nat.le_of_ble_eq_true rfl) rfl ?_
  repeat' (first
 | (refine C_id ?_; first
 | refine C_seq ?_
 | refine C_region rfl ?_
 | refine C_block ?_
 )
 | (refine S_id ?_; first
 | refine S_nil ?_
 | refine S_run rfl rfl obQ obQ ?_
 )
 | (refine G_id ?_; first
 | refine G_then ?_
 )
 )
  refine C_row0 5 33 1 rfl ?_
  refine C_loopS (fun i : Nat × Option Addr × Nat => ⟨[(5, .s (.r i.2.1 i.1 i.2.2 0)), (8, .s (.v (.slice A l.length c))), (9, .s (.v (.int .i64 l.length))), (10, .s (.v (.int .i64 i.1))), (1, .s (.v (.func (.func q) #[] #[c0])))], [], [⟨33, 1, i.1, (l.take i.1).map fun x => Value.float .f32 (g x), .slice i.2.1 i.1 i.2.2⟩]⟩) (fun i => i.1 ≤ l.length) (fun i => l.length - i.1) (0, none, 0) (Nat.zero_le _) ?_ (fun i hi => ?_)
  · exact ⟨⟨_, rfl, obQ⟩, ⟨_, rfl⟩, rfl, pstQ⟩
  obtain ⟨k, A', c'⟩ := i
  have hi' : k ≤ l.length := hi
  dsimp only
  by_cases hlt : k < l.length
  · obtain ⟨ad, rfl⟩ := hr.some (by simp; omega)
    have hmt := map_take_succ (f := fun x => Value.float .f32 (g x)) hlt
    repeat' (first
 | (refine C_id ?_; first
 | refine C_seq ?_
 | refine C_region rfl ?_
 | refine C_block ?_
 | refine C_skip ?_
 | (refine C_cond rfl obQ (fun h => ?_) (fun h => ?_) <;> (try simp only [Bool.or_eq_true, Bool.and_eq_true, Bool.or_eq_false_iff, Bool.and_eq_false_iff, decide_eq_true_eq, decide_eq_false_iff_not, beq_iff_eq, bne_iff_ne, beq_eq_false_iff_ne, bne_eq_false_iff_eq, ne_eq, Decidable.not_not, List.cons.injEq, and_true, Bool.not_eq_true', Bool.not_eq_false', Int.not_lt, Int.not_le] at h) <;> (try (exfalso; omega)))
     )
 | (refine S_id ?_; first
 | refine S_load rfl obQ rfl [Value.float .f32 l[k]] (.past _ memQ _ _ hr.toS _ _ rfl rfl (idx1 (f := fun x => Value.float .f32 x) hlt)) rfl (.inr ⟨rfl, rfl⟩) ?_
 | refine S_call rfl obQ he (fun W hW => hg l[k] (List.getElem_mem hlt) W hW.below) ?_
 | refine S_append rfl obQ rfl rfl rfl ⟨by decide, rfl⟩ rfl ⟨rfl, rfl, rfl, rfl⟩ [Value.float .f32 (g l[k])] ⟨by decide, rfl⟩ (by simp [Value.oneCell']) (fun w hw => by first | exact hw.src (i := 0) rfl rfl | exact hw.src (i := 1) rfl rfl | exact hw.src (i := 2) rfl rfl | exact hw.src (i := 3) rfl rfl | exact hw.src (i := 4) rfl rfl | exact hw.src (i := 5) rfl rfl | exact hw.src (i := 6) rfl rfl | exact hw.src (i := 7) rfl rfl | exact hw.src (i := 8) rfl rfl) (by unfold maxLen; dsimp only; omega) (fun gb cap' => ⟨_, rfl, ?_⟩)
 | refine S_nil ?_
 | refine S_run rfl rfl obQ obQ ?_
 | refine S_slice (fun b => ⟨_, _, rfl, obQ, ?_⟩)
     )
 | (refine G_id ?_; first
 | refine G_loop (k + 1, some ⟨gb, 0, none⟩, cap') (by show k + 1 ≤ _; omega) (by show l.length - (k + 1) < l.length - k; omega) ⟨⟨_, rfl, obQ⟩, ⟨_, rfl⟩, (by dsimp only; rw [hmt]), pstQ⟩
 | refine G_then ?_
 | refine G_block ?_
     )
     )
  · obtain rfl : k = l.length := by omega
    repeat' (first
 | (refine C_id ?_; first
 | refine C_seq ?_
 | refine C_region rfl ?_
 | refine C_exit ?_
 | refine C_ret0 ?_
 | (refine C_cond rfl obQ (fun h => ?_) (fun h => ?_) <;> (try simp only [Bool.or_eq_true, Bool.and_eq_true, Bool.or_eq_false_iff, Bool.and_eq_false_iff, decide_eq_true_eq, decide_eq_false_iff_not, beq_iff_eq, bne_iff_ne, beq_eq_false_iff_ne, bne_eq_false_iff_eq, ne_eq, Decidable.not_not, List.cons.injEq, and_true, Bool.not_eq_true', Bool.not_eq_false', Int.not_lt, Int.not_le] at h) <;> (try (exfalso; omega)))
     )
 | (refine S_id ?_; first
 | refine S_nil ?_
 | refine S_run rfl rfl obQ obQ ?_
     )
 | (refine G_id ?_; first
 | refine G_then ?_
 | refine G_blockX ?_
 | refine G_thenX ?_
 | refine G_ret rfl obQ (fun w2 hw => ⟨_, rfl, hw.below, HW.rowSl (i := 0) hw rfl rfl rfl (by rw [List.take_length])⟩)
     )
     )

set_option maxHeartbeats 400000 in
/-- colour.changed -/
theorem chgApp_c (p : Pic) (Ap : Option Addr) (cp : Nat) (hs : p.s.length ≤ 1000000) (hp : ∀ x ∈ p.s, Smp x) (A : Option Addr) (c : Nat) (l : List Pt) (hv : CvOk l) (w : World) (hr : Rd w Ap (p.s.map (.float .f32))) (hrl : Rd w A (l.flatMap ptC)) : Calls Tryd.prog 52 #[.agg #[.string p.nm, .int .i64 p.w, .int .i64 p.h, .slice Ap p.s.length cp], .func (.func 53) #[.slice A l.length c] #[]] w fun r w' => ∃ v, r = .returned v ∧ Below w.heap.size w w' ∧ PicA w w' v (tuP (valF l) p) := by
  refine calls_of (args := [.agg #[.string p.nm, .int .i64 p.w, .int .i64 p.h, .slice Ap p.s.length cp], .func (.func 53) #[.slice A l.length c] #[]]) T_ok Tryd.func52 rfl Tryd.ntmps52 (Nat.le_of_ble_eq_true rfl) rfl ?_
  repeat' (first
 | (refine C_id ?_; first
 | refine C_seq ?_
 | refine C_regionNe 1 rfl rfl ?_
 )
 | (refine S_id ?_; first
 | refine S_nil ?_
 | refine S_box (fun b => ⟨_, _, rfl, obQ, ?_⟩)
 )
 | (refine G_id ?_; first
 | refine G_then ?_
 )
 )
  rename_i b2 b3
  repeat' (first
 | (refine C_id ?_; first
 | refine C_seq ?_
 | refine C_region rfl ?_
 | refine C_block ?_
 | refine C_skip ?_
 | refine C_exit ?_
 | refine C_ret0 ?_
 | refine C_condT rfl obQ ?_
 | refine C_condF rfl obQ ?_
 | (refine C_cond rfl obQ (fun h => ?_) (fun h => ?_) <;> (try simp only [Bool.or_eq_true, Bool.and_eq_true, Bool.or_eq_false_iff, Bool.and_eq_false_iff, decide_eq_true_eq, decide_eq_false_iff_not, beq_iff_eq, bne_iff_ne, beq_eq_false_iff_ne, bne_eq_false_iff_eq, ne_eq, Decidable.not_not, List.cons.injEq, and_true, Bool.not_eq_true', Bool.not_eq_false', Int.not_lt, Int.not_le] at h))
   )
 | (refine S_id ?_; first
 | (refine S_callM (f := 71) rfl obQ (by kernel_rfl) (fun w2 hw2 => mappedFF_c 72 (.pointer (some ⟨b3, 0, none⟩)) (g := fun x => smp (valF l (lvl x))) Ap cp p.s hs (by kernel_rfl) w2 (hw2.rdm hr.toS memQ) (fun x hx W hW => chApp_c b3 A c l hv x (hp x hx) W ((hW.block b3 (HW.bxAt hw2 (i := 1) rfl rfl).1.2).trans (HW.bxAt hw2 (i := 1) rfl rfl).2) ((hw2.rdm hrl.toS memQ).below hW))) (fun w1M w2M vM hw1M hbM hRM => ?_); obtain ⟨AM, cM, rfl, hSM⟩ := hRM)
 | refine S_nil ?_
 | refine S_run rfl rfl obQ obQ ?_
 | refine S_box (fun b => ⟨_, _, rfl, obQ, ?_⟩)
   )
 | (refine G_id ?_; first
 | refine G_then ?_
 | refine G_block ?_
 | refine G_blockX ?_
 | refine G_blockN rfl ?_
 | refine G_blockR ?_
 | refine G_thenR ?_
 | refine G_thenX ?_
 | refine G_ret rfl obQ (fun w2 hw => ⟨_, rfl, hw.below, PicA.of (s := (tuP (valF l) p).s) (HW.callSl hw (by rw [show ((tuP (valF l) p).s.map (Value.float .f32)) = p.s.map (fun x => Value.float .f32 (smp (valF l (lvl x)))) by simp [tuP]]; exact hSM) memQ hw1M.bsize) (by simp [tuP]) rfl⟩)
   )
   )

-- chgClip_c

set_option maxHeartbeats 400000 in
/-- colour.Applied -/
theorem Applied_c (p : Pic) (Ap : Option Addr) (cp : Nat) (hs : p.s.length ≤ 1000000) (A : Option Addr) (c : Nat) (l : List Pt) (hl : l.length ≤ 1000000) (w : World) (hr : Rd w Ap (p.s.map (.float .f32))) (hrl : Rd w A (l.flatMap ptC)) : Calls Tryd.prog 19 #[.slice A l.length c, .agg #[.string p.nm, .int .i64 p.w, .int .i64 p.h, .slice Ap p.s.length cp]] w fun r w' => ∃ v, r = .returned v ∧ Below w.heap.size w w' ∧ (if apE l p = 0 then PicR w w' v (tuP (valF l) p) 0 else PicR w w' v zP (apE l p)) := by
  refine calls_of (args := [.slice A l.length c, .agg #[.string p.nm, .int .i64 p.w, .int .i64 p.h, .slice Ap p.s.length cp]]) T_ok Tryd.func19 rfl Tryd.ntmps19 (Nat.le_of_ble_eq_true rfl) rfl ?_
  by_cases hE : apE l p = 0
  · simp only [if_pos hE]
    obtain ⟨h1, h2⟩ := apE_ok hE
    repeat' (first
 | (refine C_id ?_; first
 | refine C_seq ?_
 | refine C_region rfl ?_
 | refine C_block ?_
 | refine C_skip ?_
 | refine C_exit ?_
 | refine C_ret0 ?_
 | refine C_drawV (id := 1) 3 [(0, true), (2, true), (1, false)] rfl mixed (by kernel_rfl) rfl ?_
 | refine C_condT rfl obQ ?_
 | refine C_condF rfl obQ ?_
 | (refine C_cond rfl obQ (fun h => ?_) (fun h => ?_) <;> (try simp only [Bool.or_eq_true, Bool.and_eq_true, Bool.or_eq_false_iff, Bool.and_eq_false_iff, decide_eq_true_eq, decide_eq_false_iff_not, beq_iff_eq, bne_iff_ne, beq_eq_false_iff_ne, bne_eq_false_iff_eq, ne_eq, Decidable.not_not, List.cons.injEq, and_true, Bool.not_eq_true', Bool.not_eq_false', Int.not_lt, Int.not_le] at h) <;> (try (exfalso; omega)) <;> (try (exfalso; simp at h; done)) <;> (try (exfalso; simp only [not_true_eq_false, false_or, or_false] at h; omega)) <;> (try contradiction))
     )
 | (refine S_id ?_; first
 | (refine S_callM (f := 52) rfl obQ (by kernel_rfl) (fun w hw => chgApp_c p Ap cp hs h2.s A c l h1 w (hw.rdm hr.toS memQ) (hw.rdm hrl.toS memQ)) (fun w1C w2C vC hw1C hbC hRC => ?_); obtain ⟨AC, cC, rfl, hSC⟩ := hRC)
 | refine S_nil ?_
 | refine S_run rfl rfl obQ obQ ?_
 | refine S_box (fun bb => ⟨_, _, rfl, obQ, ?_⟩)
 | refine S_slice (fun b => ⟨_, _, rfl, obQ, ?_⟩)
 | refine S_call (f := 51) rfl obQ (by kernel_rfl) (fun w hw => checkCurve_c A c l hl w (hw.rdm hrl.toS memQ)) ?_
 | refine S_call (f := 44) rfl obQ (by kernel_rfl) (fun w hw => checkPicture_c p Ap cp hs w (hw.rdm hr.toS memQ)) ?_
 | refine S_call (f := 21) rfl obQ (by kernel_rfl) (fun w hw => cfirst_c _ _ [curveE l, picE p] (by simp) w (.inr ⟨_, rfl, hw.src (i := 2) rfl rfl⟩)) ?_
     )
 | (refine D_id ?_; first
 | refine D_nil ?_
 | refine D_tail ?_
 | refine D_run rfl rfl obQ obQ ?_
 | refine D_call (f := 51) rfl obQ (by kernel_rfl) (fun w hw => checkCurve_c A c l hl w (hw.rdm hrl.toS memQ)) ?_
 | refine D_call (f := 44) rfl obQ (by kernel_rfl) (fun w hw => checkPicture_c p Ap cp hs w (hw.rdm hr.toS memQ)) ?_
 | refine D_call (f := 21) rfl obQ (by kernel_rfl) (fun w hw => cfirst_c _ _ [curveE l, picE p] (by simp) w (.inr ⟨_, rfl, hw.src (i := 2) rfl rfl⟩)) ?_
     )
 | (refine V_id ?_; first
 | refine V_nil ?_
 | refine V_q rfl (Yl_step rfl obQ) ?_
 | refine V_n rfl ?_
     )
 | (refine G_id ?_; first
 | refine G_V ⟨⟨_, rfl, trivial⟩, ⟨_, rfl⟩, rfl, pstQ⟩ rfl ?_
 | refine G_then ?_
 | refine G_block ?_
 | refine G_blockX ?_
 | refine G_blockN rfl ?_
 | refine G_blockR ?_
 | refine G_thenR ?_
 | refine G_thenX ?_
 | refine G_ret rfl obQ (fun w2 hw => ⟨_, rfl, hw.below, PicR.of (s := (tuP (valF l) p).s) (HW.callSl hw hSC memQ hw1C.bsize) rfl rfl⟩)
     )
     )
  · simp only [if_neg hE]
    repeat' (first
 | (refine C_id ?_; first
 | refine C_seq ?_
 | refine C_region rfl ?_
 | refine C_block ?_
 | refine C_skip ?_
 | refine C_exit ?_
 | refine C_ret0 ?_
 | refine C_drawV (id := 1) 3 [(0, true), (2, true), (1, false)] rfl mixed (by kernel_rfl) rfl ?_
 | refine C_condT rfl obQ ?_
 | refine C_condF rfl obQ ?_
 | (refine C_cond rfl obQ (fun h => ?_) (fun h => ?_) <;> (try simp only [Bool.or_eq_true, Bool.and_eq_true, Bool.or_eq_false_iff, Bool.and_eq_false_iff, decide_eq_true_eq, decide_eq_false_iff_not, beq_iff_eq, bne_iff_ne, beq_eq_false_iff_ne, bne_eq_false_iff_eq, ne_eq, Decidable.not_not, List.cons.injEq, and_true, Bool.not_eq_true', Bool.not_eq_false', Int.not_lt, Int.not_le] at h) <;> (try (exfalso; omega)) <;> (try (exfalso; simp at h; done)) <;> (try (exfalso; simp only [not_true_eq_false, false_or, or_false] at h; omega)) <;> (try contradiction))
     )
 | (refine S_id ?_; first
 | refine S_nil ?_
 | refine S_run rfl rfl obQ obQ ?_
 | refine S_box (fun bb => ⟨_, _, rfl, obQ, ?_⟩)
 | refine S_slice (fun b => ⟨_, _, rfl, obQ, ?_⟩)
 | refine S_call (f := 51) rfl obQ (by kernel_rfl) (fun w hw => checkCurve_c A c l hl w (hw.rdm hrl.toS memQ)) ?_
 | refine S_call (f := 44) rfl obQ (by kernel_rfl) (fun w hw => checkPicture_c p Ap cp hs w (hw.rdm hr.toS memQ)) ?_
 | refine S_call (f := 21) rfl obQ (by kernel_rfl) (fun w hw => cfirst_c _ _ [curveE l, picE p] (by simp) w (.inr ⟨_, rfl, hw.src (i := 2) rfl rfl⟩)) ?_
     )
 | (refine D_id ?_; first
 | refine D_nil ?_
 | refine D_tail ?_
 | refine D_run rfl rfl obQ obQ ?_
 | refine D_call (f := 51) rfl obQ (by kernel_rfl) (fun w hw => checkCurve_c A c l hl w (hw.rdm hrl.toS memQ)) ?_
 | refine D_call (f := 44) rfl obQ (by kernel_rfl) (fun w hw => checkPicture_c p Ap cp hs w (hw.rdm hr.toS memQ)) ?_
 | refine D_call (f := 21) rfl obQ (by kernel_rfl) (fun w hw => cfirst_c _ _ [curveE l, picE p] (by simp) w (.inr ⟨_, rfl, hw.src (i := 2) rfl rfl⟩)) ?_
     )
 | (refine V_id ?_; first
 | refine V_nil ?_
 | refine V_q rfl (Yl_step rfl obQ) ?_
 | refine V_n rfl ?_
     )
 | (refine G_id ?_; first
 | refine G_V ⟨⟨_, rfl, trivial⟩, ⟨_, rfl⟩, rfl, pstQ⟩ rfl ?_
 | refine G_then ?_
 | refine G_block ?_
 | refine G_blockX ?_
 | refine G_blockN rfl ?_
 | refine G_blockR ?_
 | refine G_thenR ?_
 | refine G_thenX ?_
 | refine G_ret rfl obQ (fun w2 hw => ⟨_, rfl, hw.below, PicR.zero _ _ _⟩)
     )
     )

-- Clipped

end Go.Proofs.YtedlaominconaaaDoor
