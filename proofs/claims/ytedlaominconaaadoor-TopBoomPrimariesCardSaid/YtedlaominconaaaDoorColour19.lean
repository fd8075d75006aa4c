/- Luma: the program. -/
import Derived.Test.YtedlaominconaaaDoorColour18
namespace Go.Proofs.YtedlaominconaaaDoor
open Go.E Go.RowKit Go.Fl
attribute [local irreducible] G C S D Calls
set_option maxRecDepth 100000
set_option linter.unusedSimpArgs false
set_option linter.unusedVariables false

set_option maxHeartbeats 400000 in
/-- colour.Luma$1 -/
theorem luma1_c (n : Int) (w : World) : Calls Tryd.prog 31 #[.int .i64 n] w fun r w' => r = .returned (.int .i64 (wi n 0 256)) ∧ Below w.heap.size w w' := by
  refine calls_of (args := [.int .i64 n]) T_ok Tryd.func31 rfl Tryd.ntmps31 (Nat.le_of_ble_eq_true rfl) rfl ?_
  repeat' (first
 | (refine C_id ?_; first
 | refine C_seq ?_
 | refine C_region rfl ?_
 | refine C_block ?_
 | refine C_skip ?_
 | refine C_exit ?_
 | refine C_ret0 ?_
 | refine C_condT rfl obQ ?_
 | refine C_condF rfl obQ ?_
 | (refine C_cond rfl obQ (fun h => ?_) (fun h => ?_) <;> (try simp only [Bool.or_eq_true, Bool.and_eq_true, Bool.or_eq_false_iff, Bool.and_eq_false_iff, decide_eq_true_eq, decide_eq_false_iff_not, beq_iff_eq, bne_iff_ne, beq_eq_false_iff_ne, bne_eq_false_iff_eq, ne_eq, Decidable.not_not, List.cons.injEq, and_true, Bool.not_eq_true', Bool.not_eq_false', Int.not_lt, Int.not_le] at h))
 )
 | (refine S_id ?_; first
 | refine S_nil ?_
 | refine S_run rfl rfl obQ obQ ?_
 | refine S_call (f := 32) rfl obQ (by kernel_rfl) (fun w hw => cwithin_c _ _ _ w) ?_
 )
 | (refine G_id ?_; first
 | refine G_then ?_
 | refine G_block ?_
 | refine G_blockX ?_
 | refine G_blockN rfl ?_
 | refine G_blockR ?_
 | refine G_thenR ?_
 | refine G_thenX ?_
 | refine G_ret rfl obQ (fun w hw => ⟨?_, hw.below⟩)
 )
 )
  rfl

def wr1 (a b c : Int) : Int := firstL [wi a 0 256, wi b 0 256, wi c 0 256]
/-- The error of weights. -/
def wtE (a b c : Int) : Int := if wr1 a b c = 0 then wh (decide (a + b + c ≠ 256)) 1 else wr1 a b c
structure WtOk (a b c : Int) : Prop where
  wa : 0 ≤ a ∧ a ≤ 256
  wb : 0 ≤ b ∧ b ≤ 256
  wc : 0 ≤ c ∧ c ≤ 256
  ws : a + b + c = 256
theorem wr1_ok {a b c : Int} : wr1 a b c = 0 ↔ (0 ≤ a ∧ a ≤ 256) ∧ (0 ≤ b ∧ b ≤ 256) ∧ (0 ≤ c ∧ c ≤ 256) := by
  unfold wr1
  rw [firstL_zero]
  simp only [List.mem_cons, List.mem_nil_iff, or_false, forall_eq_or_imp, forall_eq, wi_eq]
theorem wt_ok {a b c : Int} : wtE a b c = 0 ↔ WtOk a b c := by
  unfold wtE
  constructor
  · intro h
    split at h
    · rename_i h1
      obtain ⟨g1, g2, g3⟩ := wr1_ok.1 h1
      rw [wh_zero (by omega), decide_eq_false_iff_not] at h
      exact ⟨g1, g2, g3, by omega⟩
    · contradiction
  · intro h
    rw [if_pos (wr1_ok.2 ⟨h.wa, h.wb, h.wc⟩), wh_zero (by omega), decide_eq_false_iff_not]
    exact fun g => g h.ws
/-- As the program has it: the sum, wrapped, is looked at even where a weight is wrong. -/
def wtP (a b c : Int) : Int := firstL [wr1 a b c, wh (IntKind.i64.wrap (IntKind.i64.wrap (a + b) + c) != 256) 1]
theorem wtP_eq (a b c : Int) : wtP a b c = wtE a b c := by
  unfold wtP wtE
  simp only [firstL]
  by_cases h : wr1 a b c = 0
  · obtain ⟨g1, g2, g3⟩ := wr1_ok.1 h
    rw [if_pos h, if_pos h, inR_wrap (k := .i64) (z := a + b) (by simp only [inR]; omega), inR_wrap (k := .i64) (z := a + b + c) (by simp only [inR]; omega)]
    unfold wh
    by_cases h2 : a + b + c = 256 <;> simp [h2]
  · rw [if_neg h, if_neg h]
/-- The luma of a place. -/
def luN (a b c : Int) (q : Col) : Int := rnd (dotF a b c q.1 q.2.1 q.2.2) 256
theorem luN_bd {a b c : Int} (h : WtOk a b c) {q : Col} (hq : ColOk q) : (-4194304 ≤ dotF a b c q.1 q.2.1 q.2.2 ∧ dotF a b c q.1 q.2.1 q.2.2 ≤ 4194304) ∧ -16384 ≤ luN a b c q ∧ luN a b c q ≤ 16384 := by
  obtain ⟨h1, h2, h3⟩ := hq
  have ha := h.wa
  have hb := h.wb
  have hc := h.wc
  have hs := h.ws
  have key : ∀ {u v : Int}, 0 ≤ u → -16384 ≤ v ∧ v ≤ 16384 → -(16384 * u) ≤ u * v ∧ u * v ≤ 16384 * u := by
    intro u v hu hv
    have g1 := Int.mul_le_mul_of_nonneg_left hv.1 hu
    have g2 := Int.mul_le_mul_of_nonneg_left hv.2 hu
    omega
  have k1 := key ha.1 h1
  have k2 := key hb.1 h2
  have k3 := key hc.1 h3
  have hd : -4194304 ≤ dotF a b c q.1 q.2.1 q.2.2 ∧ dotF a b c q.1 q.2.1 q.2.2 ≤ 4194304 := by unfold dotF; omega
  refine ⟨hd, ?_⟩
  unfold luN rnd
  omega
def luP (x : Pic) (y z : Pic) (a b c : Int) : Pic := ⟨x.nm, x.w, x.h, (plL x y z).map fun q => smp (luN a b c q.c)⟩
/-- The luma and the error. -/
def luR (x y z : Pic) (a b c : Int) : Pic × Int := if thE x y z = 0 then (if wtE a b c = 0 then (luP x y z a b c, 0) else (zP, wtE a b c)) else (zP, thE x y z)
theorem luR_1 {x y z : Pic} {a b c : Int} (h : ¬ thE x y z = 0) : luR x y z a b c = (zP, thE x y z) := if_neg h
theorem luR_2 {x y z : Pic} {a b c : Int} (h : thE x y z = 0) (h2 : ¬ wtE a b c = 0) : luR x y z a b c = (zP, wtE a b c) := by rw [luR, if_pos h, if_neg h2]
theorem luR_3 {x y z : Pic} {a b c : Int} (h : thE x y z = 0) (h2 : wtE a b c = 0) : luR x y z a b c = (luP x y z a b c, 0) := by rw [luR, if_pos h, if_pos h2]
theorem firstE_c {A : Option Addr} {n : Nat} {l : List Int} {e : Int} (he : firstL l = e) (h6 : l.length ≤ 1000000) (hl : l.length = n) (c : Nat) (w : World) (hr : Rd w A (l.map (.int .i64))) : Calls Tryd.prog 21 #[.slice A n c] w fun r w' => r = .returned (.int .i64 e) ∧ Below w.heap.size w w' := by
  subst hl he
  exact cfirst_c A c l h6 w hr


theorem block_rd {w : World} {ad : Addr} {xs : List Value} (h : Rd w (some ad) xs) (hx : 0 < xs.length) : ad.block < w.heap.size := by
  rcases h with h | ⟨ad', e, h2⟩
  · rw [h] at hx; simp at hx
  · cases e
    have := cell_lt (h2 0 xs[0] (List.getElem?_eq_getElem hx))
    rwa [block_of_add] at this

set_option maxHeartbeats 4000000 in
/-- colour.Luma -/
theorem Luma_c (x y z : Pic) (ax ay az : Addr) (cx cy cz : Nat) (hsx : x.s.length ≤ 1000000) (hsy : y.s.length ≤ 1000000) (hsz : z.s.length ≤ 1000000) (wa wb wc : Int) (w : World) (hrx : Rd w (some ax) (x.s.map (.float .f32))) (hry : Rd w (some ay) (y.s.map (.float .f32))) (hrz : Rd w (some az) (z.s.map (.float .f32))) : Calls Tryd.prog 9 #[.agg #[.string x.nm, .int .i64 x.w, .int .i64 x.h, .slice (some ax) x.s.length cx, .string y.nm, .int .i64 y.w, .int .i64 y.h, .slice (some ay) y.s.length cy, .string z.nm, .int .i64 z.w, .int .i64 z.h, .slice (some az) z.s.length cz], .agg #[.int .i64 wa, .int .i64 wb, .int .i64 wc]] w fun r w' => ∃ v, r = .returned v ∧ Below w.heap.size w w' ∧ PicR w w' v (luR x y z wa wb wc).1 (luR x y z wa wb wc).2 := by
  refine calls_ofM (args := [.agg #[.string x.nm, .int .i64 x.w, .int .i64 x.h, .slice (some ax) x.s.length cx, .string y.nm, .int .i64 y.w, .int .i64 y.h, .slice (some ay) y.s.length cy, .string z.nm, .int .i64 z.w, .int .i64 z.h, .slice (some az) z.s.length cz], .agg #[.int .i64 wa, .int .i64 wb, .int .i64 wc]]) T_ok Tryd.func9 rfl Tryd.ntmps9 (Nat.le_of_ble_eq_true rfl) rfl ?_
  by_cases hE : thE x y z = 0
  · have ht := th_ok.1 hE
    by_cases hW : wtE wa wb wc = 0
    · have hwt := wt_ok.1 hW
      have hwa := hwt.wa
      have hwb := hwt.wb
      have hwc := hwt.wc
      have hx0 : 0 < x.s.length := by
        have := ht.px.n
        have := Int.mul_pos (show 0 < x.w by have := ht.px.w; omega) (show 0 < x.h by have := ht.px.h; omega)
        omega
      have hln := ht.len
      have hbx := block_rd hrx (by simp; omega)
      have hby := block_rd hry (by simp; omega)
      have hbz := block_rd hrz (by simp; omega)
      rw [luR_3 hE hW]
      repeat' (first
 | (refine C_id ?_; first
 | refine C_seq ?_
 | refine C_region rfl ?_
 | refine C_block ?_
 | refine C_skip ?_
 | refine C_exit ?_
 | refine C_ret0 ?_
 | refine C_drawV (id := 4) 12 [(0, true), (3, true), (4, true), (5, true), (6, true), (7, true), (8, true), (9, true), (10, true), (11, true), (1, false), (2, false)] rfl mixed (by kernel_rfl) rfl ?_
 | refine C_drawT (id := 11) 7 rfl mixed (by kernel_rfl) rfl rfl ?_
 | refine C_condT rfl obQ ?_
 | refine C_condF rfl obQ ?_
 | (refine C_cond rfl obQ (fun h => ?_) (fun h => ?_) <;> (try simp only [Bool.or_eq_true, Bool.and_eq_true, Bool.or_eq_false_iff, Bool.and_eq_false_iff, decide_eq_true_eq, decide_eq_false_iff_not, beq_iff_eq, bne_iff_ne, beq_eq_false_iff_ne, bne_eq_false_iff_eq, ne_eq, Decidable.not_not, List.cons.injEq, and_true, Bool.not_eq_true', Bool.not_eq_false', Int.not_lt, Int.not_le] at h) <;> (try (exfalso; omega)) <;> (try (exfalso; simp at h; done)) <;> (try (exfalso; simp only [not_true_eq_false, false_or, or_false] at h; omega)) <;> (try contradiction))
       )
 | (refine S_id ?_; first
 | refine S_pure (sliceX_pure rfl obQ (fun w => sl_arr Tryd.underlying34 (by kernel_rfl) _ w)) ?_
 | (refine S_callM (f := 30) rfl obQ (by kernel_rfl) (fun w hw => mappedIE_c 31 (g := fun n => wi n 0 256) _ 3 [wa, wb, wc] (by simp) (by kernel_rfl) w (.inr ⟨_, rfl, hw.src (i := 1) rfl rfl⟩) (fun x _ W _ => luma1_c x W)) (fun w1M w2M vM hw1M hbM hRM => ?_); obtain ⟨AM, cM, rfl, hSM⟩ := hRM)
 | (refine S_callM (f := 34) rfl obQ (by kernel_rfl) (fun w hw => places_c x y z ax ay az cx cy cz w) (fun w1C w2C vC hw1C hbC hRC => ?_); obtain ⟨bC, rfl, hbC, hMC⟩ := hRC)
 | refine S_pure (binX_pure rfl obQ (fun w => wrap_add _ _ _ _ _ _ w)) ?_
 | refine S_nil ?_
 | refine S_run rfl rfl obQ obQ ?_
 | refine S_box (fun b => ⟨_, _, rfl, obQ, ?_⟩)
 | refine S_slice (fun b => ⟨_, _, rfl, obQ, ?_⟩)
 | refine S_one rfl obQ ?_
 | refine S_call (f := 29) rfl obQ (by kernel_rfl) (fun w hw => checkThree_c x y z (some ax) (some ay) (some az) cx cy cz hsx hsy hsz w (hw.rdm hrx.toS memQ) (hw.rdm hry.toS memQ) (hw.rdm hrz.toS memQ)) ?_
 | refine S_call (f := 33) rfl obQ (by kernel_rfl) (fun w hw => cwhen_c _ _ w) ?_
 | refine S_call (f := 21) rfl obQ (by kernel_rfl) (fun w hw => cfirst_c _ _ [wi wa 0 256, wi wb 0 256, wi wc 0 256] (by simp) w (hw.rdm hSM memQ)) ?_
 | refine S_call (f := 21) rfl obQ (by kernel_rfl) (fun w hw => firstE_c (l := [wr1 wa wb wc, wh (IntKind.i64.wrap (IntKind.i64.wrap (wa + wb) + wc) != 256) 1]) (wtP_eq wa wb wc) (by simp) rfl _ w (.inr ⟨_, rfl, hw.src (i := 3) rfl rfl⟩)) ?_
 | refine S_call (f := 23) rfl obQ (by kernel_rfl) (fun w hw => dot_c _ _ _ _ _ _ (by omega) (by omega) (by omega) (by omega) (by omega) (by omega) w) ?_
 | refine S_call (f := 36) rfl obQ (by kernel_rfl) (fun w hw => rounded_c _ _ (by omega) (by omega) w) ?_
 | refine S_call (f := 35) rfl obQ (by kernel_rfl) (fun w hw => sample_c (luN wa wb wc q.c) hlu w) ?_
       )
 | (refine D_id ?_; first
 | refine D_pure (binX_pure rfl obQ (fun w => wrap_add _ _ _ _ _ _ w)) ?_
 | refine D_nil ?_
 | refine D_tail ?_
 | refine D_run rfl rfl obQ obQ ?_
 | refine D_one rfl obQ ?_
 | refine D_call (f := 29) rfl obQ (by kernel_rfl) (fun w hw => checkThree_c x y z (some ax) (some ay) (some az) cx cy cz hsx hsy hsz w (hw.rdm hrx.toS memQ) (hw.rdm hry.toS memQ) (hw.rdm hrz.toS memQ)) ?_
 | refine D_call (f := 33) rfl obQ (by kernel_rfl) (fun w hw => cwhen_c _ _ w) ?_
 | refine D_call (f := 21) rfl obQ (by kernel_rfl) (fun w hw => cfirst_c _ _ [wi wa 0 256, wi wb 0 256, wi wc 0 256] (by simp) w (hw.rdm hSM memQ)) ?_
 | refine D_call (f := 21) rfl obQ (by kernel_rfl) (fun w hw => firstE_c (l := [wr1 wa wb wc, wh (IntKind.i64.wrap (IntKind.i64.wrap (wa + wb) + wc) != 256) 1]) (wtP_eq wa wb wc) (by simp) rfl _ w (.inr ⟨_, rfl, hw.src (i := 3) rfl rfl⟩)) ?_
 | refine D_call (f := 23) rfl obQ (by kernel_rfl) (fun w hw => dot_c _ _ _ _ _ _ (by omega) (by omega) (by omega) (by omega) (by omega) (by omega) w) ?_
 | refine D_call (f := 36) rfl obQ (by kernel_rfl) (fun w hw => rounded_c _ _ (by omega) (by omega) w) ?_
 | refine D_call (f := 35) rfl obQ (by kernel_rfl) (fun w hw => sample_c (luN wa wb wc q.c) hlu w) ?_
       )
 | (refine V_id ?_; first
 | refine V_nil ?_
 | refine V_q rfl (Yl_pure (sliceX_pure rfl obQ (fun w => sl_arr Tryd.underlying34 (by kernel_rfl) _ w))) ?_
 | refine V_q rfl (Yl_pure (binX_pure rfl obQ (fun w => wrap_add _ _ _ _ _ _ w))) ?_
 | refine V_q rfl (Yl_step rfl obQ) ?_
 | refine V_n rfl ?_
       )
 | (refine G_id ?_; first
 | refine G_V ⟨⟨_, rfl, trivial⟩, ⟨_, rfl⟩, rfl, pstQ⟩ rfl ?_
 | refine G_then ?_
 | refine G_block ?_
 | refine G_blockX ?_
 | refine G_blockN rfl ?_
 | refine G_blockR ?_
 | refine G_thenR ?_
 | refine G_thenX ?_
 | refine G_ret rfl obQ (fun w hw => ⟨?_, hw.below⟩)
       )
       )
      rename_i b2 b3 b4 hz bs hbC0
      obtain ⟨b8, rfl⟩ : ∃ z, z = b := ⟨b, rfl⟩
      refine C_rowB 33 1 [⟨b2, 54, [.v (.string x.nm), .v (.int .i64 x.w), .v (.int .i64 x.h), .v (.slice (some ax) x.s.length cx), .v (.string y.nm), .v (.int .i64 y.w), .v (.int .i64 y.h), .v (.slice (some ay) y.s.length cy), .v (.string z.nm), .v (.int .i64 z.w), .v (.int .i64 z.h), .v (.slice (some az) z.s.length cz)]⟩, ⟨b3, 34, [.v (.int .i64 wa), .v (.int .i64 wb), .v (.int .i64 wc)]⟩, ⟨b4, 50, [.v (.string ByteArray.empty), .v (.int .i64 0), .v (.int .i64 0), .v (.slice none 0 0)]⟩, ⟨bs, 39, [.v (.int .i64 (wr1 wa wb wc)), .v (.int .i64 (wh (IntKind.i64.wrap (IntKind.i64.wrap (wa + wb) + wc) != 256) 1))]⟩, ⟨b8, 50, [.v (.string x.nm), .v (.int .i64 x.w), .v (.int .i64 x.h), .r none 0 0 0]⟩] rfl ?_
      refine C_rangeFuncE rfl rfl obQ (by kernel_rfl) (encs := encP) (plL x y z) (fun _ => rfl) (by intro t ht; simp at ht; rcases ht with rfl | rfl <;> exact Nat.le_of_ble_eq_true rfl) (fun q => [(41, .int .i64 q.i), (42, triV q.c)]) (fun q => by simp [encP]) (fun w3 hw3 => ?_) (fun (pre : List OPl) (i : Option Addr × Nat) => ⟨[], [⟨b2, 54, [.v (.string x.nm), .v (.int .i64 x.w), .v (.int .i64 x.h), .v (.slice (some ax) x.s.length cx), .v (.string y.nm), .v (.int .i64 y.w), .v (.int .i64 y.h), .v (.slice (some ay) y.s.length cy), .v (.string z.nm), .v (.int .i64 z.w), .v (.int .i64 z.h), .v (.slice (some az) z.s.length cz)]⟩, ⟨b3, 34, [.v (.int .i64 wa), .v (.int .i64 wb), .v (.int .i64 wc)]⟩, ⟨b4, 50, [.v (.string ByteArray.empty), .v (.int .i64 0), .v (.int .i64 0), .v (.slice none 0 0)]⟩, ⟨bs, 39, [.v (.int .i64 (wr1 wa wb wc)), .v (.int .i64 (wh (IntKind.i64.wrap (IntKind.i64.wrap (wa + wb) + wc) != 256) 1))]⟩, ⟨b8, 50, [.v (.string x.nm), .v (.int .i64 x.w), .v (.int .i64 x.h), .r i.1 pre.length i.2 0]⟩], [⟨33, 1, pre.length, pre.map (fun q : OPl => Value.float .f32 (smp (luN wa wb wc q.c))), .slice i.1 pre.length i.2⟩]⟩) (none, 0) (fun w3 hw3 => HW.same hw3 rfl rfl) (fun l L W3 pre q i hpre hwp => ?_) (fun D WD i hBD hWD hnD => ?_)
      · exact places_seq bC x y z ax ay az cx cy cz ht hsx _ ⟨(w2C, fun b => w1C.heap.size ≤ b ∧ b < w2C.heap.size), by simp, hbC⟩ ⟨(w, fun b => b < w.heap.size), by simp, hbx⟩ ⟨(w, fun b => b < w.heap.size), by simp, hby⟩ ⟨(w, fun b => b < w.heap.size), by simp, hbz⟩ w3 ⟨((hw3.past (w2C, fun b => w1C.heap.size ≤ b ∧ b < w2C.heap.size) (by simp) bC hbC).1.2).trans hMC, hw3.rdm hrx.toS memQ, hw3.rdm hry.toS memQ, hw3.rdm hrz.toS memQ⟩
      · try dsimp only
        obtain ⟨hdd, hlu⟩ := luN_bd hwt q.ok
        obtain ⟨hq1, hq2, hq3⟩ := q.ok
        have hpl : pre.length ≤ 1000000 := by simp [plL] at hpre; omega
        repeat' (first
 | (refine C_id ?_; first
 | refine C_seq ?_
 | refine C_region rfl ?_
 | refine C_block ?_
 | refine C_skip ?_
 | refine C_exit ?_
 | refine C_ret0 ?_
 | refine C_drawT (id := 4) 13 rfl mixed (by kernel_rfl) rfl rfl ?_
 | refine C_drawV (id := 11) 8 [(0, true), (1, true), (2, true), (3, true), (4, false), (5, false), (6, false), (7, false)] rfl mixed (by kernel_rfl) rfl ?_
 | refine C_condT rfl obQ ?_
 | refine C_condF rfl obQ ?_
 | (refine C_cond rfl obQ (fun h => ?_) (fun h => ?_) <;> (try simp only [Bool.or_eq_true, Bool.and_eq_true, Bool.or_eq_false_iff, Bool.and_eq_false_iff, decide_eq_true_eq, decide_eq_false_iff_not, beq_iff_eq, bne_iff_ne, beq_eq_false_iff_ne, bne_eq_false_iff_eq, ne_eq, Decidable.not_not, List.cons.injEq, and_true, Bool.not_eq_true', Bool.not_eq_false', Int.not_lt, Int.not_le] at h))
         )
 | (refine S_id ?_; first
 | refine S_append rfl obQ rfl rfl rfl ⟨by decide, rfl⟩ rfl ⟨rfl, rfl, rfl, rfl⟩ [.float .f32 (smp (luN wa wb wc q.c))] ⟨by decide, rfl⟩ (by simp [Value.oneCell']) (fun w hw => by first | exact hw.src (i := 0) rfl rfl | exact hw.src (i := 1) rfl rfl | exact hw.src (i := 2) rfl rfl | exact hw.src (i := 3) rfl rfl | exact hw.src (i := 4) rfl rfl | exact hw.src (i := 5) rfl rfl | exact hw.src (i := 6) rfl rfl | exact hw.src (i := 7) rfl rfl | exact hw.src (i := 8) rfl rfl) (by unfold maxLen; dsimp only; omega) (fun gb cap' => ⟨_, rfl, ?_⟩)
 | refine S_nil ?_
 | refine S_run rfl rfl obQ obQ ?_
 | refine S_box (fun b0 => ⟨_, _, rfl, obQ, ?_⟩)
 | refine S_slice (fun b => ⟨_, _, rfl, obQ, ?_⟩)
 | refine S_call (f := 29) rfl obQ (by kernel_rfl) (fun w hw => checkThree_c x y z (some ax) (some ay) (some az) cx cy cz hsx hsy hsz w (hw.rdm hrx.toS memQ) (hw.rdm hry.toS memQ) (hw.rdm hrz.toS memQ)) ?_
 | refine S_call (f := 33) rfl obQ (by kernel_rfl) (fun w hw => cwhen_c _ _ w) ?_
 | refine S_call (f := 21) rfl obQ (by kernel_rfl) (fun w hw => cfirst_c _ _ [wi wa 0 256, wi wb 0 256, wi wc 0 256] (by simp) w (hw.rdm hSM memQ)) ?_
 | refine S_call (f := 21) rfl obQ (by kernel_rfl) (fun w hw => firstE_c (l := [wr1 wa wb wc, wh (IntKind.i64.wrap (IntKind.i64.wrap (wa + wb) + wc) != 256) 1]) (wtP_eq wa wb wc) (by simp) rfl _ w (.inr ⟨_, rfl, hw.src (i := 3) rfl rfl⟩)) ?_
 | refine S_call (f := 23) rfl obQ (by kernel_rfl) (fun w hw => dot_c _ _ _ _ _ _ (by omega) (by omega) (by omega) (by omega) (by omega) (by omega) w) ?_
 | refine S_call (f := 36) rfl obQ (by kernel_rfl) (fun w hw => rounded_c _ _ (by omega) (by omega) w) ?_
 | refine S_call (f := 35) rfl obQ (by kernel_rfl) (fun w hw => sample_c (luN wa wb wc q.c) hlu w) ?_
         )
 | (refine D_id ?_; first
 | refine D_nil ?_
 | refine D_tail ?_
 | refine D_run rfl rfl obQ obQ ?_
 | refine D_call (f := 29) rfl obQ (by kernel_rfl) (fun w hw => checkThree_c x y z (some ax) (some ay) (some az) cx cy cz hsx hsy hsz w (hw.rdm hrx.toS memQ) (hw.rdm hry.toS memQ) (hw.rdm hrz.toS memQ)) ?_
 | refine D_call (f := 33) rfl obQ (by kernel_rfl) (fun w hw => cwhen_c _ _ w) ?_
 | refine D_call (f := 21) rfl obQ (by kernel_rfl) (fun w hw => cfirst_c _ _ [wi wa 0 256, wi wb 0 256, wi wc 0 256] (by simp) w (hw.rdm hSM memQ)) ?_
 | refine D_call (f := 21) rfl obQ (by kernel_rfl) (fun w hw => firstE_c (l := [wr1 wa wb wc, wh (IntKind.i64.wrap (IntKind.i64.wrap (wa + wb) + wc) != 256) 1]) (wtP_eq wa wb wc) (by simp) rfl _ w (.inr ⟨_, rfl, hw.src (i := 3) rfl rfl⟩)) ?_
 | refine D_call (f := 23) rfl obQ (by kernel_rfl) (fun w hw => dot_c _ _ _ _ _ _ (by omega) (by omega) (by omega) (by omega) (by omega) (by omega) w) ?_
 | refine D_call (f := 36) rfl obQ (by kernel_rfl) (fun w hw => rounded_c _ _ (by omega) (by omega) w) ?_
 | refine D_call (f := 35) rfl obQ (by kernel_rfl) (fun w hw => sample_c (luN wa wb wc q.c) hlu w) ?_
         )
 | (refine V_id ?_; first
 | refine V_nil ?_
 | refine V_q rfl (Yl_step rfl obQ) ?_
 | refine V_n rfl ?_
         )
 | (refine G_id ?_; first
 | refine G_V ⟨⟨_, rfl, trivial⟩, ⟨_, rfl⟩, rfl, pstQ⟩ rfl ?_
 | refine G_assignE hwp (fun W4 hw4 => ?_)
 | refine G_roundE (some ⟨gb, 0, none⟩, cap') (by dsimp only; rw [List.length_append, List.map_append]; exact ⟨⟨_, rfl, obQ⟩, ⟨_, rfl⟩, rfl, pstQ⟩) hw4
 | refine G_then ?_
 | refine G_block ?_
 | refine G_blockX ?_
 | refine G_blockN rfl ?_
 | refine G_blockR ?_
 | refine G_thenR ?_
 | refine G_thenX ?_
 | refine G_ret rfl obQ (fun w hw => ⟨?_, hw.below⟩)
         )
         )
      · repeat' (first
 | (refine C_id ?_; first
 | refine C_seq ?_
 | refine C_region rfl ?_
 | refine C_block ?_
 | refine C_skip ?_
 | refine C_exit ?_
 | refine C_ret0 ?_
 | refine C_drawT (id := 4) 13 rfl mixed (by kernel_rfl) rfl rfl ?_
 | refine C_drawT (id := 11) 7 rfl mixed (by kernel_rfl) rfl rfl ?_
 | refine C_condT rfl obQ ?_
 | refine C_condF rfl obQ ?_
 | (refine C_cond rfl obQ (fun h => ?_) (fun h => ?_) <;> (try simp only [Bool.or_eq_true, Bool.and_eq_true, Bool.or_eq_false_iff, Bool.and_eq_false_iff, decide_eq_true_eq, decide_eq_false_iff_not, beq_iff_eq, bne_iff_ne, beq_eq_false_iff_ne, bne_eq_false_iff_eq, ne_eq, Decidable.not_not, List.cons.injEq, and_true, Bool.not_eq_true', Bool.not_eq_false', Int.not_lt, Int.not_le] at h))
         )
 | (refine S_id ?_; first
 | refine S_nil ?_
 | refine S_run rfl rfl obQ obQ ?_
 | refine S_box (fun b => ⟨_, _, rfl, obQ, ?_⟩)
 | refine S_slice (fun b => ⟨_, _, rfl, obQ, ?_⟩)
 | refine S_call (f := 29) rfl obQ (by kernel_rfl) (fun w hw => checkThree_c x y z (some ax) (some ay) (some az) cx cy cz hsx hsy hsz w (hw.rdm hrx.toS memQ) (hw.rdm hry.toS memQ) (hw.rdm hrz.toS memQ)) ?_
 | refine S_call (f := 33) rfl obQ (by kernel_rfl) (fun w hw => cwhen_c _ _ w) ?_
 | refine S_call (f := 21) rfl obQ (by kernel_rfl) (fun w hw => cfirst_c _ _ [wi wa 0 256, wi wb 0 256, wi wc 0 256] (by simp) w (hw.rdm hSM memQ)) ?_
 | refine S_call (f := 21) rfl obQ (by kernel_rfl) (fun w hw => firstE_c (l := [wr1 wa wb wc, wh (IntKind.i64.wrap (IntKind.i64.wrap (wa + wb) + wc) != 256) 1]) (wtP_eq wa wb wc) (by simp) rfl _ w (.inr ⟨_, rfl, hw.src (i := 3) rfl rfl⟩)) ?_
 | refine S_call (f := 23) rfl obQ (by kernel_rfl) (fun w hw => dot_c _ _ _ _ _ _ (by omega) (by omega) (by omega) (by omega) (by omega) (by omega) w) ?_
 | refine S_call (f := 36) rfl obQ (by kernel_rfl) (fun w hw => rounded_c _ _ (by omega) (by omega) w) ?_
 | refine S_call (f := 35) rfl obQ (by kernel_rfl) (fun w hw => sample_c (luN wa wb wc q.c) hlu w) ?_
         )
 | (refine D_id ?_; first
 | refine D_nil ?_
 | refine D_tail ?_
 | refine D_run rfl rfl obQ obQ ?_
 | refine D_call (f := 29) rfl obQ (by kernel_rfl) (fun w hw => checkThree_c x y z (some ax) (some ay) (some az) cx cy cz hsx hsy hsz w (hw.rdm hrx.toS memQ) (hw.rdm hry.toS memQ) (hw.rdm hrz.toS memQ)) ?_
 | refine D_call (f := 33) rfl obQ (by kernel_rfl) (fun w hw => cwhen_c _ _ w) ?_
 | refine D_call (f := 21) rfl obQ (by kernel_rfl) (fun w hw => cfirst_c _ _ [wi wa 0 256, wi wb 0 256, wi wc 0 256] (by simp) w (hw.rdm hSM memQ)) ?_
 | refine D_call (f := 21) rfl obQ (by kernel_rfl) (fun w hw => firstE_c (l := [wr1 wa wb wc, wh (IntKind.i64.wrap (IntKind.i64.wrap (wa + wb) + wc) != 256) 1]) (wtP_eq wa wb wc) (by simp) rfl _ w (.inr ⟨_, rfl, hw.src (i := 3) rfl rfl⟩)) ?_
 | refine D_call (f := 23) rfl obQ (by kernel_rfl) (fun w hw => dot_c _ _ _ _ _ _ (by omega) (by omega) (by omega) (by omega) (by omega) (by omega) w) ?_
 | refine D_call (f := 36) rfl obQ (by kernel_rfl) (fun w hw => rounded_c _ _ (by omega) (by omega) w) ?_
 | refine D_call (f := 35) rfl obQ (by kernel_rfl) (fun w hw => sample_c (luN wa wb wc q.c) hlu w) ?_
         )
 | (refine G_id ?_; first
 | refine G_then ?_
 | refine G_block ?_
 | refine G_blockX ?_
 | refine G_blockN rfl ?_
 | refine G_blockR ?_
 | refine G_thenR ?_
 | refine G_thenX ?_
 | refine G_retD rfl obQ ((DsP.nil _ _).cons hBD hWD hnD) (fun w2 hw => ⟨_, rfl, hw.below, PicR.of (s := (luP x y z wa wb wc).s) (HW.rowSl (w0 := w) (i := 0) hw rfl rfl rfl (by dsimp only [luP]; rw [List.map_map]; rfl)) (by simp [luP]) rfl⟩)
         )
         )
    · rw [luR_2 hE hW]
      repeat' (first
 | (refine C_id ?_; first
 | refine C_seq ?_
 | refine C_region rfl ?_
 | refine C_block ?_
 | refine C_skip ?_
 | refine C_exit ?_
 | refine C_ret0 ?_
 | refine C_drawV (id := 4) 12 [(0, true), (3, true), (4, true), (5, true), (6, true), (7, true), (8, true), (9, true), (10, true), (11, true), (1, false), (2, false)] rfl mixed (by kernel_rfl) rfl ?_
 | refine C_drawT (id := 11) 7 rfl mixed (by kernel_rfl) rfl rfl ?_
 | refine C_condT rfl obQ ?_
 | refine C_condF rfl obQ ?_
 | (refine C_cond rfl obQ (fun h => ?_) (fun h => ?_) <;> (try simp only [Bool.or_eq_true, Bool.and_eq_true, Bool.or_eq_false_iff, Bool.and_eq_false_iff, decide_eq_true_eq, decide_eq_false_iff_not, beq_iff_eq, bne_iff_ne, beq_eq_false_iff_ne, bne_eq_false_iff_eq, ne_eq, Decidable.not_not, List.cons.injEq, and_true, Bool.not_eq_true', Bool.not_eq_false', Int.not_lt, Int.not_le] at h) <;> (try (exfalso; omega)) <;> (try (exfalso; simp at h; done)) <;> (try (exfalso; simp only [not_true_eq_false, false_or, or_false] at h; omega)) <;> (try contradiction))
       )
 | (refine S_id ?_; first
 | refine S_pure (sliceX_pure rfl obQ (fun w => sl_arr Tryd.underlying34 (by kernel_rfl) _ w)) ?_
 | (refine S_callM (f := 30) rfl obQ (by kernel_rfl) (fun w hw => mappedIE_c 31 (g := fun n => wi n 0 256) _ 3 [wa, wb, wc] (by simp) (by kernel_rfl) w (.inr ⟨_, rfl, hw.src (i := 1) rfl rfl⟩) (fun x _ W _ => luma1_c x W)) (fun w1M w2M vM hw1M hbM hRM => ?_); obtain ⟨AM, cM, rfl, hSM⟩ := hRM)
 | refine S_pure (binX_pure rfl obQ (fun w => wrap_add _ _ _ _ _ _ w)) ?_
 | refine S_nil ?_
 | refine S_run rfl rfl obQ obQ ?_
 | refine S_box (fun b => ⟨_, _, rfl, obQ, ?_⟩)
 | refine S_slice (fun b => ⟨_, _, rfl, obQ, ?_⟩)
 | refine S_one rfl obQ ?_
 | refine S_call (f := 29) rfl obQ (by kernel_rfl) (fun w hw => checkThree_c x y z (some ax) (some ay) (some az) cx cy cz hsx hsy hsz w (hw.rdm hrx.toS memQ) (hw.rdm hry.toS memQ) (hw.rdm hrz.toS memQ)) ?_
 | refine S_call (f := 33) rfl obQ (by kernel_rfl) (fun w hw => cwhen_c _ _ w) ?_
 | refine S_call (f := 21) rfl obQ (by kernel_rfl) (fun w hw => cfirst_c _ _ [wi wa 0 256, wi wb 0 256, wi wc 0 256] (by simp) w (hw.rdm hSM memQ)) ?_
 | refine S_call (f := 21) rfl obQ (by kernel_rfl) (fun w hw => firstE_c (l := [wr1 wa wb wc, wh (IntKind.i64.wrap (IntKind.i64.wrap (wa + wb) + wc) != 256) 1]) (wtP_eq wa wb wc) (by simp) rfl _ w (.inr ⟨_, rfl, hw.src (i := 3) rfl rfl⟩)) ?_
 | refine S_call (f := 23) rfl obQ (by kernel_rfl) (fun w hw => dot_c _ _ _ _ _ _ (by omega) (by omega) (by omega) (by omega) (by omega) (by omega) w) ?_
 | refine S_call (f := 36) rfl obQ (by kernel_rfl) (fun w hw => rounded_c _ _ (by omega) (by omega) w) ?_
 | refine S_call (f := 35) rfl obQ (by kernel_rfl) (fun w hw => sample_c (luN wa wb wc q.c) hlu w) ?_
       )
 | (refine D_id ?_; first
 | refine D_pure (binX_pure rfl obQ (fun w => wrap_add _ _ _ _ _ _ w)) ?_
 | refine D_nil ?_
 | refine D_tail ?_
 | refine D_run rfl rfl obQ obQ ?_
 | refine D_one rfl obQ ?_
 | refine D_call (f := 29) rfl obQ (by kernel_rfl) (fun w hw => checkThree_c x y z (some ax) (some ay) (some az) cx cy cz hsx hsy hsz w (hw.rdm hrx.toS memQ) (hw.rdm hry.toS memQ) (hw.rdm hrz.toS memQ)) ?_
 | refine D_call (f := 33) rfl obQ (by kernel_rfl) (fun w hw => cwhen_c _ _ w) ?_
 | refine D_call (f := 21) rfl obQ (by kernel_rfl) (fun w hw => cfirst_c _ _ [wi wa 0 256, wi wb 0 256, wi wc 0 256] (by simp) w (hw.rdm hSM memQ)) ?_
 | refine D_call (f := 21) rfl obQ (by kernel_rfl) (fun w hw => firstE_c (l := [wr1 wa wb wc, wh (IntKind.i64.wrap (IntKind.i64.wrap (wa + wb) + wc) != 256) 1]) (wtP_eq wa wb wc) (by simp) rfl _ w (.inr ⟨_, rfl, hw.src (i := 3) rfl rfl⟩)) ?_
 | refine D_call (f := 23) rfl obQ (by kernel_rfl) (fun w hw => dot_c _ _ _ _ _ _ (by omega) (by omega) (by omega) (by omega) (by omega) (by omega) w) ?_
 | refine D_call (f := 36) rfl obQ (by kernel_rfl) (fun w hw => rounded_c _ _ (by omega) (by omega) w) ?_
 | refine D_call (f := 35) rfl obQ (by kernel_rfl) (fun w hw => sample_c (luN wa wb wc q.c) hlu w) ?_
       )
 | (refine V_id ?_; first
 | refine V_nil ?_
 | refine V_q rfl (Yl_pure (sliceX_pure rfl obQ (fun w => sl_arr Tryd.underlying34 (by kernel_rfl) _ w))) ?_
 | refine V_q rfl (Yl_pure (binX_pure rfl obQ (fun w => wrap_add _ _ _ _ _ _ w))) ?_
 | refine V_q rfl (Yl_step rfl obQ) ?_
 | refine V_n rfl ?_
       )
 | (refine G_id ?_; first
 | refine G_V ⟨⟨_, rfl, trivial⟩, ⟨_, rfl⟩, rfl, pstQ⟩ rfl ?_
 | refine G_then ?_
 | refine G_block ?_
 | refine G_blockX ?_
 | refine G_blockN rfl ?_
 | refine G_blockR ?_
 | refine G_thenR ?_
 | refine G_thenX ?_
 | refine G_retD rfl obQ (DsP.nil _ _) (fun w2 hw => ⟨_, rfl, hw.below, PicR.zero _ _ _⟩)
       )
       )
  · rw [luR_1 hE]
    repeat' (first
 | (refine C_id ?_; first
 | refine C_seq ?_
 | refine C_region rfl ?_
 | refine C_block ?_
 | refine C_skip ?_
 | refine C_exit ?_
 | refine C_ret0 ?_
 | refine C_drawT (id := 4) 13 rfl mixed (by kernel_rfl) rfl rfl ?_
 | refine C_drawT (id := 11) 7 rfl mixed (by kernel_rfl) rfl rfl ?_
 | refine C_condT rfl obQ ?_
 | refine C_condF rfl obQ ?_
 | (refine C_cond rfl obQ (fun h => ?_) (fun h => ?_) <;> (try simp only [Bool.or_eq_true, Bool.and_eq_true, Bool.or_eq_false_iff, Bool.and_eq_false_iff, decide_eq_true_eq, decide_eq_false_iff_not, beq_iff_eq, bne_iff_ne, beq_eq_false_iff_ne, bne_eq_false_iff_eq, ne_eq, Decidable.not_not, List.cons.injEq, and_true, Bool.not_eq_true', Bool.not_eq_false', Int.not_lt, Int.not_le] at h) <;> (try (exfalso; omega)) <;> (try (exfalso; simp at h; done)) <;> (try (exfalso; simp only [not_true_eq_false, false_or, or_false] at h; omega)) <;> (try contradiction))
     )
 | (refine S_id ?_; first
 | refine S_nil ?_
 | refine S_run rfl rfl obQ obQ ?_
 | refine S_box (fun b => ⟨_, _, rfl, obQ, ?_⟩)
 | refine S_slice (fun b => ⟨_, _, rfl, obQ, ?_⟩)
 | refine S_call (f := 29) rfl obQ (by kernel_rfl) (fun w hw => checkThree_c x y z (some ax) (some ay) (some az) cx cy cz hsx hsy hsz w (hw.rdm hrx.toS memQ) (hw.rdm hry.toS memQ) (hw.rdm hrz.toS memQ)) ?_
 | refine S_call (f := 33) rfl obQ (by kernel_rfl) (fun w hw => cwhen_c _ _ w) ?_
 | refine S_call (f := 21) rfl obQ (by kernel_rfl) (fun w hw => cfirst_c _ _ [wi wa 0 256, wi wb 0 256, wi wc 0 256] (by simp) w (hw.rdm hSM memQ)) ?_
 | refine S_call (f := 21) rfl obQ (by kernel_rfl) (fun w hw => firstE_c (l := [wr1 wa wb wc, wh (IntKind.i64.wrap (IntKind.i64.wrap (wa + wb) + wc) != 256) 1]) (wtP_eq wa wb wc) (by simp) rfl _ w (.inr ⟨_, rfl, hw.src (i := 3) rfl rfl⟩)) ?_
 | refine S_call (f := 23) rfl obQ (by kernel_rfl) (fun w hw => dot_c _ _ _ _ _ _ (by omega) (by omega) (by omega) (by omega) (by omega) (by omega) w) ?_
 | refine S_call (f := 36) rfl obQ (by kernel_rfl) (fun w hw => rounded_c _ _ (by omega) (by omega) w) ?_
 | refine S_call (f := 35) rfl obQ (by kernel_rfl) (fun w hw => sample_c (luN wa wb wc q.c) hlu w) ?_
     )
 | (refine D_id ?_; first
 | refine D_nil ?_
 | refine D_tail ?_
 | refine D_run rfl rfl obQ obQ ?_
 | refine D_call (f := 29) rfl obQ (by kernel_rfl) (fun w hw => checkThree_c x y z (some ax) (some ay) (some az) cx cy cz hsx hsy hsz w (hw.rdm hrx.toS memQ) (hw.rdm hry.toS memQ) (hw.rdm hrz.toS memQ)) ?_
 | refine D_call (f := 33) rfl obQ (by kernel_rfl) (fun w hw => cwhen_c _ _ w) ?_
 | refine D_call (f := 21) rfl obQ (by kernel_rfl) (fun w hw => cfirst_c _ _ [wi wa 0 256, wi wb 0 256, wi wc 0 256] (by simp) w (hw.rdm hSM memQ)) ?_
 | refine D_call (f := 21) rfl obQ (by kernel_rfl) (fun w hw => firstE_c (l := [wr1 wa wb wc, wh (IntKind.i64.wrap (IntKind.i64.wrap (wa + wb) + wc) != 256) 1]) (wtP_eq wa wb wc) (by simp) rfl _ w (.inr ⟨_, rfl, hw.src (i := 3) rfl rfl⟩)) ?_
 | refine D_call (f := 23) rfl obQ (by kernel_rfl) (fun w hw => dot_c _ _ _ _ _ _ (by omega) (by omega) (by omega) (by omega) (by omega) (by omega) w) ?_
 | refine D_call (f := 36) rfl obQ (by kernel_rfl) (fun w hw => rounded_c _ _ (by omega) (by omega) w) ?_
 | refine D_call (f := 35) rfl obQ (by kernel_rfl) (fun w hw => sample_c (luN wa wb wc q.c) hlu w) ?_
     )
 | (refine G_id ?_; first
 | refine G_then ?_
 | refine G_block ?_
 | refine G_blockX ?_
 | refine G_blockN rfl ?_
 | refine G_blockR ?_
 | refine G_thenR ?_
 | refine G_thenX ?_
 | refine G_retD rfl obQ (DsP.nil _ _) (fun w2 hw => ⟨_, rfl, hw.below, PicR.zero _ _ _⟩)
     )
     )

end Go.Proofs.YtedlaominconaaaDoor
