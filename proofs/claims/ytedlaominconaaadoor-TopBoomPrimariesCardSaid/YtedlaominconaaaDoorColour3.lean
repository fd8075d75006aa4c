/- Contracts of curves: the program. -/
import Derived.Test.YtedlaominconaaaDoorColour2
import Derived.Test.YtedlaominconaaaDoorEng4
namespace Go.Proofs.YtedlaominconaaaDoor
open Go.E Go.RowKit Go.Fl
attribute [local irreducible] G C S D Calls
set_option maxRecDepth 100000
set_option linter.unusedSimpArgs false
set_option linter.unusedVariables false

open Go.RowKit in
theorem HW.callSl {w0 w w1 w2 : World} {Ps : Past} {σ : St} (hw : HW w0.heap.size w0 Ps σ w) {A : Option Addr} {n c : Nat} {xs : List Value} (h : RdS (fun b => w1.heap.size ≤ b ∧ b < w2.heap.size) w2 A xs) (hp : (w2, fun b => w1.heap.size ≤ b ∧ b < w2.heap.size) ∈ Ps) (h1 : w0.heap.size ≤ w1.heap.size) : Sl w0 w (.slice A n c) n xs := by
  refine ⟨A, c, rfl, ?_⟩
  have hr := hw.rdm h hp
  rcases h with h | ⟨ad, e1, h2, h3⟩
  · exact .inl h
  · refine .inr ⟨ad, e1, ⟨?_, (hw.past _ hp _ h2).1.1⟩, ?_⟩
    · have := h2.1
      omega
    · rcases hr with hr | ⟨ad', e2, h4⟩
      · rw [hr]; intro j u hu; simp at hu
      · rw [e1] at e2; cases e2; exact h4
theorem quo_nz (t : TypeId) (x y : Operand) {P : Program} {a b : Int} (hb : 0 < b) (ha : -9223372036854775808 ≤ a ∧ a ≤ 9223372036854775807) (w : World) : (do eqGuard .quo t x y (.int .i64 a) (.int .i64 b); binOp .quo t (.int .i64 a) (.int .i64 b) : Sem Value).run P w = .ok (.int .i64 (a.tdiv b)) w := by
  have h := tdiv_mul_bd (a := a) hb
  have hr : inR .i64 (a.tdiv b) := by simp only [inR]; omega
  have hn : ¬ b = 0 := by omega
  simp [eqGuard_int, binOp, Op.intDiv, inR_wrap hr, hn]
theorem gP_idx {l : List Pt} {k : Nat} (h : k < l.length) : ∀ (j : Nat) (u : Value), ([.int .i64 (gP l k).1, .int .i64 (gP l k).2] : List Value)[j]? = some u → (l.flatMap ptC)[((k : Int).toNat * 2 + j)]? = some u := by
  rw [gP_at h]
  exact idxS (f := ptC) (fun _ => rfl) h
theorem gP_idxZ {l : List Pt} {k : Nat} {z : Int} (e : z = k) (h : k < l.length) : ∀ (j : Nat) (u : Value), ([.int .i64 (gP l k).1, .int .i64 (gP l k).2] : List Value)[j]? = some u → (l.flatMap ptC)[(z.toNat * 2 + j)]? = some u := by
  subst e
  exact gP_idx h
theorem gP_1 {l : List Pt} {k : Nat} {z : Int} (e : z = k) (h : k < l.length) : ∀ (j : Nat) (u : Value), ([.int .i64 (gP l k).1] : List Value)[j]? = some u → (l.flatMap ptC)[(z.toNat * 2 + 0) + j]? = some u := by
  intro j u hu
  obtain rfl : j = 0 := by rcases j with _ | j; rfl; simp at hu
  exact gP_idxZ e h 0 u hu
theorem gP_2 {l : List Pt} {k : Nat} {z : Int} (e : z = k) (h : k < l.length) : ∀ (j : Nat) (u : Value), ([.int .i64 (gP l k).2] : List Value)[j]? = some u → (l.flatMap ptC)[(z.toNat * 2 + 1) + j]? = some u := by
  intro j u hu
  obtain rfl : j = 0 := by rcases j with _ | j; rfl; simp at hu
  exact gP_idxZ e h 1 u hu
theorem rI {a b : Int} (h : a = b) : Ending.returned (.int .i64 a) = Ending.returned (.int .i64 b) := by rw [h]
theorem pt_len (l : List Pt) : (l.flatMap ptC).length = l.length * 2 := flat_len (f := ptC) (s := 2) l (fun _ _ => rfl)
theorem curveE_bad {l : List Pt} (h : ¬ lenE l.length = 0) : curveE l = lenE l.length := if_neg h
theorem seg_facts {l : List Pt} {n : Int} {k : Nat} (hv : CvOk l) (hk : 0 < k) (hlt : k < l.length) (h1 : (gP l (k - 1)).1 < n) (h2 : n ≤ (gP l k).1) :
    (0 ≤ ((gP l k).2 - (gP l (k - 1)).2) * (n - (gP l (k - 1)).1) ∧ ((gP l k).2 - (gP l (k - 1)).2) * (n - (gP l (k - 1)).1) ≤ 32768 * 32768) ∧ (1 ≤ (gP l k).1 - (gP l (k - 1)).1 ∧ (gP l k).1 - (gP l (k - 1)).1 ≤ 32768) ∧
    (0 ≤ rnd (((gP l k).2 - (gP l (k - 1)).2) * (n - (gP l (k - 1)).1)) ((gP l k).1 - (gP l (k - 1)).1) ∧ rnd (((gP l k).2 - (gP l (k - 1)).2) * (n - (gP l (k - 1)).1)) ((gP l k).1 - (gP l (k - 1)).1) ≤ 32768) := by
  have hb := hv.bd k hlt
  have hb1 := hv.bd (k - 1) (by omega)
  have hu := hv.up k hk hlt
  have g1 := Int.mul_nonneg (show 0 ≤ (gP l k).2 - (gP l (k - 1)).2 by omega) (show 0 ≤ n - (gP l (k - 1)).1 by omega)
  have g2 := Int.mul_le_mul (show (gP l k).2 - (gP l (k - 1)).2 ≤ 32768 by omega) (show n - (gP l (k - 1)).1 ≤ 32768 by omega) (by omega) (by omega)
  have g3 := rnd_bd (d := (gP l k).1 - (gP l (k - 1)).1) (t := n - (gP l (k - 1)).1) (e := (gP l k).2 - (gP l (k - 1)).2) (by omega) (by omega) (by omega)
  refine ⟨⟨g1, g2⟩, ?_, ?_⟩ <;> omega

/-- Conversions between floats and whole numbers. -/
theorem cv_lvl {b r : Nat} (h : B32 r = B32 b * 16) (hr : Fin32 r) (hl : -16384 ≤ lvl b ∧ lvl b ≤ 16384) (w : World) : (convert 33 3 (.float .f32 r)).run Tryd.prog w = .ok (.int .i64 (lvl b)) w := by
  refine run_convert_float_int w 33 3 .f32 .i64 r (lvl b) ?_ Tryd.underlying3 ?_
  · rw [Tryd.underlying33]; rfl
  · unfold floatToIntVal
    have : (FloatKind.f32.decode r).toInt .zero = some (lvl b) := lvl_of h hr
    rw [this]
    dsimp only
    rw [if_pos (by have h1 : IntKind.i64.min = -9223372036854775808 := by decide
                   have h2 : IntKind.i64.max = 9223372036854775807 := by decide
                   omega)]
theorem cv_flt (n : Int) (w : World) : (convert 3 33 (.int .i64 n)).run Tryd.prog w = .ok (.float .f32 (floatOfInt .f32 n)) w := by
  simp [convert, run_underlying Tryd.underlying3, run_underlying Tryd.underlying33, Conv.intToFloat, floatOfInt]

set_option maxHeartbeats 400000 in
/-- colour.floor -/
theorem floor_c (a b : Int) (hb : 1 ≤ b ∧ b ≤ 4611686018427387904) (ha : -4611686018427387904 ≤ a ∧ a ≤ 4611686018427387904) (w : World) : Calls Tryd.prog 60 #[.int .i64 a, .int .i64 b] w fun r w' => r = .returned (.int .i64 (a / b)) ∧ Below w.heap.size w w' := by
  have hq := tdiv_mul_bd (a := a) (b := b) (by omega)
  have hf := floor_eq (a := a) (b := b) (by omega)
  refine calls_of (args := [.int .i64 a, .int .i64 b]) T_ok Tryd.func60 rfl Tryd.ntmps60 (Nat.le_of_ble_eq_true rfl) rfl ?_
  repeat' (first
 | (refine C_id ?_; first
 | refine C_seq ?_
 | refine C_region rfl ?_
 | refine C_skip ?_
 | refine C_ret0 ?_
 | (refine C_cond rfl obQ (fun h => ?_) (fun h => ?_) <;> (try simp only [Bool.or_eq_true, Bool.and_eq_true, Bool.or_eq_false_iff, Bool.and_eq_false_iff, decide_eq_true_eq, decide_eq_false_iff_not, beq_iff_eq, bne_iff_ne, beq_eq_false_iff_ne, bne_eq_false_iff_eq, ne_eq, Decidable.not_not, List.cons.injEq, and_true, Bool.not_eq_true', Bool.not_eq_false', Int.not_lt, Int.not_le] at h))
 )
 | (refine S_id ?_; first
 | refine S_pure (binX_pure rfl obQ (fun w => quo_nz _ _ _ (by omega) (by omega) w)) ?_
 | refine S_nil ?_
 | refine S_run rfl rfl obQ obQ ?_
 | refine S_one rfl obQ ?_
 )
 | (refine G_id ?_; first
 | refine G_then ?_
 | refine G_ret rfl obQ (fun w hw => ⟨?_, hw.below⟩)
 )
 )
  · exact rI (by rw [hf, if_pos h])
  · exact rI (by rw [hf, if_neg (by omega)])

set_option maxHeartbeats 400000 in
/-- colour.rounded -/
theorem rounded_c (a b : Int) (hb : 1 ≤ b ∧ b ≤ 1152921504606846976) (ha : -1152921504606846976 ≤ a ∧ a ≤ 1152921504606846976) (w : World) : Calls Tryd.prog 36 #[.int .i64 a, .int .i64 b] w fun r w' => r = .returned (.int .i64 (rnd a b)) ∧ Below w.heap.size w w' := by
  refine calls_of (args := [.int .i64 a, .int .i64 b]) T_ok Tryd.func36 rfl Tryd.ntmps36 (Nat.le_of_ble_eq_true rfl) rfl ?_
  repeat' (first
 | (refine C_id ?_; first
 | refine C_seq ?_
 | refine C_region rfl ?_
 | refine C_block ?_
 | refine C_skip ?_
 | refine C_exit ?_
 | refine C_ret0 ?_
 | refine C_condT rfl obQ ?_
 | refine C_condF rfl obQ ?_
 | (refine C_cond rfl obQ (fun h => ?_) (fun h => ?_) <;> (try simp only [Bool.or_eq_true, Bool.and_eq_true, Bool.or_eq_false_iff, Bool.and_eq_false_iff, decide_eq_true_eq, decide_eq_false_iff_not, beq_iff_eq, bne_iff_ne, beq_eq_false_iff_ne, bne_eq_false_iff_eq, ne_eq, Decidable.not_not, List.cons.injEq, and_true, Bool.not_eq_true', Bool.not_eq_false', Int.not_lt, Int.not_le] at h))
 )
 | (refine S_id ?_; first
 | refine S_nil ?_
 | refine S_run rfl rfl obQ obQ ?_
 | refine S_call (f := 60) rfl obQ (by kernel_rfl) (fun w hw => floor_c _ _ (by omega) (by omega) w) ?_
 )
 | (refine G_id ?_; first
 | refine G_then ?_
 | refine G_block ?_
 | refine G_blockX ?_
 | refine G_blockN rfl ?_
 | refine G_blockR ?_
 | refine G_thenR ?_
 | refine G_thenX ?_
 | refine G_ret rfl obQ (fun w hw => ⟨?_, hw.below⟩)
 )
 )
  rfl

set_option maxHeartbeats 400000 in
/-- colour.CheckCurve -/
theorem checkCurve_c (A : Option Addr) (c : Nat) (l : List Pt) (hl : l.length ≤ 1000000) (w : World) (hr : Rd w A (l.flatMap ptC)) : Calls Tryd.prog 51 #[.slice A l.length c] w fun r w' => r = .returned (.int .i64 (curveE l)) ∧ Below w.heap.size w w' := by
  refine calls_of (args := [.slice A l.length c]) T_ok Tryd.func51 rfl Tryd.ntmps51 (Nat.le_of_ble_eq_true rfl) rfl ?_
  repeat' (first
 | (refine C_id ?_; first
 | refine C_seq ?_
 | refine C_region rfl ?_
 | refine C_block ?_
 | refine C_skip ?_
 | refine C_exit ?_
 | refine C_ret0 ?_
 | refine C_drawT (id := 8) 23 rfl mixed (by kernel_rfl) rfl rfl ?_
 | refine C_condT rfl obQ ?_
 | refine C_condF rfl obQ ?_
 | (refine C_cond rfl obQ (fun h => ?_) (fun h => ?_) <;> (try simp only [Bool.or_eq_true, Bool.and_eq_true, Bool.or_eq_false_iff, Bool.and_eq_false_iff, decide_eq_true_eq, decide_eq_false_iff_not, beq_iff_eq, bne_iff_ne, beq_eq_false_iff_ne, bne_eq_false_iff_eq, ne_eq, Decidable.not_not, List.cons.injEq, and_true, Bool.not_eq_true', Bool.not_eq_false', Int.not_lt, Int.not_le] at h))
 )
 | (refine S_id ?_; first
 | refine S_nil ?_
 | refine S_run rfl rfl obQ obQ ?_
 | refine S_box (fun b => ⟨_, _, rfl, obQ, ?_⟩)
 | refine S_slice (fun b => ⟨_, _, rfl, obQ, ?_⟩)
 | refine S_call (f := 33) rfl obQ (by kernel_rfl) (fun w hw => cwhen_c _ _ w) ?_
 | refine S_call (f := 21) rfl obQ (by kernel_rfl) (fun w hw => cfirst_c _ _ [wh (decide ((l.length : Int) < 2)) 16, wh (decide ((16 : Int) < l.length)) 5] (by simp) w (.inr ⟨_, rfl, hw.src (i := 0) rfl rfl⟩)) ?_
 )
 | (refine D_id ?_; first
 | refine D_nil ?_
 | refine D_tail ?_
 | refine D_run rfl rfl obQ obQ ?_
 | refine D_call (f := 33) rfl obQ (by kernel_rfl) (fun w hw => cwhen_c _ _ w) ?_
 | refine D_call (f := 21) rfl obQ (by kernel_rfl) (fun w hw => cfirst_c _ _ [wh (decide ((l.length : Int) < 2)) 16, wh (decide ((16 : Int) < l.length)) 5] (by simp) w (.inr ⟨_, rfl, hw.src (i := 0) rfl rfl⟩)) ?_
 )
 | (refine G_id ?_; first
 | refine G_then ?_
 | refine G_block ?_
 | refine G_blockX ?_
 | refine G_blockN rfl ?_
 | refine G_blockR ?_
 | refine G_thenR ?_
 | refine G_thenX ?_
 | refine G_ret rfl obQ (fun w hw => ⟨?_, hw.below⟩)
 )
 )
  · exact rI (curveE_bad h).symm
  refine C_loopS (fun k : Nat => ⟨[(23, .s (.v (.int .i64 k))), (22, .s (.v (.int .i64 l.length))), (21, .s (.v (.slice A l.length c))), (0, .s (.v (.slice A l.length c)))], [], []⟩) (fun k => k ≤ l.length ∧ curveE l = firstL (((List.range l.length).map (ptE l)).drop k)) (fun k => l.length - k) 0 ⟨Nat.zero_le _, if_pos h⟩ ?_ (fun k hk => ?_)
  · exact ⟨⟨_, rfl, obQ⟩, ⟨_, rfl⟩, rfl, pstQ⟩
  by_cases hlt : k < l.length
  · obtain ⟨ad, rfl⟩ := hr.some (by rw [pt_len]; omega)
    have hfd := range_drop (f := ptE l) hlt
    repeat' (first
 | (refine C_id ?_; first
 | refine C_seq ?_
 | refine C_region rfl ?_
 | refine C_block ?_
 | refine C_skip ?_
 | refine C_exit ?_
 | refine C_ret0 ?_
 | refine C_drawT (id := 8) 23 rfl mixed (by kernel_rfl) rfl rfl ?_
 | refine C_condT rfl obQ ?_
 | refine C_condF rfl obQ ?_
 | (refine C_cond rfl obQ (fun h => ?_) (fun h => ?_) <;> (try simp only [Bool.or_eq_true, Bool.and_eq_true, Bool.or_eq_false_iff, Bool.and_eq_false_iff, decide_eq_true_eq, decide_eq_false_iff_not, beq_iff_eq, bne_iff_ne, beq_eq_false_iff_ne, bne_eq_false_iff_eq, ne_eq, Decidable.not_not, List.cons.injEq, and_true, Bool.not_eq_true', Bool.not_eq_false', Int.not_lt, Int.not_le] at h) <;> (try (exfalso; omega)))
     )
 | (refine S_id ?_; first
 | refine S_load rfl obQ rfl [.int .i64 (gP l (k)).1, .int .i64 (gP l (k)).2] (.past _ memQ _ _ hr.toS _ _ rfl rfl (gP_idx hlt)) rfl (.inl ⟨rfl, rfl⟩) ?_
 | refine S_load rfl obQ rfl [.int .i64 (gP l (k - 1)).1, .int .i64 (gP l (k - 1)).2] (.past _ memQ _ _ hr.toS _ _ rfl rfl (gP_idxZ (k := k - 1) (by omega) (by omega))) rfl (.inl ⟨rfl, rfl⟩) ?_
 | refine S_nil ?_
 | refine S_run rfl rfl obQ obQ ?_
 | refine S_box (fun b => ⟨_, _, rfl, obQ, ?_⟩)
 | refine S_slice (fun b => ⟨_, _, rfl, obQ, ?_⟩)
 | refine S_call (f := 33) rfl obQ (by kernel_rfl) (fun w hw => cwhen_c _ _ w) ?_
 | refine S_call (f := 63) rfl obQ (by kernel_rfl) (fun w hw => ccheckLevel_c _ w) ?_
 | refine S_call (f := 21) rfl obQ (by kernel_rfl) (fun w hw => cfirst_c _ _ [lvE (gP l k).1, lvE (gP l k).2, wh (ordB l k) 11] (by simp) w (.inr ⟨_, rfl, hw.src (i := 2) rfl rfl⟩)) ?_
     )
 | (refine D_id ?_; first
 | refine D_nil ?_
 | refine D_tail ?_
 | refine D_run rfl rfl obQ obQ ?_
 | refine D_call (f := 33) rfl obQ (by kernel_rfl) (fun w hw => cwhen_c _ _ w) ?_
 | refine D_call (f := 63) rfl obQ (by kernel_rfl) (fun w hw => ccheckLevel_c _ w) ?_
 | refine D_call (f := 21) rfl obQ (by kernel_rfl) (fun w hw => cfirst_c _ _ [lvE (gP l k).1, lvE (gP l k).2, wh (ordB l k) 11] (by simp) w (.inr ⟨_, rfl, hw.src (i := 2) rfl rfl⟩)) ?_
     )
 | (refine G_id ?_; first
 | refine G_loop (k + 1) ?_ (by omega) ⟨⟨_, rfl, obQ⟩, ⟨_, rfl⟩, rfl, pstQ⟩
 | refine G_then ?_
 | refine G_block ?_
 | refine G_blockX ?_
 | refine G_blockN rfl ?_
 | refine G_blockR ?_
 | refine G_thenR ?_
 | refine G_thenX ?_
 | refine G_ret rfl obQ (fun w hw => ⟨?_, hw.below⟩)
     )
     )
    · exact rI (by have h' : ¬ ptE l k = 0 := h; rw [hk.2, hfd, if_neg h']; rfl)
    · exact ⟨by omega, by have h' : ptE l k = 0 := h; rw [hk.2, hfd, if_pos h']⟩
  · repeat' (first
 | (refine C_id ?_; first
 | refine C_seq ?_
 | refine C_region rfl ?_
 | refine C_exit ?_
 | refine C_ret0 ?_
 | (refine C_cond rfl obQ (fun h => ?_) (fun h => ?_) <;> (try simp only [Bool.or_eq_true, Bool.and_eq_true, Bool.or_eq_false_iff, Bool.and_eq_false_iff, decide_eq_true_eq, decide_eq_false_iff_not, beq_iff_eq, bne_iff_ne, beq_eq_false_iff_ne, bne_eq_false_iff_eq, ne_eq, Decidable.not_not, List.cons.injEq, and_true, Bool.not_eq_true', Bool.not_eq_false', Int.not_lt, Int.not_le] at h) <;> (try (exfalso; omega)))
     )
 | (refine S_id ?_; first
 | refine S_nil ?_
 | refine S_run rfl rfl obQ obQ ?_
     )
 | (refine G_id ?_; first
 | refine G_then ?_
 | refine G_blockX ?_
 | refine G_thenX ?_
 | refine G_ret rfl obQ (fun w hw => ⟨?_, hw.below⟩)
     )
     )
    obtain rfl : k = l.length := by omega
    exact rI (by rw [hk.2, range_end])

set_option maxHeartbeats 400000 in
/-- colour.level -/
theorem level_c (b : Nat) (hf : Fin32 b) (hb : -2 ^ 159 ≤ B32 b ∧ B32 b ≤ 2 ^ 159) (w : World) : Calls Tryd.prog 59 #[.float .f32 b] w fun r w' => r = .returned (.int .i64 (lvl b)) ∧ Below w.heap.size w w' := by
  obtain ⟨r, hm, hr1, hr2⟩ := mul16 hf hb
  have hl := lvl_bd hb
  refine calls_of (args := [.float .f32 b]) T_ok Tryd.func59 rfl Tryd.ntmps59 (Nat.le_of_ble_eq_true rfl) rfl ?_
  repeat' (first
 | (refine C_id ?_; first
 | refine C_seq ?_
 | refine C_region rfl ?_
 | refine C_ret0 ?_
 )
 | (refine S_id ?_; first
 | refine S_pure (binX_pure rfl obQ (fun w => fl_arith (op := .mul) (k := .f32) hm _ _ _ w)) ?_
 | refine S_pure (convX_pure rfl obQ (fun w => cv_lvl hr2 hr1 hl w)) ?_
 | refine S_nil ?_
 | refine S_run rfl rfl obQ obQ ?_
 )
 | (refine G_id ?_; first
 | refine G_then ?_
 | refine G_ret rfl obQ (fun w hw => ⟨?_, hw.below⟩)
 )
 )
  rfl

set_option maxHeartbeats 400000 in
/-- colour.sample -/
theorem sample_c (n : Int) (hn : -16384 ≤ n ∧ n ≤ 16384) (w : World) : Calls Tryd.prog 35 #[.int .i64 n] w fun r w' => r = .returned (.float .f32 (smp n)) ∧ Below w.heap.size w w' := by
  have hs := (smp_ok (n := n) (by omega)).1
  refine calls_of (args := [.int .i64 n]) T_ok Tryd.func35 rfl Tryd.ntmps35 (Nat.le_of_ble_eq_true rfl) rfl ?_
  repeat' (first
 | (refine C_id ?_; first
 | refine C_seq ?_
 | refine C_region rfl ?_
 | refine C_ret0 ?_
 )
 | (refine S_id ?_; first
 | refine S_pure (convX_pure rfl obQ (fun w => cv_flt n w)) ?_
 | refine S_pure (binX_pure rfl obQ (fun w => fl_arith (op := .quo) (k := .f32) hs _ _ _ w)) ?_
 | refine S_nil ?_
 | refine S_run rfl rfl obQ obQ ?_
 )
 | (refine G_id ?_; first
 | refine G_then ?_
 | refine G_ret rfl obQ (fun w hw => ⟨?_, hw.below⟩)
 )
 )
  rfl

end Go.Proofs.YtedlaominconaaaDoor
