/- Curves, clipped pictures, what survives: plain laws; what the law calls. -/
import Derived.Test.YtedlaominconaaaTops27
import Derived.Test.YtedlaominconaaaTops25
import Derived.Test.YtedlaominconaaaTops22
namespace Go.Proofs.Ytedlaominconaaa
open Go.E Go.RowKit Go.Fl
attribute [local irreducible] G C S D Calls
set_option maxRecDepth 100000
set_option linter.unusedSimpArgs false
set_option linter.unusedVariables false

theorem rnd_all {d e : Int} (hd : 0 < d) : rnd (e * d) d = e := by
  unfold rnd
  have : e * (2 * d) = 2 * (e * d) := by rw [← Int.mul_assoc, Int.mul_comm e 2, Int.mul_assoc]
  exact ediv_of (by omega) (by omega) (by rw [Int.add_mul, Int.one_mul]; omega)
/-- A curve keeps its points. -/
theorem valF_pt {l : List Pt} (h : CvOk l) {k : Nat} (hk : k < l.length) : valF l (gP l k).1 = (gP l k).2 := by
  rcases Nat.eq_zero_or_pos k with rfl | h0
  · exact valF_low (Int.le_refl _)
  · have hu := h.up k h0 hk
    rw [valF_at h0 hk (fun j hj => by
      have h1 := (h.mono (show j ≤ k - 1 by omega) (by omega)).1
      omega) (Int.le_refl _)]
    unfold segF
    rw [rnd_all (by omega)]
    omega
set_option maxHeartbeats 400000 in
/-- genlockref02.CheckCurve -/
theorem rCheckCurveHi_c (A : Option Addr) (c : Nat) (l : List Pt) (h16 : 16 < l.length) (hmax : l.length ≤ maxLen) (w : World) : Calls Try.prog 13 #[.slice A l.length c] w fun r w' => r = .returned (.int .i64 5) ∧ Below w.heap.size w w' := by
  refine calls_of (args := [.slice A l.length c]) T_ok Try.func13 rfl Try.ntmps13 (Nat.le_of_ble_eq_true rfl) rfl ?_
  unfold maxLen at hmax
  repeat' (first
 | (refine C_id ?_; first
 | refine C_seq ?_
 | refine C_region rfl ?_
 | refine C_skip ?_
 | refine C_ret0 ?_
 | (refine C_cond rfl obQ (fun h => ?_) (fun h => ?_) <;> (try simp only [Bool.or_eq_true, Bool.and_eq_true, Bool.or_eq_false_iff, Bool.and_eq_false_iff, decide_eq_true_eq, decide_eq_false_iff_not, beq_iff_eq, bne_iff_ne, beq_eq_false_iff_ne, bne_eq_false_iff_eq, ne_eq, Decidable.not_not, List.cons.injEq, and_true, Bool.not_eq_true', Bool.not_eq_false', Int.not_lt, Int.not_le] at h) <;> (try (exfalso; omega)))
 )
 | (refine S_id ?_; first
 | refine S_nil ?_
 | refine S_run rfl rfl obQ obQ ?_
 )
 | (refine G_id ?_; first
 | refine G_then ?_
 | refine G_thenR ?_
 | refine G_ret rfl obQ (fun w hw => ⟨?_, hw.below⟩)
 )
 )
  all_goals rfl

theorem neqV {P : Program} {t : TypeId} {a b : Bool} (ht : P.underlying t = some .bool) (x y : Operand) (w : World) : (do eqGuard .neq t x y (.bool a) (.bool b); binOp .neq t (.bool a) (.bool b) : Sem Value).run P w = .ok (.bool (a != b)) w := by
  have hg : (eqGuard .neq t x y (.bool a) (.bool b)).run P w = .ok () w := by unfold eqGuard; simp
  simp only [Sem.run_bind, hg, Result.andThen_ok]
  have he : (Op.equalIn Op.maxDepth t (.bool a) (.bool b)).run P w = .ok (a == b) w := Go.run_equalIn_bool' (w := w) (P := P) 9999 t a b ht
  simp only [binOp, Op.equal]
  simp [Sem.run_bind, he, bne]
theorem val_ok {l : List Pt} (h : CvOk l) {n : Int} (hn : -16384 ≤ n ∧ n ≤ 16384) : vE l n = 0 := by
  unfold vE
  rw [firstL_zero]
  simp only [List.mem_cons, List.mem_nil_iff, or_false, forall_eq_or_imp, forall_eq, curve_ok, lvE, wi_eq]
  exact ⟨h, hn⟩
theorem iv_zero {lo hi : Int} (h1 : -16384 ≤ lo ∧ lo ≤ 16384) (h2 : -16384 ≤ hi ∧ hi ≤ 16384) (h3 : lo ≤ hi) : ivE lo hi = 0 := by
  unfold ivE
  rw [firstL_zero]
  simp only [List.mem_cons, List.mem_nil_iff, or_false, forall_eq_or_imp, forall_eq, lvE, wi_eq, wh_zero (show (11 : Int) ≠ 0 by omega), decide_eq_false_iff_not]
  omega
theorem cl_zero {p : Pic} {lo hi : Int} (hp : PicOk p) (h : ivE lo hi = 0) : clE p lo hi = 0 := by
  unfold clE
  rw [firstL_zero]
  simp only [List.mem_cons, List.mem_nil_iff, or_false, forall_eq_or_imp, forall_eq]
  exact ⟨pic_ok.2 hp, h⟩
theorem ap_zero {p : Pic} {l : List Pt} (hp : PicOk p) (h : CvOk l) : apE l p = 0 := by
  unfold apE
  rw [firstL_zero]
  simp only [List.mem_cons, List.mem_nil_iff, or_false, forall_eq_or_imp, forall_eq]
  exact ⟨curve_ok.2 h, pic_ok.2 hp⟩
theorem tuP_ok {f : Int → Int} {p : Pic} (hp : PicOk p) (hf : ∀ n, -16384 ≤ f n ∧ f n ≤ 16384) : PicOk (tuP f p) := ⟨hp.nm, hp.w, hp.h, by rw [tuP_len]; exact hp.n, tuP_fin hf⟩
theorem inv_len (l : List Pt) : (invF l).length = l.length := by simp [invF]
section
variable {A Ap : Option Addr} {c cp n : Nat} {l : List Pt} {p : Pic} {lo hi : Int} {w : World}
theorem rck_as {e : Int} (h : curveE l = e) (hn : l.length = n) (hmax : n ≤ maxLen) (hr : Rd w A (l.flatMap ptC)) : Calls Try.prog 13 #[.slice A n c] w fun r w' => r = .returned (.int .i64 e) ∧ Below w.heap.size w w' := by
  subst h hn
  by_cases h : l.length ≤ 1000000
  · exact rCheckCurve_c A c l h w hr
  · have := rCheckCurveHi_c A c l (by omega) hmax w
    rwa [curveE_hi (by omega)]
-- value_as
theorem survives_as {x e : Int} {v : Bool} (h : survR l x = (v, e)) (hl : l.length ≤ 1000000) (hr : Rd w A (l.flatMap ptC)) : Calls Try.prog 21 #[.slice A l.length c, .int .i64 x] w fun r w' => r = .returned (.tuple #[.bool v, .int .i64 e]) ∧ Below w.heap.size w w' := by
  have := Survives_c A c l hl x w hr
  rw [h] at this
  exact this
theorem inverse_as {xs : List Pt} {e : Int} {m : Nat} (h : invR l = (xs, e)) (hn : l.length = n) (hm : xs.length = m) (hl : n ≤ 1000000) (hr : Rd w A (l.flatMap ptC)) : Calls Try.prog 16 #[.slice A n c] w fun r w' => ∃ v, r = .returned v ∧ Below w.heap.size w w' ∧ Sl2 w w' v m (xs.flatMap ptC) (.int .i64 e) := by
  subst hm hn
  have := Inverse_c A c l hl w hr
  rw [h] at this
  exact this
-- points_as
end

theorem invF_ok {l : List Pt} (h : CvOk l) : CvOk (invF l) := h.inv
/-- A curve says nothing of what lies beyond its ends. -/
theorem valF_clip {l : List Pt} (h : CvOk l) (n : Int) : valF l (clF (gP l 0).1 (gP l (l.length - 1)).1 n) = valF l n := by
  have hlo := h.lo
  have hm := (h.mono (Nat.zero_le (l.length - 1)) (by omega)).1
  unfold clF
  by_cases h1 : n ≤ (gP l 0).1
  · rw [show min (gP l (l.length - 1)).1 (max (gP l 0).1 n) = (gP l 0).1 by omega, valF_low (Int.le_refl _), valF_low h1]
  · by_cases h2 : n ≤ (gP l (l.length - 1)).1
    · rw [show min (gP l (l.length - 1)).1 (max (gP l 0).1 n) = n by omega]
    · rw [show min (gP l (l.length - 1)).1 (max (gP l 0).1 n) = (gP l (l.length - 1)).1 by omega, valF_pt h (by omega), valF_end (by omega) fun j hj => ?_]
      have := (h.mono (show j ≤ l.length - 1 by omega) (by omega)).1
      omega
theorem tuP_clip {l : List Pt} {p : Pic} (h : CvOk l) (hi : ∀ n, -16384 ≤ clF (gP l 0).1 (gP l (l.length - 1)).1 n ∧ clF (gP l 0).1 (gP l (l.length - 1)).1 n ≤ 16384) : tuP (valF l) (tuP (clF (gP l 0).1 (gP l (l.length - 1)).1) p) = tuP (valF l) p := by
  unfold tuP
  congr 1
  dsimp only
  rw [List.map_map]
  refine List.map_congr_left fun x _ => ?_
  have := hi (lvl x)
  show smp (valF l (lvl (smp _))) = _
  rw [smp_lvl (by omega), valF_clip h]
/-- What survives is what comes back. -/
theorem back_eq {l : List Pt} (h : CvOk l) {x : Nat} (hx : Smp x) (t : TypeId) (a b : Operand) (w : World) : (do eqGuard .eql t a b (.float .f32 (smp (valF (invF l) (valF l (lvl x))))) (.float .f32 x); binOp .eql t (.float .f32 (smp (valF (invF l) (valF l (lvl x))))) (.float .f32 x) : Sem Value).run Try.prog w = .ok (.bool (survF l (lvl x))) w := by
  have hb := valF_lv (invF_ok h) (valF l (lvl x))
  have hs := smp_Smp hb
  have k := fl_eq (X := ⟨Try.prog, T, T_ok, 0, 0, w, [], none⟩) .f32 (smp (valF (invF l) (valF l (lvl x)))) x t a b w
  rw [show FloatKind.f32.format = Ieee.single from rfl, order32 hs.fin hx.fin, cmp_eq] at k
  rw [k]
  congr 2
  unfold survF
  exact decide_eq_decide.2 ((smp_eq hs hx).trans (by rw [smp_lvl (by omega)]))
theorem surv_ok {l : List Pt} (h : CvOk l) {n : Int} (hn : -16384 ≤ n ∧ n ≤ 16384) : survR l n = (survF l n, 0) := if_pos (val_ok h hn)
theorem inv_ok' {l : List Pt} (h : CvOk l) : invR l = (invF l, 0) := if_pos (curve_ok.2 h)
section
variable {A Ap : Option Addr} {c cp n m : Nat} {l : List Pt} {q r : Pic} {lo hi : Int} {w : World}
theorem bapp_as (hl : l.length = n) (hn : n ≤ 16) (hv : CvOk l) (hq : PicOk q) (hm : q.s.length = m) (he : tuP (valF l) q = r) (hr : Rd w Ap (q.s.map (.float .f32))) (hrl : Rd w A (l.flatMap ptC)) : Calls Try.prog 18 #[.slice A n c, .agg #[.string q.nm, .int .i64 q.w, .int .i64 q.h, .slice Ap m cp]] w fun x w' => ∃ v, x = .returned v ∧ Below w.heap.size w w' ∧ PicR w w' v r 0 := by
  subst he hl hm
  have hs : q.s.length ≤ 1000000 := by have := (pic_len hq).1; omega
  have := Applied_c q Ap cp hs A c l (by omega) w hr hrl
  simpa only [if_pos (ap_zero hq hv)] using this
theorem bclp_as (h : ivE lo hi = 0) (hq : PicOk q) (he : tuP (clF lo hi) q = r) (hr : Rd w Ap (q.s.map (.float .f32))) : Calls Try.prog 23 #[.agg #[.string q.nm, .int .i64 q.w, .int .i64 q.h, .slice Ap q.s.length cp], .agg #[.int .i64 lo, .int .i64 hi]] w fun x w' => ∃ v, x = .returned v ∧ Below w.heap.size w w' ∧ PicR w w' v r 0 := by
  subst he
  have hs : q.s.length ≤ 1000000 := by have := (pic_len hq).1; omega
  have := Clipped_c q Ap cp hs lo hi w hr
  simpa only [if_pos (cl_zero hq h)] using this
theorem rem_n {a b : Nat} (hb : 0 < b) (t : TypeId) (x y : Operand) (w : World) : (do eqGuard .rem t x y (.int .i64 (a : Int)) (.int .i64 (b : Int)); binOp .rem t (.int .i64 (a : Int)) (.int .i64 (b : Int)) : Sem Value).run Try.prog w = .ok (.int .i64 ((a % b : Nat) : Int)) w := by
  have k := wrap_rem (X := ⟨Try.prog, T, T_ok, 0, 0, w, [], none⟩) .i64 t x y (a : Int) (b : Int) (by omega) w
  rw [Int.tmod_eq_emod_of_nonneg (by omega), ← Int.natCast_emod] at k
  exact k
end

end Go.Proofs.Ytedlaominconaaa
