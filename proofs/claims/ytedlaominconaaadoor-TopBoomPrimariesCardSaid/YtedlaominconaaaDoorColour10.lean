/- Matrices: composed ones: the program. -/
import Derived.Test.YtedlaominconaaaDoorColour9
namespace Go.Proofs.YtedlaominconaaaDoor
open Go.E Go.RowKit Go.Fl
attribute [local irreducible] G C S D Calls
set_option maxRecDepth 100000
set_option linter.unusedSimpArgs false
set_option linter.unusedVariables false

/-- The product before it is brought to lowest terms, its entries' greatest common divisor with the denominator. -/
def prM (a b : Mat) : Mat := ⟨(dotF b.a b.b b.c a.a a.d a.g), (dotF b.a b.b b.c a.b a.e a.h), (dotF b.a b.b b.c a.c a.f a.i), (dotF b.d b.e b.f a.a a.d a.g), (dotF b.d b.e b.f a.b a.e a.h), (dotF b.d b.e b.f a.c a.f a.i), (dotF b.g b.h b.i a.a a.d a.g), (dotF b.g b.h b.i a.b a.e a.h), (dotF b.g b.h b.i a.c a.f a.i), a.n * b.n⟩
def g1 (a b : Mat) : Nat := Int.gcd (a.n * b.n) (prM a b).a
def g2 (a b : Mat) : Nat := Int.gcd (g1 a b : Nat) (prM a b).b
def g3 (a b : Mat) : Nat := Int.gcd (g2 a b : Nat) (prM a b).c
def g4 (a b : Mat) : Nat := Int.gcd (g3 a b : Nat) (prM a b).d
def g5 (a b : Mat) : Nat := Int.gcd (g4 a b : Nat) (prM a b).e
def g6 (a b : Mat) : Nat := Int.gcd (g5 a b : Nat) (prM a b).f
def g7 (a b : Mat) : Nat := Int.gcd (g6 a b : Nat) (prM a b).g
def g8 (a b : Mat) : Nat := Int.gcd (g7 a b : Nat) (prM a b).h
def g9 (a b : Mat) : Nat := Int.gcd (g8 a b : Nat) (prM a b).i
/-- The composed matrix in lowest terms. -/
def cmM (a b : Mat) : Mat := ⟨(prM a b).a.tdiv (g9 a b : Nat), (prM a b).b.tdiv (g9 a b : Nat), (prM a b).c.tdiv (g9 a b : Nat), (prM a b).d.tdiv (g9 a b : Nat), (prM a b).e.tdiv (g9 a b : Nat), (prM a b).f.tdiv (g9 a b : Nat), (prM a b).g.tdiv (g9 a b : Nat), (prM a b).h.tdiv (g9 a b : Nat), (prM a b).i.tdiv (g9 a b : Nat), (prM a b).n / (g9 a b : Nat)⟩
def cmE (a b : Mat) : Int := firstL [matE a, matE b]
def zM : Mat := ⟨0, 0, 0, 0, 0, 0, 0, 0, 0, 0⟩
def cmR (a b : Mat) : Mat × Int := if cmE a b = 0 then (if matE (cmM a b) = 0 then (cmM a b, 0) else (zM, 4)) else (zM, cmE a b)
theorem cmE_ok {a b : Mat} (h : cmE a b = 0) : MatOk a ∧ MatOk b := by
  unfold cmE at h
  rw [firstL_zero] at h
  simp only [List.mem_cons, List.mem_nil_iff, or_false, forall_eq_or_imp, forall_eq, mat_ok] at h
  exact h
theorem cmR_1 {a b : Mat} (h : ¬ cmE a b = 0) : cmR a b = (zM, cmE a b) := if_neg h
theorem cmR_2 {a b : Mat} (h : cmE a b = 0) (h2 : ¬ matE (cmM a b) = 0) : cmR a b = (zM, 4) := by rw [cmR, if_pos h, if_neg h2]
theorem cmR_3 {a b : Mat} (h : cmE a b = 0) (h2 : matE (cmM a b) = 0) : cmR a b = (cmM a b, 0) := by rw [cmR, if_pos h, if_pos h2]
def vM (m : Mat) : Value := .agg #[.int .i64 m.a, .int .i64 m.b, .int .i64 m.c, .int .i64 m.d, .int .i64 m.e, .int .i64 m.f, .int .i64 m.g, .int .i64 m.h, .int .i64 m.i, .int .i64 m.n]
theorem rM {q p : Mat × Int} (h : q = p) : Ending.returned (.tuple #[vM p.1, .int .i64 p.2]) = Ending.returned (.tuple #[vM q.1, .int .i64 q.2]) := by rw [h]
theorem gcd_bd {x y : Int} {m : Int} (h : 1 ≤ x ∧ x ≤ m) : 1 ≤ ((Int.gcd x y : Nat) : Int) ∧ ((Int.gcd x y : Nat) : Int) ≤ m := by
  have h1 : 0 < Int.gcd x y := Int.gcd_pos_of_ne_zero_left y (by omega)
  have h2 := Nat.le_of_dvd (by omega) (Int.gcd_dvd_natAbs_left x y)
  omega
theorem pr_bd {a b : Mat} (ha : MatOk a) (hb : MatOk b) : (-824633720832 ≤ (prM a b).a ∧ (prM a b).a ≤ 824633720832) ∧ (-824633720832 ≤ (prM a b).b ∧ (prM a b).b ≤ 824633720832) ∧ (-824633720832 ≤ (prM a b).c ∧ (prM a b).c ≤ 824633720832) ∧ (-824633720832 ≤ (prM a b).d ∧ (prM a b).d ≤ 824633720832) ∧ (-824633720832 ≤ (prM a b).e ∧ (prM a b).e ≤ 824633720832) ∧ (-824633720832 ≤ (prM a b).f ∧ (prM a b).f ≤ 824633720832) ∧ (-824633720832 ≤ (prM a b).g ∧ (prM a b).g ≤ 824633720832) ∧ (-824633720832 ≤ (prM a b).h ∧ (prM a b).h ≤ 824633720832) ∧ (-824633720832 ≤ (prM a b).i ∧ (prM a b).i ≤ 824633720832) := by
  refine ⟨?_, ?_, ?_, ?_, ?_, ?_, ?_, ?_, ?_⟩
  · exact dot_bd (m := a) hb.a hb.b hb.c (by have := ha.a; omega) (by have := ha.d; omega) (by have := ha.g; omega)
  · exact dot_bd (m := a) hb.a hb.b hb.c (by have := ha.b; omega) (by have := ha.e; omega) (by have := ha.h; omega)
  · exact dot_bd (m := a) hb.a hb.b hb.c (by have := ha.c; omega) (by have := ha.f; omega) (by have := ha.i; omega)
  · exact dot_bd (m := a) hb.d hb.e hb.f (by have := ha.a; omega) (by have := ha.d; omega) (by have := ha.g; omega)
  · exact dot_bd (m := a) hb.d hb.e hb.f (by have := ha.b; omega) (by have := ha.e; omega) (by have := ha.h; omega)
  · exact dot_bd (m := a) hb.d hb.e hb.f (by have := ha.c; omega) (by have := ha.f; omega) (by have := ha.i; omega)
  · exact dot_bd (m := a) hb.g hb.h hb.i (by have := ha.a; omega) (by have := ha.d; omega) (by have := ha.g; omega)
  · exact dot_bd (m := a) hb.g hb.h hb.i (by have := ha.b; omega) (by have := ha.e; omega) (by have := ha.h; omega)
  · exact dot_bd (m := a) hb.g hb.h hb.i (by have := ha.c; omega) (by have := ha.f; omega) (by have := ha.i; omega)

set_option maxHeartbeats 4000000 in
/-- colour.Composed -/
theorem Composed_c (ma mb : Mat) (w : World) : Calls Tryd.prog 6 #[.agg #[.int .i64 ma.a, .int .i64 ma.b, .int .i64 ma.c, .int .i64 ma.d, .int .i64 ma.e, .int .i64 ma.f, .int .i64 ma.g, .int .i64 ma.h, .int .i64 ma.i, .int .i64 ma.n], .agg #[.int .i64 mb.a, .int .i64 mb.b, .int .i64 mb.c, .int .i64 mb.d, .int .i64 mb.e, .int .i64 mb.f, .int .i64 mb.g, .int .i64 mb.h, .int .i64 mb.i, .int .i64 mb.n]] w fun r w' => r = .returned (.tuple #[vM (cmR ma mb).1, .int .i64 (cmR ma mb).2]) ∧ Below w.heap.size w w' := by
  refine calls_of (args := [.agg #[.int .i64 ma.a, .int .i64 ma.b, .int .i64 ma.c, .int .i64 ma.d, .int .i64 ma.e, .int .i64 ma.f, .int .i64 ma.g, .int .i64 ma.h, .int .i64 ma.i, .int .i64 ma.n], .agg #[.int .i64 mb.a, .int .i64 mb.b, .int .i64 mb.c, .int .i64 mb.d, .int .i64 mb.e, .int .i64 mb.f, .int .i64 mb.g, .int .i64 mb.h, .int .i64 mb.i, .int .i64 mb.n]]) T_ok Tryd.func6 rfl Tryd.ntmps6 (Nat.le_of_ble_eq_true rfl) rfl ?_
  by_cases hE : cmE ma mb = 0
  · have hm := cmE_ok hE
    have haa := hm.1.a
    have hba := hm.2.a
    have hab := hm.1.b
    have hbb := hm.2.b
    have hac := hm.1.c
    have hbc := hm.2.c
    have had := hm.1.d
    have hbd := hm.2.d
    have hae := hm.1.e
    have hbe := hm.2.e
    have haf := hm.1.f
    have hbf := hm.2.f
    have hag := hm.1.g
    have hbg := hm.2.g
    have hah := hm.1.h
    have hbh := hm.2.h
    have hai := hm.1.i
    have hbi := hm.2.i
    have han := hm.1.n
    have hbn := hm.2.n
    have hn := mul_ab (a := ma.n) (x := mb.n) (A := 4096) (X := 4096) (by omega) (by omega)
    have hn1 : 1 ≤ ma.n * mb.n := Int.mul_pos (show 0 < ma.n by omega) (show 0 < mb.n by omega)
    have hp := pr_bd hm.1 hm.2
    obtain ⟨pa, pb, pc, pd, pe, pf, pg, ph, pi⟩ := hp
    have ra := pa
    have rb := pb
    have rc := pc
    have rd := pd
    have re := pe
    have rf := pf
    have rg := pg
    have rh := ph
    have ri := pi
    simp only [prM] at ra rb rc rd re rf rg rh ri
    have q1 : 1 ≤ ((g1 ma mb : Nat) : Int) ∧ ((g1 ma mb : Nat) : Int) ≤ 16777216 := gcd_bd (m := 16777216) (by omega)
    have q2 : 1 ≤ ((g2 ma mb : Nat) : Int) ∧ ((g2 ma mb : Nat) : Int) ≤ 16777216 := gcd_bd q1
    have q3 : 1 ≤ ((g3 ma mb : Nat) : Int) ∧ ((g3 ma mb : Nat) : Int) ≤ 16777216 := gcd_bd q2
    have q4 : 1 ≤ ((g4 ma mb : Nat) : Int) ∧ ((g4 ma mb : Nat) : Int) ≤ 16777216 := gcd_bd q3
    have q5 : 1 ≤ ((g5 ma mb : Nat) : Int) ∧ ((g5 ma mb : Nat) : Int) ≤ 16777216 := gcd_bd q4
    have q6 : 1 ≤ ((g6 ma mb : Nat) : Int) ∧ ((g6 ma mb : Nat) : Int) ≤ 16777216 := gcd_bd q5
    have q7 : 1 ≤ ((g7 ma mb : Nat) : Int) ∧ ((g7 ma mb : Nat) : Int) ≤ 16777216 := gcd_bd q6
    have q8 : 1 ≤ ((g8 ma mb : Nat) : Int) ∧ ((g8 ma mb : Nat) : Int) ≤ 16777216 := gcd_bd q7
    have q9 : 1 ≤ ((g9 ma mb : Nat) : Int) ∧ ((g9 ma mb : Nat) : Int) ≤ 16777216 := gcd_bd q8
    have z9 : 1 ≤ ((Int.gcd (g8 ma mb : Nat) (prM ma mb).i : Nat) : Int) ∧ ((Int.gcd (g8 ma mb : Nat) (prM ma mb).i : Nat) : Int) ≤ 16777216 := gcd_bd q8
    repeat' (first
 | (refine C_id ?_; first
 | refine C_rounds 3 ?_
 | refine C_seq ?_
 | refine C_region rfl ?_
 | refine C_block ?_
 | refine C_skip ?_
 | refine C_exit ?_
 | refine C_ret0 ?_
 | refine C_drawT (id := 1) 4 rfl mixed (by kernel_rfl) rfl rfl ?_
 | refine C_drawA (id := 12) 17 16 rfl mixed (by kernel_rfl) rfl rfl rfl rfl rfl rfl rfl rfl rfl rfl (fun b => ?_)
 | refine C_drawT (id := 13) 11 rfl mixed (by kernel_rfl) rfl rfl ?_
 | refine C_drawT (id := 24) 11 rfl mixed (by kernel_rfl) rfl rfl ?_
 | refine C_condT rfl obQ ?_
 | refine C_condF rfl obQ ?_
 | (refine C_cond rfl obQ (fun h => ?_) (fun h => ?_) <;> (try simp only [Bool.or_eq_true, Bool.and_eq_true, Bool.or_eq_false_iff, Bool.and_eq_false_iff, decide_eq_true_eq, decide_eq_false_iff_not, beq_iff_eq, bne_iff_ne, beq_eq_false_iff_ne, bne_eq_false_iff_eq, ne_eq, Decidable.not_not, List.cons.injEq, and_true, Bool.not_eq_true', Bool.not_eq_false', Int.not_lt, Int.not_le] at h) <;> (try (exfalso; omega)) <;> (try (exfalso; simp at h; done)) <;> (try (exfalso; simp only [not_true_eq_false, false_or, or_false] at h; omega)) <;> (try contradiction))
     )
 | (refine S_id ?_; first
 | refine S_pure (binX_pure rfl obQ (fun w => quo_any _ _ _ (by omega) (by omega) w)) ?_
 | refine S_nil ?_
 | refine S_run rfl rfl obQ obQ ?_
 | refine S_box (fun b0 => ⟨_, _, rfl, obQ, ?_⟩)
 | refine S_slice (fun b => ⟨_, _, rfl, obQ, ?_⟩)
 | refine S_one rfl obQ ?_
 | refine S_call (f := 22) rfl obQ (by kernel_rfl) (fun w hw => checkMatrix_c ma w) ?_
 | refine S_call (f := 22) rfl obQ (by kernel_rfl) (fun w hw => checkMatrix_c mb w) ?_
 | refine S_call (f := 22) rfl obQ (by kernel_rfl) (fun w hw => checkMatrix_c (cmM ma mb) w) ?_
 | refine S_call (f := 21) rfl obQ (by kernel_rfl) (fun w hw => cfirst_c _ _ [matE ma, matE mb] (by simp) w (.inr ⟨_, rfl, hw.src (i := 3) rfl rfl⟩)) ?_
 | refine S_call (f := 24) rfl obQ (by kernel_rfl) (fun w hw => divisor_c (ma.n * mb.n) (prM ma mb).a (by omega) (by omega) w) ?_
 | refine S_call (f := 24) rfl obQ (by kernel_rfl) (fun w hw => divisor_c (g1 ma mb : Nat) (prM ma mb).b (by omega) (by omega) w) ?_
 | refine S_call (f := 24) rfl obQ (by kernel_rfl) (fun w hw => divisor_c (g2 ma mb : Nat) (prM ma mb).c (by omega) (by omega) w) ?_
 | refine S_call (f := 24) rfl obQ (by kernel_rfl) (fun w hw => divisor_c (g3 ma mb : Nat) (prM ma mb).d (by omega) (by omega) w) ?_
 | refine S_call (f := 24) rfl obQ (by kernel_rfl) (fun w hw => divisor_c (g4 ma mb : Nat) (prM ma mb).e (by omega) (by omega) w) ?_
 | refine S_call (f := 24) rfl obQ (by kernel_rfl) (fun w hw => divisor_c (g5 ma mb : Nat) (prM ma mb).f (by omega) (by omega) w) ?_
 | refine S_call (f := 24) rfl obQ (by kernel_rfl) (fun w hw => divisor_c (g6 ma mb : Nat) (prM ma mb).g (by omega) (by omega) w) ?_
 | refine S_call (f := 24) rfl obQ (by kernel_rfl) (fun w hw => divisor_c (g7 ma mb : Nat) (prM ma mb).h (by omega) (by omega) w) ?_
 | refine S_call (f := 24) rfl obQ (by kernel_rfl) (fun w hw => divisor_c (g8 ma mb : Nat) (prM ma mb).i (by omega) (by omega) w) ?_
 | refine S_call (f := 23) rfl obQ (by kernel_rfl) (fun w hw => dot_c mb.a mb.b mb.c ma.a ma.d ma.g (by omega) (by omega) (by omega) (by omega) (by omega) (by omega) w) ?_
 | refine S_call (f := 23) rfl obQ (by kernel_rfl) (fun w hw => dot_c mb.a mb.b mb.c ma.b ma.e ma.h (by omega) (by omega) (by omega) (by omega) (by omega) (by omega) w) ?_
 | refine S_call (f := 23) rfl obQ (by kernel_rfl) (fun w hw => dot_c mb.a mb.b mb.c ma.c ma.f ma.i (by omega) (by omega) (by omega) (by omega) (by omega) (by omega) w) ?_
 | refine S_call (f := 23) rfl obQ (by kernel_rfl) (fun w hw => dot_c mb.d mb.e mb.f ma.a ma.d ma.g (by omega) (by omega) (by omega) (by omega) (by omega) (by omega) w) ?_
 | refine S_call (f := 23) rfl obQ (by kernel_rfl) (fun w hw => dot_c mb.d mb.e mb.f ma.b ma.e ma.h (by omega) (by omega) (by omega) (by omega) (by omega) (by omega) w) ?_
 | refine S_call (f := 23) rfl obQ (by kernel_rfl) (fun w hw => dot_c mb.d mb.e mb.f ma.c ma.f ma.i (by omega) (by omega) (by omega) (by omega) (by omega) (by omega) w) ?_
 | refine S_call (f := 23) rfl obQ (by kernel_rfl) (fun w hw => dot_c mb.g mb.h mb.i ma.a ma.d ma.g (by omega) (by omega) (by omega) (by omega) (by omega) (by omega) w) ?_
 | refine S_call (f := 23) rfl obQ (by kernel_rfl) (fun w hw => dot_c mb.g mb.h mb.i ma.b ma.e ma.h (by omega) (by omega) (by omega) (by omega) (by omega) (by omega) w) ?_
 | refine S_call (f := 23) rfl obQ (by kernel_rfl) (fun w hw => dot_c mb.g mb.h mb.i ma.c ma.f ma.i (by omega) (by omega) (by omega) (by omega) (by omega) (by omega) w) ?_
     )
 | (refine D_id ?_; first
 | refine D_pure (binX_pure rfl obQ (fun w => quo_any _ _ _ (by omega) (by omega) w)) ?_
 | refine D_nil ?_
 | refine D_tail ?_
 | refine D_run rfl rfl obQ obQ ?_
 | refine D_one rfl obQ ?_
 | refine D_call (f := 22) rfl obQ (by kernel_rfl) (fun w hw => checkMatrix_c ma w) ?_
 | refine D_call (f := 22) rfl obQ (by kernel_rfl) (fun w hw => checkMatrix_c mb w) ?_
 | refine D_call (f := 22) rfl obQ (by kernel_rfl) (fun w hw => checkMatrix_c (cmM ma mb) w) ?_
 | refine D_call (f := 21) rfl obQ (by kernel_rfl) (fun w hw => cfirst_c _ _ [matE ma, matE mb] (by simp) w (.inr ⟨_, rfl, hw.src (i := 3) rfl rfl⟩)) ?_
 | refine D_call (f := 24) rfl obQ (by kernel_rfl) (fun w hw => divisor_c (ma.n * mb.n) (prM ma mb).a (by omega) (by omega) w) ?_
 | refine D_call (f := 24) rfl obQ (by kernel_rfl) (fun w hw => divisor_c (g1 ma mb : Nat) (prM ma mb).b (by omega) (by omega) w) ?_
 | refine D_call (f := 24) rfl obQ (by kernel_rfl) (fun w hw => divisor_c (g2 ma mb : Nat) (prM ma mb).c (by omega) (by omega) w) ?_
 | refine D_call (f := 24) rfl obQ (by kernel_rfl) (fun w hw => divisor_c (g3 ma mb : Nat) (prM ma mb).d (by omega) (by omega) w) ?_
 | refine D_call (f := 24) rfl obQ (by kernel_rfl) (fun w hw => divisor_c (g4 ma mb : Nat) (prM ma mb).e (by omega) (by omega) w) ?_
 | refine D_call (f := 24) rfl obQ (by kernel_rfl) (fun w hw => divisor_c (g5 ma mb : Nat) (prM ma mb).f (by omega) (by omega) w) ?_
 | refine D_call (f := 24) rfl obQ (by kernel_rfl) (fun w hw => divisor_c (g6 ma mb : Nat) (prM ma mb).g (by omega) (by omega) w) ?_
 | refine D_call (f := 24) rfl obQ (by kernel_rfl) (fun w hw => divisor_c (g7 ma mb : Nat) (prM ma mb).h (by omega) (by omega) w) ?_
 | refine D_call (f := 24) rfl obQ (by kernel_rfl) (fun w hw => divisor_c (g8 ma mb : Nat) (prM ma mb).i (by omega) (by omega) w) ?_
 | refine D_call (f := 23) rfl obQ (by kernel_rfl) (fun w hw => dot_c mb.a mb.b mb.c ma.a ma.d ma.g (by omega) (by omega) (by omega) (by omega) (by omega) (by omega) w) ?_
 | refine D_call (f := 23) rfl obQ (by kernel_rfl) (fun w hw => dot_c mb.a mb.b mb.c ma.b ma.e ma.h (by omega) (by omega) (by omega) (by omega) (by omega) (by omega) w) ?_
 | refine D_call (f := 23) rfl obQ (by kernel_rfl) (fun w hw => dot_c mb.a mb.b mb.c ma.c ma.f ma.i (by omega) (by omega) (by omega) (by omega) (by omega) (by omega) w) ?_
 | refine D_call (f := 23) rfl obQ (by kernel_rfl) (fun w hw => dot_c mb.d mb.e mb.f ma.a ma.d ma.g (by omega) (by omega) (by omega) (by omega) (by omega) (by omega) w) ?_
 | refine D_call (f := 23) rfl obQ (by kernel_rfl) (fun w hw => dot_c mb.d mb.e mb.f ma.b ma.e ma.h (by omega) (by omega) (by omega) (by omega) (by omega) (by omega) w) ?_
 | refine D_call (f := 23) rfl obQ (by kernel_rfl) (fun w hw => dot_c mb.d mb.e mb.f ma.c ma.f ma.i (by omega) (by omega) (by omega) (by omega) (by omega) (by omega) w) ?_
 | refine D_call (f := 23) rfl obQ (by kernel_rfl) (fun w hw => dot_c mb.g mb.h mb.i ma.a ma.d ma.g (by omega) (by omega) (by omega) (by omega) (by omega) (by omega) w) ?_
 | refine D_call (f := 23) rfl obQ (by kernel_rfl) (fun w hw => dot_c mb.g mb.h mb.i ma.b ma.e ma.h (by omega) (by omega) (by omega) (by omega) (by omega) (by omega) w) ?_
 | refine D_call (f := 23) rfl obQ (by kernel_rfl) (fun w hw => dot_c mb.g mb.h mb.i ma.c ma.f ma.i (by omega) (by omega) (by omega) (by omega) (by omega) (by omega) w) ?_
     )
 | (refine DY_id ?_; first
 | refine DY_nil ?_
 | refine DY_alloc rfl rfl rfl rfl rfl ?_
 | refine DY_run rfl rfl obQ obQ ?_
     )
 | (refine G_id ?_; first
 | refine G_rounds (C_trim [2, 3, 4, 5, 7, 8, 12, 80, 83] 5 rfl rfl ?_)
 | refine G_rounds (C_trim [2, 3, 4, 5, 7, 8, 12, 80] 5 rfl rfl ?_)
 | refine G_rounds (C_trim [2, 3, 4, 5, 7, 8, 9, 32, 35] 5 rfl rfl ?_)
 | refine G_rounds (C_trim [2, 3, 4, 5, 7, 8, 9, 32] 5 rfl rfl ?_)
 | refine G_then ?_
 | refine G_block ?_
 | refine G_blockX ?_
 | refine G_blockN rfl ?_
 | refine G_blockR ?_
 | refine G_thenR ?_
 | refine G_thenX ?_
 | refine G_ret rfl obQ (fun w hw => ⟨?_, hw.below⟩)
     )
     )
    · exact rM (cmR_2 hE h)
    · exact rM (cmR_3 hE h)
  · repeat' (first
 | (refine C_id ?_; first
 | refine C_seq ?_
 | refine C_region rfl ?_
 | refine C_block ?_
 | refine C_skip ?_
 | refine C_exit ?_
 | refine C_ret0 ?_
 | refine C_drawT (id := 1) 4 rfl mixed (by kernel_rfl) rfl rfl ?_
 | refine C_drawA (id := 12) 17 16 rfl mixed (by kernel_rfl) rfl rfl rfl rfl rfl rfl rfl rfl rfl rfl (fun b => ?_)
 | refine C_drawT (id := 13) 11 rfl mixed (by kernel_rfl) rfl rfl ?_
 | refine C_drawT (id := 24) 11 rfl mixed (by kernel_rfl) rfl rfl ?_
 | refine C_condT rfl obQ ?_
 | refine C_condF rfl obQ ?_
 | (refine C_cond rfl obQ (fun h => ?_) (fun h => ?_) <;> (try simp only [Bool.or_eq_true, Bool.and_eq_true, Bool.or_eq_false_iff, Bool.and_eq_false_iff, decide_eq_true_eq, decide_eq_false_iff_not, beq_iff_eq, bne_iff_ne, beq_eq_false_iff_ne, bne_eq_false_iff_eq, ne_eq, Decidable.not_not, List.cons.injEq, and_true, Bool.not_eq_true', Bool.not_eq_false', Int.not_lt, Int.not_le] at h) <;> (try (exfalso; omega)) <;> (try (exfalso; simp at h; done)) <;> (try (exfalso; simp only [not_true_eq_false, false_or, or_false] at h; omega)) <;> (try contradiction))
     )
 | (refine S_id ?_; first
 | refine S_nil ?_
 | refine S_run rfl rfl obQ obQ ?_
 | refine S_box (fun b0 => ⟨_, _, rfl, obQ, ?_⟩)
 | refine S_slice (fun b => ⟨_, _, rfl, obQ, ?_⟩)
 | refine S_call (f := 22) rfl obQ (by kernel_rfl) (fun w hw => checkMatrix_c ma w) ?_
 | refine S_call (f := 22) rfl obQ (by kernel_rfl) (fun w hw => checkMatrix_c mb w) ?_
 | refine S_call (f := 22) rfl obQ (by kernel_rfl) (fun w hw => checkMatrix_c (cmM ma mb) w) ?_
 | refine S_call (f := 21) rfl obQ (by kernel_rfl) (fun w hw => cfirst_c _ _ [matE ma, matE mb] (by simp) w (.inr ⟨_, rfl, hw.src (i := 3) rfl rfl⟩)) ?_
 | refine S_call (f := 24) rfl obQ (by kernel_rfl) (fun w hw => divisor_c (ma.n * mb.n) (prM ma mb).a (by omega) (by omega) w) ?_
 | refine S_call (f := 24) rfl obQ (by kernel_rfl) (fun w hw => divisor_c (g1 ma mb : Nat) (prM ma mb).b (by omega) (by omega) w) ?_
 | refine S_call (f := 24) rfl obQ (by kernel_rfl) (fun w hw => divisor_c (g2 ma mb : Nat) (prM ma mb).c (by omega) (by omega) w) ?_
 | refine S_call (f := 24) rfl obQ (by kernel_rfl) (fun w hw => divisor_c (g3 ma mb : Nat) (prM ma mb).d (by omega) (by omega) w) ?_
 | refine S_call (f := 24) rfl obQ (by kernel_rfl) (fun w hw => divisor_c (g4 ma mb : Nat) (prM ma mb).e (by omega) (by omega) w) ?_
 | refine S_call (f := 24) rfl obQ (by kernel_rfl) (fun w hw => divisor_c (g5 ma mb : Nat) (prM ma mb).f (by omega) (by omega) w) ?_
 | refine S_call (f := 24) rfl obQ (by kernel_rfl) (fun w hw => divisor_c (g6 ma mb : Nat) (prM ma mb).g (by omega) (by omega) w) ?_
 | refine S_call (f := 24) rfl obQ (by kernel_rfl) (fun w hw => divisor_c (g7 ma mb : Nat) (prM ma mb).h (by omega) (by omega) w) ?_
 | refine S_call (f := 24) rfl obQ (by kernel_rfl) (fun w hw => divisor_c (g8 ma mb : Nat) (prM ma mb).i (by omega) (by omega) w) ?_
 | refine S_call (f := 23) rfl obQ (by kernel_rfl) (fun w hw => dot_c mb.a mb.b mb.c ma.a ma.d ma.g (by omega) (by omega) (by omega) (by omega) (by omega) (by omega) w) ?_
 | refine S_call (f := 23) rfl obQ (by kernel_rfl) (fun w hw => dot_c mb.a mb.b mb.c ma.b ma.e ma.h (by omega) (by omega) (by omega) (by omega) (by omega) (by omega) w) ?_
 | refine S_call (f := 23) rfl obQ (by kernel_rfl) (fun w hw => dot_c mb.a mb.b mb.c ma.c ma.f ma.i (by omega) (by omega) (by omega) (by omega) (by omega) (by omega) w) ?_
 | refine S_call (f := 23) rfl obQ (by kernel_rfl) (fun w hw => dot_c mb.d mb.e mb.f ma.a ma.d ma.g (by omega) (by omega) (by omega) (by omega) (by omega) (by omega) w) ?_
 | refine S_call (f := 23) rfl obQ (by kernel_rfl) (fun w hw => dot_c mb.d mb.e mb.f ma.b ma.e ma.h (by omega) (by omega) (by omega) (by omega) (by omega) (by omega) w) ?_
 | refine S_call (f := 23) rfl obQ (by kernel_rfl) (fun w hw => dot_c mb.d mb.e mb.f ma.c ma.f ma.i (by omega) (by omega) (by omega) (by omega) (by omega) (by omega) w) ?_
 | refine S_call (f := 23) rfl obQ (by kernel_rfl) (fun w hw => dot_c mb.g mb.h mb.i ma.a ma.d ma.g (by omega) (by omega) (by omega) (by omega) (by omega) (by omega) w) ?_
 | refine S_call (f := 23) rfl obQ (by kernel_rfl) (fun w hw => dot_c mb.g mb.h mb.i ma.b ma.e ma.h (by omega) (by omega) (by omega) (by omega) (by omega) (by omega) w) ?_
 | refine S_call (f := 23) rfl obQ (by kernel_rfl) (fun w hw => dot_c mb.g mb.h mb.i ma.c ma.f ma.i (by omega) (by omega) (by omega) (by omega) (by omega) (by omega) w) ?_
     )
 | (refine D_id ?_; first
 | refine D_nil ?_
 | refine D_tail ?_
 | refine D_run rfl rfl obQ obQ ?_
 | refine D_call (f := 22) rfl obQ (by kernel_rfl) (fun w hw => checkMatrix_c ma w) ?_
 | refine D_call (f := 22) rfl obQ (by kernel_rfl) (fun w hw => checkMatrix_c mb w) ?_
 | refine D_call (f := 22) rfl obQ (by kernel_rfl) (fun w hw => checkMatrix_c (cmM ma mb) w) ?_
 | refine D_call (f := 21) rfl obQ (by kernel_rfl) (fun w hw => cfirst_c _ _ [matE ma, matE mb] (by simp) w (.inr ⟨_, rfl, hw.src (i := 3) rfl rfl⟩)) ?_
 | refine D_call (f := 24) rfl obQ (by kernel_rfl) (fun w hw => divisor_c (ma.n * mb.n) (prM ma mb).a (by omega) (by omega) w) ?_
 | refine D_call (f := 24) rfl obQ (by kernel_rfl) (fun w hw => divisor_c (g1 ma mb : Nat) (prM ma mb).b (by omega) (by omega) w) ?_
 | refine D_call (f := 24) rfl obQ (by kernel_rfl) (fun w hw => divisor_c (g2 ma mb : Nat) (prM ma mb).c (by omega) (by omega) w) ?_
 | refine D_call (f := 24) rfl obQ (by kernel_rfl) (fun w hw => divisor_c (g3 ma mb : Nat) (prM ma mb).d (by omega) (by omega) w) ?_
 | refine D_call (f := 24) rfl obQ (by kernel_rfl) (fun w hw => divisor_c (g4 ma mb : Nat) (prM ma mb).e (by omega) (by omega) w) ?_
 | refine D_call (f := 24) rfl obQ (by kernel_rfl) (fun w hw => divisor_c (g5 ma mb : Nat) (prM ma mb).f (by omega) (by omega) w) ?_
 | refine D_call (f := 24) rfl obQ (by kernel_rfl) (fun w hw => divisor_c (g6 ma mb : Nat) (prM ma mb).g (by omega) (by omega) w) ?_
 | refine D_call (f := 24) rfl obQ (by kernel_rfl) (fun w hw => divisor_c (g7 ma mb : Nat) (prM ma mb).h (by omega) (by omega) w) ?_
 | refine D_call (f := 24) rfl obQ (by kernel_rfl) (fun w hw => divisor_c (g8 ma mb : Nat) (prM ma mb).i (by omega) (by omega) w) ?_
 | refine D_call (f := 23) rfl obQ (by kernel_rfl) (fun w hw => dot_c mb.a mb.b mb.c ma.a ma.d ma.g (by omega) (by omega) (by omega) (by omega) (by omega) (by omega) w) ?_
 | refine D_call (f := 23) rfl obQ (by kernel_rfl) (fun w hw => dot_c mb.a mb.b mb.c ma.b ma.e ma.h (by omega) (by omega) (by omega) (by omega) (by omega) (by omega) w) ?_
 | refine D_call (f := 23) rfl obQ (by kernel_rfl) (fun w hw => dot_c mb.a mb.b mb.c ma.c ma.f ma.i (by omega) (by omega) (by omega) (by omega) (by omega) (by omega) w) ?_
 | refine D_call (f := 23) rfl obQ (by kernel_rfl) (fun w hw => dot_c mb.d mb.e mb.f ma.a ma.d ma.g (by omega) (by omega) (by omega) (by omega) (by omega) (by omega) w) ?_
 | refine D_call (f := 23) rfl obQ (by kernel_rfl) (fun w hw => dot_c mb.d mb.e mb.f ma.b ma.e ma.h (by omega) (by omega) (by omega) (by omega) (by omega) (by omega) w) ?_
 | refine D_call (f := 23) rfl obQ (by kernel_rfl) (fun w hw => dot_c mb.d mb.e mb.f ma.c ma.f ma.i (by omega) (by omega) (by omega) (by omega) (by omega) (by omega) w) ?_
 | refine D_call (f := 23) rfl obQ (by kernel_rfl) (fun w hw => dot_c mb.g mb.h mb.i ma.a ma.d ma.g (by omega) (by omega) (by omega) (by omega) (by omega) (by omega) w) ?_
 | refine D_call (f := 23) rfl obQ (by kernel_rfl) (fun w hw => dot_c mb.g mb.h mb.i ma.b ma.e ma.h (by omega) (by omega) (by omega) (by omega) (by omega) (by omega) w) ?_
 | refine D_call (f := 23) rfl obQ (by kernel_rfl) (fun w hw => dot_c mb.g mb.h mb.i ma.c ma.f ma.i (by omega) (by omega) (by omega) (by omega) (by omega) (by omega) w) ?_
     )
 | (refine DY_id ?_; first
 | refine DY_nil ?_
 | refine DY_alloc rfl rfl rfl rfl rfl ?_
 | refine DY_run rfl rfl obQ obQ ?_
     )
 | (refine G_id ?_; first
 | refine G_then ?_
 | refine G_block ?_
 | refine G_blockX ?_
 | refine G_blockN rfl ?_
 | refine G_blockR ?_
 | refine G_thenR ?_
 | refine G_thenX ?_
 | refine G_ret rfl obQ (fun w hw => ⟨?_, hw.below⟩)
     )
     )
    exact rM (cmR_1 hE)

end Go.Proofs.YtedlaominconaaaDoor
