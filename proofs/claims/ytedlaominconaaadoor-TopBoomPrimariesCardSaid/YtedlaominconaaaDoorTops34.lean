/- Matrices of whole numbers, places of three pictures, their luma: plain laws; what the law calls. -/
import Derived.Test.YtedlaominconaaaDoorTops32
import Derived.Test.YtedlaominconaaaDoorTops33
namespace Go.Proofs.YtedlaominconaaaDoor
open Go.E Go.RowKit Go.Fl
attribute [local irreducible] G C S D Calls
set_option maxRecDepth 100000
set_option linter.unusedSimpArgs false
set_option linter.unusedVariables false

/-- A matrix of whole numbers up to 9. -/
structure M9 (m : Mat) : Prop where
  a : -9 ≤ m.a ∧ m.a ≤ 9
  b : -9 ≤ m.b ∧ m.b ≤ 9
  c : -9 ≤ m.c ∧ m.c ≤ 9
  d : -9 ≤ m.d ∧ m.d ≤ 9
  e : -9 ≤ m.e ∧ m.e ≤ 9
  f : -9 ≤ m.f ∧ m.f ≤ 9
  g : -9 ≤ m.g ∧ m.g ≤ 9
  h : -9 ≤ m.h ∧ m.h ≤ 9
  i : -9 ≤ m.i ∧ m.i ≤ 9
  n : m.n = 1
theorem M9.sm {m : Mat} (h : M9 m) : SmM m := ⟨by have := h.a; omega, by have := h.b; omega, by have := h.c; omega, by have := h.d; omega, by have := h.e; omega, by have := h.f; omega, by have := h.g; omega, by have := h.h; omega, by have := h.i; omega, by have := h.n; omega⟩
theorem M9.ok {m : Mat} (h : M9 m) : MatOk m := h.sm.ok
theorem rnd_one (x : Int) : rnd x 1 = x := by unfold rnd; omega
theorem conv_one {m : Mat} (h : m.n = 1) (c : Col) : convF m c = (dotF m.a m.b m.c c.1 c.2.1 c.2.2, dotF m.d m.e m.f c.1 c.2.1 c.2.2, dotF m.g m.h m.i c.1 c.2.1 c.2.2) := by
  unfold convF
  rw [h, rnd_one, rnd_one, rnd_one]
theorem dot_9 {a b c x y z B : Int} (ha : -9 ≤ a ∧ a ≤ 9) (hb : -9 ≤ b ∧ b ≤ 9) (hc : -9 ≤ c ∧ c ≤ 9) (hx : -B ≤ x ∧ x ≤ B) (hy : -B ≤ y ∧ y ≤ B) (hz : -B ≤ z ∧ z ≤ B) : -(27 * B) ≤ dotF a b c x y z ∧ dotF a b c x y z ≤ 27 * B := by
  have h1 := mul_ab ha hx
  have h2 := mul_ab hb hy
  have h3 := mul_ab hc hz
  unfold dotF
  omega
def ColB (B : Int) (c : Col) : Prop := (-B ≤ c.1 ∧ c.1 ≤ B) ∧ (-B ≤ c.2.1 ∧ c.2.1 ≤ B) ∧ (-B ≤ c.2.2 ∧ c.2.2 ≤ B)
theorem ColB.ok {B : Int} {c : Col} (h : ColB B c) (hB : B ≤ 16384) : ColOk c := by
  obtain ⟨h1, h2, h3⟩ := h
  exact ⟨by omega, by omega, by omega⟩
theorem conv_bd {m : Mat} (h : M9 m) {B : Int} {c : Col} (hc : ColB B c) : ColB (27 * B) (convF m c) := by
  obtain ⟨h1, h2, h3⟩ := hc
  rw [conv_one h.n]
  exact ⟨dot_9 h.a h.b h.c h1 h2 h3, dot_9 h.d h.e h.f h1 h2 h3, dot_9 h.g h.h h.i h1 h2 h3⟩
theorem cm_one {a b : Mat} (ha : a.n = 1) (hb : b.n = 1) : (cmM a b).n = 1 ∧ (cmM a b).a = (prM a b).a ∧ (cmM a b).b = (prM a b).b ∧ (cmM a b).c = (prM a b).c ∧ (cmM a b).d = (prM a b).d ∧ (cmM a b).e = (prM a b).e ∧ (cmM a b).f = (prM a b).f ∧ (cmM a b).g = (prM a b).g ∧ (cmM a b).h = (prM a b).h ∧ (cmM a b).i = (prM a b).i := by
  obtain ⟨h0, h1, h2, h3, h4, h5, h6, h7, h8, h9⟩ := cm_mul a b
  rw [ha, hb] at h0
  have g : ((g9 a b : Nat) : Int) = 1 := Int.eq_one_of_dvd_one (by omega) ⟨(cmM a b).n, by omega⟩
  rw [g] at h0 h1 h2 h3 h4 h5 h6 h7 h8 h9
  simp only [Int.one_mul] at h0 h1 h2 h3 h4 h5 h6 h7 h8 h9
  exact ⟨by omega, h1, h2, h3, h4, h5, h6, h7, h8, h9⟩
theorem cm_conv {a b : Mat} (ha : a.n = 1) (hb : b.n = 1) (c : Col) : convF (cmM a b) c = convF b (convF a c) := by
  obtain ⟨h0, h1, h2, h3, h4, h5, h6, h7, h8, h9⟩ := cm_one ha hb
  rw [conv_one h0, conv_one hb, conv_one ha, h1, h2, h3, h4, h5, h6, h7, h8, h9]
  simp only [prM, dotF, Prod.mk.injEq]
  refine ⟨?_, ?_, ?_⟩ <;> grind
theorem cm_ok {a b : Mat} (ha : M9 a) (hb : M9 b) : MatOk (cmM a b) := by
  obtain ⟨h0, h1, h2, h3, h4, h5, h6, h7, h8, h9⟩ := cm_one ha.n hb.n
  have e : ∀ {x y z p q r : Int}, (-9 ≤ x ∧ x ≤ 9) → (-9 ≤ y ∧ y ≤ 9) → (-9 ≤ z ∧ z ≤ 9) → (-9 ≤ p ∧ p ≤ 9) → (-9 ≤ q ∧ q ≤ 9) → (-9 ≤ r ∧ r ≤ 9) → -4096 ≤ dotF x y z p q r ∧ dotF x y z p q r ≤ 4096 := fun a1 a2 a3 b1 b2 b3 => by
    have := dot_9 a1 a2 a3 b1 b2 b3
    omega
  refine ⟨?_, ?_, ?_, ?_, ?_, ?_, ?_, ?_, ?_, ?_⟩
  · rw [h1]; exact e hb.a hb.b hb.c ha.a ha.d ha.g
  · rw [h2]; exact e hb.a hb.b hb.c ha.b ha.e ha.h
  · rw [h3]; exact e hb.a hb.b hb.c ha.c ha.f ha.i
  · rw [h4]; exact e hb.d hb.e hb.f ha.a ha.d ha.g
  · rw [h5]; exact e hb.d hb.e hb.f ha.b ha.e ha.h
  · rw [h6]; exact e hb.d hb.e hb.f ha.c ha.f ha.i
  · rw [h7]; exact e hb.g hb.h hb.i ha.a ha.d ha.g
  · rw [h8]; exact e hb.g hb.h hb.i ha.b ha.e ha.h
  · rw [h9]; exact e hb.g hb.h hb.i ha.c ha.f ha.i
  · omega
theorem cmR_one {a b : Mat} (ha : M9 a) (hb : M9 b) : cmR a b = (cmM a b, 0) := by
  refine cmR_3 ?_ (mat_ok.2 (cm_ok ha hb))
  unfold cmE
  rw [firstL_zero]
  simp only [List.mem_cons, List.mem_nil_iff, or_false, forall_eq_or_imp, forall_eq]
  exact ⟨mat_ok.2 ha.ok, mat_ok.2 hb.ok⟩
/-- The matrix of the numerators of the inverse. -/
def unM (m : Mat) : Mat := ⟨(ivG m 0 0).1, (ivG m 0 1).1, (ivG m 0 2).1, (ivG m 1 0).1, (ivG m 1 1).1, (ivG m 1 2).1, (ivG m 2 0).1, (ivG m 2 1).1, (ivG m 2 2).1, 1⟩
theorem col_0 (m : Mat) (c : Col) : cofF m 0 0 * dotF m.a m.b m.c c.1 c.2.1 c.2.2 + cofF m 1 0 * dotF m.d m.e m.f c.1 c.2.1 c.2.2 + cofF m 2 0 * dotF m.g m.h m.i c.1 c.2.1 c.2.2 = detF m * c.1 := by
  simp only [detF, dotF, cofF, Mat.at]
  grind
theorem col_1 (m : Mat) (c : Col) : cofF m 0 1 * dotF m.a m.b m.c c.1 c.2.1 c.2.2 + cofF m 1 1 * dotF m.d m.e m.f c.1 c.2.1 c.2.2 + cofF m 2 1 * dotF m.g m.h m.i c.1 c.2.1 c.2.2 = detF m * c.2.1 := by
  simp only [detF, dotF, cofF, Mat.at]
  grind
theorem col_2 (m : Mat) (c : Col) : cofF m 0 2 * dotF m.a m.b m.c c.1 c.2.1 c.2.2 + cofF m 1 2 * dotF m.d m.e m.f c.1 c.2.1 c.2.2 + cofF m 2 2 * dotF m.g m.h m.i c.1 c.2.1 c.2.2 = detF m * c.2.2 := by
  simp only [detF, dotF, cofF, Mat.at]
  grind
theorem un_ring {d u v w x y z p q r t : Int} (h1 : u * d = p) (h2 : v * d = q) (h3 : w * d = r) (h : p * x + q * y + r * z = d * t) (hd : d ≠ 0) : dotF u v w x y z = t := by
  refine Int.eq_of_mul_eq_mul_left hd ?_
  rw [← h, ← h1, ← h2, ← h3]
  unfold dotF
  grind
/-- What the whole inverse gives back. -/
theorem un_conv {m : Mat} (h : M9 m) (he : eG m = 0) (hq : ∀ i k, i < 3 → k < 3 → (ivG m i k).2 = 1) (c : Col) : convF (unM m) (convF m c) = c := by
  have hd : detF m ≠ 0 := fun h0 => by
    unfold eG at he
    rw [if_pos h0] at he
    contradiction
  have e : ∀ i k, i < 3 → k < 3 → (ivG m i k).1 * detF m = cofF m k i := fun i k hi hk => by
    have h4 := (ivg_ok h.sm hd i k).2.2.2.1
    rwa [hq i k hi hk, Int.tdiv_one, h.n, Int.one_mul] at h4
  rw [conv_one (m := unM m) rfl, conv_one h.n]
  refine Prod.ext ?_ (Prod.ext ?_ ?_)
  · exact un_ring (e 0 0 (by omega) (by omega)) (e 0 1 (by omega) (by omega)) (e 0 2 (by omega) (by omega)) (col_0 m c) hd
  · exact un_ring (e 1 0 (by omega) (by omega)) (e 1 1 (by omega) (by omega)) (e 1 2 (by omega) (by omega)) (col_1 m c) hd
  · exact un_ring (e 2 0 (by omega) (by omega)) (e 2 1 (by omega) (by omega)) (e 2 2 (by omega) (by omega)) (col_2 m c) hd
/-- What is asked of the inverse. -/
def Whole (m : Mat) : Prop := eG m = 0 ∧ ∀ i k, i < 3 → k < 3 → (ivG m i k).2 = 1 ∧ -4096 ≤ (ivG m i k).1 ∧ (ivG m i k).1 ≤ 4096
theorem Whole.ok {m : Mat} (h : Whole m) : MatOk (unM m) := ⟨(h.2 0 0 (by omega) (by omega)).2, (h.2 0 1 (by omega) (by omega)).2, (h.2 0 2 (by omega) (by omega)).2, (h.2 1 0 (by omega) (by omega)).2, (h.2 1 1 (by omega) (by omega)).2, (h.2 1 2 (by omega) (by omega)).2, (h.2 2 0 (by omega) (by omega)).2, (h.2 2 1 (by omega) (by omega)).2, (h.2 2 2 (by omega) (by omega)).2, by show (1 : Int) ≤ 1 ∧ (1 : Int) ≤ 4096; omega⟩
theorem wts_ok {a b : Nat} (ha : a ≤ 255) : WtOk (a : Int) ((b : Int).tmod (257 - (a : Int))) (256 - (a : Int) - (b : Int).tmod (257 - (a : Int))) := by
  rw [Int.tmod_eq_emod_of_nonneg (by omega)]
  have h1 := Int.emod_nonneg (b : Int) (show (257 - (a : Int)) ≠ 0 by omega)
  have h2 := Int.emod_lt_of_pos (b : Int) (show 0 < 257 - (a : Int) by omega)
  exact ⟨by omega, by omega, by omega, by omega⟩
theorem luP_len3 {x y z : Pic} {a b c : Int} : (luP x y z a b c).s.length = x.s.length := by simp [luP, plL]
theorem luP_gB {x y z : Pic} {a b c : Int} (ht : ThOk x y z) {k : Nat} (h : k < x.s.length) : gB (luP x y z a b c).s k = smp (luN a b c (plA x y z k)) := by
  rw [gB_at (by rw [luP_len3]; exact h)]
  have e : (luP x y z a b c).s = (List.range x.s.length).map fun k => smp (luN a b c (plA x y z k)) := pl_map ht fun c' => smp (luN a b c c')
  simp only [e, List.getElem_map, List.getElem_range]
theorem luP_ok {x y z : Pic} {a b c : Int} (ht : ThOk x y z) (hw : WtOk a b c) : PicOk (luP x y z a b c) := by
  refine ⟨ht.px.nm, ht.px.w, ht.px.h, by rw [luP_len3]; exact ht.px.n, fun q hq => ?_⟩
  simp only [luP, List.mem_map] at hq
  obtain ⟨p, hp, rfl⟩ := hq
  exact smp_Smp (luN_bd hw p.ok).2
theorem smp_gt {a b : Nat} (ha : Smp a) (hb : Smp b) : (FloatKind.f32.format.order a b == some .gt) = decide (lvl b < lvl a) := by
  rw [show FloatKind.f32.format = Ieee.single from rfl, order32 ha.fin hb.fin, cmp_gt]
  refine decide_eq_decide.2 ?_
  rw [← ha.eq, ← hb.eq]
  exact Int.mul_lt_mul_right (by decide +kernel)
theorem smp_ltD {a b : Nat} (ha : Smp a) (hb : Smp b) : (FloatKind.f32.format.order a b == some .lt) = decide (lvl a < lvl b) := by
  rw [show FloatKind.f32.format = Ieee.single from rfl, order32 ha.fin hb.fin, cmp_lt]
  refine decide_eq_decide.2 ?_
  rw [← ha.eq, ← hb.eq]
  exact Int.mul_lt_mul_right (by decide +kernel)
theorem one_lv : Smp 1065353216 ∧ lvl 1065353216 = 16 := by
  have e : smp 16 = 1065353216 := by decide +kernel
  exact ⟨e ▸ smp_Smp (by omega), e ▸ smp_lvl (by omega)⟩
theorem mone_lv : Smp 3212836864 ∧ lvl 3212836864 = -16 := by
  have e : smp (-16) = 3212836864 := by decide +kernel
  exact ⟨e ▸ smp_Smp (by omega), e ▸ smp_lvl (by omega)⟩
theorem gt_one {b : Nat} (h : Smp b) (t : TypeId) (x y : Operand) (w : World) : (do eqGuard .gtr t x y (.float .f32 b) (.float .f32 1065353216); binOp .gtr t (.float .f32 b) (.float .f32 1065353216) : Sem Value).run Tryd.prog w = .ok (.bool (decide (16 < lvl b))) w := by
  have k := fl_gt (X := ⟨Tryd.prog, T, T_ok, 0, 0, w, [], none⟩) .f32 b 1065353216 t x y w
  rwa [smp_gt h one_lv.1, one_lv.2] at k
theorem lt_mone {b : Nat} (h : Smp b) (t : TypeId) (x y : Operand) (w : World) : (do eqGuard .lss t x y (.float .f32 b) (.float .f32 3212836864); binOp .lss t (.float .f32 b) (.float .f32 3212836864) : Sem Value).run Tryd.prog w = .ok (.bool (decide (lvl b < -16))) w := by
  have k := fl_lt (X := ⟨Tryd.prog, T, T_ok, 0, 0, w, [], none⟩) .f32 b 3212836864 t x y w
  rwa [smp_ltD h mone_lv.1, mone_lv.2] at k
theorem rem_ten (t : TypeId) (x y : Operand) {P : Program} {a r : Int} (h : a.tmod 10 = r) (w : World) : (do eqGuard .rem t x y (.int .i64 a) (.int .i64 10); binOp .rem t (.int .i64 a) (.int .i64 10) : Sem Value).run P w = .ok (.int .i64 r) w := by
  have h1 := Int.tmod_lt_of_pos a (show 0 < (10 : Int) by omega)
  have h2 := Int.lt_tmod_of_pos a (show 0 < (10 : Int) by omega)
  have hr : inR .i64 (a.tmod 10) := by simp only [inR]; omega
  subst h
  simp [eqGuard_int, binOp, Op.intDiv, inR_wrap hr]
theorem rem_pos' (t : TypeId) (x y : Operand) {P : Program} {a b : Int} (ha : 0 ≤ a ∧ a ≤ 1000) (hb : 1 ≤ b ∧ b ≤ 1000) (w : World) : (do eqGuard .rem t x y (.int .i64 a) (.int .i64 b); binOp .rem t (.int .i64 a) (.int .i64 b) : Sem Value).run P w = .ok (.int .i64 (a.tmod b)) w := by
  have h1 := Int.tmod_lt_of_pos a (show 0 < b by omega)
  have h2 := Int.lt_tmod_of_pos a (show 0 < b by omega)
  have hr : inR .i64 (a.tmod b) := by simp only [inR]; omega
  simp [eqGuard_int, binOp, Op.intDiv, inR_wrap hr, show b ≠ 0 by omega]
section
variable {m ma mb mc : Mat} {c r : Col} {A : Option Addr} {ax ay az : Addr} {cx cy cz n : Nat} {x y z : Pic} {wa wb wc e v : Int} {w : World}
theorem pcomp_as (ha : M9 ma) (hb : M9 mb) (hc : cmM ma mb = mc) : Calls Tryd.prog 6 #[.agg #[.int .i64 ma.a, .int .i64 ma.b, .int .i64 ma.c, .int .i64 ma.d, .int .i64 ma.e, .int .i64 ma.f, .int .i64 ma.g, .int .i64 ma.h, .int .i64 ma.i, .int .i64 1], .agg #[.int .i64 mb.a, .int .i64 mb.b, .int .i64 mb.c, .int .i64 mb.d, .int .i64 mb.e, .int .i64 mb.f, .int .i64 mb.g, .int .i64 mb.h, .int .i64 mb.i, .int .i64 1]] w fun r w' => r = .returned (.tuple #[.agg #[.int .i64 mc.a, .int .i64 mc.b, .int .i64 mc.c, .int .i64 mc.d, .int .i64 mc.e, .int .i64 mc.f, .int .i64 mc.g, .int .i64 mc.h, .int .i64 mc.i, .int .i64 mc.n], .int .i64 0]) ∧ Below w.heap.size w w' := by
  have := Composed_c ma mb w
  rw [cmR_one ha hb, ha.n, hb.n, hc] at this
  exact this
theorem pinv_as (h : M9 m) (hO : Ot w) : Calls Tryd.prog 7 #[.agg #[.int .i64 m.a, .int .i64 m.b, .int .i64 m.c, .int .i64 m.d, .int .i64 m.e, .int .i64 m.f, .int .i64 m.g, .int .i64 m.h, .int .i64 m.i, .int .i64 1]] w fun r w' => r = .returned (.tuple #[.agg #[.int .i64 (ivG m 0 0).1, .int .i64 (ivG m 0 0).2, .int .i64 (ivG m 0 1).1, .int .i64 (ivG m 0 1).2, .int .i64 (ivG m 0 2).1, .int .i64 (ivG m 0 2).2, .int .i64 (ivG m 1 0).1, .int .i64 (ivG m 1 0).2, .int .i64 (ivG m 1 1).1, .int .i64 (ivG m 1 1).2, .int .i64 (ivG m 1 2).1, .int .i64 (ivG m 1 2).2, .int .i64 (ivG m 2 0).1, .int .i64 (ivG m 2 0).2, .int .i64 (ivG m 2 1).1, .int .i64 (ivG m 2 1).2, .int .i64 (ivG m 2 2).1, .int .i64 (ivG m 2 2).2], .int .i64 (eG m)]) ∧ Below w.heap.size w w' := by
  have := Inverted_c m w hO
  rw [ivR_G (mat_ok.2 h.ok), h.n] at this
  exact this
theorem pmat_as (h : MatOk m) : Calls Tryd.prog 8 #[.agg #[.int .i64 m.a, .int .i64 m.b, .int .i64 m.c, .int .i64 m.d, .int .i64 m.e, .int .i64 m.f, .int .i64 m.g, .int .i64 m.h, .int .i64 m.i, .int .i64 m.n]] w fun r w' => r = .returned (.int .i64 0) ∧ Below w.heap.size w w' := by
  have := rCheckMatrix_c m w
  rwa [mat_ok.2 h] at this
theorem pcol_as (h : ColOk c) : Calls Tryd.prog 14 #[.agg #[.int .i64 c.1, .int .i64 c.2.1, .int .i64 c.2.2]] w fun r w' => r = .returned (.int .i64 0) ∧ Below w.heap.size w w' := by
  have := rCheckColour_c c w
  rwa [col_ok.2 h] at this
theorem pconv_as (hm : MatOk m) (hc : ColOk c) (hr : convF m c = r) (ho : ColOk r) : Calls Tryd.prog 13 #[.agg #[.int .i64 m.a, .int .i64 m.b, .int .i64 m.c, .int .i64 m.d, .int .i64 m.e, .int .i64 m.f, .int .i64 m.g, .int .i64 m.h, .int .i64 m.i, .int .i64 m.n], .agg #[.int .i64 c.1, .int .i64 c.2.1, .int .i64 c.2.2]] w fun x w' => x = .returned (.tuple #[.agg #[.int .i64 r.1, .int .i64 r.2.1, .int .i64 r.2.2], .int .i64 0]) ∧ Below w.heap.size w w' := by
  subst hr
  have := Converted_c m c w
  rw [cvR_3 (by unfold cvE; rw [firstL_zero]; simp only [List.mem_cons, List.mem_nil_iff, or_false, forall_eq_or_imp, forall_eq]; exact ⟨mat_ok.2 hm, col_ok.2 hc⟩) (col_ok.2 ho)] at this
  exact this
theorem pconv1_as (hm : M9 m) (hc : ColOk c) (hr : convF m c = r) (ho : ColOk r) : Calls Tryd.prog 13 #[.agg #[.int .i64 m.a, .int .i64 m.b, .int .i64 m.c, .int .i64 m.d, .int .i64 m.e, .int .i64 m.f, .int .i64 m.g, .int .i64 m.h, .int .i64 m.i, .int .i64 1], .agg #[.int .i64 c.1, .int .i64 c.2.1, .int .i64 c.2.2]] w fun x w' => x = .returned (.tuple #[.agg #[.int .i64 r.1, .int .i64 r.2.1, .int .i64 r.2.2], .int .i64 0]) ∧ Below w.heap.size w w' := by
  have := pconv_as (w := w) hm.ok hc hr ho
  rwa [hm.n] at this
theorem pconvw_as (hw : WtOk wa wb wc) (hc : ColOk c) (hv : luN wa wb wc c = v) : Calls Tryd.prog 13 #[.agg #[.int .i64 wa, .int .i64 wb, .int .i64 wc, .int .i64 wa, .int .i64 wb, .int .i64 wc, .int .i64 wa, .int .i64 wb, .int .i64 wc, .int .i64 256], .agg #[.int .i64 c.1, .int .i64 c.2.1, .int .i64 c.2.2]] w fun x w' => x = .returned (.tuple #[.agg #[.int .i64 v, .int .i64 v, .int .i64 v], .int .i64 0]) ∧ Below w.heap.size w w' := by
  subst hv
  have hl := (luN_bd hw hc).2
  exact pconv_as (m := ⟨wa, wb, wc, wa, wb, wc, wa, wb, wc, 256⟩) (r := (luN wa wb wc c, luN wa wb wc c, luN wa wb wc c)) (by have := hw.wa; have := hw.wb; have := hw.wc; exact ⟨by dsimp only; omega, by dsimp only; omega, by dsimp only; omega, by dsimp only; omega, by dsimp only; omega, by dsimp only; omega, by dsimp only; omega, by dsimp only; omega, by dsimp only; omega, by dsimp only; omega⟩) hc rfl ⟨hl, hl, hl⟩
theorem pundo_as (h : M9 m) (hw : Whole m) (hc : ColOk c) (hr : convF m c = r) (ho : ColOk r) : Calls Tryd.prog 13 #[.agg #[.int .i64 (ivG m 0 0).1, .int .i64 (ivG m 0 1).1, .int .i64 (ivG m 0 2).1, .int .i64 (ivG m 1 0).1, .int .i64 (ivG m 1 1).1, .int .i64 (ivG m 1 2).1, .int .i64 (ivG m 2 0).1, .int .i64 (ivG m 2 1).1, .int .i64 (ivG m 2 2).1, .int .i64 1], .agg #[.int .i64 r.1, .int .i64 r.2.1, .int .i64 r.2.2]] w fun x w' => x = .returned (.tuple #[.agg #[.int .i64 c.1, .int .i64 c.2.1, .int .i64 c.2.2], .int .i64 0]) ∧ Below w.heap.size w w' := by
  subst hr
  exact pconv_as (m := unM m) hw.ok ho (un_conv h hw.1 (fun i k hi hk => (hw.2 i k hi hk).1) c) hc
theorem plum_as (ht : ThOk x y z) (hw : WtOk wa wb wc) (hy : y.s.length = x.s.length) (hz : z.s.length = x.s.length) (hn : x.s.length = n) (h6 : n ≤ 1000000) (hrx : Rd w (some ax) (x.s.map (.float .f32))) (hry : Rd w (some ay) (y.s.map (.float .f32))) (hrz : Rd w (some az) (z.s.map (.float .f32))) : Calls Tryd.prog 9 #[.agg #[.string x.nm, .int .i64 x.w, .int .i64 x.h, .slice (some ax) n cx, .string y.nm, .int .i64 y.w, .int .i64 y.h, .slice (some ay) n cy, .string z.nm, .int .i64 z.w, .int .i64 z.h, .slice (some az) n cz], .agg #[.int .i64 wa, .int .i64 wb, .int .i64 wc]] w fun r w' => ∃ v, r = .returned v ∧ Below w.heap.size w w' ∧ PicR w w' v (luP x y z wa wb wc) 0 := by
  subst hn
  have := Luma_c x y z ax ay az cx cy cz h6 (by omega) (by omega) wa wb wc w hrx hry hrz
  rw [luR_3 (th_ok.2 ht) (wt_ok.2 hw), hy, hz] at this
  exact this
theorem psix_as {b : Nat} (h : Smp b) (hv : lvl b = v) : Calls Tryd.prog 15 #[.float .f32 b] w fun r w' => r = .returned (.int .i64 v) ∧ Below w.heap.size w w' := by
  subst hv
  exact sixteenths_c b h.fin h.bd w
theorem prckP_as {q : Pic} {A : Option Addr} {cc : Nat} (hq : PicOk q) (hnm : q.nm.size ≤ maxLen) (hm : q.s.length = n) (hl : n ≤ 1000000) (hr : Rd w A (q.s.map (.float .f32))) : Calls Tryd.prog 11 #[.agg #[.string q.nm, .int .i64 q.w, .int .i64 q.h, .slice A n cc]] w fun r w' => r = .returned (.int .i64 0) ∧ Below w.heap.size w w' := by
  subst hm
  have h := rCheckPicture_c q A cc hl hnm w hr
  rwa [pic_ok.2 hq] at h
theorem pth_as {Ax Ay Az : Option Addr} (hnx : x.nm.size ≤ maxLen) (hny : y.nm.size ≤ maxLen) (hnz : z.nm.size ≤ maxLen) (hsx : x.s.length ≤ maxLen) (hsy : y.s.length ≤ maxLen) (hsz : z.s.length ≤ maxLen) (he : thE x y z = e) (hrx : Rd w Ax (x.s.map (.float .f32))) (hry : Rd w Ay (y.s.map (.float .f32))) (hrz : Rd w Az (z.s.map (.float .f32))) : Calls Tryd.prog 4 #[.agg #[.string x.nm, .int .i64 x.w, .int .i64 x.h, .slice Ax x.s.length cx, .string y.nm, .int .i64 y.w, .int .i64 y.h, .slice Ay y.s.length cy, .string z.nm, .int .i64 z.w, .int .i64 z.h, .slice Az z.s.length cz]] w fun r w' => r = .returned (.int .i64 e) ∧ Below w.heap.size w w' := by
  subst he
  exact rCheckThreeAny_c x y z Ax Ay Az cx cy cz hnx hny hnz hsx hsy hsz w hrx hry hrz
end

end Go.Proofs.YtedlaominconaaaDoor
