/- The loop over the cycles of a line: floats, indices, the plane that is broken. -/
import Derived.Test.YtedlaominconaaaTops14
import Derived.Test.YtedlaominconaaaTops15
import Derived.Test.YtedlaominconaaaTops17
import Derived.Test.YtedlaominconaaaEngAS
import Derived.Test.YtedlaominconaaaEngAJ
namespace Go.Proofs.Ytedlaominconaaa
open Go.E Go.RowKit Go.Fl
attribute [local irreducible] G C S D Calls
set_option maxRecDepth 100000
set_option linter.unusedSimpArgs false
set_option linter.unusedVariables false

/-- A level as a number of 32 bits. -/
def lvB (n : Int) : Nat := (Ieee.single.mul 1098907648 (smp n)).getD 0
theorem lvB_ok {n : Int} (h : -1000 ≤ n ∧ n ≤ 1000) : floatBits .mul .f32 1098907648 (smp n) = some (lvB n) ∧ Fin32 (lvB n) ∧ B32 (lvB n) = n * (2 ^ 145 * 16) := by
  obtain ⟨_, h1, h2⟩ := smp_ok (n := n) (by omega)
  obtain ⟨r, h3, h4, h5⟩ := mul16 h1 (by rw [h2]; constructor <;> omega)
  have e : lvB n = r := by unfold lvB; rw [h3]; rfl
  rw [e]
  exact ⟨h3, h4, by rw [h5, h2, Int.mul_assoc]⟩
theorem flo_ok {n : Int} (h : -1000 ≤ n ∧ n ≤ 1000) : Fin32 (floatOfInt .f32 n) ∧ B32 (floatOfInt .f32 n) = n * (2 ^ 145 * 16) := ofInt32 (by omega)
theorem lv_gt {e h : Int} (he : -1000 ≤ e ∧ e ≤ 1000) (hh : -1000 ≤ h ∧ h ≤ 1000) (t : TypeId) (x y : Operand) (w : World) : (do eqGuard .gtr t x y (.float .f32 (lvB e)) (.float .f32 (floatOfInt .f32 h)); binOp .gtr t (.float .f32 (lvB e)) (.float .f32 (floatOfInt .f32 h)) : Sem Value).run Try.prog w = .ok (.bool (decide (h < e))) w := by
  have k := fl_gt (X := ⟨Try.prog, T, T_ok, 0, 0, w, [], none⟩) .f32 (lvB e) (floatOfInt .f32 h) t x y w
  rw [show FloatKind.f32.format = Ieee.single from rfl, order32 (lvB_ok he).2.1 (flo_ok hh).1, (lvB_ok he).2.2, (flo_ok hh).2, compare_mul (by decide), cmp_gt] at k
  exact k
theorem lv_lt {e h : Int} (he : -1000 ≤ e ∧ e ≤ 1000) (hh : -1000 ≤ h ∧ h ≤ 1000) (t : TypeId) (x y : Operand) (w : World) : (do eqGuard .lss t x y (.float .f32 (lvB e)) (.float .f32 (floatOfInt .f32 h)); binOp .lss t (.float .f32 (lvB e)) (.float .f32 (floatOfInt .f32 h)) : Sem Value).run Try.prog w = .ok (.bool (decide (e < h))) w := by
  have k := fl_lt (X := ⟨Try.prog, T, T_ok, 0, 0, w, [], none⟩) .f32 (lvB e) (floatOfInt .f32 h) t x y w
  rw [show FloatKind.f32.format = Ieee.single from rfl, order32 (lvB_ok he).2.1 (flo_ok hh).1, (lvB_ok he).2.2, (flo_ok hh).2, compare_mul (by decide), cmp_lt] at k
  exact k
theorem smp_neF {e : Int} (he : -1000 ≤ e ∧ e ≤ 1000) (t : TypeId) (x y : Operand) (w : World) : (do eqGuard .neq t x y (.float .f32 (smp e)) (.float .f32 (smp e)); binOp .neq t (.float .f32 (smp e)) (.float .f32 (smp e)) : Sem Value).run Try.prog w = .ok (.bool false) w := by
  have k := fl_ne (X := ⟨Try.prog, T, T_ok, 0, 0, w, [], none⟩) .f32 (smp e) (smp e) t x y w
  have hf := (smp_ok (n := e) (by omega)).2.1
  rw [show FloatKind.f32.format = Ieee.single from rfl, order32 hf hf, cmp_ne] at k
  simpa using k
theorem flV_idx {l : List Int} {k : Nat} {z e : Int} (hz : z = k) (h : k < l.length) (he : gI l k = e) : ∀ (j : Nat) (u : Value), ([.float .f32 (smp e)] : List Value)[j]? = some u → (flV l)[(z.toNat * 1 + j)]? = some u := by
  subst hz he
  have h1 : (flV l)[k]? = some (.float .f32 (smp (gI l k))) := by rw [gI_at h]; simp [flV, h]
  intro j u hu
  have := idx_one h1 j u hu
  rwa [Int.toNat_natCast, Nat.mul_one]
theorem pt_idx {l : List Pt} {k : Nat} {a b : Int} (h : l[k]? = some (a, b)) : ∀ (j : Nat) (u : Value), ([.int .i64 a, .int .i64 b] : List Value)[j]? = some u → (l.flatMap ptC)[((k : Int).toNat * 2 + j)]? = some u := by
  obtain ⟨hk, he⟩ := List.getElem?_eq_some_iff.1 h
  have k2 := idxS (f := ptC) (s := 2) (fun _ => rfl) hk
  rw [he] at k2
  exact k2
theorem rem_q {m q : Nat} (hm : m < 4) (hq : (m + 2) % 4 = q) (t : TypeId) (x y : Operand) (w : World) : (do eqGuard .rem t x y (.int .i64 ((m : Int) + 2)) (.int .i64 4); binOp .rem t (.int .i64 ((m : Int) + 2)) (.int .i64 4) : Sem Value).run Try.prog w = .ok (.int .i64 (q : Int)) w := by
  have k := wrap_rem (X := ⟨Try.prog, T, T_ok, 0, 0, w, [], none⟩) .i64 t x y ((m : Int) + 2) 4 (by decide) w
  have e : ((m : Int) + 2).tmod 4 = (q : Int) := by
    rw [Int.tmod_eq_emod_of_nonneg (by omega)]
    omega
  rw [e] at k
  exact k
theorem pt_neF (h : deepI Try.prog 49 2 = true) (a b : Int) (x y : Operand) (w : World) : (do eqGuard .neq 49 x y (.agg #[.int .i64 a, .int .i64 b]) (.agg #[.int .i64 a, .int .i64 b]); binOp .neq 49 (.agg #[.int .i64 a, .int .i64 b]) (.agg #[.int .i64 a, .int .i64 b]) : Sem Value).run Try.prog w = .ok (.bool false) w := by
  have k := ne_deep (k := .i64) (n := 2) (xs := [a, b]) (ys := [a, b]) h rfl rfl x y w
  rw [bne_self_eq_false] at k
  exact k
/-- The plane that the first levels of a cycle break. -/
def plN (lo hi : Int) (c : Col) : Nat → Int
  | 0 => -1
  | m + 1 => stP lo hi (plN lo hi c m) m (gI (lv 1 c) m)
theorem plN_fb {lo hi : Int} (h : lo ≤ hi) (c : Col) : plN lo hi c 4 = fbF (dpl lo hi) c := by
  obtain ⟨y, u, v⟩ := c
  rw [← cyP_fb h]
  have e0 : gI (lv 1 (y, u, v)) 0 = y + u := by show y + 1 * u = y + u; omega
  have e1 : gI (lv 1 (y, u, v)) 1 = y + v := by show y + 1 * v = y + v; omega
  have e2 : gI (lv 1 (y, u, v)) 2 = y - u := by show y + (0 - 1) * u = y - u; omega
  have e3 : gI (lv 1 (y, u, v)) 3 = y - v := by show y + (0 - 1) * v = y - v; omega
  show stP lo hi (stP lo hi (stP lo hi (stP lo hi (-1) ((0 : Nat) : Int) _) ((1 : Nat) : Int) _) ((2 : Nat) : Int) _) ((3 : Nat) : Int) _ = _
  rw [e0, e1, e2, e3]
  rfl
theorem fbF_neg {g : List Pla} {c : Col} : fbF g c < 0 ↔ fbF g c = -1 := by
  unfold fbF
  split
  · constructor <;> intro h <;> omega
  · constructor <;> intro h <;> omega
theorem odd_at {cs : List Col} {k m q : Nat} (h : k < cs.length) (hm : m < 4) (hq : (m + 2) % 4 = q) : gI (lnI (-1) cs) (4 * k + q) = gI (lv 1 (gC cs k)) m := by
  subst hq
  rw [lnI_at h (by omega)]
  obtain rfl | rfl | rfl | rfl : m = 0 ∨ m = 1 ∨ m = 2 ∨ m = 3 := by omega
  · show _ + (0 - -1) * _ = _ + 1 * _; omega
  · show _ + (0 - -1) * _ = _ + 1 * _; omega
  · show _ + -1 * _ = _ + (0 - 1) * _; omega
  · show _ + -1 * _ = _ + (0 - 1) * _; omega
theorem lv1_bd {cs : List Col} (hc : CsOk cs) {k m : Nat} (h : k < cs.length) (hm : m < 4) : -1000 ≤ gI (lv 1 (gC cs k)) m ∧ gI (lv 1 (gC cs k)) m ≤ 1000 := by
  rw [← lnI_at (s := 1) h hm]
  exact lnI_bd (.inl rfl) hc _ (gI_mem (by rw [lnI_len]; omega))
theorem stP_hi {lo hi p m e : Int} (hm : 0 ≤ m) (h : hi < e) (hlh : lo ≤ hi) (hp : p < 0 ∨ 3 < p) : stP lo hi p m e = m := by
  have h2 : ¬ e < lo := by omega
  simp only [stP, h, hp, h2, and_self, if_true, false_and, if_false]
theorem stP_hk {lo hi p m e : Int} (h : hi < e) (hlh : lo ≤ hi) (hp : ¬ p < 0) (hp2 : ¬ 3 < p) : stP lo hi p m e = p := by
  have h2 : ¬ e < lo := by omega
  simp only [stP, h2, hp, hp2, or_self, and_false, if_false, false_and]
theorem stP_lo {lo hi p m e : Int} (h : ¬ hi < e) (h2 : e < lo) (hp : p < 0) : stP lo hi p m e = 4 + m := by
  simp only [stP, h, h2, hp, false_and, if_false, and_self, if_true]
theorem stP_lk {lo hi p m e : Int} (h : ¬ hi < e) (hp : ¬ p < 0) : stP lo hi p m e = p := by
  simp only [stP, h, hp, false_and, if_false, and_false]
theorem stP_no {lo hi p m e : Int} (h : ¬ hi < e) (h2 : ¬ e < lo) : stP lo hi p m e = p := by
  simp only [stP, h, h2, false_and, if_false]
theorem rds_src {B : Nat} {w0 W : World} {Ps : Past} {σ : St} {S : Nat → Prop} {A : Addr} {xs : List Value} (h : RdS S W (some A) xs) (hp : (W, S) ∈ Ps) : ∀ w, HW B w0 Ps σ w → ∀ ad, some A = some ad → ∀ j u, xs[j]? = some u → w.cell? (ad.add j) = some u := fun w hw ad e j u hu => by
  cases e
  exact rd_at (hw.rdm h hp) j u hu
theorem flV_one (l : List Int) : ∀ u ∈ flV l, u.oneCell' = true := fun u hu => by
  obtain ⟨x, _, rfl⟩ := List.mem_map.1 hu
  rfl
theorem flV_len (l : List Int) : (flV l).length = l.length := by simp [flV]

end Go.Proofs.Ytedlaominconaaa
