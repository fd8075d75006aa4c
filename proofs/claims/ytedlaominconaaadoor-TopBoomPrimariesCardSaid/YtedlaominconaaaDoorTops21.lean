/- Floats of 64 bits, samples, names, pictures of the reference: short ones, own ones, equal ones. -/
import Derived.Test.YtedlaominconaaaDoorColour14
import Derived.Test.YtedlaominconaaaDoorColour16
import Derived.Test.YtedlaominconaaaDoorColour17
import Derived.Test.YtedlaominconaaaDoorEng4
import Derived.Test.YtedlaominconaaaDoorEng3
namespace Go.Proofs.YtedlaominconaaaDoor
open Go.E Go.RowKit Go.Fl
attribute [local irreducible] G C S D DY DS V VT Yl QV QT Calls
set_option maxRecDepth 100000
set_option linter.unusedSimpArgs false
set_option linter.unusedVariables false

open Ieee
theorem ext_floor : extOk Tryd.prog 80 (Extern.MathFloor.toIntegral "math.archFloor" .down) := ⟨Tryd.f80, Tryd.func80, by kernel_rfl, by kernel_rfl, by kernel_rfl, by kernel_rfl⟩
theorem ext_bits : extOk Tryd.prog 83 Extern.MathFloatBits.float64bits := ⟨Tryd.f83, Tryd.func83, by kernel_rfl, by kernel_rfl, by kernel_rfl, by kernel_rfl⟩
theorem ext_from : extOk Tryd.prog 82 Extern.MathFloatBits.float64frombits := ⟨Tryd.f82, Tryd.func82, by kernel_rfl, by kernel_rfl, by kernel_rfl, by kernel_rfl⟩
theorem and_not (r : Nat) (hr : r < 2 ^ 64) (t : TypeId) (x y : Operand) {P : Program} (w : World) : (do eqGuard .andNot t x y (.int .u64 (r : Int)) (.int .u64 9223372036854775808); binOp .andNot t (.int .u64 (r : Int)) (.int .u64 9223372036854775808) : Sem Value).run P w = .ok (.int .u64 ((r % 2 ^ 63 : Nat) : Int)) w := by
  have h1 : r % 2 ^ 63 = r &&& (18446744073709551615 - 9223372036854775808) := by
    rw [← Nat.and_two_pow_sub_one_eq_mod]
  have h2 : IntKind.u64.wrap ((BitVec.ofInt 64 (r : Int) &&& ~~~BitVec.ofInt 64 9223372036854775808).toNat : Int) = ((r &&& (18446744073709551615 - 9223372036854775808) : Nat) : Int) := u64_andNot_nat r 9223372036854775808 (by omega) (by omega)
  have h3 : (eqGuard .andNot t x y (.int .u64 (r : Int)) (.int .u64 9223372036854775808)).run P w = .ok () w := eqGuard_int .andNot t x y .u64 .u64 _ _
  simp only [Sem.run_bind, h3, Result.andThen_ok]
  simp only [binOp_andNot, Op.intBits]
  rw [h1]
  show (Result.ok (Value.int .u64 _) w : Result Value) = _
  congr 2
theorem mulr {a b : Nat} (k : Nat) (h : a ≤ b) : a * k ≤ b * k := Nat.mul_le_mul_right k h
theorem pow_bd {k K a b : Nat} (hk : k ≤ K) (h : a ≤ b) : k * 2 ^ a ≤ K * 2 ^ b := Nat.mul_le_mul hk (Nat.pow_le_pow_right (by omega) h)
theorem pow_bd2 {k q a b c : Nat} (hk : k ≤ 2 ^ q) (h : a ≤ b) (hc : c = q + b) : k * 2 ^ a ≤ 2 ^ c := by
  subst hc
  rw [Nat.pow_add]
  exact pow_bd hk h
theorem pw_add (a b c : Nat) (h : c = a + b) : ((2 ^ c : Nat) : Int) = ((2 ^ a : Nat) : Int) * ((2 ^ b : Nat) : Int) := by
  subst h
  rw [Nat.pow_add, Int.natCast_mul]
theorem pw_two (a b c d : Nat) (h : a + b = c + d) : 2 ^ a * 2 ^ b = 2 ^ c * 2 ^ d := by rw [← Nat.pow_add, ← Nat.pow_add, h]
theorem pow64 : (Ieee.double.signWeight) = 2 ^ 63 := by decide
/-- The sign of a word, taken off. -/
theorem read_abs {r : Nat} : double.read (r % 2 ^ 63) = match double.read r with | .number _ m e => .number false m e | .infinity _ => .infinity false | .nan _ t => .nan false t := by
  unfold Format.read
  rw [pow64]
  dsimp only
  rw [Nat.mod_mod, Nat.div_eq_of_lt (Nat.mod_lt _ (by omega))]
  split
  · rfl
  · split
    · rfl
    · split <;> rfl
theorem fmax : Fin double 9218868437227405311 ∧ Un double (-1074) 9218868437227405311 = (((2 ^ 53 - 1) * 2 ^ 2045 : Nat) : Int) := ⟨⟨_, _, _, rfl⟩, by decide +kernel⟩
theorem inf_no {r : Nat} (h : Fin double r) : (FloatKind.f64.format.order (r % 2 ^ 63) 9218868437227405311 == some .gt) = false := by
  obtain ⟨s, k, last, h⟩ := h
  obtain ⟨h1, h2, h3, _⟩ := read_ok double_fm h
  have ha : double.read (r % 2 ^ 63) = .number false k last := by rw [read_abs, h]
  have : FloatKind.f64.format.order (r % 2 ^ 63) 9218868437227405311 = some (compare (Un double (-1074) (r % 2 ^ 63)) (Un double (-1074) 9218868437227405311)) := order_fin double_fm ⟨_, _, _, ha⟩ fmax.1
  rw [this, cmp_gt, decide_eq_false_iff_not, fmax.2]
  unfold Un
  rw [ha]
  dsimp only
  rw [signed_eq, if_neg (by simp)]
  have g1 := pow_bd (k := k) (K := 2 ^ 53 - 1) (a := (last - -1074).toNat) (b := 2045) (by omega) (by omega)
  exact Int.not_lt.2 (Int.ofNat_le.2 g1)
theorem inf_yes {r : Nat} {s : Bool} (h : double.read r = .infinity s) : (FloatKind.f64.format.order (r % 2 ^ 63) 9218868437227405311 == some .gt) = true := by
  have ha : double.read (r % 2 ^ 63) = .infinity false := by rw [read_abs, h]
  have hb : double.read 9218868437227405311 = .number false (2 ^ 53 - 1) 971 := by decide +kernel
  show (double.order (r % 2 ^ 63) 9218868437227405311 == some .gt) = true
  unfold Format.order
  rw [ha, hb]
  rfl
theorem self_fin {r : Nat} (h : Fin double r) : (FloatKind.f64.format.order r r != some .eq) = false := by
  have : FloatKind.f64.format.order r r = some (compare (Un double (-1074) r) (Un double (-1074) r)) := order_fin double_fm h h
  rw [this, cmp_ne]
  simp
theorem self_inf {r : Nat} {s : Bool} (h : double.read r = .infinity s) : (FloatKind.f64.format.order r r != some .eq) = false := by
  show (double.order r r != some .eq) = false
  unfold Format.order
  rw [h]
  cases s <;> rfl
theorem self_nan {r : Nat} (h : (double.read r).isNaN = true) : (FloatKind.f64.format.order r r != some .eq) = true := by
  have : FloatKind.f64.format.order r r = none := (order_nan (f := double) (b := r) h).1
  rw [this]
  rfl
/-- A finite number of 32 bits, as one of 64. -/
theorem conv_fin {b : Nat} (h : Fin32 b) : ∃ r, floatToFloatBits .f32 b .f64 = some r ∧ (∃ s k last, double.read r = .number s k last ∧ (last + (4 : Nat) - -1074).toNat + 2 < 2 ^ 11) ∧ Un double (-1074) r = B32 b * ((2 ^ 925 : Nat) : Int) := by
  obtain ⟨s, m, e, hb⟩ := h
  obtain ⟨h1, h2, h3, _⟩ := read_ok single_fm hb
  obtain ⟨k, last, _, g2, ⟨o1, o2, o3, o4⟩, g4⟩ := write_exact double_fm (s := s) (m := m) (d := 0) (e := e) (by omega) (by omega) (by omega)
  simp only [Nat.pow_zero, Nat.mul_one, Int.natCast_zero, Int.sub_zero] at g2
  have hd : FloatKind.f32.decode b = .number s m e := hb
  have hi : (FloatKind.f64.decode (FloatKind.f64.encode (.number s m e))).isInfinity = false := by
    show (double.read (double.nearest s m e)).isInfinity = false
    rw [g2]
    rfl
  refine ⟨double.nearest s m e, ?_, ⟨s, k, last, g2, ?_⟩, ?_⟩
  · unfold floatToFloatBits
    rw [if_neg (by decide), hd]
    dsimp only
    rw [hi]
    rfl
  · rcases o4 with o4 | o4
    · have e1 : 2 ^ 52 * 2 ^ (last - -1074).toNat ≤ k * 2 ^ (last - -1074).toNat := Nat.mul_le_mul_right _ o4
      have e2 := pow_bd2 (k := m) (q := 24) (a := (e - -1074).toNat) (b := 1178) (c := 1202) (by omega) (by omega) rfl
      rw [g4, ← Nat.pow_add] at e1
      have e3 := (Nat.pow_le_pow_iff_right (show 1 < 2 by omega)).1 (Nat.le_trans e1 e2)
      omega
    · omega
  · unfold Un
    rw [g2]
    dsimp only
    rw [signed_eq, g4, ← signed_eq, show (e - -1074).toNat = (e - -149).toNat + 925 by omega, signed_shift]
    unfold B32 Un
    rw [hb]
theorem conv_inf {b : Nat} {s : Bool} (h : single.read b = .infinity s) : ∃ r, floatToFloatBits .f32 b .f64 = some r ∧ double.read r = .infinity s ∧ r < 2 ^ 64 := by
  have hd : FloatKind.f32.decode b = .infinity s := h
  refine ⟨FloatKind.f64.encode (.infinity s), ?_, ?_, ?_⟩
  · unfold floatToFloatBits
    rw [if_neg (by decide), hd]
  · cases s <;> decide +kernel
  · cases s <;> decide +kernel
theorem fin_lt {b r : Nat} (h : floatToFloatBits .f32 b .f64 = some r) : r < 2 ^ 64 := by
  unfold floatToFloatBits at h
  rw [if_neg (by decide)] at h
  split at h
  · cases h
  · cases h
    exact double.write_lt _
  · split at h
    · cases h
    · cases h
      exact double.write_lt _
theorem cv_dbl {b r : Nat} (h : floatToFloatBits .f32 b .f64 = some r) (w : World) : (convert 33 125 (.float .f32 b)).run Tryd.prog w = .ok (.float .f64 r) w :=
  run_convert_float_float w _ _ .f32 .f64 b r (by rw [Tryd.underlying33]; rfl) Tryd.underlying125 h
theorem cv_nan {b : Nat} {s : Bool} {t : Nat} (h : single.read b = .nan s t) (w : World) : ∃ v, (∃ r, v = Value.float .f64 r ∧ (double.read r).isNaN = true) ∧ (convert 33 125 (.float .f32 b)).run Tryd.prog w = .ok v (drew w) := by
  have hd : FloatKind.f32.decode b = .nan s t := h
  refine ⟨.float .f64 ((Question.nanConv .f64 b).cut (w.tape w.drawn (.nanConv .f64 b))), ⟨_, rfl, nan64 _⟩, ?_⟩
  simp [convert, run_underlying Tryd.underlying33, run_underlying Tryd.underlying125, Conv.floatToFloat, hd, Question.forced]
theorem cv_int64 (n : Int) (w : World) : (convert 3 125 (.int .i64 n)).run Tryd.prog w = .ok (.float .f64 (floatOfInt .f64 n)) w := by
  simp [convert, run_underlying Tryd.underlying3, run_underlying Tryd.underlying125, Conv.intToFloat, floatOfInt]
theorem cv_hi (w : World) : (convert 3 125 (.int .i64 1024)).run Tryd.prog w = .ok (.float .f64 4652218415073722368) w := by
  rw [cv_int64, show floatOfInt .f64 1024 = 4652218415073722368 by decide +kernel]
theorem cv_lo (w : World) : (convert 3 125 (.int .i64 (0 - 1024))).run Tryd.prog w = .ok (.float .f64 13875590451928498176) w := by
  rw [cv_int64, show floatOfInt .f64 (0 - 1024) = 13875590451928498176 by decide +kernel]
theorem d1024 : Fin double 4652218415073722368 ∧ Un double (-1074) 4652218415073722368 = ((2 ^ 1084 : Nat) : Int) := ⟨⟨_, _, _, rfl⟩, by decide +kernel⟩
theorem dm1024 : Fin double 13875590451928498176 ∧ Un double (-1074) 13875590451928498176 = -((2 ^ 1084 : Nat) : Int) := ⟨⟨_, _, _, rfl⟩, by decide +kernel⟩
theorem e1084 : ((2 ^ 1084 : Nat) : Int) = (2 : Int) ^ 159 * ((2 ^ 925 : Nat) : Int) := by
  rw [show (2 : Int) ^ 159 = ((2 ^ 159 : Nat) : Int) by decide +kernel]
  exact pw_add 159 925 1084 rfl
theorem p925 : (0 : Int) < ((2 ^ 925 : Nat) : Int) := by have := Nat.two_pow_pos 925; omega
theorem d_gt {b r : Nat} (hr : Fin double r) (hu : Un double (-1074) r = B32 b * ((2 ^ 925 : Nat) : Int)) : (FloatKind.f64.format.order r 4652218415073722368 == some .gt) = decide (2 ^ 159 < B32 b) := by
  have : FloatKind.f64.format.order r 4652218415073722368 = some (compare (Un double (-1074) r) (Un double (-1074) 4652218415073722368)) := order_fin double_fm hr d1024.1
  rw [this, d1024.2, hu, e1084, compare_mul p925, cmp_gt]
theorem d_lt {b r : Nat} (hr : Fin double r) (hu : Un double (-1074) r = B32 b * ((2 ^ 925 : Nat) : Int)) : (FloatKind.f64.format.order r 13875590451928498176 == some .lt) = decide (B32 b < -2 ^ 159) := by
  have : FloatKind.f64.format.order r 13875590451928498176 = some (compare (Un double (-1074) r) (Un double (-1074) 13875590451928498176)) := order_fin double_fm hr dm1024.1
  rw [this, dm1024.2, hu, e1084, ← Int.neg_mul, compare_mul p925, cmp_lt]
theorem d16 : double.read 4625196817309499392 = .number false (2 ^ 52) ((4 : Nat) - (52 : Nat)) := by decide +kernel
/-- A number made whole, downwards: it stays what it is exactly if it is whole. -/
theorem floor_un {f : Format} {q : Nat} {L : Int} {top : Nat} (hf : Fm f q L top) (hL : L ≤ 0) (hU : (0 - L).toNat + 2 < 2 ^ top) {z B : Nat} (hz : Fin f z) (hB : B + 1 < 2 ^ (q + 1)) (hb : (Un f L z).natAbs ≤ B * 2 ^ (0 - L).toNat) :
    Fin f (f.write ((f.read z).integral .down)) ∧ (Un f L (f.write ((f.read z).integral .down)) = Un f L z ↔ ((2 ^ (0 - L).toNat : Nat) : Int) ∣ Un f L z) := by
  obtain ⟨s, m, e, hr⟩ := hz
  have he := (read_ok hf hr).2.1
  rw [hr]
  have hu : Un f L z = signed s m (e - L).toNat := by unfold Un; rw [hr]
  rw [hu] at hb ⊢
  show Fin f (f.nearest s (Toward.down.cut s (m <<< e.toNat) (-e).toNat) 0) ∧ (Un f L (f.nearest s (Toward.down.cut s (m <<< e.toNat) (-e).toNat) 0) = _ ↔ _)
  rw [cut_down, Nat.shiftLeft_eq]
  obtain ⟨d, hd⟩ : ∃ d, d = (-e).toNat := ⟨_, rfl⟩
  obtain ⟨p, hp⟩ : ∃ p, p = (0 - L).toNat := ⟨_, rfl⟩
  obtain ⟨n, hn⟩ : ∃ n, n = m * 2 ^ e.toNat := ⟨_, rfl⟩
  obtain ⟨c, hc⟩ : ∃ c, p = d + c := ⟨p - d, by omega⟩
  have hmi : m * 2 ^ (e - L).toNat = n * 2 ^ c := by
    rcases Int.le_total 0 e with h | h
    · rw [hn, show (e - L).toNat = e.toNat + c by omega, Nat.pow_add, Nat.mul_assoc]
    · rw [hn, show e.toNat = 0 by omega, Nat.pow_zero, Nat.mul_one, show (e - L).toNat = c by omega]
  rw [← hn, ← hd, ← hp]
  have hpd := Nat.two_pow_pos d
  have hpc := Nat.two_pow_pos c
  have hna : (signed s m (e - L).toNat).natAbs = n * 2 ^ c := by
    rw [signed_eq, hmi]
    split <;> omega
  rw [hna, ← hp, hc, Nat.pow_add, ← Nat.mul_assoc] at hb
  have hnB : n ≤ B * 2 ^ d := Nat.le_of_mul_le_mul_right hb hpc
  have hdiv : n / 2 ^ d ≤ B := by
    have := Nat.div_le_div_right (c := 2 ^ d) hnB
    rwa [Nat.mul_div_cancel _ hpd] at this
  obtain ⟨M, hM⟩ : ∃ M, M = n / 2 ^ d + (s && n % 2 ^ d != 0).toNat := ⟨_, rfl⟩
  have hMb : M ≤ B + 1 := by
    have : (s && n % 2 ^ d != 0).toNat ≤ 1 := Bool.toNat_le _
    omega
  rw [← hM]
  obtain ⟨g1, g2⟩ := write_un hf (s := s) (m := M) (d := 0) (e := 0) (by omega) hL hU
  simp only [Nat.pow_zero, Nat.mul_one, Int.natCast_zero, Int.sub_zero] at g1 g2
  refine ⟨g1, ?_⟩
  rw [g2, ← hp]
  have hdm := Nat.div_add_mod n (2 ^ d)
  have key : M * 2 ^ d = n ↔ n % 2 ^ d = 0 := by
    constructor
    · intro h
      rw [← h, Nat.mul_mod_left]
    · intro h
      rw [hM, h]
      simp
      rw [h] at hdm
      rw [Nat.mul_comm]
      omega
  have e1 : signed s M p = signed s m (e - L).toNat ↔ M * 2 ^ d = n := by
    simp only [signed_eq, hmi, hc]
    rw [Nat.pow_add, ← Nat.mul_assoc]
    constructor
    · intro h
      have : M * 2 ^ d * 2 ^ c = n * 2 ^ c := by split at h <;> omega
      exact Nat.eq_of_mul_eq_mul_right hpc this
    · intro h
      rw [h]
  have e2 : ((2 ^ p : Nat) : Int) ∣ signed s m (e - L).toNat ↔ n % 2 ^ d = 0 := by
    rw [← Int.natAbs_dvd_natAbs, hna, Int.natAbs_natCast, hc, Nat.pow_add, ← Nat.dvd_iff_mod_eq_zero]
    exact ⟨fun h => Nat.dvd_of_mul_dvd_mul_right hpc h, fun h => Nat.mul_dvd_mul_right h _⟩
  rw [e1, e2, key]
theorem lvl_dvd {b : Nat} : lvl b * 2 ^ 145 = B32 b ↔ (2 ^ 145 : Int) ∣ B32 b := by
  unfold lvl
  exact ⟨fun h => ⟨(B32 b).tdiv (2 ^ 145), by rw [Int.mul_comm]; exact h.symm⟩, fun h => Int.tdiv_mul_cancel h⟩
/-- Sixteen times a small number, and made whole. -/
theorem whole16 {b r : Nat} (hf : ∃ s k last, double.read r = .number s k last ∧ (last + (4 : Nat) - -1074).toNat + 2 < 2 ^ 11) (hu : Un double (-1074) r = B32 b * ((2 ^ 925 : Nat) : Int)) (h : -2 ^ 159 ≤ B32 b ∧ B32 b ≤ 2 ^ 159) :
    ∃ z, floatBits .mul .f64 4625196817309499392 r = some z ∧ Fin double z ∧ (FloatKind.f64.format.order z (double.write ((double.read z).integral .down)) != some .eq) = decide (¬ lvl b * 2 ^ 145 = B32 b) := by
  obtain ⟨s, k, last, hr, hl⟩ := hf
  obtain ⟨z, hz, hzf, hzu⟩ := mul_pow double_fm d16 hr hl
  refine ⟨z, hz, hzf, ?_⟩
  have e0 : ((0 : Int) - -1074).toNat = 1074 := by decide
  rw [hu] at hzu
  have e159 : (2 : Int) ^ 159 = ((2 ^ 159 : Nat) : Int) := by decide +kernel
  have hk : ((2 ^ 925 : Nat) : Int) * ((2 ^ 4 : Nat) : Int) = ((2 ^ 929 : Nat) : Int) := (pw_add 925 4 929 rfl).symm
  rw [Int.mul_assoc, hk] at hzu
  have hb : (Un double (-1074) z).natAbs ≤ 2 ^ 14 * 2 ^ ((0 : Int) - -1074).toNat := by
    rw [hzu, e0, Int.natAbs_mul, Int.natAbs_natCast, show (2 ^ 14 * 2 ^ 1074 : Nat) = 2 ^ 159 * 2 ^ 929 from pw_two 14 1074 159 929 rfl]
    have hq : (B32 b).natAbs ≤ 2 ^ 159 := by
      rw [e159] at h
      generalize (2 : Nat) ^ 159 = w at *
      omega
    have := mulr (2 ^ 929) hq
    exact this
  obtain ⟨w1, w2⟩ := floor_un double_fm (by omega) (by decide) hzf (B := 2 ^ 14) (by decide) hb
  have : FloatKind.f64.format.order z (double.write ((double.read z).integral .down)) = some (compare (Un double (-1074) z) (Un double (-1074) (double.write ((double.read z).integral .down)))) := order_fin double_fm hzf w1
  rw [this, cmp_ne]
  refine decide_eq_decide.2 (not_congr ?_)
  rw [eq_comm, w2, lvl_dvd, hzu, e0]
  have hp : ((2 ^ 929 : Nat) : Int) ≠ 0 := by have := Nat.two_pow_pos 929; omega
  have e145 : ((2 ^ 1074 : Nat) : Int) = (2 : Int) ^ 145 * ((2 ^ 929 : Nat) : Int) := by
    rw [show (2 : Int) ^ 145 = ((2 ^ 145 : Nat) : Int) by decide +kernel]
    exact pw_add 145 929 1074 rfl
  rw [e145]
  exact Int.mul_dvd_mul_iff_right hp
theorem run_down {z : Nat} (h : Fin double z) {P : Program} (w : World) : (Extern.MathFloor.toIntegral "math.archFloor" .down #[.float .f64 z]).run P w = .ok (.float .f64 (double.write ((double.read z).integral .down))) w := by
  obtain ⟨s, m, e, h⟩ := h
  have hd : FloatKind.f64.decode z = .number s m e := h
  conv => lhs; arg 2; whnf
  rw [hd, h]
  rfl

set_option maxHeartbeats 400000 in
/-- math.IsNaN -/
theorem isNaN_c (r : Nat) (v : Bool) (hv : (FloatKind.f64.format.order r r != some .eq) = v) (w : World) : Calls Tryd.prog 75 #[.float .f64 r] w fun r w' => r = .returned (.bool v) ∧ Below w.heap.size w w' := by
  refine calls_of (args := [.float .f64 r]) T_ok Tryd.func75 rfl Tryd.ntmps75 (Nat.le_of_ble_eq_true rfl) rfl ?_
  repeat' (first
 | (refine C_id ?_; first
 | refine C_seq ?_
 | refine C_region rfl ?_
 | refine C_ret0 ?_
 )
 | (refine S_id ?_; first
 | refine S_pure (binX_pure rfl obQ (fun w => fl_ne_to (k := .f64) hv _ _ _ w)) ?_
 | refine S_nil ?_
 | refine S_run rfl rfl obQ obQ ?_
 )
 | (refine G_id ?_; first
 | refine G_then ?_
 | refine G_ret rfl obQ (fun w hw => ⟨?_, hw.below⟩)
 )
 )
  rfl

set_option maxHeartbeats 400000 in
/-- math.Abs -/
theorem mAbs_c (x : Nat) (hr : x < 2 ^ 64) (w : World) : Calls Tryd.prog 79 #[.float .f64 x] w fun r w' => r = .returned (.float .f64 (x % 2 ^ 63)) ∧ Below w.heap.size w w' := by
  refine calls_of (args := [.float .f64 x]) T_ok Tryd.func79 rfl Tryd.ntmps79 (Nat.le_of_ble_eq_true rfl) rfl ?_
  repeat' (first
 | (refine C_id ?_; first
 | refine C_seq ?_
 | refine C_region rfl ?_
 | refine C_ret0 ?_
 )
 | (refine S_id ?_; first
 | refine S_ext (v := _) rfl obQ ext_bits (fun w => rfl) ?_
 | refine S_pure (binX_pure rfl obQ (fun w => and_not x hr _ _ _ w)) ?_
 | refine S_ext (v := .float .f64 (x % 2 ^ 63)) rfl obQ ext_from (fun w => rfl) ?_
 | refine S_nil ?_
 | refine S_run rfl rfl obQ obQ ?_
 )
 | (refine G_id ?_; first
 | refine G_then ?_
 | refine G_ret rfl obQ (fun w hw => ⟨?_, hw.below⟩)
 )
 )
  rfl

set_option maxHeartbeats 400000 in
/-- math.IsInf -/
theorem isInf_c (r : Nat) (hr : r < 2 ^ 64) (v : Bool) (hv : (FloatKind.f64.format.order (r % 2 ^ 63) 9218868437227405311 == some .gt) = v) (w : World) : Calls Tryd.prog 76 #[.float .f64 r, .int .i64 0] w fun r w' => r = .returned (.bool v) ∧ Below w.heap.size w w' := by
  refine calls_of (args := [.float .f64 r, .int .i64 0]) T_ok Tryd.func76 rfl Tryd.ntmps76 (Nat.le_of_ble_eq_true rfl) rfl ?_
  repeat' (first
 | (refine C_id ?_; first
 | refine C_seq ?_
 | refine C_region rfl ?_
 | refine C_block ?_
 | refine C_skip ?_
 | refine C_exit ?_
 | refine C_ret0 ?_
 | refine C_condT rfl obQ ?_
 | refine C_condF rfl obQ ?_
 | (refine C_cond rfl obQ (fun h => ?_) (fun h => ?_) <;> (try simp only [Bool.or_eq_true, Bool.and_eq_true, Bool.or_eq_false_iff, Bool.and_eq_false_iff, decide_eq_true_eq, decide_eq_false_iff_not, beq_iff_eq, bne_iff_ne, beq_eq_false_iff_ne, bne_eq_false_iff_eq, ne_eq, Decidable.not_not, List.cons.injEq, and_true, Bool.not_eq_true', Bool.not_eq_false', Int.not_lt, Int.not_le] at h))
 )
 | (refine S_id ?_; first
 | refine S_pure (binX_pure rfl obQ (fun w => fl_gt_to (k := .f64) hv _ _ _ w)) ?_
 | refine S_nil ?_
 | refine S_run rfl rfl obQ obQ ?_
 | refine S_one rfl obQ ?_
 | refine S_call (f := 79) rfl obQ (by kernel_rfl) (fun w hw => mAbs_c r hr w) ?_
 )
 | (refine G_id ?_; first
 | refine G_then ?_
 | refine G_block ?_
 | refine G_blockX ?_
 | refine G_blockN rfl ?_
 | refine G_blockR ?_
 | refine G_thenR ?_
 | refine G_thenX ?_
 | refine G_ret rfl obQ (fun w hw => ⟨?_, hw.below⟩)
 )
 )
  rfl

set_option maxHeartbeats 400000 in
/-- math.Floor -/
theorem mFloor_c (z : Nat) (hz : Fin double z) (w : World) : Calls Tryd.prog 77 #[.float .f64 z] w fun r w' => r = .returned (.float .f64 (double.write ((double.read z).integral .down))) ∧ Below w.heap.size w w' := by
  refine calls_of (args := [.float .f64 z]) T_ok Tryd.func77 rfl Tryd.ntmps77 (Nat.le_of_ble_eq_true rfl) rfl ?_
  repeat' (first
 | (refine C_id ?_; first
 | refine C_seq ?_
 | refine C_region rfl ?_
 | refine C_ret0 ?_
 | refine C_condT rfl obQ ?_
 )
 | (refine S_id ?_; first
 | refine S_ext (v := _) rfl obQ ext_floor (fun w => run_down hz w) ?_
 | refine S_nil ?_
 | refine S_run rfl rfl obQ obQ ?_
 )
 | (refine G_id ?_; first
 | refine G_then ?_
 | refine G_thenR ?_
 | refine G_ret rfl obQ (fun w hw => ⟨?_, hw.below⟩)
 )
 )
  rfl

set_option maxHeartbeats 1000000 in
/-- genlockref01.CheckPart -/
theorem rCheckPart_c (b : Nat) (w : World) : Calls Tryd.prog 62 #[.float .f32 b, .int .i64 1024] w fun r w' => r = .returned (.int .i64 (smpE b)) ∧ Below w.heap.size w w' := by
  refine calls_of (args := [.float .f32 b, .int .i64 1024]) T_ok Tryd.func62 rfl Tryd.ntmps62 (Nat.le_of_ble_eq_true rfl) rfl ?_
  cases hb : single.read b with
  | nan s t =>
    have hn : smpE b = 1 := smpE_not (fun ⟨_, _, _, h⟩ => by rw [hb] at h; cases h)
    repeat' (first
 | (refine C_id ?_; first
 | refine C_seq ?_
 | refine C_region rfl ?_
 | refine C_block ?_
 | refine C_skip ?_
 | refine C_exit ?_
 | refine C_ret0 ?_
 | refine C_condT rfl obQ ?_
 | refine C_condF rfl obQ ?_
 | (refine C_cond rfl obQ (fun h => ?_) (fun h => ?_) <;> (try simp only [Bool.or_eq_true, Bool.and_eq_true, Bool.or_eq_false_iff, Bool.and_eq_false_iff, decide_eq_true_eq, decide_eq_false_iff_not, beq_iff_eq, bne_iff_ne, beq_eq_false_iff_ne, bne_eq_false_iff_eq, ne_eq, Decidable.not_not, List.cons.injEq, and_true, Bool.not_eq_true', Bool.not_eq_false', Int.not_lt, Int.not_le] at h))
     )
 | (refine S_id ?_; first
 | refine S_unG rfl rfl rfl rfl ?_
 | refine S_offG (.v (.bool false)) rfl rfl rfl rfl rfl ?_
 | (refine S_askC rfl obQ (p := fun v => ∃ r, v = .float .f64 r ∧ (Ieee.double.read r).isNaN = true) (fun w => cv_nan hb w) (fun v hv => ?_); obtain ⟨r, rfl, hr⟩ := hv)
 | refine S_nil ?_
 | refine S_runN rfl rfl obQ obQ ?_
 | refine S_one rfl obQ ?_
 | refine S_call (f := 75) rfl obQ (by kernel_rfl) (fun w hw => isNaN_c _ _ (self_nan hr) w) ?_
 | refine S_call (f := 55) rfl obQ (by kernel_rfl) (fun w hw => rWhen_c _ _ w) ?_
     )
 | (refine G_id ?_; first
 | refine G_then ?_
 | refine G_block ?_
 | refine G_blockX ?_
 | refine G_blockN rfl ?_
 | refine G_blockR ?_
 | refine G_thenR ?_
 | refine G_thenX ?_
 | refine G_ret rfl obQ (fun w hw => ⟨?_, hw.below⟩)
     )
     )
    exact rI hn.symm
  | infinity s =>
    have hn : smpE b = 1 := smpE_not (fun ⟨_, _, _, h⟩ => by rw [hb] at h; cases h)
    obtain ⟨r, hc, hr, hlt⟩ := conv_inf hb
    repeat' (first
 | (refine C_id ?_; first
 | refine C_seq ?_
 | refine C_region rfl ?_
 | refine C_block ?_
 | refine C_skip ?_
 | refine C_exit ?_
 | refine C_ret0 ?_
 | refine C_condT rfl obQ ?_
 | refine C_condF rfl obQ ?_
 | (refine C_cond rfl obQ (fun h => ?_) (fun h => ?_) <;> (try simp only [Bool.or_eq_true, Bool.and_eq_true, Bool.or_eq_false_iff, Bool.and_eq_false_iff, decide_eq_true_eq, decide_eq_false_iff_not, beq_iff_eq, bne_iff_ne, beq_eq_false_iff_ne, bne_eq_false_iff_eq, ne_eq, Decidable.not_not, List.cons.injEq, and_true, Bool.not_eq_true', Bool.not_eq_false', Int.not_lt, Int.not_le] at h))
     )
 | (refine S_id ?_; first
 | refine S_unG rfl rfl rfl rfl ?_
 | refine S_offG (.v (.bool false)) rfl rfl rfl rfl rfl ?_
 | refine S_pure (convX_pure rfl obQ (fun w => cv_dbl hc w)) ?_
 | refine S_nil ?_
 | refine S_runN rfl rfl obQ obQ ?_
 | refine S_one rfl obQ ?_
 | refine S_call (f := 75) rfl obQ (by kernel_rfl) (fun w hw => isNaN_c _ _ (self_inf hr) w) ?_
 | refine S_call (f := 55) rfl obQ (by kernel_rfl) (fun w hw => rWhen_c _ _ w) ?_
 | refine S_call (f := 76) rfl obQ (by kernel_rfl) (fun w hw => isInf_c _ hlt _ (inf_yes hr) w) ?_
     )
 | (refine G_id ?_; first
 | refine G_then ?_
 | refine G_block ?_
 | refine G_blockX ?_
 | refine G_blockN rfl ?_
 | refine G_blockR ?_
 | refine G_thenR ?_
 | refine G_thenX ?_
 | refine G_ret rfl obQ (fun w hw => ⟨?_, hw.below⟩)
     )
     )
    exact rI hn.symm
  | number s m e =>
    have hf : Fin32 b := ⟨s, m, e, hb⟩
    obtain ⟨r, hc, hr, hu⟩ := conv_fin hf
    have hlt := fin_lt hc
    have hrf : Fin double r := by obtain ⟨s, k, last, h, _⟩ := hr; exact ⟨s, k, last, h⟩
    have hgt := d_gt hrf hu
    have hls := d_lt hrf hu
    by_cases h2 : 2 ^ 159 < B32 b
    · rw [decide_eq_true h2] at hgt
      repeat' (first
 | (refine C_id ?_; first
 | refine C_seq ?_
 | refine C_region rfl ?_
 | refine C_block ?_
 | refine C_skip ?_
 | refine C_exit ?_
 | refine C_ret0 ?_
 | refine C_condT rfl obQ ?_
 | refine C_condF rfl obQ ?_
 | (refine C_cond rfl obQ (fun h => ?_) (fun h => ?_) <;> (try simp only [Bool.or_eq_true, Bool.and_eq_true, Bool.or_eq_false_iff, Bool.and_eq_false_iff, decide_eq_true_eq, decide_eq_false_iff_not, beq_iff_eq, bne_iff_ne, beq_eq_false_iff_ne, bne_eq_false_iff_eq, ne_eq, Decidable.not_not, List.cons.injEq, and_true, Bool.not_eq_true', Bool.not_eq_false', Int.not_lt, Int.not_le] at h))
       )
 | (refine S_id ?_; first
 | refine S_unG rfl rfl rfl rfl ?_
 | refine S_offG (.v (.bool false)) rfl rfl rfl rfl rfl ?_
 | refine S_pure (convX_pure rfl obQ (fun w => cv_dbl hc w)) ?_
 | refine S_pure (convX_pure rfl obQ (fun w => cv_hi w)) ?_
 | refine S_pure (convX_pure rfl obQ (fun w => cv_lo w)) ?_
 | refine S_pure (binX_pure rfl obQ (fun w => fl_gt_to (k := .f64) hgt _ _ _ w)) ?_
 | refine S_nil ?_
 | refine S_runN rfl rfl obQ obQ ?_
 | refine S_one rfl obQ ?_
 | refine S_call (f := 75) rfl obQ (by kernel_rfl) (fun w hw => isNaN_c _ _ (self_fin hrf) w) ?_
 | refine S_call (f := 55) rfl obQ (by kernel_rfl) (fun w hw => rWhen_c _ _ w) ?_
 | refine S_call (f := 76) rfl obQ (by kernel_rfl) (fun w hw => isInf_c _ hlt _ (inf_no hrf) w) ?_
       )
 | (refine G_id ?_; first
 | refine G_then ?_
 | refine G_block ?_
 | refine G_blockX ?_
 | refine G_blockN rfl ?_
 | refine G_blockR ?_
 | refine G_thenR ?_
 | refine G_thenX ?_
 | refine G_ret rfl obQ (fun w hw => ⟨?_, hw.below⟩)
       )
       )
      exact rI (smpE_hi hf h2).symm
    · rw [decide_eq_false h2] at hgt
      by_cases h1 : B32 b < -2 ^ 159
      · rw [decide_eq_true h1] at hls
        repeat' (first
 | (refine C_id ?_; first
 | refine C_seq ?_
 | refine C_region rfl ?_
 | refine C_block ?_
 | refine C_skip ?_
 | refine C_exit ?_
 | refine C_ret0 ?_
 | refine C_condT rfl obQ ?_
 | refine C_condF rfl obQ ?_
 | (refine C_cond rfl obQ (fun h => ?_) (fun h => ?_) <;> (try simp only [Bool.or_eq_true, Bool.and_eq_true, Bool.or_eq_false_iff, Bool.and_eq_false_iff, decide_eq_true_eq, decide_eq_false_iff_not, beq_iff_eq, bne_iff_ne, beq_eq_false_iff_ne, bne_eq_false_iff_eq, ne_eq, Decidable.not_not, List.cons.injEq, and_true, Bool.not_eq_true', Bool.not_eq_false', Int.not_lt, Int.not_le] at h))
         )
 | (refine S_id ?_; first
 | refine S_unG rfl rfl rfl rfl ?_
 | refine S_offG (.v (.bool false)) rfl rfl rfl rfl rfl ?_
 | refine S_pure (convX_pure rfl obQ (fun w => cv_dbl hc w)) ?_
 | refine S_pure (convX_pure rfl obQ (fun w => cv_hi w)) ?_
 | refine S_pure (convX_pure rfl obQ (fun w => cv_lo w)) ?_
 | refine S_pure (binX_pure rfl obQ (fun w => fl_gt_to (k := .f64) hgt _ _ _ w)) ?_
 | refine S_pure (binX_pure rfl obQ (fun w => fl_lt_to (k := .f64) hls _ _ _ w)) ?_
 | refine S_nil ?_
 | refine S_runN rfl rfl obQ obQ ?_
 | refine S_one rfl obQ ?_
 | refine S_call (f := 75) rfl obQ (by kernel_rfl) (fun w hw => isNaN_c _ _ (self_fin hrf) w) ?_
 | refine S_call (f := 55) rfl obQ (by kernel_rfl) (fun w hw => rWhen_c _ _ w) ?_
 | refine S_call (f := 76) rfl obQ (by kernel_rfl) (fun w hw => isInf_c _ hlt _ (inf_no hrf) w) ?_
         )
 | (refine G_id ?_; first
 | refine G_then ?_
 | refine G_block ?_
 | refine G_blockX ?_
 | refine G_blockN rfl ?_
 | refine G_blockR ?_
 | refine G_thenR ?_
 | refine G_thenX ?_
 | refine G_ret rfl obQ (fun w hw => ⟨?_, hw.below⟩)
         )
         )
        exact rI (smpE_lo hf h1).symm
      · rw [decide_eq_false h1] at hls
        obtain ⟨z, hm, hzf, hne⟩ := whole16 hr hu (by omega)
        repeat' (first
 | (refine C_id ?_; first
 | refine C_seq ?_
 | refine C_region rfl ?_
 | refine C_block ?_
 | refine C_skip ?_
 | refine C_exit ?_
 | refine C_ret0 ?_
 | refine C_condT rfl obQ ?_
 | refine C_condF rfl obQ ?_
 | (refine C_cond rfl obQ (fun h => ?_) (fun h => ?_) <;> (try simp only [Bool.or_eq_true, Bool.and_eq_true, Bool.or_eq_false_iff, Bool.and_eq_false_iff, decide_eq_true_eq, decide_eq_false_iff_not, beq_iff_eq, bne_iff_ne, beq_eq_false_iff_ne, bne_eq_false_iff_eq, ne_eq, Decidable.not_not, List.cons.injEq, and_true, Bool.not_eq_true', Bool.not_eq_false', Int.not_lt, Int.not_le] at h))
         )
 | (refine S_id ?_; first
 | refine S_unG rfl rfl rfl rfl ?_
 | refine S_offG (.v (.bool false)) rfl rfl rfl rfl rfl ?_
 | refine S_pure (convX_pure rfl obQ (fun w => cv_dbl hc w)) ?_
 | refine S_pure (convX_pure rfl obQ (fun w => cv_hi w)) ?_
 | refine S_pure (convX_pure rfl obQ (fun w => cv_lo w)) ?_
 | refine S_pure (binX_pure rfl obQ (fun w => fl_gt_to (k := .f64) hgt _ _ _ w)) ?_
 | refine S_pure (binX_pure rfl obQ (fun w => fl_lt_to (k := .f64) hls _ _ _ w)) ?_
 | refine S_pure (binX_pure rfl obQ (fun w => fl_arith (op := .mul) (k := .f64) hm _ _ _ w)) ?_
 | refine S_pure (binX_pure rfl obQ (fun w => fl_ne_to (k := .f64) hne _ _ _ w)) ?_
 | refine S_nil ?_
 | refine S_runN rfl rfl obQ obQ ?_
 | refine S_one rfl obQ ?_
 | refine S_call (f := 75) rfl obQ (by kernel_rfl) (fun w hw => isNaN_c _ _ (self_fin hrf) w) ?_
 | refine S_call (f := 55) rfl obQ (by kernel_rfl) (fun w hw => rWhen_c _ _ w) ?_
 | refine S_call (f := 76) rfl obQ (by kernel_rfl) (fun w hw => isInf_c _ hlt _ (inf_no hrf) w) ?_
 | refine S_call (f := 77) rfl obQ (by kernel_rfl) (fun w hw => mFloor_c z hzf w) ?_
         )
 | (refine G_id ?_; first
 | refine G_then ?_
 | refine G_block ?_
 | refine G_blockX ?_
 | refine G_blockN rfl ?_
 | refine G_blockR ?_
 | refine G_thenR ?_
 | refine G_thenX ?_
 | refine G_ret rfl obQ (fun w hw => ⟨?_, hw.below⟩)
         )
         )
        exact rI (smpE_in hf h1 h2).symm

set_option maxHeartbeats 400000 in
/-- genlockref01.CheckSample -/
theorem rCheckSample_c (b : Nat) (w : World) : Calls Tryd.prog 39 #[.float .f32 b] w fun r w' => r = .returned (.int .i64 (smpE b)) ∧ Below w.heap.size w w' := by
  refine calls_of (args := [.float .f32 b]) T_ok Tryd.func39 rfl Tryd.ntmps39 (Nat.le_of_ble_eq_true rfl) rfl ?_
  repeat' (first
 | (refine C_id ?_; first
 | refine C_seq ?_
 | refine C_region rfl ?_
 | refine C_block ?_
 | refine C_skip ?_
 | refine C_exit ?_
 | refine C_ret0 ?_
 | refine C_condT rfl obQ ?_
 | refine C_condF rfl obQ ?_
 | (refine C_cond rfl obQ (fun h => ?_) (fun h => ?_) <;> (try simp only [Bool.or_eq_true, Bool.and_eq_true, Bool.or_eq_false_iff, Bool.and_eq_false_iff, decide_eq_true_eq, decide_eq_false_iff_not, beq_iff_eq, bne_iff_ne, beq_eq_false_iff_ne, bne_eq_false_iff_eq, ne_eq, Decidable.not_not, List.cons.injEq, and_true, Bool.not_eq_true', Bool.not_eq_false', Int.not_lt, Int.not_le] at h))
 )
 | (refine S_id ?_; first
 | refine S_nil ?_
 | refine S_run rfl rfl obQ obQ ?_
 | refine S_call (f := 62) rfl obQ (by kernel_rfl) (fun w hw => rCheckPart_c b w) ?_
 )
 | (refine G_id ?_; first
 | refine G_then ?_
 | refine G_block ?_
 | refine G_blockX ?_
 | refine G_blockN rfl ?_
 | refine G_blockR ?_
 | refine G_thenR ?_
 | refine G_thenX ?_
 | refine G_ret rfl obQ (fun w hw => ⟨?_, hw.below⟩)
 )
 )
  rfl

def letB (c : Nat) : Bool := (decide (65 ≤ (c : Int)) && decide ((c : Int) ≤ 90)) || (decide (97 ≤ (c : Int)) && decide ((c : Int) ≤ 122))
def digB (c : Nat) : Bool := decide (48 ≤ (c : Int)) && decide ((c : Int) ≤ 57)
theorem okB_0 (c : Nat) : okB 0 c = letB c := by
  unfold okB letB
  rw [Bool.eq_iff_iff]
  simp only [Bool.or_eq_true, Bool.and_eq_true, decide_eq_true_eq]
  omega
theorem okB_s {i c : Nat} (h : i ≠ 0) : okB i c = (letB c || (digB c || decide (c = 95))) := by
  unfold okB letB digB
  rw [Bool.eq_iff_iff]
  simp only [Bool.or_eq_true, Bool.and_eq_true, decide_eq_true_eq]
  omega
theorem idxB {X : Cx} {Ps : Past} {σ : St} {o : Oper} {t : TypeId} {s : ByteArray} {k : IntKind} {i : Int} {d : Nat} {ob : List Prop} (h : idxX X.N o σ = some (t, s, k, i, d, ob)) (hob : AllP ob) {ti : TI} (hl : Go.E.look X.T t = some ti) (hk : ti.k = .str) {j : Nat} (hj : i = (j : Int)) (hlt0 : j < s.size) : Pure X Ps σ o (.v (.int .u8 (byteAt s j))) d := by
  have e : byteAt s j = (s[j]'hlt0).toNat := by simp [byteAt, hlt0]
  rw [e]
  exact idxX_pure h hob hl hk hj hlt0

set_option maxHeartbeats 400000 in
/-- genlockref01.isLetter -/
theorem rLetter_c (c : Nat) (w : World) : Calls Tryd.prog 73 #[.int .u8 c] w fun r w' => r = .returned (.bool (letB c)) ∧ Below w.heap.size w w' := by
  refine calls_of (args := [.int .u8 c]) T_ok Tryd.func73 rfl Tryd.ntmps73 (Nat.le_of_ble_eq_true rfl) rfl ?_
  repeat' (first
 | (refine C_id ?_; first
 | refine C_seq ?_
 | refine C_region rfl ?_
 | refine C_block ?_
 | refine C_skip ?_
 | refine C_ret0 ?_
 | (refine C_cond rfl obQ (fun h => ?_) (fun h => ?_) <;> (try simp only [Bool.or_eq_true, Bool.and_eq_true, Bool.or_eq_false_iff, Bool.and_eq_false_iff, decide_eq_true_eq, decide_eq_false_iff_not, beq_iff_eq, bne_iff_ne, beq_eq_false_iff_ne, bne_eq_false_iff_eq, ne_eq, Decidable.not_not, List.cons.injEq, and_true, Bool.not_eq_true', Bool.not_eq_false', Int.not_lt, Int.not_le] at h))
 )
 | (refine S_id ?_; first
 | refine S_nil ?_
 | refine S_run rfl rfl obQ obQ ?_
 )
 | (refine G_id ?_; first
 | refine G_then ?_
 | refine G_thenR ?_
 | refine G_ret rfl obQ (fun w hw => ⟨?_, hw.below⟩)
 )
 )
  rfl

set_option maxHeartbeats 400000 in
/-- genlockref01.isDigit -/
theorem rDigit_c (c : Nat) (w : World) : Calls Tryd.prog 74 #[.int .u8 c] w fun r w' => r = .returned (.bool (digB c)) ∧ Below w.heap.size w w' := by
  refine calls_of (args := [.int .u8 c]) T_ok Tryd.func74 rfl Tryd.ntmps74 (Nat.le_of_ble_eq_true rfl) rfl ?_
  repeat' (first
 | (refine C_id ?_; first
 | refine C_seq ?_
 | refine C_region rfl ?_
 | refine C_block ?_
 | refine C_skip ?_
 | refine C_ret0 ?_
 | (refine C_cond rfl obQ (fun h => ?_) (fun h => ?_) <;> (try simp only [Bool.or_eq_true, Bool.and_eq_true, Bool.or_eq_false_iff, Bool.and_eq_false_iff, decide_eq_true_eq, decide_eq_false_iff_not, beq_iff_eq, bne_iff_ne, beq_eq_false_iff_ne, bne_eq_false_iff_eq, ne_eq, Decidable.not_not, List.cons.injEq, and_true, Bool.not_eq_true', Bool.not_eq_false', Int.not_lt, Int.not_le] at h))
 )
 | (refine S_id ?_; first
 | refine S_nil ?_
 | refine S_run rfl rfl obQ obQ ?_
 )
 | (refine G_id ?_; first
 | refine G_then ?_
 | refine G_thenR ?_
 | refine G_ret rfl obQ (fun w hw => ⟨?_, hw.below⟩)
 )
 )
  rfl

theorem rLetK_c {c : Nat} {b : Bool} (h : letB c = b) (w : World) : Calls Tryd.prog 73 #[.int .u8 c] w fun r w' => r = .returned (.bool b) ∧ Below w.heap.size w w' := by
  subst h
  exact rLetter_c c w
theorem rDigK_c {c : Nat} {b : Bool} (h : digB c = b) (w : World) : Calls Tryd.prog 74 #[.int .u8 c] w fun r w' => r = .returned (.bool b) ∧ Below w.heap.size w w' := by
  subst h
  exact rDigit_c c w

set_option maxHeartbeats 1000000 in
/-- genlockref01.IsName -/
theorem rIsName_c (s : ByteArray) (hs : s.size ≤ maxLen) (w : World) : Calls Tryd.prog 61 #[.string s] w fun r w' => r = .returned (.bool (isName s)) ∧ Below w.heap.size w w' := by
  refine calls_of (args := [.string s]) T_ok Tryd.func61 rfl Tryd.ntmps61 (Nat.le_of_ble_eq_true rfl) rfl ?_
  unfold maxLen at hs
  by_cases hz : s.size = 0
  · have hn : isName s = false := by simp [isName, hz]
    rw [hn]
    repeat' (first
 | (refine C_id ?_; first
 | refine C_seq ?_
 | refine C_region rfl ?_
 | refine C_exit ?_
 | refine C_ret0 ?_
 | refine C_condT rfl obQ ?_
 | (refine C_cond rfl obQ (fun h => ?_) (fun h => ?_) <;> (try simp only [Bool.or_eq_true, Bool.and_eq_true, Bool.or_eq_false_iff, Bool.and_eq_false_iff, decide_eq_true_eq, decide_eq_false_iff_not, beq_iff_eq, bne_iff_ne, beq_eq_false_iff_ne, bne_eq_false_iff_eq, ne_eq, Decidable.not_not, List.cons.injEq, and_true, Bool.not_eq_true', Bool.not_eq_false', Int.not_lt, Int.not_le] at h) <;> (try (exfalso; omega)))
     )
 | (refine S_id ?_; first
 | ((with_reducible (first | refine S_falseN ?_ ?_ | refine S_falseB ?_ ?_ | refine S_falseL ?_ ?_ | refine S_falseD ?_ ?_ | refine S_falseE ?_ ?_)); · (first | exact decide_eq_false (by omega) | (rw [beq_eq_false_iff_ne]; omega) | (rw [bne_eq_false_iff_eq]; omega) | rfl))
 | ((with_reducible (first | refine S_trueE ?_ ?_ | refine S_trueB ?_ ?_ | refine S_trueL ?_ ?_ | refine S_trueD ?_ ?_ | refine S_trueN ?_ ?_)); · (first | exact decide_eq_true (by omega) | (rw [beq_iff_eq]; omega) | (rw [bne_iff_ne]; omega)))
 | refine S_unG rfl rfl rfl rfl ?_
 | refine S_offG (.v (.bool false)) rfl rfl rfl rfl rfl ?_
 | ((with_reducible refine S_trueO ?_ ?_); · first | rfl | (simp only [Bool.or_eq_true, decide_eq_true_eq, beq_iff_eq, bne_iff_ne]; omega))
 | refine S_nil ?_
 | refine S_runN rfl rfl obQ obQ ?_
     )
 | (refine G_id ?_; first
 | refine G_then ?_
 | refine G_blockX ?_
 | refine G_thenR ?_
 | refine G_thenX ?_
 | refine G_ret rfl obQ (fun w2 hw => ⟨?_, hw.below⟩)
     )
     )
    all_goals rfl
  by_cases hz2 : 24 < s.size
  · have hn : isName s = false := by
      unfold isName
      rw [decide_eq_false (show ¬ s.size ≤ 24 by omega), Bool.and_false]
    rw [hn]
    repeat' (first
 | (refine C_id ?_; first
 | refine C_seq ?_
 | refine C_region rfl ?_
 | refine C_exit ?_
 | refine C_ret0 ?_
 | refine C_condT rfl obQ ?_
 | (refine C_cond rfl obQ (fun h => ?_) (fun h => ?_) <;> (try simp only [Bool.or_eq_true, Bool.and_eq_true, Bool.or_eq_false_iff, Bool.and_eq_false_iff, decide_eq_true_eq, decide_eq_false_iff_not, beq_iff_eq, bne_iff_ne, beq_eq_false_iff_ne, bne_eq_false_iff_eq, ne_eq, Decidable.not_not, List.cons.injEq, and_true, Bool.not_eq_true', Bool.not_eq_false', Int.not_lt, Int.not_le] at h) <;> (try (exfalso; omega)))
     )
 | (refine S_id ?_; first
 | ((with_reducible (first | refine S_falseN ?_ ?_ | refine S_falseB ?_ ?_ | refine S_falseL ?_ ?_ | refine S_falseD ?_ ?_ | refine S_falseE ?_ ?_)); · (first | exact decide_eq_false (by omega) | (rw [beq_eq_false_iff_ne]; omega) | (rw [bne_eq_false_iff_eq]; omega) | rfl))
 | ((with_reducible (first | refine S_trueE ?_ ?_ | refine S_trueB ?_ ?_ | refine S_trueL ?_ ?_ | refine S_trueD ?_ ?_ | refine S_trueN ?_ ?_)); · (first | exact decide_eq_true (by omega) | (rw [beq_iff_eq]; omega) | (rw [bne_iff_ne]; omega)))
 | refine S_unG rfl rfl rfl rfl ?_
 | refine S_offG (.v (.bool false)) rfl rfl rfl rfl rfl ?_
 | ((with_reducible refine S_trueO ?_ ?_); · first | rfl | (simp only [Bool.or_eq_true, decide_eq_true_eq, beq_iff_eq, bne_iff_ne]; omega))
 | refine S_nil ?_
 | refine S_runN rfl rfl obQ obQ ?_
     )
 | (refine G_id ?_; first
 | refine G_then ?_
 | refine G_blockX ?_
 | refine G_thenR ?_
 | refine G_thenX ?_
 | refine G_ret rfl obQ (fun w2 hw => ⟨?_, hw.below⟩)
     )
     )
    all_goals rfl
  cases hl : letB (byteAt s 0)
  · have hn : isName s = false := isName_no (k := 0) (by omega) (by rw [okB_0]; exact hl)
    rw [hn]
    repeat' (first
 | (refine C_id ?_; first
 | refine C_seq ?_
 | refine C_region rfl ?_
 | refine C_block ?_
 | refine C_skip ?_
 | refine C_exit ?_
 | refine C_ret0 ?_
 | refine C_condT rfl obQ ?_
 | refine C_condF rfl obQ ?_
 | (refine C_cond rfl obQ (fun h => ?_) (fun h => ?_) <;> (try simp only [Bool.or_eq_true, Bool.and_eq_true, Bool.or_eq_false_iff, Bool.and_eq_false_iff, decide_eq_true_eq, decide_eq_false_iff_not, beq_iff_eq, bne_iff_ne, beq_eq_false_iff_ne, bne_eq_false_iff_eq, ne_eq, Decidable.not_not, List.cons.injEq, and_true, Bool.not_eq_true', Bool.not_eq_false', Int.not_lt, Int.not_le] at h) <;> (try (exfalso; omega)))
     )
 | (refine S_id ?_; first
 | ((with_reducible (first | refine S_falseN ?_ ?_ | refine S_falseB ?_ ?_ | refine S_falseL ?_ ?_ | refine S_falseD ?_ ?_ | refine S_falseE ?_ ?_)); · (first | exact decide_eq_false (by omega) | (rw [beq_eq_false_iff_ne]; omega) | (rw [bne_eq_false_iff_eq]; omega) | rfl))
 | ((with_reducible refine S_falseO ?_ ?_ ?_); (· rfl); (· first | rfl | (first | exact decide_eq_false (by omega) | (rw [beq_eq_false_iff_ne]; omega) | (rw [bne_eq_false_iff_eq]; omega) | rfl)))
 | ((with_reducible (first | refine S_trueE ?_ ?_ | refine S_trueB ?_ ?_ | refine S_trueL ?_ ?_ | refine S_trueD ?_ ?_ | refine S_trueN ?_ ?_)); · (first | exact decide_eq_true (by omega) | (rw [beq_iff_eq]; omega) | (rw [bne_iff_ne]; omega)))
 | ((with_reducible refine S_trueA ?_ ?_ ?_); (· rfl); (· first | rfl | (first | exact decide_eq_true (by omega) | (rw [beq_iff_eq]; omega) | (rw [bne_iff_ne]; omega))))
 | refine S_unG rfl rfl rfl rfl ?_
 | refine S_offG (.v (.bool false)) rfl rfl rfl rfl rfl ?_
 | ((with_reducible refine S_notV ?_ ?_); · rfl)
 | ((with_reducible refine S_falseA ?_ ?_); · first | rfl | (simp only [Bool.and_eq_false_iff, decide_eq_false_iff_not, beq_eq_false_iff_ne, bne_eq_false_iff_eq]; omega))
 | ((with_reducible refine S_trueO ?_ ?_); · first | rfl | (simp only [Bool.or_eq_true, decide_eq_true_eq, beq_iff_eq, bne_iff_ne]; omega))
 | refine S_pure (idxB (j := 0) rfl obQ rfl rfl rfl (by omega)) ?_
 | refine S_nil ?_
 | refine S_runN rfl rfl obQ obQ ?_
 | refine S_call (f := 73) rfl obQ (by kernel_rfl) (fun w hw => rLetK_c hl w) ?_
     )
 | (refine G_id ?_; first
 | refine G_then ?_
 | refine G_block ?_
 | refine G_blockX ?_
 | refine G_blockN rfl ?_
 | refine G_blockR ?_
 | refine G_thenR ?_
 | refine G_thenX ?_
 | refine G_ret rfl obQ (fun w2 hw => ⟨?_, hw.below⟩)
     )
     )
    all_goals rfl
  · repeat' (first
 | (refine C_id ?_; first
 | refine C_seq ?_
 | refine C_region rfl ?_
 | refine C_block ?_
 | refine C_skip ?_
 | refine C_exit ?_
 | refine C_ret0 ?_
 | refine C_condT rfl obQ ?_
 | refine C_condF rfl obQ ?_
 | (refine C_cond rfl obQ (fun h => ?_) (fun h => ?_) <;> (try simp only [Bool.or_eq_true, Bool.and_eq_true, Bool.or_eq_false_iff, Bool.and_eq_false_iff, decide_eq_true_eq, decide_eq_false_iff_not, beq_iff_eq, bne_iff_ne, beq_eq_false_iff_ne, bne_eq_false_iff_eq, ne_eq, Decidable.not_not, List.cons.injEq, and_true, Bool.not_eq_true', Bool.not_eq_false', Int.not_lt, Int.not_le] at h) <;> (try (exfalso; omega)))
     )
 | (refine S_id ?_; first
 | ((with_reducible (first | refine S_falseN ?_ ?_ | refine S_falseB ?_ ?_ | refine S_falseL ?_ ?_ | refine S_falseD ?_ ?_ | refine S_falseE ?_ ?_)); · (first | exact decide_eq_false (by omega) | (rw [beq_eq_false_iff_ne]; omega) | (rw [bne_eq_false_iff_eq]; omega) | rfl))
 | ((with_reducible refine S_falseO ?_ ?_ ?_); (· rfl); (· first | rfl | (first | exact decide_eq_false (by omega) | (rw [beq_eq_false_iff_ne]; omega) | (rw [bne_eq_false_iff_eq]; omega) | rfl)))
 | ((with_reducible (first | refine S_trueE ?_ ?_ | refine S_trueB ?_ ?_ | refine S_trueL ?_ ?_ | refine S_trueD ?_ ?_ | refine S_trueN ?_ ?_)); · (first | exact decide_eq_true (by omega) | (rw [beq_iff_eq]; omega) | (rw [bne_iff_ne]; omega)))
 | ((with_reducible refine S_trueA ?_ ?_ ?_); (· rfl); (· first | rfl | (first | exact decide_eq_true (by omega) | (rw [beq_iff_eq]; omega) | (rw [bne_iff_ne]; omega))))
 | refine S_unG rfl rfl rfl rfl ?_
 | refine S_offG (.v (.bool false)) rfl rfl rfl rfl rfl ?_
 | ((with_reducible refine S_notV ?_ ?_); · rfl)
 | ((with_reducible refine S_falseA ?_ ?_); · first | rfl | (simp only [Bool.and_eq_false_iff, decide_eq_false_iff_not, beq_eq_false_iff_ne, bne_eq_false_iff_eq]; omega))
 | ((with_reducible refine S_trueO ?_ ?_); · first | rfl | (simp only [Bool.or_eq_true, decide_eq_true_eq, beq_iff_eq, bne_iff_ne]; omega))
 | refine S_pure (idxB (j := 0) rfl obQ rfl rfl rfl (by omega)) ?_
 | refine S_nil ?_
 | refine S_runN rfl rfl obQ obQ ?_
 | refine S_call (f := 73) rfl obQ (by kernel_rfl) (fun w hw => rLetK_c hl w) ?_
     )
 | (refine G_id ?_; first
 | refine G_then ?_
 | refine G_block ?_
 | refine G_blockX ?_
 | refine G_blockN rfl ?_
 | refine G_blockR ?_
 | refine G_thenR ?_
 | refine G_thenX ?_
 | refine G_ret rfl obQ (fun w2 hw => ⟨?_, hw.below⟩)
     )
     )
    refine C_loopS (fun k : Nat => ⟨[(3, .s (.v (.int .i64 k))), (0, .s (.v (.string s)))], [], []⟩) (fun k => 1 ≤ k ∧ k ≤ s.size ∧ ∀ i, i < k → okB i (byteAt s i) = true) (fun k => s.size - k) 1 ⟨Nat.le_refl _, by omega, fun i hi => by obtain rfl : i = 0 := (by omega); rw [okB_0]; exact hl⟩ ?_ (fun k hk => ?_)
    · exact ⟨⟨_, rfl, obQ⟩, ⟨_, rfl⟩, rfl, pstQ⟩
    obtain ⟨hk1, hk2, hk3⟩ := hk
    dsimp only
    by_cases hlt : k < s.size
    · have hgo : okB k (byteAt s k) = true → 1 ≤ k + 1 ∧ k + 1 ≤ s.size ∧ ∀ i, i < k + 1 → okB i (byteAt s i) = true := fun h => ⟨by omega, by omega, fun i hi => by
        by_cases hik : i < k
        · exact hk3 i hik
        · obtain rfl : i = k := by omega
          exact h⟩
      have hok := okB_s (i := k) (c := byteAt s k) (by omega)
      cases h1 : letB (byteAt s k)
      · cases h2 : digB (byteAt s k)
        · by_cases h3 : byteAt s k = 95
          · have hg := hgo (by rw [hok, h1, h2, decide_eq_true h3]; rfl)
            repeat' (first
 | (refine C_id ?_; first
 | refine C_seq ?_
 | refine C_region rfl ?_
 | refine C_block ?_
 | refine C_skip ?_
 | refine C_exit ?_
 | refine C_ret0 ?_
 | refine C_condT rfl obQ ?_
 | refine C_condF rfl obQ ?_
 | (refine C_cond rfl obQ (fun h => ?_) (fun h => ?_) <;> (try simp only [Bool.or_eq_true, Bool.and_eq_true, Bool.or_eq_false_iff, Bool.and_eq_false_iff, decide_eq_true_eq, decide_eq_false_iff_not, beq_iff_eq, bne_iff_ne, beq_eq_false_iff_ne, bne_eq_false_iff_eq, ne_eq, Decidable.not_not, List.cons.injEq, and_true, Bool.not_eq_true', Bool.not_eq_false', Int.not_lt, Int.not_le] at h) <;> (try (exfalso; omega)))
             )
 | (refine S_id ?_; first
 | ((with_reducible (first | refine S_falseN ?_ ?_ | refine S_falseB ?_ ?_ | refine S_falseL ?_ ?_ | refine S_falseD ?_ ?_ | refine S_falseE ?_ ?_)); · (first | exact decide_eq_false (by omega) | (rw [beq_eq_false_iff_ne]; omega) | (rw [bne_eq_false_iff_eq]; omega) | rfl))
 | ((with_reducible refine S_falseO ?_ ?_ ?_); (· rfl); (· first | rfl | (first | exact decide_eq_false (by omega) | (rw [beq_eq_false_iff_ne]; omega) | (rw [bne_eq_false_iff_eq]; omega) | rfl)))
 | ((with_reducible (first | refine S_trueE ?_ ?_ | refine S_trueB ?_ ?_ | refine S_trueL ?_ ?_ | refine S_trueD ?_ ?_ | refine S_trueN ?_ ?_)); · (first | exact decide_eq_true (by omega) | (rw [beq_iff_eq]; omega) | (rw [bne_iff_ne]; omega)))
 | ((with_reducible refine S_trueA ?_ ?_ ?_); (· rfl); (· first | rfl | (first | exact decide_eq_true (by omega) | (rw [beq_iff_eq]; omega) | (rw [bne_iff_ne]; omega))))
 | refine S_unG rfl rfl rfl rfl ?_
 | refine S_offG (.v (.bool false)) rfl rfl rfl rfl rfl ?_
 | ((with_reducible refine S_notV ?_ ?_); · rfl)
 | ((with_reducible refine S_falseA ?_ ?_); · first | rfl | (simp only [Bool.and_eq_false_iff, decide_eq_false_iff_not, beq_eq_false_iff_ne, bne_eq_false_iff_eq]; omega))
 | ((with_reducible refine S_trueO ?_ ?_); · first | rfl | (simp only [Bool.or_eq_true, decide_eq_true_eq, beq_iff_eq, bne_iff_ne]; omega))
 | refine S_pure (idxB (j := k) rfl obQ rfl rfl rfl hlt) ?_
 | refine S_nil ?_
 | refine S_runN rfl rfl obQ obQ ?_
 | refine S_call (f := 73) rfl obQ (by kernel_rfl) (fun w hw => rLetK_c h1 w) ?_
 | refine S_call (f := 74) rfl obQ (by kernel_rfl) (fun w hw => rDigK_c h2 w) ?_
             )
 | (refine G_id ?_; first
 | refine G_loop (k + 1) hg (by show s.size - (k + 1) < s.size - k; omega) ⟨⟨_, rfl, obQ⟩, ⟨_, rfl⟩, rfl, pstQ⟩
 | refine G_then ?_
 | refine G_block ?_
 | refine G_blockX ?_
 | refine G_blockN rfl ?_
 | refine G_blockR ?_
 | refine G_thenR ?_
 | refine G_thenX ?_
             )
             )
          · have hn : isName s = false := isName_no hlt (by rw [hok, h1, h2, decide_eq_false h3]; rfl)
            rw [hn]
            repeat' (first
 | (refine C_id ?_; first
 | refine C_seq ?_
 | refine C_region rfl ?_
 | refine C_block ?_
 | refine C_skip ?_
 | refine C_exit ?_
 | refine C_ret0 ?_
 | refine C_condT rfl obQ ?_
 | refine C_condF rfl obQ ?_
 | (refine C_cond rfl obQ (fun h => ?_) (fun h => ?_) <;> (try simp only [Bool.or_eq_true, Bool.and_eq_true, Bool.or_eq_false_iff, Bool.and_eq_false_iff, decide_eq_true_eq, decide_eq_false_iff_not, beq_iff_eq, bne_iff_ne, beq_eq_false_iff_ne, bne_eq_false_iff_eq, ne_eq, Decidable.not_not, List.cons.injEq, and_true, Bool.not_eq_true', Bool.not_eq_false', Int.not_lt, Int.not_le] at h) <;> (try (exfalso; omega)))
             )
 | (refine S_id ?_; first
 | ((with_reducible (first | refine S_falseN ?_ ?_ | refine S_falseB ?_ ?_ | refine S_falseL ?_ ?_ | refine S_falseD ?_ ?_ | refine S_falseE ?_ ?_)); · (first | exact decide_eq_false (by omega) | (rw [beq_eq_false_iff_ne]; omega) | (rw [bne_eq_false_iff_eq]; omega) | rfl))
 | ((with_reducible refine S_falseO ?_ ?_ ?_); (· rfl); (· first | rfl | (first | exact decide_eq_false (by omega) | (rw [beq_eq_false_iff_ne]; omega) | (rw [bne_eq_false_iff_eq]; omega) | rfl)))
 | ((with_reducible (first | refine S_trueE ?_ ?_ | refine S_trueB ?_ ?_ | refine S_trueL ?_ ?_ | refine S_trueD ?_ ?_ | refine S_trueN ?_ ?_)); · (first | exact decide_eq_true (by omega) | (rw [beq_iff_eq]; omega) | (rw [bne_iff_ne]; omega)))
 | ((with_reducible refine S_trueA ?_ ?_ ?_); (· rfl); (· first | rfl | (first | exact decide_eq_true (by omega) | (rw [beq_iff_eq]; omega) | (rw [bne_iff_ne]; omega))))
 | refine S_unG rfl rfl rfl rfl ?_
 | refine S_offG (.v (.bool false)) rfl rfl rfl rfl rfl ?_
 | ((with_reducible refine S_notV ?_ ?_); · rfl)
 | ((with_reducible refine S_falseA ?_ ?_); · first | rfl | (simp only [Bool.and_eq_false_iff, decide_eq_false_iff_not, beq_eq_false_iff_ne, bne_eq_false_iff_eq]; omega))
 | ((with_reducible refine S_trueO ?_ ?_); · first | rfl | (simp only [Bool.or_eq_true, decide_eq_true_eq, beq_iff_eq, bne_iff_ne]; omega))
 | refine S_pure (idxB (j := k) rfl obQ rfl rfl rfl hlt) ?_
 | refine S_nil ?_
 | refine S_runN rfl rfl obQ obQ ?_
 | refine S_call (f := 73) rfl obQ (by kernel_rfl) (fun w hw => rLetK_c h1 w) ?_
 | refine S_call (f := 74) rfl obQ (by kernel_rfl) (fun w hw => rDigK_c h2 w) ?_
             )
 | (refine G_id ?_; first
 | refine G_then ?_
 | refine G_block ?_
 | refine G_blockX ?_
 | refine G_blockN rfl ?_
 | refine G_blockR ?_
 | refine G_thenR ?_
 | refine G_thenX ?_
 | refine G_ret rfl obQ (fun w2 hw => ⟨?_, hw.below⟩)
             )
             )
            all_goals rfl
        · have hg := hgo (by rw [hok, h1, h2]; rfl)
          repeat' (first
 | (refine C_id ?_; first
 | refine C_seq ?_
 | refine C_region rfl ?_
 | refine C_block ?_
 | refine C_skip ?_
 | refine C_exit ?_
 | refine C_ret0 ?_
 | refine C_condT rfl obQ ?_
 | refine C_condF rfl obQ ?_
 | (refine C_cond rfl obQ (fun h => ?_) (fun h => ?_) <;> (try simp only [Bool.or_eq_true, Bool.and_eq_true, Bool.or_eq_false_iff, Bool.and_eq_false_iff, decide_eq_true_eq, decide_eq_false_iff_not, beq_iff_eq, bne_iff_ne, beq_eq_false_iff_ne, bne_eq_false_iff_eq, ne_eq, Decidable.not_not, List.cons.injEq, and_true, Bool.not_eq_true', Bool.not_eq_false', Int.not_lt, Int.not_le] at h) <;> (try (exfalso; omega)))
           )
 | (refine S_id ?_; first
 | ((with_reducible (first | refine S_falseN ?_ ?_ | refine S_falseB ?_ ?_ | refine S_falseL ?_ ?_ | refine S_falseD ?_ ?_ | refine S_falseE ?_ ?_)); · (first | exact decide_eq_false (by omega) | (rw [beq_eq_false_iff_ne]; omega) | (rw [bne_eq_false_iff_eq]; omega) | rfl))
 | ((with_reducible refine S_falseO ?_ ?_ ?_); (· rfl); (· first | rfl | (first | exact decide_eq_false (by omega) | (rw [beq_eq_false_iff_ne]; omega) | (rw [bne_eq_false_iff_eq]; omega) | rfl)))
 | ((with_reducible (first | refine S_trueE ?_ ?_ | refine S_trueB ?_ ?_ | refine S_trueL ?_ ?_ | refine S_trueD ?_ ?_ | refine S_trueN ?_ ?_)); · (first | exact decide_eq_true (by omega) | (rw [beq_iff_eq]; omega) | (rw [bne_iff_ne]; omega)))
 | ((with_reducible refine S_trueA ?_ ?_ ?_); (· rfl); (· first | rfl | (first | exact decide_eq_true (by omega) | (rw [beq_iff_eq]; omega) | (rw [bne_iff_ne]; omega))))
 | refine S_unG rfl rfl rfl rfl ?_
 | refine S_offG (.v (.bool false)) rfl rfl rfl rfl rfl ?_
 | ((with_reducible refine S_notV ?_ ?_); · rfl)
 | ((with_reducible refine S_falseA ?_ ?_); · first | rfl | (simp only [Bool.and_eq_false_iff, decide_eq_false_iff_not, beq_eq_false_iff_ne, bne_eq_false_iff_eq]; omega))
 | ((with_reducible refine S_trueO ?_ ?_); · first | rfl | (simp only [Bool.or_eq_true, decide_eq_true_eq, beq_iff_eq, bne_iff_ne]; omega))
 | refine S_pure (idxB (j := k) rfl obQ rfl rfl rfl hlt) ?_
 | refine S_nil ?_
 | refine S_runN rfl rfl obQ obQ ?_
 | refine S_call (f := 73) rfl obQ (by kernel_rfl) (fun w hw => rLetK_c h1 w) ?_
 | refine S_call (f := 74) rfl obQ (by kernel_rfl) (fun w hw => rDigK_c h2 w) ?_
           )
 | (refine G_id ?_; first
 | refine G_loop (k + 1) hg (by show s.size - (k + 1) < s.size - k; omega) ⟨⟨_, rfl, obQ⟩, ⟨_, rfl⟩, rfl, pstQ⟩
 | refine G_then ?_
 | refine G_block ?_
 | refine G_blockX ?_
 | refine G_blockN rfl ?_
 | refine G_blockR ?_
 | refine G_thenR ?_
 | refine G_thenX ?_
           )
           )
      · have hg := hgo (by rw [hok, h1]; rfl)
        repeat' (first
 | (refine C_id ?_; first
 | refine C_seq ?_
 | refine C_region rfl ?_
 | refine C_block ?_
 | refine C_skip ?_
 | refine C_exit ?_
 | refine C_ret0 ?_
 | refine C_condT rfl obQ ?_
 | refine C_condF rfl obQ ?_
 | (refine C_cond rfl obQ (fun h => ?_) (fun h => ?_) <;> (try simp only [Bool.or_eq_true, Bool.and_eq_true, Bool.or_eq_false_iff, Bool.and_eq_false_iff, decide_eq_true_eq, decide_eq_false_iff_not, beq_iff_eq, bne_iff_ne, beq_eq_false_iff_ne, bne_eq_false_iff_eq, ne_eq, Decidable.not_not, List.cons.injEq, and_true, Bool.not_eq_true', Bool.not_eq_false', Int.not_lt, Int.not_le] at h) <;> (try (exfalso; omega)))
         )
 | (refine S_id ?_; first
 | ((with_reducible (first | refine S_falseN ?_ ?_ | refine S_falseB ?_ ?_ | refine S_falseL ?_ ?_ | refine S_falseD ?_ ?_ | refine S_falseE ?_ ?_)); · (first | exact decide_eq_false (by omega) | (rw [beq_eq_false_iff_ne]; omega) | (rw [bne_eq_false_iff_eq]; omega) | rfl))
 | ((with_reducible refine S_falseO ?_ ?_ ?_); (· rfl); (· first | rfl | (first | exact decide_eq_false (by omega) | (rw [beq_eq_false_iff_ne]; omega) | (rw [bne_eq_false_iff_eq]; omega) | rfl)))
 | ((with_reducible (first | refine S_trueE ?_ ?_ | refine S_trueB ?_ ?_ | refine S_trueL ?_ ?_ | refine S_trueD ?_ ?_ | refine S_trueN ?_ ?_)); · (first | exact decide_eq_true (by omega) | (rw [beq_iff_eq]; omega) | (rw [bne_iff_ne]; omega)))
 | ((with_reducible refine S_trueA ?_ ?_ ?_); (· rfl); (· first | rfl | (first | exact decide_eq_true (by omega) | (rw [beq_iff_eq]; omega) | (rw [bne_iff_ne]; omega))))
 | refine S_unG rfl rfl rfl rfl ?_
 | refine S_offG (.v (.bool false)) rfl rfl rfl rfl rfl ?_
 | ((with_reducible refine S_notV ?_ ?_); · rfl)
 | ((with_reducible refine S_falseA ?_ ?_); · first | rfl | (simp only [Bool.and_eq_false_iff, decide_eq_false_iff_not, beq_eq_false_iff_ne, bne_eq_false_iff_eq]; omega))
 | ((with_reducible refine S_trueO ?_ ?_); · first | rfl | (simp only [Bool.or_eq_true, decide_eq_true_eq, beq_iff_eq, bne_iff_ne]; omega))
 | refine S_pure (idxB (j := k) rfl obQ rfl rfl rfl hlt) ?_
 | refine S_nil ?_
 | refine S_runN rfl rfl obQ obQ ?_
 | refine S_call (f := 73) rfl obQ (by kernel_rfl) (fun w hw => rLetK_c h1 w) ?_
 | refine S_call (f := 74) rfl obQ (by kernel_rfl) (fun w hw => rDigK_c h2 w) ?_
         )
 | (refine G_id ?_; first
 | refine G_loop (k + 1) hg (by show s.size - (k + 1) < s.size - k; omega) ⟨⟨_, rfl, obQ⟩, ⟨_, rfl⟩, rfl, pstQ⟩
 | refine G_then ?_
 | refine G_block ?_
 | refine G_blockX ?_
 | refine G_blockN rfl ?_
 | refine G_blockR ?_
 | refine G_thenR ?_
 | refine G_thenX ?_
         )
         )
    · have hn : isName s = true := by
        rw [isName_yes (fun i hi => hk3 i (by omega))]
        have a1 : (s.size == 0) = false := by rw [beq_eq_false_iff_ne]; omega
        have a2 : decide (s.size ≤ 24) = true := decide_eq_true (by omega)
        rw [a1, a2]
        rfl
      rw [hn]
      repeat' (first
 | (refine C_id ?_; first
 | refine C_seq ?_
 | refine C_region rfl ?_
 | refine C_exit ?_
 | refine C_ret0 ?_
 | refine C_condT rfl obQ ?_
 | (refine C_cond rfl obQ (fun h => ?_) (fun h => ?_) <;> (try simp only [Bool.or_eq_true, Bool.and_eq_true, Bool.or_eq_false_iff, Bool.and_eq_false_iff, decide_eq_true_eq, decide_eq_false_iff_not, beq_iff_eq, bne_iff_ne, beq_eq_false_iff_ne, bne_eq_false_iff_eq, ne_eq, Decidable.not_not, List.cons.injEq, and_true, Bool.not_eq_true', Bool.not_eq_false', Int.not_lt, Int.not_le] at h) <;> (try (exfalso; omega)))
       )
 | (refine S_id ?_; first
 | ((with_reducible (first | refine S_falseN ?_ ?_ | refine S_falseB ?_ ?_ | refine S_falseL ?_ ?_ | refine S_falseD ?_ ?_ | refine S_falseE ?_ ?_)); · (first | exact decide_eq_false (by omega) | (rw [beq_eq_false_iff_ne]; omega) | (rw [bne_eq_false_iff_eq]; omega) | rfl))
 | ((with_reducible (first | refine S_trueE ?_ ?_ | refine S_trueB ?_ ?_ | refine S_trueL ?_ ?_ | refine S_trueD ?_ ?_ | refine S_trueN ?_ ?_)); · (first | exact decide_eq_true (by omega) | (rw [beq_iff_eq]; omega) | (rw [bne_iff_ne]; omega)))
 | refine S_unG rfl rfl rfl rfl ?_
 | refine S_offG (.v (.bool false)) rfl rfl rfl rfl rfl ?_
 | ((with_reducible refine S_trueO ?_ ?_); · first | rfl | (simp only [Bool.or_eq_true, decide_eq_true_eq, beq_iff_eq, bne_iff_ne]; omega))
 | refine S_nil ?_
 | refine S_runN rfl rfl obQ obQ ?_
       )
 | (refine G_id ?_; first
 | refine G_then ?_
 | refine G_blockX ?_
 | refine G_thenR ?_
 | refine G_thenX ?_
 | refine G_ret rfl obQ (fun w2 hw => ⟨?_, hw.below⟩)
       )
       )
      all_goals rfl

set_option maxHeartbeats 400000 in
/-- genlockref01.CheckName -/
theorem rCheckName_c (s : ByteArray) (hs : s.size ≤ maxLen) (w : World) : Calls Tryd.prog 38 #[.string s] w fun r w' => r = .returned (.int .i64 (wh (!isName s) 8)) ∧ Below w.heap.size w w' := by
  refine calls_of (args := [.string s]) T_ok Tryd.func38 rfl Tryd.ntmps38 (Nat.le_of_ble_eq_true rfl) rfl ?_
  repeat' (first
 | (refine C_id ?_; first
 | refine C_seq ?_
 | refine C_region rfl ?_
 | refine C_block ?_
 | refine C_skip ?_
 | refine C_exit ?_
 | refine C_ret0 ?_
 | refine C_condT rfl obQ ?_
 | refine C_condF rfl obQ ?_
 | (refine C_cond rfl obQ (fun h => ?_) (fun h => ?_) <;> (try simp only [Bool.or_eq_true, Bool.and_eq_true, Bool.or_eq_false_iff, Bool.and_eq_false_iff, decide_eq_true_eq, decide_eq_false_iff_not, beq_iff_eq, bne_iff_ne, beq_eq_false_iff_ne, bne_eq_false_iff_eq, ne_eq, Decidable.not_not, List.cons.injEq, and_true, Bool.not_eq_true', Bool.not_eq_false', Int.not_lt, Int.not_le] at h))
 )
 | (refine S_id ?_; first
 | refine S_nil ?_
 | refine S_run rfl rfl obQ obQ ?_
 | refine S_call (f := 61) rfl obQ (by kernel_rfl) (fun w hw => rIsName_c s hs w) ?_
 | refine S_call (f := 55) rfl obQ (by kernel_rfl) (fun w hw => rWhen_c _ _ w) ?_
 )
 | (refine G_id ?_; first
 | refine G_then ?_
 | refine G_block ?_
 | refine G_blockX ?_
 | refine G_blockN rfl ?_
 | refine G_blockR ?_
 | refine G_thenR ?_
 | refine G_thenX ?_
 | refine G_ret rfl obQ (fun w hw => ⟨?_, hw.below⟩)
 )
 )
  rfl

theorem smp_drop {p : Pic} {k : Nat} (h : k < p.s.length) : firstL ((p.s.map smpE).drop k) = if smpE (gB p.s k) = 0 then firstL ((p.s.map smpE).drop (k + 1)) else smpE (gB p.s k) := by
  rw [firstL_drop (by simpa using h), List.getElem_map, gB_at h]

set_option maxHeartbeats 1000000 in
/-- genlockref01.CheckPicture -/
theorem rCheckPicture_c (p : Pic) (A : Option Addr) (c : Nat) (hs : p.s.length ≤ 1000000) (hnm : p.nm.size ≤ maxLen) (w : World) (hr : Rd w A (p.s.map (.float .f32))) : Calls Tryd.prog 11 #[.agg #[.string p.nm, .int .i64 p.w, .int .i64 p.h, .slice A p.s.length c]] w fun r w' => r = .returned (.int .i64 (picE p)) ∧ Below w.heap.size w w' := by
  refine calls_of (args := [.agg #[.string p.nm, .int .i64 p.w, .int .i64 p.h, .slice A p.s.length c]]) T_ok Tryd.func11 rfl Tryd.ntmps11 (Nat.le_of_ble_eq_true rfl) rfl ?_
  have hmul : hdE p = 0 → 1 ≤ p.w * p.h ∧ p.w * p.h ≤ 64 * 64 := fun h => by
    obtain ⟨_, h2, h3⟩ := hd_ok h
    have g1 := Int.mul_le_mul h2.2 h3.2 (by omega) (by omega)
    have g2 := Int.mul_pos (show 0 < p.w by omega) (show 0 < p.h by omega)
    omega
  repeat' (first
 | (refine C_id ?_; first
 | refine C_seq ?_
 | refine C_regionNe 6 rfl rfl ?_
 | refine C_block ?_
 | refine C_skip ?_
 | refine C_exit ?_
 | refine C_ret0 ?_
 | refine C_drawT (id := 1) 9 rfl mixed (by kernel_rfl) rfl rfl ?_
 | refine C_condT rfl obQ ?_
 | refine C_condF rfl obQ ?_
 | (refine C_cond rfl obQ (fun h => ?_) (fun h => ?_) <;> (try simp only [Bool.or_eq_true, Bool.and_eq_true, Bool.or_eq_false_iff, Bool.and_eq_false_iff, decide_eq_true_eq, decide_eq_false_iff_not, beq_iff_eq, bne_iff_ne, beq_eq_false_iff_ne, bne_eq_false_iff_eq, ne_eq, Decidable.not_not, List.cons.injEq, and_true, Bool.not_eq_true', Bool.not_eq_false', Int.not_lt, Int.not_le] at h) <;> (try (exfalso; omega)) <;> (try (exfalso; simp at h; done)) <;> (try (exfalso; simp only [not_true_eq_false, false_or, or_false] at h; omega)) <;> (try have hmul := hmul h))
   )
 | (refine S_id ?_; first
 | refine S_nil ?_
 | refine S_run rfl rfl obQ obQ ?_
 | refine S_box (fun b => ⟨_, _, rfl, obQ, ?_⟩)
 | refine S_slice (fun b => ⟨_, _, rfl, obQ, ?_⟩)
 | refine S_call (f := 38) rfl obQ (by kernel_rfl) (fun w hw => rCheckName_c p.nm hnm w) ?_
 | refine S_call (f := 28) rfl obQ (by kernel_rfl) (fun w hw => rRange_c _ _ _ w) ?_
 | refine S_call (f := 16) rfl obQ (by kernel_rfl) (fun w hw => rFirst_c _ _ [wh (!isName p.nm) 8, wi p.w 1 64, wi p.h 1 64] (by simp) w (.inr ⟨_, rfl, hw.src (i := 1) rfl rfl⟩)) ?_
   )
 | (refine D_id ?_; first
 | refine D_nil ?_
 | refine D_tail ?_
 | refine D_run rfl rfl obQ obQ ?_
 | refine D_call (f := 38) rfl obQ (by kernel_rfl) (fun w hw => rCheckName_c p.nm hnm w) ?_
 | refine D_call (f := 28) rfl obQ (by kernel_rfl) (fun w hw => rRange_c _ _ _ w) ?_
 | refine D_call (f := 16) rfl obQ (by kernel_rfl) (fun w hw => rFirst_c _ _ [wh (!isName p.nm) 8, wi p.w 1 64, wi p.h 1 64] (by simp) w (.inr ⟨_, rfl, hw.src (i := 1) rfl rfl⟩)) ?_
   )
 | (refine G_id ?_; first
 | refine G_then ?_
 | refine G_block ?_
 | refine G_blockX ?_
 | refine G_blockN rfl ?_
 | refine G_blockR ?_
 | refine G_thenR ?_
 | refine G_thenX ?_
 | refine G_ret rfl obQ (fun w hw => ⟨?_, hw.below⟩)
   )
   )
  · exact rI (picE_hd h).symm
  · exact rI (picE_n (by assumption) h).symm
  rename_i hz1 b1 hz2
  have hP := picE_s (by assumption) h
  refine C_trim [1] 1 rfl rfl ?_
  repeat' (first
 | (refine C_id ?_; first
 | refine C_region rfl ?_
 | refine C_block ?_
   )
 | (refine S_id ?_; first
 | refine S_nil ?_
 | refine S_run rfl rfl obQ obQ ?_
   )
 | (refine G_id ?_; first
 | refine G_then ?_
   )
   )
  refine C_loopS (fun k : Nat => ⟨[(4, .s (.v (.int .i64 k))), (1, .s (.p b1 0 0))], [⟨b1, 28, [.v (.string p.nm), .v (.int .i64 p.w), .v (.int .i64 p.h), .v (.slice A p.s.length c)]⟩], []⟩) (fun k => k ≤ p.s.length ∧ picE p = firstL ((p.s.map smpE).drop k)) (fun k => p.s.length - k) 0 ⟨Nat.zero_le _, hP⟩ ?_ (fun k hk => ?_)
  · exact ⟨⟨_, rfl, obQ⟩, ⟨_, rfl⟩, rfl, pstQ⟩
  by_cases hlt : k < p.s.length
  · obtain ⟨ad, rfl⟩ := hr.some (by simp; omega)
    have hfd := smp_drop hlt
    repeat' (first
 | (refine C_id ?_; first
 | refine C_seq ?_
 | refine C_region rfl ?_
 | refine C_block ?_
 | refine C_skip ?_
 | refine C_exit ?_
 | refine C_ret0 ?_
 | refine C_drawT (id := 1) 9 rfl mixed (by kernel_rfl) rfl rfl ?_
 | refine C_condT rfl obQ ?_
 | refine C_condF rfl obQ ?_
 | (refine C_cond rfl obQ (fun h => ?_) (fun h => ?_) <;> (try simp only [Bool.or_eq_true, Bool.and_eq_true, Bool.or_eq_false_iff, Bool.and_eq_false_iff, decide_eq_true_eq, decide_eq_false_iff_not, beq_iff_eq, bne_iff_ne, beq_eq_false_iff_ne, bne_eq_false_iff_eq, ne_eq, Decidable.not_not, List.cons.injEq, and_true, Bool.not_eq_true', Bool.not_eq_false', Int.not_lt, Int.not_le] at h) <;> (try (exfalso; omega)))
     )
 | (refine S_id ?_; first
 | refine S_load rfl obQ rfl [.float .f32 (gB p.s k)] (.past _ memQ _ _ hr.toS _ _ rfl rfl (gB_idx hlt)) rfl (.inr ⟨rfl, rfl⟩) ?_
 | refine S_nil ?_
 | refine S_run rfl rfl obQ obQ ?_
 | refine S_box (fun b => ⟨_, _, rfl, obQ, ?_⟩)
 | refine S_slice (fun b => ⟨_, _, rfl, obQ, ?_⟩)
 | refine S_call (f := 39) rfl obQ (by kernel_rfl) (fun w hw => rCheckSample_c _ w) ?_
     )
 | (refine D_id ?_; first
 | refine D_load rfl obQ rfl [.float .f32 (gB p.s k)] (.past _ memQ _ _ hr.toS _ _ rfl rfl (gB_idx hlt)) rfl (.inr ⟨rfl, rfl⟩) ?_
 | refine D_nil ?_
 | refine D_tail ?_
 | refine D_run rfl rfl obQ obQ ?_
 | refine D_call (f := 39) rfl obQ (by kernel_rfl) (fun w hw => rCheckSample_c _ w) ?_
     )
 | (refine G_id ?_; first
 | refine G_loop (k + 1) ?_ (by omega) ⟨⟨_, rfl, obQ⟩, ⟨_, rfl⟩, rfl, pstQ⟩
 | refine G_then ?_
 | refine G_block ?_
 | refine G_blockX ?_
 | refine G_blockN rfl ?_
 | refine G_blockR ?_
 | refine G_thenR ?_
 | refine G_thenX ?_
 | refine G_ret rfl obQ (fun w hw => ⟨?_, hw.below⟩)
     )
     )
    · exact rI (by rw [hk.2, hfd, if_neg h])
    · exact ⟨by omega, by rw [hk.2, hfd, if_pos h]⟩
  · obtain rfl : k = p.s.length := by omega
    repeat' (first
 | (refine C_id ?_; first
 | refine C_seq ?_
 | refine C_region rfl ?_
 | refine C_exit ?_
 | refine C_ret0 ?_
 | (refine C_cond rfl obQ (fun h => ?_) (fun h => ?_) <;> (try simp only [Bool.or_eq_true, Bool.and_eq_true, Bool.or_eq_false_iff, Bool.and_eq_false_iff, decide_eq_true_eq, decide_eq_false_iff_not, beq_iff_eq, bne_iff_ne, beq_eq_false_iff_ne, bne_eq_false_iff_eq, ne_eq, Decidable.not_not, List.cons.injEq, and_true, Bool.not_eq_true', Bool.not_eq_false', Int.not_lt, Int.not_le] at h) <;> (try (exfalso; omega)))
     )
 | (refine S_id ?_; first
 | refine S_nil ?_
 | refine S_run rfl rfl obQ obQ ?_
     )
 | (refine G_id ?_; first
 | refine G_then ?_
 | refine G_blockX ?_
 | refine G_thenX ?_
 | refine G_ret rfl obQ (fun w hw => ⟨?_, hw.below⟩)
     )
     )
    exact rI (by rw [hk.2, List.drop_of_length_le (by simp)]; rfl)

def PicA (w w' : World) (v : Value) (q : Pic) : Prop := ∃ A c, v = .agg #[.string q.nm, .int .i64 q.w, .int .i64 q.h, .slice A q.s.length c] ∧ RdS (fun b => w.heap.size ≤ b ∧ b < w'.heap.size) w' A (q.s.map (.float .f32))
theorem PicA.of {w w' : World} {s : List Nat} {v : Value} {n : Nat} (h : Sl w w' v n (s.map (.float .f32))) (hn : n = s.length) {nm : ByteArray} {a b : Int} {u : Value} (hu : u = .agg #[.string nm, .int .i64 a, .int .i64 b, v]) : PicA w w' u ⟨nm, a, b, s⟩ := by
  obtain ⟨A, c, rfl, hr⟩ := h
  subst hn
  exact ⟨A, c, hu, hr⟩
theorem PicA.zero (w w' : World) : PicA w w' (.agg #[.string ByteArray.empty, .int .i64 0, .int .i64 0, .slice none 0 0]) zP := ⟨none, 0, rfl, .inl rfl⟩
theorem srcS {X : Cx} {Ps : Past} {σ : St} {W : World} {A : Option Addr} {xs : List Value} (h : Rd W A xs) (hp : (W, fun b => b < W.heap.size) ∈ Ps) : ∀ w, HW X.B X.w0 Ps σ w → ∀ ad, A = some ad → ∀ j u, xs[j]? = some u → w.cell? (ad.add j) = some u := by
  intro w hw ad ha j u hu
  rcases hw.rdm (Rd.toS h) hp with h1 | ⟨ad', h1, h2⟩
  · rw [h1] at hu; simp at hu
  · rw [ha] at h1
    cases h1
    exact h2 j u hu
theorem one_fl (l : List Nat) : ∀ u ∈ l.map (Value.float .f32), u.oneCell' = true := by
  intro u hu
  obtain ⟨s, _, rfl⟩ := List.mem_map.1 hu
  rfl
-- rShortPicture

-- lown

-- rSameP

-- lone

-- loneE

end Go.Proofs.YtedlaominconaaaDoor
