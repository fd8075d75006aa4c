/- What the law on slipping sources computes. -/
import Derived.Test.YtmfophoejjcnlaaDoorDolly1
import Derived.Test.YtmfophoejjcnlaaDoorTiming13
namespace Go.Proofs.YtmfophoejjcnlaaDoor
open Go.E Go.RowKit
attribute [local irreducible] G C S D Calls
set_option maxRecDepth 100000
set_option linter.unusedSimpArgs false
set_option linter.unusedVariables false

/-- What a clock has counted after k frames. -/
def cN (n d P : Int) (k : Nat) : Int := (k : Int) * P * n / d
def slN (n d P : Int) (k : Nat) : Int := cN n d P (k + 1) - cN n d P k - P
def stN (n d P : Int) : Nat → Int
  | 0 => 0
  | k + 1 => max (max (stN n d P k) (slN n d P k)) (0 - slN n d P k)
structure Clk (n d P : Int) : Prop where
  n1 : 1 ≤ n ∧ n ≤ 100000
  d1 : 1 ≤ d ∧ d ≤ 100000
  P1 : 4 ≤ P ∧ P ≤ 1200
  ok : clockE n d = 0
theorem kP_bd {n d P : Int} (h : Clk n d P) {k : Nat} (hk : k ≤ 10) : 0 ≤ (k : Int) * P ∧ (k : Int) * P ≤ 12000 := by
  have hP := h.P1
  have h1 : (k : Int) * P ≤ 10 * 1200 := Int.mul_le_mul (by omega) hP.2 (by omega) (by omega)
  exact ⟨Int.mul_nonneg (by omega) (by omega), by omega⟩
theorem cN_bd {n d P : Int} (h : Clk n d P) {k : Nat} (hk : k ≤ 10) : 0 ≤ cN n d P k ∧ cN n d P k ≤ 1200000000 := by
  obtain ⟨h1, h2⟩ := kP_bd h hk
  have hn := h.n1
  have hd := h.d1
  have h3 : 0 ≤ (k : Int) * P * n := Int.mul_nonneg h1 (by omega)
  have h4 : (k : Int) * P * n ≤ 12000 * 100000 := Int.mul_le_mul h2 hn.2 (by omega) (by omega)
  have h5 : (k : Int) * P * n / d ≤ (k : Int) * P * n := Int.ediv_le_self _ h3
  exact ⟨Int.ediv_nonneg h3 (by omega), by unfold cN; omega⟩
theorem cN_zero (n d P : Int) : cN n d P 0 = 0 := by simp [cN]
theorem slN_bd {n d P : Int} (h : Clk n d P) {k : Nat} (hk : k < 10) : -1300000000 ≤ slN n d P k ∧ slN n d P k ≤ 1200000000 := by
  have h1 := cN_bd h (show k ≤ 10 by omega)
  have h2 := cN_bd h (show k + 1 ≤ 10 by omega)
  have hP := h.P1
  unfold slN
  omega
theorem stN_bd {n d P : Int} (h : Clk n d P) : ∀ {k : Nat}, k ≤ 10 → 0 ≤ stN n d P k ∧ stN n d P k ≤ 1300000000
  | 0, _ => by simp [stN]
  | k + 1, hk => by
    have h1 := stN_bd h (k := k) (by omega)
    have h2 := slN_bd h (k := k) (by omega)
    unfold stN
    omega
theorem stN_mono {n d P : Int} (k : Nat) : stN n d P k ≤ stN n d P (k + 1) := by
  show stN n d P k ≤ max (max (stN n d P k) (slN n d P k)) (0 - slN n d P k)
  omega
theorem slN_le {n d P : Int} {k m : Nat} (h : k < m) : slN n d P k ≤ stN n d P m ∧ 0 - slN n d P k ≤ stN n d P m := by
  induction m with
  | zero => omega
  | succ m ih =>
    by_cases hk : k < m
    · have := stN_mono (n := n) (d := d) (P := P) m
      have := ih hk
      omega
    · obtain rfl : k = m := by omega
      show slN n d P k ≤ max (max (stN n d P k) (slN n d P k)) (0 - slN n d P k) ∧ 0 - slN n d P k ≤ max (max (stN n d P k) (slN n d P k)) (0 - slN n d P k)
      omega
/-- The error of a counter. -/
def wrN (n d P : Int) (k : Nat) : Int := (slN n d P k + P) % P
theorem wr_facts {n d P : Int} (h : Clk n d P) {k : Nat} (hk : k < 10) (h4 : 4 * stN n d P 10 < P) : (0 ≤ slN n d P k → wrN n d P k = slN n d P k) ∧ (slN n d P k < 0 → wrN n d P k = P + slN n d P k) := by
  have hs := slN_le (n := n) (d := d) (P := P) hk
  have hP := h.P1
  unfold wrN
  constructor
  · intro h0
    rw [Int.add_emod_right, Int.emod_eq_of_lt h0 (by omega)]
  · intro h0
    rw [Int.emod_eq_of_lt (by omega) (by omega)]
    omega
theorem wr_bd {n d P : Int} (h : Clk n d P) {k : Nat} (hk : k < 10) (h4 : 4 * stN n d P 10 < P) : 0 ≤ wrN n d P k ∧ wrN n d P k ≤ P - 1 := by
  have hs := slN_le (n := n) (d := d) (P := P) hk
  have hP := h.P1
  have := wr_facts h hk h4
  rcases Int.lt_or_le (slN n d P k) 0 with h0 | h0
  · have := this.2 h0; omega
  · have := this.1 h0; omega
theorem lockE_zero {p x s : Int} (hp : 1 ≤ p ∧ p ≤ 10000000) (hx : 0 ≤ x ∧ x ≤ p - 1) (hs : 1 ≤ s ∧ s ≤ 10000000) : lockE p x s = 0 := by
  unfold lockE
  rw [firstL_zero]
  have e : IntKind.i64.wrap (p - 1) = p - 1 := inR_wrap (by simp only [inR]; omega)
  simp only [List.mem_cons, List.mem_nil_iff, or_false, forall_eq_or_imp, forall_eq, wi_eq, e]
  exact ⟨hp, hx, hs⟩
theorem lock_zero {n d P : Int} (h : Clk n d P) {k : Nat} (hk : k < 10) (h4 : 4 * stN n d P 10 < P) (h5 : stN n d P 10 ≠ 0) (hw : wrN n d P k = 0) : lockR P (wrN n d P k) (stN n d P 10) = ([0], 0) := by
  have hP := h.P1
  have hb := stN_bd h (Nat.le_refl 10)
  rw [lockR, if_pos (lockE_zero (by omega) (wr_bd h hk h4) (by omega)), hw, lockF_stop _ _ _ (by omega)]
theorem lock_one {n d P : Int} (h : Clk n d P) {k : Nat} (hk : k < 10) (h4 : 4 * stN n d P 10 < P) (h5 : stN n d P 10 ≠ 0) (hw : wrN n d P k ≠ 0) : lockR P (wrN n d P k) (stN n d P 10) = ([wrN n d P k, 0], 0) := by
  have hP := h.P1
  have hb := stN_bd h (Nat.le_refl 10)
  have hwb := wr_bd h hk h4
  have hf := wr_facts h hk h4
  have hs := slN_le (n := n) (d := d) (P := P) hk
  have hstep : lockStep P (stN n d P 10) (wrN n d P k) = 0 := by
    unfold lockStep
    rcases Int.lt_or_le (slN n d P k) 0 with h0 | h0
    · have := hf.2 h0
      rw [if_neg (by omega), if_pos (by omega)]
    · have := hf.1 h0
      rw [if_pos (by omega)]
      omega
  rw [lockR, if_pos (lockE_zero (by omega) hwb (by omega)), lockF_go _ _ 254 (by omega), hstep, lockF_stop _ _ _ (by omega)]
  rfl
theorem count_zero {n d P : Int} (h : Clk n d P) {t : Int} (ht : 0 ≤ t ∧ t ≤ 10000000) : countE n d t = 0 := by
  unfold countE
  rw [firstL_zero]
  simp only [List.mem_cons, List.mem_nil_iff, or_false, forall_eq_or_imp, forall_eq, wi_eq]
  exact ⟨h.ok, ht⟩
theorem cnt_c {n d P : Int} (h : Clk n d P) {k : Nat} (hk : k ≤ 10) {t : Int} (ht : t = (k : Int) * P) (w : World) : Calls Tryd.prog 7 #[.agg #[.int .i64 n, .int .i64 d], .int .i64 t] w fun r w' => r = .returned (.tuple #[.int .i64 (cN n d P k), .int .i64 0]) ∧ Below w.heap.size w w' := by
  subst ht
  have hb := kP_bd h hk
  have := Counted_c n d ((k : Int) * P) w
  rw [show countR n d ((k : Int) * P) = (cN n d P k, 0) by rw [countR, if_neg (by simp [count_zero h (t := (k : Int) * P) (by omega)])]; rfl] at this
  exact this
theorem vert_eq {f : Fmt} (hf : checkF f = 0) {n d : Int} (h : Clk n d (f.S * f.L)) {k : Nat} (hk : k < 10) : vertR f ((k : Int) * (f.S * f.L)) = (((k : Int) * (f.S * f.L), (k : Int) * (f.S * f.L) + f.V * f.S), 0) := by
  have hb := kP_bd h (show k ≤ 10 by omega)
  have hP := h.P1
  have hv := (valid_iff f).1 hf
  have hc : checkT f ((k : Int) * (f.S * f.L)) = 0 := (checkT_iff f _).2 ⟨hv, by omega⟩
  have h0 : vb0 f ((k : Int) * (f.S * f.L)) = (k : Int) * (f.S * f.L) := by
    unfold vb0
    rw [Int.mul_ediv_cancel _ (by omega)]
  have h1 : vertT f ((k : Int) * (f.S * f.L)) = (k : Int) * (f.S * f.L) := by
    unfold vertT
    rw [h0, if_pos (Int.le_refl _)]
  have h2 : f.V * f.S ≤ 2000 * 2000 := by
    have a1 := hv.V
    have a2 := hv.S
    have a3 := hv.L
    have a4 := hv.F
    have a5 : f.L / f.F ≤ f.L := Int.ediv_le_self _ (by omega)
    exact Int.mul_le_mul (by omega) (by omega) (by omega) (by omega)
  rw [vertR, if_neg (by simp [hc]), h1, if_neg (by omega)]
theorem vert_c {f : Fmt} (hf : checkF f = 0) {n d P : Int} (hP : f.S * f.L = P) (h : Clk n d P) {k : Nat} (hk : k < 10) (w : World) (hE : Ex w) : Calls Tryd.prog 8 #[.agg #[.int .i64 f.S, .int .i64 f.L, .int .i64 f.F, .int .i64 f.B, .int .i64 f.Y, .int .i64 f.V, .int .i64 f.C], .int .i64 ((k : Int) * P)] w fun r w' => r = .returned (.tuple #[.agg #[.int .i64 ((k : Int) * P), .int .i64 ((k : Int) * P + f.V * f.S)], .int .i64 0]) ∧ Below w.heap.size w w' := by
  subst hP
  have hb := kP_bd h (show k ≤ 10 by omega)
  have := Vertical_c f ((k : Int) * (f.S * f.L)) (by omega) w hE
  rw [vert_eq hf h hk] at this
  exact this
theorem lk_c {n d P : Int} (h : Clk n d P) {k : Nat} (hk : k < 10) (h4 : 4 * stN n d P 10 < P) (h5 : stN n d P 10 ≠ 0) {L : List Int} (hL : lockR P (wrN n d P k) (stN n d P 10) = (L, 0)) {m : Nat} (hm : L.length = m) {xs : List Value} (hxs : L.map (.int .i64) = xs) (w : World) :
    Calls Tryd.prog 9 #[.int .i64 P, .int .i64 (wrN n d P k), .int .i64 (stN n d P 10)] w fun r w' => ∃ v, r = .returned v ∧ Below w.heap.size w w' ∧ Sl2 w w' v m xs (.int .i64 0) := by
  have := Lock_c P (wrN n d P k) (stN n d P 10) w
  rw [hL] at this
  subst hm
  subst hxs
  exact this
/-- The sum of the slips. -/
def smN (n d P : Int) (k : Nat) : Int := cN n d P k - (k : Int) * P
theorem smN_zero (n d P : Int) : smN n d P 0 = 0 := by simp [smN, cN_zero]
theorem smN_succ (n d P : Int) (k : Nat) : smN n d P k + slN n d P k = smN n d P (k + 1) := by
  have : ((k + 1 : Nat) : Int) * P = (k : Int) * P + P := by push_cast; rw [Int.add_mul, Int.one_mul]
  unfold smN slN
  omega
theorem smN_bd {n d P : Int} (h : Clk n d P) {k : Nat} (hk : k ≤ 10) : -12000 ≤ smN n d P k ∧ smN n d P k ≤ 1200000000 := by
  have h1 := cN_bd h hk
  have h2 := kP_bd h hk
  unfold smN
  omega
theorem slip_law {n d P : Int} (h : Clk n d P) {t : Int} (ht : t = max (smN n d P 10) (0 - smN n d P 10)) (h0 : t ≠ 0) (h1 : t ≤ 1000) : slipR n d t = (slipN n d t, 0) ∧ 1 ≤ slipN n d t ∧ slipN n d t ≤ 10 * P := by
  have hP := h.P1
  have hd := h.d1
  have ht1 : 1 ≤ t := by omega
  have h2 := (slip_iff (n := n) (d := d) (t := t) (x := 10 * P) hd.1 ht1 (by omega)).1 (by
    have e : smN n d P 10 = 10 * P * n / d - 10 * P := rfl
    rw [ht, e]
    exact Int.le_refl _)
  have h3 : ¬ slipN n d t ≤ 0 := fun h => by
    have := (slip_iff (n := n) (d := d) (t := t) (x := 0) hd.1 ht1 (by omega)).2 h
    simp at this
    omega
  have hE : slipE n d t = 0 := by
    unfold slipE
    rw [firstL_zero]
    simp only [List.mem_cons, List.mem_nil_iff, or_false, forall_eq_or_imp, forall_eq, wi_eq]
    exact ⟨h.ok, ht1, h1⟩
  exact ⟨slipR_ok hE rfl (by omega), by omega, h2⟩
theorem slp_c {n d P : Int} (h : Clk n d P) {t : Int} (ht : t = max (smN n d P 10) (0 - smN n d P 10)) (h0 : t ≠ 0) (h1 : t ≤ 1000) (w : World) : Calls Tryd.prog 10 #[.agg #[.int .i64 n, .int .i64 d], .int .i64 t] w fun r w' => r = .returned (.tuple #[.int .i64 (slipN n d t), .int .i64 0]) ∧ Below w.heap.size w w' := by
  have := Slip_c n d t w
  rw [(slip_law h ht h0 h1).1] at this
  exact this

end Go.Proofs.YtmfophoejjcnlaaDoor
